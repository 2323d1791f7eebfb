/- book.totals whole; steps of lists for Sums. -/
import Derived.Test.YtckcamlicgdklaaTpL
namespace Go.Proofs.Ytckcamlicgdklaa
open Go.RowKit Go.Mo Go.Sort

theorem totals_ok (w : World) (b : Nat) (l : List (Nm × Int)) (h : w.heap[b]? = some (nmap (wv l))) (hn : l.length ≤ 1000000) : Calls Try.prog 27 #[.map (some b)] w fun e w' => TotsPost w l e w' :=
  totals_calls w b l h hn (fun v d wr ho hd hm => sort_calls w v d wr ho hd hm)

theorem exec_alloc (act : Act) (o : Oper) {w : World} (T : TypeId) (z : Array Value) (ho : o.op = .alloc T) (hz : ∀ w, (zeroValue T).run Try.prog w = .ok (.agg z) w) : (execOp act.eval o).run Try.prog w = .ok (.value (.pointer (some ⟨w.heap.size, 0, none⟩))) (w.alloc (.cells z T)) := by
  unfold execOp
  simp only [ho, Instr.alloc, Sem.run_bind, hz, Result.andThen_ok]
  simp [newVar, newRow, newObj, Sem.run, Value.cells]
def zero97 : Array Value := (List.replicate 32 (Value.int .u8 0) ++ [Value.string ⟨#[]⟩, .int .i64 0]).toArray
theorem zv97 (w : World) : (zeroValue 97).run Try.prog w = .ok (.agg zero97) w := by kernel_rfl
theorem size97 : (Try.prog.info? 97).map (·.size) = some 34 := by kernel_rfl
theorem asCells_length (a : Nm) (z : Int) : (asCells a z).length = 34 := by simp [asCells, nmCells, a.len]
theorem asCells_one (a : Nm) (z : Int) : (asCells a z).toArray.all (·.oneCell') = true := by simp [asCells, nmCells, by8, Value.oneCell']
end Go.Proofs.Ytckcamlicgdklaa
