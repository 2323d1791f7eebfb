/- Totals as rows: built of their parts. -/
import Derived.Test.YtckcamlicgdklaaTpH
import Derived.Laws.StructEq
namespace Go.Proofs.Ytckcamlicgdklaa
open Go.RowKit Go.Mo Go.Sort

def zero88 : Array Value := (List.replicate 32 (Value.int .u8 0) ++ [Value.string ⟨#[]⟩, .int .i64 0, .int .u64 0]).toArray
theorem built_eq88 (parts : List (Nat × Value)) : Try.prog.built 88 parts = Instr.fill (#[(0, 32), (32, 1), (33, 2)][·]?) zero88 parts := by kernel_rfl

theorem built88 (x : Nm × Int) : Try.prog.built 88 [(0, .agg (x.1.policy.map by8).toArray), (1, .string ⟨x.1.name.toArray⟩), (2, wideV x.2)] = some (totCells x).toArray := by
  obtain ⟨a, z⟩ := x
  have hl := a.len
  have hz : zero88.size = 35 := by simp [zero88]
  rw [built_eq88]
  have e0 : (#[(0, 32), (32, 1), (33, 2)] : Array (Nat × Nat))[0]? = some (0, 32) := rfl
  have e1 : (#[(0, 32), (32, 1), (33, 2)] : Array (Nat × Nat))[1]? = some (32, 1) := rfl
  have e2 : (#[(0, 32), (32, 1), (33, 2)] : Array (Nat × Nat))[2]? = some (33, 2) := rfl
  have hc0 : (Value.agg (a.policy.map by8).toArray).cells = (a.policy.map by8).toArray := rfl
  have hc1 : (Value.string ⟨a.name.toArray⟩).cells = #[.string ⟨a.name.toArray⟩] := rfl
  have hc2 : (wideV z).cells = #[.int .i64 (hiW z), .int .u64 (loW z)] := rfl
  simp only [Instr.fill, e0, e1, e2, hc0, hc1, hc2]
  have hs0 : (a.policy.map by8).toArray.size = 32 := by simp [hl]
  rw [if_neg (by simp [hl, hz])]
  have hf : ((a.policy.map by8).toArray.zipIdx.foldl (fun cs x => cs.setIfInBounds (0 + x.2) x.1) zero88) = ((a.policy.map by8).zipIdx 0).foldl (fun cs p => cs.setIfInBounds (0 + p.2) p.1) zero88 := by
    simp [Array.foldl]
  rw [hf]
  have hget := foldl_set 0 (a.policy.map by8) 0 zero88
  have hsz : (((a.policy.map by8).zipIdx 0).foldl (fun cs p => cs.setIfInBounds (0 + p.2) p.1) zero88).size = 35 := by
    rw [← hz]
    generalize (a.policy.map by8).zipIdx 0 = l
    generalize zero88 = z
    induction l generalizing z with
    | nil => rfl
    | cons x l ih => rw [List.foldl_cons, ih]; simp
  rw [if_neg (by rw [hsz]; simp)]
  generalize hM : ((a.policy.map by8).zipIdx 0).foldl (fun cs p => cs.setIfInBounds (0 + p.2) p.1) zero88 = M at hget hsz ⊢
  have hl2 : (Array.foldl (fun cs (x : Value × Nat) => cs.setIfInBounds (32 + x.2) x.1) M #[Value.string ⟨a.name.toArray⟩].zipIdx) = M.setIfInBounds 32 (.string ⟨a.name.toArray⟩) := rfl
  rw [hl2]
  rw [if_neg (by simp [hsz])]
  have hl3 : ∀ M : Array Value, (Array.foldl (fun cs (x : Value × Nat) => cs.setIfInBounds (33 + x.2) x.1) M #[Value.int .i64 (hiW z), .int .u64 (loW z)].zipIdx) = (M.setIfInBounds 33 (.int .i64 (hiW z))).setIfInBounds 34 (.int .u64 (loW z)) := fun _ => rfl
  rw [hl3]
  congr 1
  apply Array.ext_getElem?
  intro i
  rw [Array.getElem?_setIfInBounds, Array.getElem?_setIfInBounds, Array.getElem?_setIfInBounds]
  simp only [Array.size_setIfInBounds, hsz]
  have hg := hget i (by simp [hl, hz])
  simp only [Nat.zero_add, Nat.zero_le, true_and, List.length_map, hl, Nat.add_zero, Nat.sub_zero] at hg
  by_cases h34 : 34 = i
  · subst h34
    simp [totCells, nmCells, hl]
  by_cases h33 : 33 = i
  · subst h33
    simp [totCells, nmCells, hl]
  by_cases h1 : 32 = i
  · subst h1
    simp [totCells, nmCells, hl]
  · rw [if_neg h34, if_neg h33, if_neg h1, hg]
    by_cases h2 : i < 32
    · rw [if_pos h2]
      simp only [totCells, nmCells, List.getElem?_toArray, List.append_assoc]
      rw [List.getElem?_append_left (by simp [hl, h2])]
    · rw [if_neg h2]
      rw [Array.getElem?_eq_none (by omega)]
      simp only [totCells, nmCells, List.getElem?_toArray]
      rw [List.getElem?_eq_none (by simp [hl]; omega)]

theorem exec_build88 (act : Act) (o : Oper) {w : World} {a b c : Operand} (ho : o.op = .build 88 #[(0, a), (1, b), (2, c)]) (x : Nm × Int) (hx : act.eval a = .agg (x.1.policy.map by8).toArray) (hy : act.eval b = .string ⟨x.1.name.toArray⟩) (hz : act.eval c = .agg #[.int .i64 (hiW x.2), .int .u64 (loW x.2)]) : (execOp act.eval o).run Try.prog w = .ok (.value (.agg (totCells x).toArray)) w := by
  have hb := run_build (P := Try.prog) w 88 #[(0, .agg (x.1.policy.map by8).toArray), (1, .string ⟨x.1.name.toArray⟩), (2, wideV x.2)] _ (built88 x)
  unfold wideV at hb
  unfold execOp
  simp only [ho, List.map_toArray, List.map_cons, List.map_nil, hx, hy, hz, Sem.run_bind, Sem.run_pure, hb, Result.andThen_ok]

/-- Is a wide number none? -/
def nzW (z : Int) : Bool := !(hiW z == 0 && loW z == 0)
theorem exec_neq57 (act : Act) (o : Oper) {w : World} {x y : Operand} {R : TypeId} (ho : o.op = .binOp .neq 57 x y R) (z : Int) (hx : act.eval x = .agg #[.int .i64 (hiW z), .int .u64 (loW z)]) (hy : act.eval y = .agg #[.int .i64 0, .int .u64 0]) : (execOp act.eval o).run Try.prog w = .ok (.value (.bool (nzW z))) w := by
  unfold execOp
  simp only [ho, hx, hy, Sem.run_bind, Sem.run_pure]
  go_simp
  unfold nzW
  by_cases h1 : hiW z = 0 <;> by_cases h2 : loW z = 0 <;> simp [h1, h2]
end Go.Proofs.Ytckcamlicgdklaa
