/- An asset's name: value.of. -/
import Derived.Test.YtckcamlicgdklaaTpE
namespace Go.Proofs.Ytckcamlicgdklaa
open Go.RowKit Go.Mo

def asCells (a : Nm) (z : Int) : List Value := nmCells a ++ [.int .i64 z]

theorem size27 : (Try.prog.info? 27).map (·.size) = some 32 := by kernel_rfl

theorem exec_build93 (act : Act) (o : Oper) {w : World} {x y : Operand} (ho : o.op = .build 93 #[(0, x), (1, y)]) (a : Nm) (hx : act.eval x = .agg (a.policy.map by8).toArray) (hy : act.eval y = .string ⟨a.name.toArray⟩) : (execOp act.eval o).run Try.prog w = .ok (.value (nmV a)) w := by
  have hb := run_build (P := Try.prog) w 93 #[(0, .agg (a.policy.map by8).toArray), (1, .string ⟨a.name.toArray⟩)] _ (built93 a)
  unfold execOp
  simp only [ho, List.map_toArray, List.map_cons, List.map_nil, hx, hy, Sem.run_bind, Sem.run_pure, hb, Result.andThen_ok]
  rfl
theorem exec_store (act : Act) (o : Oper) {w w' : World} {T : TypeId} {x y : Operand} (ho : o.op = .store T x y) {g : Nat} (hx : act.eval x = .pointer (some ⟨g, 0, none⟩)) {v : Value} (hy : act.eval y = v) (h : (storeVar T ⟨g, 0, none⟩ v).run Try.prog w = .ok () w') : (execOp act.eval o).run Try.prog w = .ok .skip w' := by
  unfold execOp
  simp only [ho, hx, hy, Instr.storeAt, Instr.sureAddr, Sem.run_bind, Sem.run_pure, h, Result.andThen_ok]

theorem res28 {tmps : Array Value} {b : Nat} {W : World} {v : Value} (ht : tmps[2]?.getD undef = .pointer (some ⟨b, 0, none⟩)) (hl : (loadVar 93 ⟨b, 0, none⟩).run Try.prog W = .ok v W) : (results Try.f28 tmps).run Try.prog W = .ok v W := by
  simp [results, Try.results28, ht, hl, asAddr]
theorem setRow_same {w : World} {g : Nat} {old cs : Array Value} {T : TypeId} (h : w.heap[g]? = some (.cells old T (0, 0))) : (w.setRow g cs).heap[g]? = some (.cells cs T (0, 0)) := by
  simp [World.setRow, Array.getElem?_modify, h]
theorem Mod_setRow {S : Nat → Prop} {a w : World} (h : Mod S a w) {b : Nat} (hb : b < a.heap.size → S b) (cs : Array Value) : Mod S a (w.setRow b cs) :=
  h.trans (S' := fun k => k = b) ⟨rfl, rfl, rfl, by simp [World.setRow], fun k _ hn => by simp only [World.setRow, Array.getElem?_modify]; rw [if_neg (fun e => hn e.symm)]⟩ (fun _ q l => by subst q; exact hb l)

set_option maxRecDepth 100000 in
set_option maxHeartbeats 2000000 in
theorem of_calls (a : Nm) (z : Int) (w : World) : Calls Try.prog 28 #[.agg (asCells a z).toArray] w fun e w' => e = .returned (nmV a) ∧ Mod (fun _ => False) w w' := by
  obtain ⟨w0, hw0⟩ : ∃ w0, (w.alloc (.cells (asCells a z).toArray 97)).alloc (.cells zero93 93) = w0 := ⟨_, rfl⟩
  have hm0 : Mod (fun _ => False) w w0 := by rw [← hw0]; exact ((Mod.refl _ w).alloc _).alloc _
  have hA : w0.heap[w.heap.size]? = some (.cells (asCells a z).toArray 97 (0, 0)) := by rw [← hw0]; exact allocB (newB w _) _
  have hZ : w0.heap[w.heap.size + 1]? = some (.cells zero93 93 (0, 0)) := by
    rw [← hw0]; have := newB (w.alloc (.cells (asCells a z).toArray 97)) (.cells zero93 93); rwa [World.size_alloc] at this
  have hl27 : (loadVar 27 ⟨w.heap.size, 0, none⟩).run Try.prog w0 = .ok (.agg (a.policy.map by8).toArray) w0 :=
    run_loadVar_mid w0 w.heap.size 0 27 (a.policy.map by8) _ (fun j v hv => by
      rw [Nat.zero_add, cellB hA]
      have hj : j < (a.policy.map by8).length := (List.getElem?_eq_some_iff.1 hv).1
      simp only [asCells, nmCells, List.getElem?_toArray, List.append_assoc]
      rw [List.getElem?_append_left hj]; exact hv) Try.underlying27 rfl (by rw [size27]; simp [a.len])
  have hs32 : w0.cell? ⟨w.heap.size, 32, none⟩ = some (.string ⟨a.name.toArray⟩) := by
    rw [cellB hA]
    have := a.len
    simp [asCells, nmCells, this]
  have H := Lib.hid (And.intro hm0 (And.intro hA hZ))
  have HL := Lib.hid hl27
  rw [show zero93 = #[.int .u8 0, .int .u8 0, .int .u8 0, .int .u8 0, .int .u8 0, .int .u8 0, .int .u8 0, .int .u8 0, .int .u8 0, .int .u8 0, .int .u8 0, .int .u8 0, .int .u8 0, .int .u8 0, .int .u8 0, .int .u8 0, .int .u8 0, .int .u8 0, .int .u8 0, .int .u8 0, .int .u8 0, .int .u8 0, .int .u8 0, .int .u8 0, .int .u8 0, .int .u8 0, .int .u8 0, .int .u8 0, .int .u8 0, .int .u8 0, .int .u8 0, .int .u8 0, .string ⟨#[]⟩] from rfl] at hw0
  have hst : (storeVar 93 ⟨w.heap.size + 1, 0, none⟩ (.agg (nmCells a).toArray)).run Try.prog w0 = .ok () (w0.setRow (w.heap.size + 1) (nmCells a).toArray) :=
    run_storeVar_row (P := Try.prog) w0 (w.heap.size + 1) 93 93 zero93 (nmCells a).toArray hZ (nm_size a) (by simp [zero93, nmCells, a.len]) (by simp [nmCells, by8, Value.oneCell'])
  have HST := Lib.hid hst
  clear hm0 hA hZ hl27 hst
  go_enter Try.func28, Try.ntmps28
  go_wp2_with (first
    | (refine wpList_exec rfl (exec_load_row _ _ 27 _ rfl w.heap.size rfl _ HL.out) ?_)
    | (refine wpList_exec rfl (exec_build93 _ _ rfl a rfl rfl) ?_)
    | (refine wpList_execS rfl (exec_store _ _ rfl rfl rfl HST.out) ?_))
  exact bodyPost_ret (v := nmV a) (res28 rfl (load93 (setRow_same H.out.2.2))) rfl ⟨rfl, Mod_setRow H.out.1 (fun q => by omega) _⟩
end Go.Proofs.Ytckcamlicgdklaa
