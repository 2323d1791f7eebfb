/- awake, the closed example. PRINTED BY A PROGRAM OF MY OWN. -/
import Derived.Test.YtckcamlicgdklaaAwC
namespace Go.Proofs.Ytckcamlicgdklaa
open Go.RowKit Go.Mo Go.Sort

def outE (c : Int) : Ent where
  pre := zpre
  addr := ⟨false, List.replicate 32 0, rfl⟩
  val := ⟨c, []⟩
  post := .int .i64 0 :: (List.replicate 32 (.int .u8 0) ++ [.slice none 0 0])
  hpre := rfl
  hpost := rfl
  ones := by
    intro u hu
    simp only [zpre, List.mem_append, List.mem_cons, List.mem_replicate, List.not_mem_nil, or_false] at hu
    rcases hu with (⟨_, rfl⟩ | rfl) | rfl | ⟨_, rfl⟩ | rfl <;> rfl
def set36 (z : Array Value) (b : Nat) : Array Value := ((z.setIfInBounds 44 (.slice (some ⟨b, 0, none⟩) 2 2)).setIfInBounds 177 (.int .i64 2)).setIfInBounds 178 (.int .i64 1)
theorem st36' : ∃ z : Array Value, (∀ w, (zeroValue 36).run Try.prog w = .ok (.agg z) w) ∧ z.size = 182 ∧ z[179]? = some (.slice none 0 0) ∧ ∀ b, Try.prog.built 36 [(2, .slice (some ⟨b, 0, none⟩) 2 2), (7, .int .i64 2), (8, .int .i64 1)] = some (set36 z b) ∧ (set36 z b).all (·.oneCell') = true :=
  ⟨_, Try.zeroValue36, by kernel_rfl, by kernel_rfl, fun b => ⟨by kernel_rfl, by kernel_rfl⟩⟩
theorem st36 : ∃ z : Array Value, (∀ w, (zeroValue 36).run Try.prog w = .ok (.agg z) w) ∧ z.size = 182 ∧ ∀ b, ∃ cs : List Value, Try.prog.built 36 [(2, .slice (some ⟨b, 0, none⟩) 2 2), (7, .int .i64 2), (8, .int .i64 1)] = some cs.toArray ∧
    StC cs (.slice (some ⟨b, 0, none⟩) 2 2) 2 1 ∧ cs[179]? = some (.slice none 0 0) ∧ cs.toArray.all (·.oneCell') = true := by
  obtain ⟨z, h1, h2, h3, h4⟩ := st36'
  refine ⟨z, h1, h2, fun b => ⟨(set36 z b).toList, by rw [Array.toArray_toList]; exact (h4 b).1, ⟨?_, ?_, ?_, ?_⟩, ?_, by rw [Array.toArray_toList]; exact (h4 b).2⟩⟩
  · simp [set36, h2]
  · simp [set36, h2]
  · simp [set36, h2]
  · simp [set36, h2]
  · rw [Array.getElem?_toList]
    simp [set36, h3]
theorem ge72 : ∃ z : Array Value, (∀ w, (zeroValue 72).run Try.prog w = .ok (.agg z) w) ∧ z.size = 14 ∧ ∀ b, ∃ gs : List Value, Try.prog.built 72 [(2, .slice (some ⟨b, 0, none⟩) 1 1)] = some gs.toArray ∧ gs.length = 14 ∧ gs[13]? = some (.slice (some ⟨b, 0, none⟩) 1 1) ∧ gs.toArray.all (·.oneCell') = true := by
  have h : ∃ z : Array Value, (∀ w, (zeroValue 72).run Try.prog w = .ok (.agg z) w) ∧ z.size = 14 ∧ ∀ b, Try.prog.built 72 [(2, .slice (some ⟨b, 0, none⟩) 1 1)] = some (z.setIfInBounds 13 (.slice (some ⟨b, 0, none⟩) 1 1)) ∧ (z.setIfInBounds 13 (.slice (some ⟨b, 0, none⟩) 1 1)).all (·.oneCell') = true :=
    ⟨_, Try.zeroValue72, by kernel_rfl, fun b => ⟨by kernel_rfl, by kernel_rfl⟩⟩
  obtain ⟨z, h1, h2, h4⟩ := h
  refine ⟨z, h1, h2, fun b => ⟨(z.setIfInBounds 13 (.slice (some ⟨b, 0, none⟩) 1 1)).toList, by rw [Array.toArray_toList]; exact (h4 b).1, ?_, ?_, by rw [Array.toArray_toList]; exact (h4 b).2⟩⟩
  · simp [h2]
  · simp [h2]
theorem ss72 : (Try.prog.info? 72).map (·.size) = some 14 := by kernel_rfl
theorem none_perm {d : List (Nm × Int)} (h : d.Perm ((bookA [] []).filter (nzW ·.2))) : d = [] := by
  have : (bookA [] []).filter (nzW ·.2) = [] := rfl
  rw [this] at h
  exact h.eq_nil
theorem exec_slice28 (act : Act) (o : Oper) {w : World} {a b : Operand} (ho : o.op = .buildSlice 28 2 #[(0, a), (1, b)]) (x y : Ent × Option Addr × Nat) (ha : act.eval a = .agg (entCells x.1 x.2.1 x.2.2).toArray) (hb : act.eval b = .agg (entCells y.1 y.2.1 y.2.2).toArray) :
    (execOp act.eval o).run Try.prog w = .ok (.value (.slice (some ⟨w.heap.size, 0, none⟩) 2 2)) (w.alloc (.cells (entsCells [x, y]).toArray 51)) := by
  obtain ⟨i51, hi, hz0, hz1, hz2⟩ := info_parts info51
  have := exec_slicesL act o (w := w) [(0, a), (1, b)] ho [.agg (entCells x.1 x.2.1 x.2.2).toArray, .agg (entCells y.1 y.2.1 y.2.2).toArray] (by simp [ha, hb]) (E := 51) (s := 102) Try.underlying28 hi hz0 hz1 (by omega) rfl (by omega) (by omega) (by
    intro v hv
    simp only [List.mem_cons, List.not_mem_nil, or_false] at hv
    rcases hv with rfl | rfl <;> simp [Value.cells, entCells_length])
  simpa [Value.cells, entsCells] using this
theorem info49 : ∃ z : Array Value, (∀ w, (zeroValue 49).run Try.prog w = .ok (.agg z) w) ∧ (Try.prog.info? 49).map (fun i => (i.zero, i.size, i.bytes)) = some (some (.agg z), 69, 136) := ⟨_, Try.zeroValue49, by kernel_rfl⟩
theorem exec_slice70 (act : Act) (o : Oper) {w : World} {a : Operand} (ho : o.op = .buildSlice 70 1 #[(0, a)]) (x : Ent) (ha : act.eval a = .agg (outCells x none 0).toArray) :
    (execOp act.eval o).run Try.prog w = .ok (.value (.slice (some ⟨w.heap.size, 0, none⟩) 1 1)) (w.alloc (.cells (outCells x none 0).toArray 49)) := by
  obtain ⟨z, _, hinf⟩ := info49
  obtain ⟨i, hi, hz0, hz1, hz2⟩ := info_parts hinf
  have := exec_slicesL act o (w := w) [(0, a)] ho [.agg (outCells x none 0).toArray] (by simp [ha]) (E := 49) (s := 69) Try.underlying70 hi hz0 hz1 (by omega) rfl (by omega) (by omega) (by
    intro v hv
    simp only [List.mem_cons, List.not_mem_nil, or_false] at hv
    subst hv; simp [Value.cells, outCells_length])
  simpa [Value.cells] using this
theorem nil_assets (w : World) : AssetsAt w (.slice none 0 0) [] := ⟨none, 0, rfl, by simp, fun i x hx => by simp at hx⟩
theorem two_ents {w : World} {b : Nat} (x y : Ent) (hx : x.val.assets = []) (hy : y.val.assets = []) (hx6 : In64 x.val.coin) (hy6 : In64 y.val.coin) (h : w.heap[b]? = some (.cells (entsCells [(x, none, 0), (y, none, 0)]).toArray 51 (0, 0))) : EntsAt w (.slice (some ⟨b, 0, none⟩) 2 2) [x, y] := by
  refine ⟨_, _, rfl, by simp, fun i z hz => ?_⟩
  have hi : i < 2 := by have := (List.getElem?_eq_some_iff.1 hz).1; simpa using this
  have : i = 0 ∨ i = 1 := by omega
  have key : ∀ u, [(x, (none : Option Addr), 0), (y, none, 0)][i]? = some u → ∀ j v, (entCells u.1 u.2.1 u.2.2)[j]? = some v → w.cell? ⟨b, 0 + i * 102 + j, none⟩ = some v := fun u hu j v hv => by
    rw [Nat.zero_add, cellB h, List.getElem?_toArray]
    exact entsCells_get hu j v hv
  rcases this with rfl | rfl
  · simp at hz; subst hz
    exact ⟨hx6, b, 0, none, 0, rfl, ltB h, by rw [hx]; exact nil_assets w, fun j u hu => key _ rfl j u hu⟩
  · simp at hz; subst hz
    exact ⟨hy6, b, 0, none, 0, rfl, ltB h, by rw [hy]; exact nil_assets w, fun j u hu => key _ rfl j u hu⟩
theorem one_out {w : World} {b : Nat} (x : Ent) (hx : x.val.assets = []) (hx6 : In64 x.val.coin) (h : w.heap[b]? = some (.cells (outCells x none 0).toArray 49 (0, 0))) : OutsAt w (.slice (some ⟨b, 0, none⟩) 1 1) [x] := by
  refine ⟨_, _, rfl, fun i z hz => ?_⟩
  have hi : i < 1 := by have := (List.getElem?_eq_some_iff.1 hz).1; simpa using this
  have e : i = 0 := by omega
  subst e
  simp at hz; subst hz
  exact ⟨hx6, b, 0, none, 0, rfl, ltB h, by rw [hx]; exact nil_assets w, fun j u hu => by simp only [Nat.zero_mul, Nat.zero_add]; rw [cellB h, List.getElem?_toArray]; exact hu⟩
end Go.Proofs.Ytckcamlicgdklaa
