/- Small laws for the walk of TotalsParts. -/
import Derived.Test.YtckcamlicgdklaaLwR
import Derived.Test.YtckcamlicgdklaaAwE
namespace Go.Proofs.Ytckcamlicgdklaa
open Go.RowKit Go.Mo Go.Sort

theorem zv57 (w : World) : (zeroValue 57).run Try.prog w = .ok (.agg #[.int .i64 0, .int .u64 0]) w := by kernel_rfl
theorem zv40 : ∃ z : Array Value, (∀ w, (zeroValue 40).run Try.prog w = .ok (.agg z) w) ∧ z.size = 33 := ⟨_, Try.zeroValue40, by kernel_rfl⟩
theorem WideAt.tr {w w' : World} {v : Value} {zs : List Int} (h : WideAt w v zs) (hm : Mod (fun _ => False) w w') : WideAt w' v zs := by
  obtain ⟨a, c, rfl, h⟩ := h
  refine ⟨a, c, rfl, fun i z hz => ?_⟩
  obtain ⟨L, off, rfl, hL, h1, h2⟩ := h i z hz
  exact ⟨L, off, rfl, Nat.lt_of_lt_of_le hL hm.size, (hm.cell (p := ⟨L, _, none⟩) hL (fun q => q)).trans h1, (hm.cell (p := ⟨L, _, none⟩) hL (fun q => q)).trans h2⟩
theorem wides_two (w : World) (a b : Int) : WideAt (w.alloc (.cells #[.int .i64 (hiW a), .int .u64 (loW a), .int .i64 (hiW b), .int .u64 (loW b)] 57)) (.slice (some ⟨w.heap.size, 0, none⟩) 2 2) [a, b] := by
  have hB := newB w (.cells #[.int .i64 (hiW a), .int .u64 (loW a), .int .i64 (hiW b), .int .u64 (loW b)] 57)
  refine ⟨some ⟨w.heap.size, 0, none⟩, 2, rfl, fun i y hy => ?_⟩
  have hi : i < 2 := by have := (List.getElem?_eq_some_iff.1 hy).1; simpa using this
  have : i = 0 ∨ i = 1 := by omega
  rcases this with rfl | rfl
  · simp at hy; subst hy
    exact ⟨_, 0, rfl, ltB hB, by rw [cellB hB]; rfl, by rw [cellB hB]; rfl⟩
  · simp at hy; subst hy
    exact ⟨_, 0, rfl, ltB hB, by rw [cellB hB]; rfl, by rw [cellB hB]; rfl⟩
theorem info57 : (Try.prog.info? 57).map (fun i => (i.zero, i.size, i.bytes)) = some (some (.agg #[.int .i64 0, .int .u64 0]), 2, 16) := by kernel_rfl
theorem exec_wides2 (act : Act) (o : Oper) {w : World} {x y : Operand} (ho : o.op = .buildSlice 77 2 #[(0, x), (1, y)]) (a b : Int) (hx : act.eval x = wideV a) (hy : act.eval y = wideV b) :
    (execOp act.eval o).run Try.prog w = .ok (.value (.slice (some ⟨w.heap.size, 0, none⟩) 2 2)) (w.alloc (.cells #[.int .i64 (hiW a), .int .u64 (loW a), .int .i64 (hiW b), .int .u64 (loW b)] 57)) := by
  obtain ⟨i57, hi, hz0, hz1, hz2⟩ := info_parts info57
  have := exec_slicesL act o (w := w) [(0, x), (1, y)] ho [wideV a, wideV b] (by simp [hx, hy]) (E := 57) (s := 2) Try.underlying77 hi hz0 hz1 (by omega) rfl (by omega) (by omega) (by
    intro v hv
    simp only [List.mem_cons, List.not_mem_nil, or_false] at hv
    rcases hv with rfl | rfl <;> rfl)
  simpa [Value.cells, wideV] using this
theorem info40 : ∃ z : Array Value, (∀ w, (zeroValue 40).run Try.prog w = .ok (.agg z) w) ∧ (Try.prog.info? 40).map (fun i => (i.zero, i.size, i.bytes)) = some (some (.agg z), 33, 33) ∧ z.size = 33 := ⟨_, Try.zeroValue40, by kernel_rfl, by kernel_rfl⟩
theorem exec_adr1 (act : Act) (o : Oper) {w : World} {x : Operand} (ho : o.op = .buildSlice 55 1 #[(0, x)]) (a : Adr) (hx : act.eval x = .agg (adrCells a).toArray) :
    (execOp act.eval o).run Try.prog w = .ok (.value (.slice (some ⟨w.heap.size, 0, none⟩) 1 1)) (w.alloc (.cells (adrCells a).toArray 40)) := by
  obtain ⟨z, _, hinf, _⟩ := info40
  obtain ⟨i40, hi, hz0, hz1, hz2⟩ := info_parts hinf
  have := exec_slicesL act o (w := w) [(0, x)] ho [.agg (adrCells a).toArray] (by simp [hx]) (E := 40) (s := 33) Try.underlying55 hi hz0 hz1 (by omega) rfl (by omega) (by omega) (by
    intro v hv
    simp only [List.mem_cons, List.not_mem_nil, or_false] at hv
    subst hv; simp [Value.cells, adrCells_length])
  simpa [Value.cells] using this
theorem exec_row1 (act : Act) (o : Oper) {w : World} {x : Operand} (ho : o.op = .buildSlice 60 1 #[(0, x)]) (u : Value) (hx : act.eval x = u) (hu : u.cells = #[u]) :
    (execOp act.eval o).run Try.prog w = .ok (.value (.slice (some ⟨w.heap.size, 0, none⟩) 1 1)) (w.alloc (.cells #[u] 33)) := by
  obtain ⟨i33, hi, hz0, hz1, hz2⟩ := info_parts info33
  have := exec_slicesL act o (w := w) [(0, x)] ho [u] (by simp [hx]) (E := 33) (s := 1) Try.underlying60 hi hz0 hz1 (by omega) rfl (by omega) (by omega) (by
    intro v hv
    simp only [List.mem_cons, List.not_mem_nil, or_false] at hv
    subst hv; rw [hu]; rfl)
  simpa [hu] using this
theorem exec_val1 (act : Act) (o : Oper) {w : World} {x : Operand} (ho : o.op = .buildSlice 95 1 #[(0, x)]) (u v : Value) (hx : act.eval x = .agg #[u, v]) :
    (execOp act.eval o).run Try.prog w = .ok (.value (.slice (some ⟨w.heap.size, 0, none⟩) 1 1)) (w.alloc (.cells #[u, v] 43)) := by
  obtain ⟨i43, hi, hz0, hz1, hz2⟩ := info_parts info43
  have := exec_slicesL act o (w := w) [(0, x)] ho [.agg #[u, v]] (by simp [hx]) (E := 43) (s := 2) Try.underlying95 hi hz0 hz1 (by omega) rfl (by omega) (by omega) (by
    intro y hy
    simp only [List.mem_cons, List.not_mem_nil, or_false] at hy
    subst hy; rfl)
  simpa [Value.cells] using this
theorem load57_box {w : World} {b : Nat} {z : Int} (h : w.heap[b]? = some (.cells #[.int .i64 (hiW z), .int .u64 (loW z)] 57 (0, 0))) : (loadVar 57 ⟨b, 0, none⟩).run Try.prog w = .ok (wideV z) w :=
  run_loadVar_mid w b 0 57 [.int .i64 (hiW z), .int .u64 (loW z)] _ (fun j v hv => by rw [Nat.zero_add, cellB h, List.getElem?_toArray]; exact hv) Try.underlying57 rfl (by rw [size57]; rfl)
theorem load40_box {w : World} {b : Nat} {a : Adr} (h : w.heap[b]? = some (.cells (adrCells a).toArray 40 (0, 0))) : (loadVar 40 ⟨b, 0, none⟩).run Try.prog w = .ok (.agg (adrCells a).toArray) w := load40 h
theorem exec_neqW (act : Act) (o : Oper) {w : World} {x y : Operand} {R : TypeId} (ho : o.op = .binOp .neq 57 x y R) (z : Int) (hx : act.eval x = wideV z) (hy : act.eval y = wideV z) : (execOp act.eval o).run Try.prog w = .ok (.value (.bool false)) w := by
  unfold wideV at hx hy
  unfold execOp
  simp only [ho, hx, hy, Sem.run_bind, Sem.run_pure]
  go_simp
theorem load51_box {w : World} {b : Nat} {xs : List Value} (hl : xs.length = 102) (h : w.heap[b]? = some (.cells xs.toArray 51 (0, 0))) : (loadVar 51 ⟨b, 0, none⟩).run Try.prog w = .ok (.agg xs.toArray) w :=
  run_loadVar_mid w b 0 51 xs _ (fun j v hv => by rw [Nat.zero_add, cellB h, List.getElem?_toArray]; exact hv) Try.underlying51 rfl (by rw [size51, hl])
theorem exec_eql40' (act : Act) (o : Oper) {w : World} {x y : Operand} {R : TypeId} (ho : o.op = .binOp .neq 40 x y R) (a b : Adr) (hx : act.eval x = .agg (adrCells a).toArray) (hy : act.eval y = .agg (adrCells b).toArray) : (execOp act.eval o).run Try.prog w = .ok (.value (.bool (!decide (a = b)))) w := by
  have h := adr_eq a b w
  unfold adrV at h
  unfold execOp
  simp only [ho, hx, hy, Sem.run_bind, Sem.run_pure]
  have hgt : Try.prog.eqGuardType Try.prog.depth 40 = false := by kernel_rfl
  have hg : (eqGuard .neq 40 x y (.agg (adrCells a).toArray) (.agg (adrCells b).toArray)).run Try.prog w = .ok () w := by
    unfold eqGuard
    simp [hgt]
  have hb : (binOp .neq 40 (.agg (adrCells a).toArray) (.agg (adrCells b).toArray)).run Try.prog w = .ok (.bool (!decide (a = b))) w := by
    unfold binOp
    simp [h]
  rw [hg]
  simp only [Result.andThen_ok, hb]
theorem ent_get66 (x : Ent) (a : Option Addr) (c : Nat) : (entCells x a c)[66]? = some (.int .i64 x.val.coin) ∧ (entCells x a c)[67]? = some (.slice a x.val.assets.length c) := by
  have h1 := x.hpre
  have h2 := x.hadr
  simp only [entCells, outCells]
  constructor
  · rw [List.getElem?_append_right (by omega), List.getElem?_append_right (by omega), h1, h2]
    rfl
  · rw [List.getElem?_append_right (by omega), List.getElem?_append_right (by omega), h1, h2]
    rfl
theorem ent_adr (x : Ent) (a : Option Addr) (c : Nat) {j : Nat} {u : Value} (h : (adrCells x.addr)[j]? = some u) : (entCells x a c)[33 + j]? = some u := by
  have hj : j < 33 := by have := (List.getElem?_eq_some_iff.1 h).1; rwa [adrCells_length] at this
  simp only [entCells, outCells, Ent.adr]
  rw [List.getElem?_append_right (by rw [x.hpre]; omega), x.hpre, Nat.add_sub_cancel_left, List.getElem?_append_left (by rw [adrCells_length]; exact hj)]
  exact h
theorem EntsAt.at {w : World} {sa : Option Addr} {n sc : Nat} {es : List Ent} (h : EntsAt w (.slice sa n sc) es) {k : Nat} {y : Ent} (hy : es[k]? = some y) : In64 y.val.coin ∧ ∃ L off a2 c2, sa = some ⟨L, off, none⟩ ∧ L < w.heap.size ∧ AssetsAt w (.slice a2 y.val.assets.length c2) y.val.assets ∧ ∀ j u, (entCells y a2 c2)[j]? = some u → w.cell? ⟨L, off + k * 102 + j, none⟩ = some u := by
  obtain ⟨a, c, e, _, h⟩ := h
  simp only [Value.slice.injEq] at e
  obtain ⟨rfl, _, _⟩ := e
  exact h k y hy
theorem owns_shape {w : World} {B s n : Nat} {e : TypeId} {v : Value} {xs : List Value} (h : w.ownsRow B e s v n xs) : ∃ a c, v = .slice a n c := by
  obtain ⟨_, ⟨rfl, rfl⟩ | ⟨g, cap, cur, rfl, _⟩⟩ := h
  · exact ⟨_, _, rfl⟩
  · exact ⟨_, _, rfl⟩
theorem addrs_le (es : List Ent) (k : Nat) : (addrs (es.take k)).length ≤ es.length := by
  have h := addrs_length (es.take k) []
  have h2 : (es.take k).length ≤ es.length := by rw [List.length_take]; omega
  unfold addrs
  simp at h
  omega
theorem take_mem_succ {S : List Adr} {j : Nat} {c a : Adr} (hc : S[j]? = some c) (ha : ¬ a ∈ S.take j) : (a ∈ S.take (j + 1)) ↔ c = a := by
  rw [List.take_add_one, hc]
  simp [ha, eq_comm]
theorem take_mem_mono {S : List Adr} {j : Nat} {a : Adr} (ha : a ∈ S.take j) : a ∈ S.take (j + 1) := by
  rw [List.take_add_one]
  exact List.mem_append_left _ ha
theorem assets_sum (es : List Ent) : (assetsOf es).length = (es.map fun x => x.val.assets.length).sum := by
  simp [assetsOf, List.length_flatMap]
theorem le_sum {l : List Nat} : ∀ {n : Nat}, n ∈ l → n ≤ l.sum := by
  induction l with
  | nil => intro n h; simp at h
  | cons m l ih =>
    intro n h
    rw [List.sum_cons]
    rcases List.mem_cons.1 h with e | e
    · omega
    · have := ih e; omega
end Go.Proofs.Ytckcamlicgdklaa
