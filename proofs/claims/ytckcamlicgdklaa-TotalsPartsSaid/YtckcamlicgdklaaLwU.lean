/- Small laws for the walk of TotalsParts: one entry more. -/
import Derived.Test.YtckcamlicgdklaaLwS
namespace Go.Proofs.Ytckcamlicgdklaa
open Go.RowKit Go.Mo Go.Sort

theorem exec_storec (act : Act) (o : Oper) {w : World} {x y : Operand} (ho : o.op = .store 28 x y) {g off : Nat} (hx : act.eval x = .pointer (some ⟨g, off, none⟩)) {a : Option Addr} {n c : Nat} (hy : act.eval y = .slice a n c) {old : Value}
    (hc : w.cell? ⟨g, off, none⟩ = some old) (hz : w.frozen? ⟨g, off, none⟩ = false) : (execOp act.eval o).run Try.prog w = .ok .skip (w.setCell ⟨g, off, none⟩ (.slice a n c)) := by
  unfold execOp
  simp only [ho, hx, hy]
  go_simp
/-- A state's entries, one by one, with what they point at. -/
theorem ents_list {w : World} {sa : Option Addr} {n sc : Nat} {es : List Ent} (h : EntsAt w (.slice sa n sc) es) : ∃ l : EntL, l.map (·.1) = es ∧ (∀ y ∈ l, In64 y.1.val.coin ∧ AssetsAt w (.slice y.2.1 y.1.val.assets.length y.2.2) y.1.val.assets) ∧
    (l = [] ∨ ∃ ad, sa = some ad ∧ ad.block < w.heap.size ∧ ∀ j u, (entsCells l)[j]? = some u → w.cell? (ad.add j) = some u) := by
  obtain ⟨a, c, e, hl, hel⟩ := h
  simp only [Value.slice.injEq] at e
  obtain ⟨rfl, rfl, rfl⟩ := e
  obtain ⟨q, hq, hp⟩ := list_of (P := fun i (y : Ent × Option Addr × Nat) => es[i]? = some y.1 ∧ In64 y.1.val.coin ∧ AssetsAt w (.slice y.2.1 y.1.val.assets.length y.2.2) y.1.val.assets ∧ ∃ L off, sa = some ⟨L, off, none⟩ ∧ L < w.heap.size ∧ ∀ j u, (entCells y.1 y.2.1 y.2.2)[j]? = some u → w.cell? ⟨L, off + i * 102 + j, none⟩ = some u) es.length (fun i hi => by
    have hx : es[i]? = some es[i] := List.getElem?_eq_getElem hi
    obtain ⟨h1, L, off, a2, c2, h2, h3, h4, h5⟩ := hel i _ hx
    exact ⟨(es[i], a2, c2), hx, h1, h4, L, off, h2, h3, h5⟩)
  refine ⟨q, List.ext_getElem? fun i => ?_, fun y hy => ?_, ?_⟩
  · rw [List.getElem?_map]
    by_cases hi : i < es.length
    · have hqi : q[i]? = some q[i] := List.getElem?_eq_getElem (by omega)
      obtain ⟨h1, _⟩ := hp i _ hqi
      rw [hqi, h1]; rfl
    · rw [List.getElem?_eq_none (by omega), List.getElem?_eq_none (by omega)]; rfl
  · obtain ⟨i, hi⟩ := List.getElem?_of_mem hy
    obtain ⟨_, h1, h2, _⟩ := hp i y hi
    exact ⟨h1, h2⟩
  · cases hq0 : q with
    | nil => exact .inl rfl
    | cons y0 r =>
      have h0 : q[0]? = some y0 := by rw [hq0]; rfl
      obtain ⟨_, _, _, L, off, e, hL, _⟩ := hp 0 y0 h0
      refine .inr ⟨⟨L, off, none⟩, e, hL, fun j u hu => ?_⟩
      rw [← hq0] at hu
      have hlt : j < q.length * 102 := by have := (List.getElem?_eq_some_iff.1 hu).1; rwa [entsCells_length] at this
      have hi : j / 102 < q.length := by omega
      have hqi : q[j / 102]? = some q[j / 102] := List.getElem?_eq_getElem hi
      obtain ⟨_, _, _, L', off', e', _, hcs⟩ := hp _ _ hqi
      rw [e] at e'
      cases e'
      have hm : j % 102 < (entCells q[j / 102].1 q[j / 102].2.1 q[j / 102].2.2).length := by rw [entCells_length]; omega
      obtain ⟨v, hv⟩ : ∃ v, (entCells q[j / 102].1 q[j / 102].2.1 q[j / 102].2.2)[j % 102]? = some v := ⟨_, List.getElem?_eq_getElem hm⟩
      have g1 := entsCells_get hqi _ _ hv
      rw [show j / 102 * 102 + j % 102 = j by omega, hu] at g1
      cases g1
      have g2 := hcs _ _ hv
      rw [add0]
      rwa [show off + j / 102 * 102 + j % 102 = off + j by omega] at g2
theorem addr_block (ad : Addr) (j : Nat) : (ad.add j).block = ad.block := by
  unfold Addr.add
  split <;> rfl
theorem append_ents {w0 w : World} {v : Value} {n sc m : Nat} {xs : List Value} {sa : Option Addr} {l : EntL} (ty : TypeId) (hown : w.ownsRow 0 51 102 v n xs) (hlm : l.length = m) (hsn : sa = none → sc = 0)
    (hl : l = [] ∨ ∃ ad, sa = some ad ∧ ad.block < w0.heap.size ∧ ∀ j u, (entsCells l)[j]? = some u → w0.cell? (ad.add j) = some u) (hm : Mod (fun _ => False) w0 w) (hn : n + m ≤ 1000000) :
    ∃ v' w', (Builtin.append_ #[28, 28] ty #[v, .slice sa m sc]).run Try.prog w = .ok v' w' ∧ w'.ownsRow 0 51 102 v' (n + m) (xs ++ entsCells l) ∧ w.grownBy w' v.ownBlock ∧ (∀ k, v'.ownBlock = some k → v.ownBlock = some k ∨ w.heap.size ≤ k) := by
  obtain ⟨i51, hi, hz0, hz1, hz2⟩ := info_parts info51
  subst hlm
  cases sa with
  | none =>
    have hr0 : l = [] := by
      rcases hl with h | ⟨_, e, _⟩
      · exact h
      · cases e
    subst hr0
    rw [hsn rfl]
    exact ⟨v, w, run_append_owned_none (P := Try.prog) (w := w) 0 28 ty 51 i51 102 Try.underlying28 hi v n xs hown, by simpa [entsCells] using hown, ⟨rfl, rfl, rfl, Nat.le_refl _, fun _ _ _ => rfl⟩, fun k hk => .inl hk⟩
  | some ad =>
    have hcs : ∀ j u, (entsCells l)[j]? = some u → w.cell? (ad.add j) = some u := by
      intro j u hj
      rcases hl with rfl | ⟨ad', e, hb, h⟩
      · simp [entsCells] at hj
      · cases e
        exact (hm.cell (p := ad.add j) (by rw [addr_block]; exact hb) (fun q => q)).trans (h j u hj)
    obtain ⟨v', w', hrun, h1, h2, _, h3⟩ := run_append_at (P := Try.prog) w 28 ty 51 i51 (.agg z51v) 102 176 Try.underlying28 hi hz0 hz1 hz2 (by simpa [Value.cells] using z51_size) (by decide) v n xs hown ad l.length sc (entsCells l) (entsCells_length l) hcs (entsCells_one l) (by simp only [maxLen]; omega) (by omega)
    exact ⟨v', w', hrun, h1, h2, h3⟩
theorem exec_append28 (act : Act) (o : Oper) {w w' : World} {s x : Operand} (ho : o.op = .call { callee := .builtin .append, args := #[s, x], argTypes := #[28, 28] }) {v rv v' : Value} (hs : act.eval s = v) (hx : act.eval x = rv)
    (hrun : (Builtin.append_ #[28, 28] o.type #[v, rv]).run Try.prog w = .ok v' w') : (execOp act.eval o).run Try.prog w = .ok (.value v') w' := by
  unfold execOp
  simp only [ho, resolve, invoke, builtin, Sem.run_bind, Sem.run_pure, Result.andThen_ok, List.map_toArray, List.map_cons, List.map_nil, hs, hx, hrun]
theorem map_range0 (f : Nat → Value) : Array.map f (Array.range 0) = #[] := Array.eq_empty_of_size_eq_zero (by rw [Array.size_map, Array.size_range])
theorem exec_slice0 (act : Act) (o : Oper) {w : World} (ho : o.op = .buildSlice 28 0 #[]) : (execOp act.eval o).run Try.prog w = .ok (.value (.slice (some ⟨w.heap.size, 0, none⟩) 0 0)) (w.alloc (.cells #[] 51)) := by
  obtain ⟨i51, hi, hz0, hz1, hz2⟩ := info_parts info51
  unfold execOp
  simp only [ho]
  simp [Instr.buildSlice, run_underlying Try.underlying28, sizeOf, typeInfo, hi, newRow, Instr.fill, map_range0]
theorem exec_ent1 (act : Act) (o : Oper) {w : World} {a : Operand} (ho : o.op = .buildSlice 28 1 #[(0, a)]) (x : Ent) (xa : Option Addr) (xc : Nat) (ha : act.eval a = .agg (entCells x xa xc).toArray) :
    (execOp act.eval o).run Try.prog w = .ok (.value (.slice (some ⟨w.heap.size, 0, none⟩) 1 1)) (w.alloc (.cells (entCells x xa xc).toArray 51)) := by
  obtain ⟨i51, hi, hz0, hz1, hz2⟩ := info_parts info51
  have := exec_slicesL act o (w := w) [(0, a)] ho [.agg (entCells x xa xc).toArray] (by simp [ha]) (E := 51) (s := 102) Try.underlying28 hi hz0 hz1 (by omega) rfl (by omega) (by omega) (by
    intro y hy
    simp only [List.mem_cons, List.not_mem_nil, or_false] at hy
    subst hy; simp [Value.cells, entCells_length])
  simpa [Value.cells] using this
theorem own_empty {w : World} {b : Nat} (h : w.heap[b]? = some (.cells #[] 51 (0, 0))) : w.ownsRow 0 51 102 (.slice (some ⟨b, 0, none⟩) 0 0) 0 [] :=
  ⟨rfl, .inr ⟨b, 0, #[], rfl, Nat.zero_le _, h, Nat.le_refl _, Nat.zero_le _, rfl, rfl⟩⟩
theorem exec_neq40v (act : Act) (o : Oper) {w : World} {x y : Operand} {R : TypeId} (ho : o.op = .binOp .neq 40 x y R) (a b : Adr) (hx : act.eval x = .agg (adrCells a).toArray) (hy : act.eval y = .agg (adrCells b).toArray) {v : Bool} (hv : (!decide (a = b)) = v) : (execOp act.eval o).run Try.prog w = .ok (.value (.bool v)) w := by
  subst hv
  exact exec_eql40' act o ho a b hx hy
/-- Totals that lie apart from a block q. -/
def TotsOff (w : World) (v : Value) (ds : List (Nm × Int)) (q : Nat) : Prop := ∃ a c, v = .slice a ds.length c ∧ (a = none → c = 0) ∧ ds.length ≤ 1000000 ∧ ∀ i x, ds[i]? = some x → ∃ L off, a = some ⟨L, off, none⟩ ∧ L < w.heap.size ∧ L ≠ q ∧ ∀ j u, (totCells x)[j]? = some u → w.cell? ⟨L, off + i * 35 + j, none⟩ = some u
theorem tots_keep {w w' : World} {v : Value} {ds : List (Nm × Int)} {b : Nat} (h : TotsOff w v ds b) (hm : Mod (fun q => q = b) w w') : TotsAt w' v ds := by
  obtain ⟨a, c, rfl, hac, hl, h⟩ := h
  refine ⟨a, c, rfl, hac, hl, fun i x hx => ?_⟩
  obtain ⟨L, off, rfl, hL, hq, h2⟩ := h i x hx
  exact ⟨L, off, rfl, Nat.lt_of_lt_of_le hL hm.size, fun j u hu => (hm.cell (p := ⟨L, _, none⟩) hL hq).trans (h2 j u hu)⟩
theorem tots_fresh {w : World} {v : Value} {ds : List (Nm × Int)} (h : TotsAt w v ds) (o : Obj) : TotsOff (w.alloc o) v ds w.heap.size := by
  obtain ⟨a, c, rfl, hac, hl, h⟩ := h
  refine ⟨a, c, rfl, hac, hl, fun i x hx => ?_⟩
  obtain ⟨L, off, rfl, hL, h2⟩ := h i x hx
  have hm : Mod (fun _ => False) w (w.alloc o) := (Mod.refl _ w).alloc o
  exact ⟨L, off, rfl, Nat.lt_of_lt_of_le hL hm.size, Nat.ne_of_lt hL, fun j u hu => (hm.cell (p := ⟨L, _, none⟩) hL (fun q => q)).trans (h2 j u hu)⟩
theorem tots_new {w : World} {v : Value} {ds : List (Nm × Int)} (h : w.ownsRow 0 88 35 v ds.length (totsCells ds)) (hl : ds.length ≤ 1000000) {b : Nat} (hb : ∀ q, v.ownBlock = some q → q ≠ b) : TotsOff w v ds b := by
  obtain ⟨a, c, rfl, hac, hl, h2⟩ := tots_at h hl
  refine ⟨a, c, rfl, hac, hl, fun i x hx => ?_⟩
  obtain ⟨L, off, rfl, hL, h3⟩ := h2 i x hx
  exact ⟨L, off, rfl, hL, hb L rfl, h3⟩
theorem ent_load43 {w : World} {b : Nat} {x : Ent} {xa : Option Addr} {xc : Nat} (h : w.heap[b]? = some (.cells (entCells x xa xc).toArray 51 (0, 0))) : (loadVar 43 ⟨b, 66, none⟩).run Try.prog w = .ok (.agg #[.int .i64 x.val.coin, .slice xa x.val.assets.length xc]) w :=
  run_loadVar_mid w b 66 43 [.int .i64 x.val.coin, .slice xa x.val.assets.length xc] _ (fun j u hu => by
    have hj : j < 2 := by have := (List.getElem?_eq_some_iff.1 hu).1; simpa using this
    have : j = 0 ∨ j = 1 := by omega
    rw [cellB h, List.getElem?_toArray]
    rcases this with rfl | rfl
    · rw [(ent_get66 x xa xc).1]; exact hu
    · rw [(ent_get66 x xa xc).2]; exact hu) Try.underlying43 rfl (by rw [ss43]; rfl)
theorem ent_load40 {w : World} {b : Nat} {x : Ent} {xa : Option Addr} {xc : Nat} (h : w.heap[b]? = some (.cells (entCells x xa xc).toArray 51 (0, 0))) : (loadVar 40 ⟨b, 33, none⟩).run Try.prog w = .ok (.agg (adrCells x.addr).toArray) w :=
  run_loadVar_mid w b 33 40 (adrCells x.addr) _ (fun j u hu => by rw [cellB h, List.getElem?_toArray]; exact ent_adr x xa xc hu) Try.underlying40 rfl (by rw [size40, adrCells_length])
theorem vals_one {w : World} {x : Ent} {xa : Option Addr} {xc : Nat} (hc : In64 x.val.coin) (h : AssetsAt w (.slice xa x.val.assets.length xc) x.val.assets) : ValsAt (w.alloc (.cells #[.int .i64 x.val.coin, .slice xa x.val.assets.length xc] 43)) (.slice (some ⟨w.heap.size, 0, none⟩) 1 1) [x.val] := by
  have hB := newB w (.cells #[.int .i64 x.val.coin, .slice xa x.val.assets.length xc] 43)
  refine ⟨_, _, rfl, fun i y hy => ?_⟩
  have hi : i < 1 := by have := (List.getElem?_eq_some_iff.1 hy).1; simpa using this
  have e : i = 0 := by omega
  subst e
  simp at hy; subst hy
  exact ⟨hc, _, 0, _, rfl, ltB hB, by rw [cellB hB]; rfl, by rw [cellB hB]; rfl, h.tr ((Mod.refl (fun _ => False) w).alloc _)⟩
theorem bookV_one (x : Ent) : (bookV [x.val]).length ≤ x.val.assets.length := by
  have := bookV_le [x]
  simpa [assetsOf] using this
theorem book_more (es : List Ent) (x : Ent) : (bookV ((es ++ [x]).map (·.val))).length ≤ (assetsOf es).length + x.val.assets.length := by
  have := bookV_le (es ++ [x])
  simpa [assetsOf] using this
theorem StC.set {cs : List Value} {sv v : Value} {fees forf : Int} (h : StC cs sv fees forf) : StC (cs.set 44 v) v fees forf where
  len := by simp [h.len]
  ents := by rw [List.getElem?_set_self (by rw [h.len]; omega)]
  fees := by rw [List.getElem?_set_ne (by omega)]; exact h.fees
  forf := by rw [List.getElem?_set_ne (by omega)]; exact h.forf
end Go.Proofs.Ytckcamlicgdklaa
