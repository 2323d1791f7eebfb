/- DevEnds: rows of deeds that the function itself lays. -/
import Derived.Test.YtaaoabfmelpcpaaTeB
namespace Go.Proofs.Ytaaoabfmelpcpaa
open Go.RowKit Go.Mo

/-- A deed's four cells. -/
def dcell (y : Deed × Value) : List Value := [.int .i64 y.1.what, .int .i64 y.1.at_, .int .i64 y.1.n, y.2]
def dflat (l : List (Deed × Value)) : List Value := l.flatMap dcell

theorem dflat_at : ∀ (l : List (Deed × Value)) (i : Nat) (y : Deed × Value), l[i]? = some y → (dflat l)[i * 4]? = some (.int .i64 y.1.what) ∧ (dflat l)[i * 4 + 1]? = some (.int .i64 y.1.at_) ∧ (dflat l)[i * 4 + 2]? = some (.int .i64 y.1.n) ∧ (dflat l)[i * 4 + 3]? = some y.2
  | [], i, y, h => by simp at h
  | z :: r, 0, y, h => by
    simp at h; subst h
    simp [dflat, dcell]
  | z :: r, i + 1, y, h => by
    have ih := dflat_at r i y (by simpa using h)
    have e : dflat (z :: r) = dcell z ++ dflat r := rfl
    have e4 : (dcell z).length = 4 := rfl
    rw [e]
    refine ⟨?_, ?_, ?_, ?_⟩
    · rw [List.getElem?_append_right (by omega), e4, show (i + 1) * 4 - 4 = i * 4 by omega]; exact ih.1
    · rw [List.getElem?_append_right (by omega), e4, show (i + 1) * 4 + 1 - 4 = i * 4 + 1 by omega]; exact ih.2.1
    · rw [List.getElem?_append_right (by omega), e4, show (i + 1) * 4 + 2 - 4 = i * 4 + 2 by omega]; exact ih.2.2.1
    · rw [List.getElem?_append_right (by omega), e4, show (i + 1) * 4 + 3 - 4 = i * 4 + 3 by omega]; exact ih.2.2.2

/-- What is asked of the bits of a deed in such a row. -/
def DOk (w : World) (y : Deed × Value) : Prop := (∃ ad cd, y.2 = .slice ad y.1.bits.length cd) ∧ Bits w y.2 y.1.bits ∧ y.1.n ≤ 9223372036854775807 ∧ y.1.bits.length ≤ 140737488351232

theorem deeds_of_own {w : World} {v : Value} {l : List (Deed × Value)} (h : w.ownsRow 0 36 4 v l.length (dflat l)) (hb : ∀ y ∈ l, DOk w y) : Deeds w v (l.map (·.1)) := by
  rcases h.2 with ⟨rfl, h0⟩ | ⟨g, cap, cur, rfl, _, hg, _, _, _, ht⟩
  · have : l = [] := List.eq_nil_of_length_eq_zero h0
    subst this
    exact ⟨none, 0, rfl, fun i x hx => by simp at hx⟩
  · refine ⟨some ⟨g, 0, none⟩, cap, by simp, fun i x hx => ?_⟩
    rw [List.getElem?_map] at hx
    obtain ⟨y, hy, rfl⟩ := Option.map_eq_some_iff.1 hx
    obtain ⟨c0, c1, c2, c3⟩ := dflat_at l i y hy
    obtain ⟨⟨ad, cd, hv⟩, hbits, hn, hl⟩ := hb y (List.mem_of_getElem? hy)
    have hc : ∀ j u, (dflat l)[j]? = some u → w.cell? ⟨g, 0 + j, none⟩ = some u := fun j u hj => by
      have := h.cells (g := g) rfl j u hj
      rwa [add0] at this
    refine ⟨g, 0, ad, cd, rfl, ltB hg, hc _ _ c0, hc _ _ c1, hc _ _ c2, ?_, hv ▸ hbits, hn, hl⟩
    rw [← hv]
    exact hc _ _ c3

theorem dok_nil (w : World) (a b c : Int) (hc : c ≤ 9223372036854775807) : DOk w (⟨a, b, c, []⟩, .slice none 0 0) :=
  ⟨⟨none, 0, rfl⟩, ⟨none, 0, rfl, .inl ⟨rfl, rfl⟩⟩, hc, by simp⟩

theorem dok_bits (w : World) (a b c : Int) (hc : c ≤ 9223372036854775807) {g m : Nat} {bs : List Bool} (hm : m ≤ bs.length) (hl : bs.length ≤ 100) (hg : w.heap[g]? = some (.cells (bs.map Value.bool).toArray 4 (0, 0))) (cap : Nat) : DOk w (⟨a, b, c, bs.take m⟩, .slice (some ⟨g, 0, none⟩) m cap) := by
  have e : (bs.take m).length = m := by simp; omega
  refine ⟨⟨some ⟨g, 0, none⟩, cap, by simp only [e]⟩, ⟨some ⟨g, 0, none⟩, cap, by simp only [e], .inr ⟨_, rfl, fun j x hx => ⟨ltB hg, ?_⟩⟩⟩, hc, by simp; omega⟩
  rw [add0, Nat.zero_add, cellB hg]
  have h0 : j < (bs.take m).length := (List.getElem?_eq_some_iff.1 hx).1
  have hj : j < m := by omega
  rw [List.getElem?_take_of_lt hj] at hx
  simp [hx]
theorem Deeds.mod {w w' : World} {v : Value} {l : List Deed} (h : Deeds w v l) (hm : Mod (fun _ => False) w w') : Deeds w' v l := by
  obtain ⟨a, c, hv, hel⟩ := h
  refine ⟨a, c, hv, fun i x hx => ?_⟩
  obtain ⟨L, off, ad, cd, ha, hL, k0, k1, k2, k3, kb, kn, kl⟩ := hel i x hx
  exact ⟨L, off, ad, cd, ha, Nat.lt_of_lt_of_le hL hm.size, (hm.cell (p := ⟨L, _, none⟩) hL (fun q => q)).trans k0, (hm.cell (p := ⟨L, _, none⟩) hL (fun q => q)).trans k1, (hm.cell (p := ⟨L, _, none⟩) hL (fun q => q)).trans k2, (hm.cell (p := ⟨L, _, none⟩) hL (fun q => q)).trans k3, kb.mod hm, kn, kl⟩

/-- The deeds that DevEnds lays. -/
def endL (g : Int) (b m : Nat) (bs : List Bool) : List (Deed × Value) := [(⟨0, 1, 1, []⟩, .slice none 0 0), (⟨2, 0, 0, []⟩, .slice none 0 0), (⟨3, 0, g, []⟩, .slice none 0 0), (⟨0, 1, 2, []⟩, .slice none 0 0), (⟨0, 2, 3, []⟩, .slice none 0 0), (⟨0, 1, 4, []⟩, .slice none 0 0), (⟨2, 0, 0, []⟩, .slice none 0 0), (⟨1, 1, 0, []⟩, .slice none 0 0), (⟨4, 0, 0, []⟩, .slice none 0 0), (⟨5, 0, 0, bs.take m⟩, .slice (some ⟨b, 0, none⟩) m 4), (⟨1, 1, 0, []⟩, .slice none 0 0), (⟨1, 2, 0, []⟩, .slice none 0 0), (⟨6, 2, 0, []⟩, .slice none 0 0), (⟨0, 2, 5, []⟩, .slice none 0 0), (⟨1, 2, 0, []⟩, .slice none 0 0)]
theorem endL_ok {W : World} {g : Int} {b m : Nat} {bs : List Bool} (hg : g ≤ 100) (hm : m ≤ bs.length) (hl : bs.length ≤ 100) (hb : W.heap[b]? = some (.cells (bs.map Value.bool).toArray 4 (0, 0))) : ∀ y ∈ endL g b m bs, DOk W y := by
  intro y hy
  simp only [endL, List.mem_cons, List.not_mem_nil, or_false] at hy
  rcases hy with rfl | rfl | rfl | rfl | rfl | rfl | rfl | rfl | rfl | rfl | rfl | rfl | rfl | rfl | rfl
  all_goals first | exact dok_nil _ _ _ _ (by omega) | exact dok_bits _ _ _ _ (by omega) hm hl hb _
theorem endL_length (g : Int) (b m : Nat) (bs : List Bool) : (endL g b m bs).length = 15 := rfl
theorem dflat_append (l l' : List (Deed × Value)) : dflat (l ++ l') = dflat l ++ dflat l' := by simp [dflat]

/-- The row, laid behind the bits. -/
theorem endL_own (wr : World) (g : Int) (m : Nat) (b1 b2 b3 b4 : Bool) : ((wr.alloc (.cells #[.bool b1, .bool b2, .bool b3, .bool b4] 4)).alloc (.cells #[.int .i64 0, .int .i64 1, .int .i64 1, .slice none 0 0, .int .i64 2, .int .i64 0, .int .i64 0, .slice none 0 0, .int .i64 3, .int .i64 0, .int .i64 g, .slice none 0 0, .int .i64 0, .int .i64 1, .int .i64 2, .slice none 0 0, .int .i64 0, .int .i64 2, .int .i64 3, .slice none 0 0, .int .i64 0, .int .i64 1, .int .i64 4, .slice none 0 0, .int .i64 2, .int .i64 0, .int .i64 0, .slice none 0 0, .int .i64 1, .int .i64 1, .int .i64 0, .slice none 0 0, .int .i64 4, .int .i64 0, .int .i64 0, .slice none 0 0, .int .i64 5, .int .i64 0, .int .i64 0, .slice (some ⟨wr.heap.size, 0, none⟩) m 4, .int .i64 1, .int .i64 1, .int .i64 0, .slice none 0 0, .int .i64 1, .int .i64 2, .int .i64 0, .slice none 0 0, .int .i64 6, .int .i64 2, .int .i64 0, .slice none 0 0, .int .i64 0, .int .i64 2, .int .i64 5, .slice none 0 0, .int .i64 1, .int .i64 2, .int .i64 0, .slice none 0 0] 36)).ownsRow 0 36 4 (.slice (some ⟨wr.heap.size + 1, 0, none⟩) 15 15) 15 (dflat (endL g wr.heap.size m [b1, b2, b3, b4])) := by
  have := World.ownsRow_lit (e := 36) (size := 4) (base := 0) (wr.alloc (.cells #[.bool b1, .bool b2, .bool b3, .bool b4] 4)) #[.int .i64 0, .int .i64 1, .int .i64 1, .slice none 0 0, .int .i64 2, .int .i64 0, .int .i64 0, .slice none 0 0, .int .i64 3, .int .i64 0, .int .i64 g, .slice none 0 0, .int .i64 0, .int .i64 1, .int .i64 2, .slice none 0 0, .int .i64 0, .int .i64 2, .int .i64 3, .slice none 0 0, .int .i64 0, .int .i64 1, .int .i64 4, .slice none 0 0, .int .i64 2, .int .i64 0, .int .i64 0, .slice none 0 0, .int .i64 1, .int .i64 1, .int .i64 0, .slice none 0 0, .int .i64 4, .int .i64 0, .int .i64 0, .slice none 0 0, .int .i64 5, .int .i64 0, .int .i64 0, .slice (some ⟨wr.heap.size, 0, none⟩) m 4, .int .i64 1, .int .i64 1, .int .i64 0, .slice none 0 0, .int .i64 1, .int .i64 2, .int .i64 0, .slice none 0 0, .int .i64 6, .int .i64 2, .int .i64 0, .slice none 0 0, .int .i64 0, .int .i64 2, .int .i64 5, .slice none 0 0, .int .i64 1, .int .i64 2, .int .i64 0, .slice none 0 0] 15 (Nat.zero_le _) (by simp [maxLen]) rfl
  rw [World.size_alloc] at this
  exact this
theorem dflat_last (y : Deed × Value) (l : List (Deed × Value)) : dflat (l ++ [y]) = dflat l ++ [.int .i64 y.1.what, .int .i64 y.1.at_, .int .i64 y.1.n, y.2] := by rw [dflat_append]; rfl
theorem dflat_three (a b c : Deed × Value) : dflat [a, b, c] = dcell a ++ (dcell b ++ (dcell c ++ [])) := rfl
attribute [irreducible] endL dflat

theorem info36 : (Try.prog.info? 36).map (fun i => (i.zero, i.size, i.bytes)) = some (some (.agg #[.int .i64 0, .int .i64 0, .int .i64 0, .slice none 0 0]), 4, 48) := by kernel_rfl
/-- append, as one operation that may be guarded. -/
theorem oper_append_at {P : Program} (w : World) {o : Oper} {a : Act} {K : Act → World → Prop} {Q : Exit → Act → World → Prop} (s x : Operand) (t : TypeId)
    (ho : o.op = .call { callee := .builtin .append, args := #[s, x], argTypes := #[t, t] })
    (e : TypeId) (i : TypeInfo) (z : Value) (size bytes : Nat) (ht : P.underlying t = some (.slice e)) (hi : P.info? e = some i) (hz : i.zero = some z)
    (hsize : i.size = size) (hby : i.bytes = bytes) (hzs : z.cells.size = size) (hsz : 0 < size)
    (v : Value) (n : Nat) (xs : List Value) (hs : a.eval s = v) (hown : w.ownsRow 0 e size v n xs)
    (ad : Addr) (m c : Nat) (news : List Value) (hx : a.eval x = .slice (some ad) m c) (hl : news.length = m * size) (hnews : ∀ j u, news[j]? = some u → w.cell? (ad.add j) = some u) (h1 : ∀ u ∈ news, u.oneCell' = true)
    (h63 : n + m ≤ maxLen) (hbytes : (n + m) * bytes ≤ 140737488355328)
    (h : ∀ v' w', w'.ownsRow 0 e size v' (n + m) (xs ++ news) → w.grownBy w' v.ownBlock → K (a.put o.dst v') w') : Oper.wp P o a w K Q := by
  obtain ⟨v', w', hr, h2, h3, _, _⟩ := run_append_at (P := P) w t o.type e i z size bytes ht hi hz hsize hby hzs hsz v n xs hown ad m c news hl hnews h1 h63 hbytes
  unfold Oper.wp execOp
  simp only [ho, resolve, invoke, builtin, Sem.run_bind, Sem.run_pure, Result.andThen_ok, List.map_toArray, List.map_cons, List.map_nil, hs, hx, hr]
  exact h v' w' h2 h3
/-- .. of a list, where its guard says yes. -/
theorem wpList_append_want {P : Program} (w : World) {ops : Array Oper} {rest : List Oper} {o : Oper} {a : Act} {Q : Exit → Act → World → Prop} (hw : Region.wanted o (yielded ops a.tmps) = true) (s x : Operand) (t : TypeId)
    (ho : o.op = .call { callee := .builtin .append, args := #[s, x], argTypes := #[t, t] })
    (e : TypeId) (i : TypeInfo) (z : Value) (size bytes : Nat) (ht : P.underlying t = some (.slice e)) (hi : P.info? e = some i) (hz : i.zero = some z)
    (hsize : i.size = size) (hby : i.bytes = bytes) (hzs : z.cells.size = size) (hsz : 0 < size)
    (v : Value) (n : Nat) (xs : List Value) (hs : a.eval s = v) (hown : w.ownsRow 0 e size v n xs)
    (ad : Addr) (m c : Nat) (news : List Value) (hx : a.eval x = .slice (some ad) m c) (hl : news.length = m * size) (hnews : ∀ j u, news[j]? = some u → w.cell? (ad.add j) = some u) (h1 : ∀ u ∈ news, u.oneCell' = true)
    (h63 : n + m ≤ maxLen) (hbytes : (n + m) * bytes ≤ 140737488355328)
    (h : ∀ v' w', w'.ownsRow 0 e size v' (n + m) (xs ++ news) → w.grownBy w' v.ownBlock → wpList P ops Q rest (a.put o.dst v') w') : wpList P ops Q (o :: rest) a w := by
  simp only [wpList, hw, if_true]
  exact .inl (oper_append_at w s x t ho e i z size bytes ht hi hz hsize hby hzs hsz v n xs hs hown ad m c news hx hl hnews h1 h63 hbytes h)
end Go.Proofs.Ytaaoabfmelpcpaa
