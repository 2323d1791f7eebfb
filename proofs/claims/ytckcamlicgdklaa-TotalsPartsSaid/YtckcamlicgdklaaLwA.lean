/- What holds between the steps of TotalsParts. -/
import Derived.Test.YtckcamlicgdklaaAwC
import Derived.Test.YtckcamlicgdklaaCnE
namespace Go.Proofs.Ytckcamlicgdklaa
open Go.RowKit Go.Mo Go.Sort

/-- The two boxes of the arguments stand. -/
structure PB (w wx : World) (cs xs : List Value) : Prop where
  hs : wx.heap[w.heap.size]? = some (.cells cs.toArray 36 (0, 0))
  hx : wx.heap[w.heap.size + 1]? = some (.cells xs.toArray 51 (0, 0))
  mod : Mod (fun _ => False) w wx
theorem PB.tr {S : Nat → Prop} {w wx wy : World} {cs xs : List Value} (h : PB w wx cs xs) (hm : Mod S wx wy) (hS : ∀ q, S q → w.heap.size + 2 ≤ q) : PB w wy cs xs :=
  ⟨(hm.block _ (ltB h.hs) (fun q => by have := hS _ q; omega)).trans h.hs, (hm.block _ (ltB h.hx) (fun q => by have := hS _ q; omega)).trans h.hx, h.mod.trans hm (fun q e hl => by have := hS _ e; omega)⟩
def Nw (w : World) (q : Nat) : Prop := w.heap.size + 2 ≤ q
/-- The first loop's state: the coins' block, the addresses seen, the rows. -/
structure L1 (w wx : World) (cs xs : List Value) (b6 : Nat) (z : Int) (S : List Adr) (v5 : Value) (rvs : List Value) (rows : List (List (Nm × Int))) (v7 : Value) : Prop where
  pb : PB w wx cs xs
  b6n : Nw w b6
  coin : wx.heap[b6]? = some (.cells #[.int .i64 (hiW z), .int .u64 (loW z)] 57 (0, 0))
  seen : wx.ownsRow 0 40 33 v5 S.length (S.flatMap adrCells)
  seenB : ∀ q, v5.ownBlock = some q → Nw w q ∧ q ≠ b6
  rlen : rvs.length = rows.length
  rown : wx.ownsRow 0 33 1 v7 rvs.length rvs
  rownB : ∀ q, v7.ownBlock = some q → Nw w q ∧ q ≠ b6 ∧ v5.ownBlock ≠ some q
  row : ∀ (i : Nat) (rv : Value) (d : List (Nm × Int)), rvs[i]? = some rv → rows[i]? = some d → wx.ownsRow 0 88 35 rv d.length (totsCells d) ∧ ∀ q, rv.ownBlock = some q → Nw w q ∧ q ≠ b6 ∧ v5.ownBlock ≠ some q ∧ v7.ownBlock ≠ some q
section
variable {w wx wy : World} {cs xs : List Value} {b6 : Nat} {z : Int} {S : List Adr} {v5 : Value} {rvs : List Value} {rows : List (List (Nm × Int))} {v7 : Value}
theorem L1.tr (h : L1 w wx cs xs b6 z S v5 rvs rows v7) (hm : Mod (fun _ => False) wx wy) : L1 w wy cs xs b6 z S v5 rvs rows v7 where
  pb := h.pb.tr hm (fun q e => e.elim)
  b6n := h.b6n
  coin := (hm.block _ (ltB h.coin) (fun q => q)).trans h.coin
  seen := ownsRow_block h.seen (fun k hk => hm.block k (ownsRow_lt h.seen hk) (fun q => q))
  seenB := h.seenB
  rlen := h.rlen
  rown := ownsRow_block h.rown (fun k hk => hm.block k (ownsRow_lt h.rown hk) (fun q => q))
  rownB := h.rownB
  row := fun i rv d h1 h2 => by
    obtain ⟨h3, h4⟩ := h.row i rv d h1 h2
    exact ⟨ownsRow_block h3 (fun k hk => hm.block k (ownsRow_lt h3 hk) (fun q => q)), h4⟩
/-- One address more is seen. -/
theorem L1.more (h : L1 w wx cs xs b6 z S v5 rvs rows v7) {v5' : Value} {S' : List Adr} (ho : wy.ownsRow 0 40 33 v5' S'.length (S'.flatMap adrCells)) (hg : wx.grownBy wy v5.ownBlock) (hat : ∀ k, v5'.ownBlock = some k → v5.ownBlock = some k ∨ wx.heap.size ≤ k) : L1 w wy cs xs b6 z S' v5' rvs rows v7 := by
  have hm : Mod (fun q => v5.ownBlock = some q) wx wy := (Mod.refl (fun q => v5.ownBlock = some q) wx).grown hg (fun q hq _ => hq)
  have hsz : w.heap.size + 2 ≤ wx.heap.size := by have := ltB h.pb.hx; omega
  have hb6 := ltB h.coin
  refine ⟨h.pb.tr hm (fun q e => (h.seenB q e).1), h.b6n, (hm.block _ hb6 (fun q => (h.seenB _ q).2 rfl)).trans h.coin, ho, fun q hq => ?_, h.rlen, ?_, fun q hq => ?_, fun i rv d h1 h2 => ?_⟩
  · rcases hat q hq with e | e
    · exact h.seenB q e
    · refine ⟨by unfold Nw; omega, by omega⟩
  · exact ownsRow_block h.rown (fun k hk => hm.block k (ownsRow_lt h.rown hk) (h.rownB k hk).2.2)
  · obtain ⟨g1, g2, g3⟩ := h.rownB q hq
    refine ⟨g1, g2, fun e => ?_⟩
    have hl := ownsRow_lt h.rown hq
    rcases hat q e with e2 | e2
    · exact g3 e2
    · omega
  · obtain ⟨h3, h4⟩ := h.row i rv d h1 h2
    refine ⟨ownsRow_block h3 (fun k hk => hm.block k (ownsRow_lt h3 hk) (h4 k hk).2.2.1), fun q hq => ?_⟩
    obtain ⟨g1, g2, g3, g4⟩ := h4 q hq
    refine ⟨g1, g2, fun e => ?_, g4⟩
    have hl := ownsRow_lt h3 hq
    rcases hat q e with e2 | e2
    · exact g3 e2
    · omega
/-- The coins turn. -/
theorem L1.coins (h : L1 w wx cs xs b6 z S v5 rvs rows v7) {z' : Int} (hm : Mod (fun q => q = b6) wx wy) (hc : wy.heap[b6]? = some (.cells #[.int .i64 (hiW z'), .int .u64 (loW z')] 57 (0, 0))) : L1 w wy cs xs b6 z' S v5 rvs rows v7 where
  pb := h.pb.tr hm (fun q e => by subst e; exact h.b6n)
  b6n := h.b6n
  coin := hc
  seen := ownsRow_block h.seen (fun k hk => hm.block k (ownsRow_lt h.seen hk) (fun q => (h.seenB k hk).2 q))
  seenB := h.seenB
  rlen := h.rlen
  rown := ownsRow_block h.rown (fun k hk => hm.block k (ownsRow_lt h.rown hk) (fun q => (h.rownB k hk).2.1 q))
  rownB := h.rownB
  row := fun i rv d h1 h2 => by
    obtain ⟨h3, h4⟩ := h.row i rv d h1 h2
    exact ⟨ownsRow_block h3 (fun k hk => hm.block k (ownsRow_lt h3 hk) (fun q => (h4 k hk).2.1 q)), h4⟩
/-- One row more. -/
theorem L1.rowMore (h : L1 w wx cs xs b6 z S v5 rvs rows v7) {v7' rv : Value} {d : List (Nm × Int)} (hd : wx.ownsRow 0 88 35 rv d.length (totsCells d)) (hdB : ∀ q, rv.ownBlock = some q → Nw w q ∧ q ≠ b6 ∧ v5.ownBlock ≠ some q ∧ v7.ownBlock ≠ some q)
    (ho : wy.ownsRow 0 33 1 v7' (rvs ++ [rv]).length (rvs ++ [rv])) (hg : wx.grownBy wy v7.ownBlock) (hat : ∀ k, v7'.ownBlock = some k → v7.ownBlock = some k ∨ wx.heap.size ≤ k) : L1 w wy cs xs b6 z S v5 (rvs ++ [rv]) (rows ++ [d]) v7' := by
  have hm : Mod (fun q => v7.ownBlock = some q) wx wy := (Mod.refl (fun q => v7.ownBlock = some q) wx).grown hg (fun q hq _ => hq)
  have hsz : w.heap.size + 2 ≤ wx.heap.size := by have := ltB h.pb.hx; omega
  have hb6 := ltB h.coin
  refine ⟨h.pb.tr hm (fun q e => (h.rownB q e).1), h.b6n, (hm.block _ hb6 (fun q => (h.rownB _ q).2.1 rfl)).trans h.coin, ?_, h.seenB, by simp [h.rlen], ho, fun q hq => ?_, fun i rv' d' h1 h2 => ?_⟩
  · exact ownsRow_block h.seen (fun k hk => hm.block k (ownsRow_lt h.seen hk) (fun q => (h.rownB k q).2.2 hk))
  · rcases hat q hq with e | e
    · exact h.rownB q e
    · refine ⟨by unfold Nw; omega, by omega, fun e2 => ?_⟩
      have := ownsRow_lt h.seen e2
      omega
  · have key : ∀ (rv' : Value) (d' : List (Nm × Int)), wx.ownsRow 0 88 35 rv' d'.length (totsCells d') → (∀ q, rv'.ownBlock = some q → Nw w q ∧ q ≠ b6 ∧ v5.ownBlock ≠ some q ∧ v7.ownBlock ≠ some q) → wy.ownsRow 0 88 35 rv' d'.length (totsCells d') ∧ ∀ q, rv'.ownBlock = some q → Nw w q ∧ q ≠ b6 ∧ v5.ownBlock ≠ some q ∧ v7'.ownBlock ≠ some q := by
      intro rv' d' h3 h4
      refine ⟨ownsRow_block h3 (fun k hk => hm.block k (ownsRow_lt h3 hk) (h4 k hk).2.2.2), fun q hq => ?_⟩
      obtain ⟨g1, g2, g3, g4⟩ := h4 q hq
      refine ⟨g1, g2, g3, fun e => ?_⟩
      have hl := ownsRow_lt h3 hq
      rcases hat q e with e2 | e2
      · exact g4 e2
      · omega
    rw [List.getElem?_append] at h1 h2
    rw [h.rlen] at h1
    split at h1
    · rename_i q
      rw [if_pos q] at h2
      obtain ⟨h3, h4⟩ := h.row i rv' d' h1 h2
      exact key rv' d' h3 h4
    · rename_i q
      rw [if_neg q] at h2
      rw [List.getElem?_singleton] at h1 h2
      split at h1
      · rename_i q2
        rw [if_pos q2] at h2
        cases h1; cases h2
        exact key _ _ hd hdB
      · cases h1
/-- The rows as they lie in memory. -/
theorem L1.rowsAt (h : L1 w wx cs xs b6 z S v5 rvs rows v7) (hl : rows.length ≤ 1000000) (hd : ∀ d ∈ rows, d.length ≤ 1000000) : RowsAt wx v7 rows := by
  obtain ⟨_, ⟨hv, h0⟩ | ⟨g, cap, cur, hv, _, hg, hc, _, hcs, ht⟩⟩ := h.rown
  · have h1 := h.rlen
    have : rows = [] := List.eq_nil_of_length_eq_zero (by omega)
    subst this
    rw [hv]
    exact ⟨none, 0, rfl, by simp, fun i r hr => by simp at hr⟩
  · refine ⟨some ⟨g, 0, none⟩, cap, by rw [hv, h.rlen], hl, fun i r hr => ?_⟩
    have hi : i < rows.length := (List.getElem?_eq_some_iff.1 hr).1
    obtain ⟨rv, hrv⟩ : ∃ rv, rvs[i]? = some rv := ⟨_, List.getElem?_eq_getElem (by rw [h.rlen]; exact hi)⟩
    obtain ⟨h3, _⟩ := h.row i rv r hrv hr
    refine ⟨g, 0, rv, rfl, ltB hg, ?_, tots_at h3 (hd r (List.mem_of_getElem? hr))⟩
    rw [Nat.zero_add, cellB hg, ← Array.getElem?_toList]
    have := hrv
    rw [← ht, List.getElem?_take, if_pos (by have := h.rlen; omega)] at this
    exact this
end
/-- An address of a row of addresses, loaded. -/
theorem seen_load {w : World} {v : Value} {S : List Adr} (h : w.ownsRow 0 40 33 v S.length (S.flatMap adrCells)) {i : Nat} {a : Adr} (ha : S[i]? = some a) : ∃ g c, v = .slice (some ⟨g, 0, none⟩) S.length c ∧ (loadVar 40 ⟨g, i * 33, none⟩).run Try.prog w = .ok (.agg (adrCells a).toArray) w := by
  have hi : i < S.length := (List.getElem?_eq_some_iff.1 ha).1
  obtain ⟨_, ⟨rfl, h0⟩ | ⟨g, cap, cur, rfl, _, hg, hc, _, hcs, ht⟩⟩ := h
  · omega
  · refine ⟨g, cap, rfl, run_loadVar_mid w g (i * 33) 40 (adrCells a) _ (fun j u hu => ?_) Try.underlying40 rfl (by rw [size40, adrCells_length])⟩
    have hj : j < 33 := by have := (List.getElem?_eq_some_iff.1 hu).1; rwa [adrCells_length] at this
    have h1 := flat_get adrCells 33 adrCells_length S i a ha j u hu
    rw [cellB hg, ← Array.getElem?_toList]
    rw [← ht, List.getElem?_take, if_pos (by omega)] at h1
    exact h1
end Go.Proofs.Ytckcamlicgdklaa
