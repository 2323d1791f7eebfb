/- append of a slice of totals to a row of one's own. -/
import Derived.Test.YtckcamlicgdklaaTpV
namespace Go.Proofs.Ytckcamlicgdklaa
open Go.RowKit Go.Mo Go.Sort

theorem tots_cells {w : World} {L off : Nat} {r : List (Nm × Int)} (h : ∀ i x, r[i]? = some x → ∀ j u, (totCells x)[j]? = some u → w.cell? ⟨L, off + i * 35 + j, none⟩ = some u) (j : Nat) (u : Value) (hj : (totsCells r)[j]? = some u) : w.cell? ((⟨L, off, none⟩ : Addr).add j) = some u := by
  have e : (⟨L, off, none⟩ : Addr).add j = ⟨L, off + j, none⟩ := by unfold Addr.add; split <;> simp_all
  rw [e]
  have hlt : j < r.length * 35 := by have := (List.getElem?_eq_some_iff.1 hj).1; rwa [totsCells_length] at this
  rw [tots_get r j hlt] at hj
  have hi : j / 35 < r.length := by omega
  have hm : j % 35 < (totCells r[j / 35]!).length := by rw [totCells_length]; omega
  have := h (j / 35) (r[j / 35]!) (by rw [getElem!_pos r _ hi]; exact List.getElem?_eq_getElem hi) (j % 35) u (by rw [← hj, getElem!_pos (totCells r[j / 35]!) (j % 35) hm]; exact List.getElem?_eq_getElem hm)
  rwa [show off + j / 35 * 35 + j % 35 = off + j by omega] at this
theorem append_tots {w : World} {v rv : Value} {n : Nat} {xs : List Value} {r : List (Nm × Int)} (ty : TypeId) (hown : w.ownsRow 0 88 35 v n xs) (hr : TotsAt w rv r) (hn : n ≤ 1000000) :
    ∃ v' w', (Builtin.append_ #[33, 33] ty #[v, rv]).run Try.prog w = .ok v' w' ∧ w'.ownsRow 0 88 35 v' (n + r.length) (xs ++ totsCells r) ∧ w.grownBy w' v.ownBlock ∧ (∀ k, v'.ownBlock = some k → v.ownBlock = some k ∨ w.heap.size ≤ k) := by
  obtain ⟨i88, hi, hz0, hz1, hz2⟩ := info_parts info88
  obtain ⟨a, c, rfl, hac, hl, h⟩ := hr
  cases a with
  | none =>
    have hr0 : r = [] := by
      cases r with
      | nil => rfl
      | cons x r => obtain ⟨_, _, h0, _⟩ := h 0 x rfl; cases h0
    subst hr0
    rw [hac rfl]
    exact ⟨v, w, run_append_owned_none (P := Try.prog) (w := w) 0 33 ty 88 i88 35 Try.underlying33 hi v n xs hown, by simpa [totsCells] using hown, ⟨rfl, rfl, rfl, Nat.le_refl _, fun _ _ _ => rfl⟩, fun k hk => .inl hk⟩
  | some ad =>
    have hcs : ∀ j u, (totsCells r)[j]? = some u → w.cell? (ad.add j) = some u := by
      intro j u hj
      have hne : r ≠ [] := by rintro rfl; simp [totsCells] at hj
      obtain ⟨x0, hx0⟩ : ∃ x, r[0]? = some x := by cases r with
        | nil => exact absurd rfl hne
        | cons x r => exact ⟨x, rfl⟩
      obtain ⟨L, off, hLo, _⟩ := h 0 x0 hx0
      cases hLo
      refine tots_cells (fun i x hx => ?_) j u hj
      obtain ⟨L', off', e, _, h2⟩ := h i x hx
      cases e
      exact h2
    obtain ⟨v', w', hrun, h1, h2, _, h3⟩ := run_append_at (P := Try.prog) w 33 ty 88 i88 (.agg zero88) 35 64 Try.underlying33 hi hz0 hz1 hz2 (by simp [Value.cells, zero88]) (by decide) v n xs hown ad r.length c (totsCells r) (totsCells_length r) hcs (fun u hu => by
      obtain ⟨x, _, hx⟩ := List.mem_flatMap.1 hu
      exact totCells_one x u hx) (by simp only [maxLen]; omega) (by omega)
    exact ⟨v', w', hrun, h1, h2, h3⟩
/-- v is a slice of slices of totals. -/
def RowsAt (w : World) (v : Value) (rows : List (List (Nm × Int))) : Prop :=
  ∃ a c, v = .slice a rows.length c ∧ rows.length ≤ 1000000 ∧ ∀ i r, rows[i]? = some r → ∃ L off rv, a = some ⟨L, off, none⟩ ∧ L < w.heap.size ∧ w.cell? ⟨L, off + i, none⟩ = some rv ∧ TotsAt w rv r
end Go.Proofs.Ytckcamlicgdklaa
