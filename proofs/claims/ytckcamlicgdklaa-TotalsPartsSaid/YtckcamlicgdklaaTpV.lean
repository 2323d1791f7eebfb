/- slices.Grow of nothing. -/
import Derived.Test.YtckcamlicgdklaaTpU
import Derived.Test.YtckcamlicgdklaaS3
namespace Go.Proofs.Ytckcamlicgdklaa
open Go.RowKit Go.Mo Go.Sort

theorem grow_calls (n : Nat) (hn : n ≤ 1000000) (w : World) : Calls Try.prog 34 #[.slice none 0 0, .int .i64 n] w fun e w' => ∃ v, e = .returned v ∧ w'.ownsRow 0 88 35 v 0 [] ∧ (∀ k, v.ownBlock = some k → w.heap.size ≤ k) ∧ Mod (fun _ => False) w w' := by
  by_cases h0 : n = 0
  · subst h0
    have h := Proofs.Any8.slices_Grow_room Try.growTot none 0 0 0 w (Nat.le_refl _) (by omega) (by omega) (Nat.le_refl _)
    change Calls Try.prog 34 _ _ _ at h
    refine h.mono ?_
    rintro e w' ⟨rfl, rfl⟩
    exact ⟨_, rfl, ⟨rfl, .inl ⟨rfl, rfl⟩⟩, (fun k hk => by cases hk), Mod.refl _ _⟩
  · obtain ⟨i88, hi, hz0, hz1, hz2⟩ := info_parts info88
    have h := Proofs.Any8.slices_Grow_grow Try.growTot i88 (.agg zero88) hi hz0 (by rw [hz1]; omega) none 0 0 n [] w (Nat.le_refl _) (by omega) (by rw [hz2]; omega) (by omega) (by simp) (fun _ => rfl) (fun a ha => by cases ha)
    change Calls Try.prog 34 _ _ _ at h
    refine h.mono ?_
    rintro e w' ⟨rfl, rfl⟩
    have hge := grownCap_ge w (0 + n) 0 88
    have hle := grownCap_le_maxLen w (0 + n) 0 88 (by simp only [maxLen]; omega)
    refine ⟨_, rfl, ⟨rfl, .inr ⟨_, _, _, rfl, Nat.zero_le _, newB w.drew _, Nat.zero_le _, hle, ?_, by simp⟩⟩, fun k hk => ?_, (Mod.refl _ w).drew.alloc _⟩
    · have hzs : zero88.size = 35 := by simp [zero88]
      simp only [List.toArray, Array.size_append, size_zeroCells, Value.cells, hzs]
      change 0 + (0 + n - 0) * 35 + (grownCap w (0 + n) 0 88 - (0 + n)) * 35 = grownCap w (0 + n) 0 88 * 35
      omega
    · cases hk; exact Nat.le_refl _
end Go.Proofs.Ytckcamlicgdklaa
