/- DevKeeps: what is not gone through; a row of one string, its last one. -/
import Derived.Test.YtaaoabfmelpcpaaKpC
import Derived.Test.YtaaoabfmelpcpaaQuB
namespace Go.Proofs.Ytaaoabfmelpcpaa
open Go.RowKit Go.Mo

theorem StrAt.one (w : World) (u : Value) : StrAt (w.alloc (.cells #[u] 9)) w.heap.size (.slice (some ⟨w.heap.size, 0, none⟩) 1 1) [u] :=
  ⟨0, 1, #[u], rfl, newB _ _, by simp, by simp, by simp [maxLen], fun j x hj => by simpa using hj⟩

/-- What is left of a row when all but its last one is cut off. -/
theorem StrAt.cut {w : World} {g o cap : Nat} {xs : List Value} {u : Value} (h : StrAt w g (.slice (some ⟨g, o, none⟩) xs.length cap) xs) (hu : xs.getLast? = some u) :
    StrAt w g (.slice (some ⟨g, o + (xs.length - 1), none⟩) 1 (cap - (xs.length - 1))) [u] := by
  obtain ⟨o', cap', cur, hv, hh, hsz, hle, hmx, hx⟩ := h
  cases hv
  have hne : xs ≠ [] := by rintro rfl; simp at hu
  have hpos := List.length_pos_iff.2 hne
  refine ⟨o + (xs.length - 1), cap - (xs.length - 1), cur, rfl, hh, by omega, by simp; omega, by omega, fun j x hj => ?_⟩
  have hj0 : j = 0 := by
    have := (List.getElem?_eq_some_iff.1 hj).1
    simpa using this
  subst hj0
  simp at hj
  subst hj
  rw [Nat.add_zero]
  refine hx _ _ ?_
  rw [← hu, List.getLast?_eq_getElem?]

set_option maxRecDepth 100000 in
theorem devkeeps_small (w : World) (s arm : Int) (a : Option Addr) (n c : Nat) (vb : Value) (h : s < 1 ∨ s > 40 ∨ (n : Int) > 120 ∨ arm < 0) :
    Calls Try.prog 6 #[.int .i64 s, .slice a n c, .int .i64 arm, vb] w fun e w' => e = .returned (.bool true) ∧ Mod (fun _ => False) w w' := by
  have HA := Lib.hid (awake_ok w)
  by_cases h1 : s < 1
  · clear h
    go_enter Try.func6, Try.ntmps6
    go_wp2_with (go_at_call 8; refine HA.out.mono ?_; rintro e w1 ⟨rfl, hm1⟩; have HM := Lib.hid hm1; clear hm1)
    go_ret
    exact ⟨rfl, HM.out⟩
  by_cases h2 : s > 40
  · clear h
    go_enter Try.func6, Try.ntmps6
    go_wp2_with (go_at_call 8; refine HA.out.mono ?_; rintro e w1 ⟨rfl, hm1⟩; have HM := Lib.hid hm1; clear hm1)
    go_ret
    exact ⟨rfl, HM.out⟩
  by_cases h3 : (n : Int) > 120
  · clear h
    go_enter Try.func6, Try.ntmps6
    go_wp2_with (go_at_call 8; refine HA.out.mono ?_; rintro e w1 ⟨rfl, hm1⟩; have HM := Lib.hid hm1; clear hm1)
    go_ret
    exact ⟨rfl, HM.out⟩
  have h4 : arm < 0 := by omega
  clear h
  go_enter Try.func6, Try.ntmps6
  go_wp2_with (go_at_call 8; refine HA.out.mono ?_; rintro e w1 ⟨rfl, hm1⟩; have HM := Lib.hid hm1; clear hm1)
  go_ret
  exact ⟨rfl, HM.out⟩
end Go.Proofs.Ytaaoabfmelpcpaa
