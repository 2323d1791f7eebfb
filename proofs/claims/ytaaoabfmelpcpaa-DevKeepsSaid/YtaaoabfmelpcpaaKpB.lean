/- A row of strings at an offset: append. -/
import Derived.Test.YtaaoabfmelpcpaaKpA
import Derived.ArgAppend
namespace Go.Proofs.Ytaaoabfmelpcpaa
open Go.RowKit Go.Mo

theorem info9 : (Try.prog.info? 9).map (fun i => (i.zero, i.size, i.bytes)) = some (some (.string ⟨#[]⟩), 1, 16) := by kernel_rfl

/-- v is a slice of strings in the block g, which is its own. -/
def StrAt (w : World) (g : Nat) (v : Value) (xs : List Value) : Prop :=
  ∃ o cap cur, v = .slice (some ⟨g, o, none⟩) xs.length cap ∧ w.heap[g]? = some (.cells cur 9 (0, 0)) ∧ cur.size = o + cap ∧ xs.length ≤ cap ∧ cap ≤ maxLen ∧ ∀ j x, xs[j]? = some x → cur[o + j]? = some x

theorem StrAt.mod {w w' : World} {g : Nat} {v : Value} {xs : List Value} (h : StrAt w g v xs) {S : Nat → Prop} (hm : Mod S w w') (hg : ¬ S g) : StrAt w' g v xs := by
  obtain ⟨o, cap, cur, hv, hh, h1⟩ := h
  exact ⟨o, cap, cur, hv, (hm.block g (ltB hh) hg).trans hh, h1⟩

theorem run_append_str {w : World} {g : Nat} {v : Value} {xs : List Value} (h : StrAt w g v xs) (ty : TypeId) (ad : Addr) (c : Nat) (s : ByteArray) (hs : w.cell? (ad.add 0) = some (.string s)) (hn : xs.length < 1000000) :
    ∃ v' w' g', (Builtin.append_ #[57, 57] ty #[v, .slice (some ad) 1 c]).run Try.prog w = .ok v' w' ∧ StrAt w' g' v' (xs ++ [.string s]) ∧ Mod (fun j => j = g) w w' ∧ (g' = g ∨ w.heap.size ≤ g') := by
  obtain ⟨i0, hi, hz0, hz1, hz2⟩ := info_parts info9
  obtain ⟨o, cap, cur, rfl, hh, hsz, hle, hmx, hx⟩ := h
  have hnews : ∀ j u, ([.string s] : List Value)[j]? = some u → w.cell? (ad.add j) = some u := by
    intro j u hj
    cases j with
    | zero => simp at hj; subst hj; exact hs
    | succ j => simp at hj
  have h1 : ∀ u ∈ ([.string s] : List Value), u.oneCell' = true := by intro u hu; simp at hu; subst hu; rfl
  have hcell : ∀ j, w.cell? ⟨g, j, none⟩ = cur[j]? := fun j => cellB hh j
  by_cases hr : xs.length + 1 ≤ cap
  · have hrun := run_append_room_cells (P := Try.prog) w 57 ty 9 i0 Try.underlying57 hi g o xs.length cap ad 1 c [.string s] (by rw [hz1]; rfl) hnews h1 hr
      (fun j hj => by
        simp at hj
        subst hj
        rw [hz1, hcell, Array.getElem?_eq_getElem (by omega)]; rfl)
      (fun j hj => frozB hh _)
    rw [hz1] at hrun
    refine ⟨_, _, g, hrun, ?_⟩
    have hset : w.setCells g (o + xs.length * 1) [.string s] = w.setCell ⟨g, o + xs.length, none⟩ (.string s) := by simp [World.setCells]
    rw [hset]
    refine ⟨⟨o, cap, cur.setIfInBounds (o + xs.length) (.string s), by simp, setB hh _ _, by simpa using hsz, by simpa using hr, hmx, fun j x hj => ?_⟩, (Mod.refl (fun j => j = g) w).setCell (fun _ => rfl) _, .inl rfl⟩
    rw [Array.getElem?_setIfInBounds]
    by_cases e : j < xs.length
    · rw [if_neg (by omega)]
      exact hx j x (by rwa [List.getElem?_append_left e] at hj)
    · have : j = xs.length := by
        have := (List.getElem?_eq_some_iff.1 hj).1
        simp at this
        omega
      subst this
      simp at hj
      subst hj
      rw [if_pos rfl, if_pos (by omega)]
  · obtain ⟨v', w', hrun, hown, hg⟩ := run_append_arg_grows (P := Try.prog) w 57 ty 9 i0 (.string ⟨#[]⟩) 1 16 Try.underlying57 hi hz0 hz1 hz2 rfl (by decide) ⟨g, o, none⟩ xs.length cap xs (by simp)
      (fun j u hj => by rw [add0, hcell]; exact hx j u hj) ad 1 c [.string s] rfl hnews (by omega) (by simp [maxLen]; omega) (by omega)
    rcases hown.2 with ⟨_, h0⟩ | ⟨g', cap', cur', rfl, hb, hh', hle', hmx', hsz', ht⟩
    · omega
    · refine ⟨_, w', g', hrun, ⟨0, cap', cur', by simp, hh', by simpa using hsz', by simpa using hle', hmx', fun j x hj => ?_⟩, (Mod.refl _ w).grown hg (fun k hk _ => by cases hk), .inr hb⟩
      have hjl := (List.getElem?_eq_some_iff.1 hj).1
      simp at hjl
      rw [Nat.zero_add, ← Array.getElem?_toList]
      have : (cur'.toList.take ((xs.length + 1) * 1))[j]? = (xs ++ [.string s])[j]? := by rw [ht]
      rw [List.getElem?_take_of_lt (by omega)] at this
      rw [this]; exact hj
end Go.Proofs.Ytaaoabfmelpcpaa
