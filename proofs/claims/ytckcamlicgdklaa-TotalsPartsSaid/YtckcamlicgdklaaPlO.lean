/- Plain laws of the order of names. -/
import Derived.Test.YtckcamlicgdklaaTpB
import Derived.Test.YtckcamlicgdklaaTpG
import Derived.Sort.Statements
import Derived.Shelf.SlSortCmp.Insertion
namespace Go.Proofs.Ytckcamlicgdklaa
open Go.RowKit Go.Mo Go.Sort

theorem cb_swap : ∀ p q : Bs, Lib.compareBytes q p = - Lib.compareBytes p q
  | [], [] => rfl
  | [], _ :: _ => rfl
  | _ :: _, [] => rfl
  | a :: p, b :: q => by
    have ih := cb_swap p q
    unfold Lib.compareBytes
    by_cases h1 : a < b
    · have h2 : ¬ b < a := UInt8.lt_asymm h1
      simp [h1, h2]
    · by_cases h2 : b < a
      · simp [h1, h2]
      · simp [h1, h2, ih]
theorem cb_zero : ∀ p q : Bs, Lib.compareBytes p q = 0 ↔ p = q
  | [], [] => by simp [Lib.compareBytes]
  | [], _ :: _ => by simp [Lib.compareBytes]
  | _ :: _, [] => by simp [Lib.compareBytes]
  | a :: p, b :: q => by
    have ih := cb_zero p q
    unfold Lib.compareBytes
    by_cases h1 : a < b
    · have : a ≠ b := UInt8.ne_of_lt h1
      simp [h1, this]
    · by_cases h2 : b < a
      · have : b ≠ a := UInt8.ne_of_lt h2
        simp [h1, h2, Ne.symm this]
      · have e : a = b := UInt8.le_antisymm (UInt8.not_lt.1 h2) (UInt8.not_lt.1 h1)
        subst e
        simp [h1, ih]
theorem cb_trans : ∀ p q r : Bs, Lib.compareBytes p q < 0 → Lib.compareBytes q r < 0 → Lib.compareBytes p r < 0
  | [], [], r, h, _ => by simp [Lib.compareBytes] at h
  | [], _ :: _, [], _, h => by simp [Lib.compareBytes] at h
  | [], _ :: _, _ :: _, _, _ => by simp [Lib.compareBytes]
  | _ :: _, [], r, h, _ => by simp [Lib.compareBytes] at h
  | _ :: _, _ :: _, [], _, h => by simp [Lib.compareBytes] at h
  | a :: p, b :: q, c :: r, h, k => by
    have ih := cb_trans p q r
    unfold Lib.compareBytes at h k ⊢
    by_cases h1 : a < b
    · by_cases k1 : b < c
      · simp [UInt8.lt_trans h1 k1]
      · by_cases k2 : c < b
        · simp [k1, k2] at k
        · have e : b = c := UInt8.le_antisymm (UInt8.not_lt.1 k2) (UInt8.not_lt.1 k1)
          subst e
          simp [h1]
    · by_cases h2 : b < a
      · simp [h1, h2] at h
      · have e : a = b := UInt8.le_antisymm (UInt8.not_lt.1 h2) (UInt8.not_lt.1 h1)
        subst e
        simp only [h1, if_false] at h
        by_cases k1 : a < c
        · simp [k1]
        · by_cases k2 : c < a
          · simp [k1, k2] at k
          · simp only [k1, k2, if_false] at k ⊢
            exact ih h k
theorem ordN_swap (a b : Nm) : ordN b a = - ordN a b := by
  unfold ordN orI
  have h1 := cb_swap a.policy b.policy
  have h2 := cb_swap a.name b.name
  rw [h1, h2]
  by_cases h : Lib.compareBytes a.policy b.policy = 0
  · rw [if_pos (by omega), if_pos h]
  · rw [if_neg (by omega), if_neg h]
theorem ordN_zero (a b : Nm) : ordN a b = 0 ↔ a = b := by
  unfold ordN orI
  have h1 := cb_zero a.policy b.policy
  have h2 := cb_zero a.name b.name
  constructor
  · intro h
    by_cases k : Lib.compareBytes a.policy b.policy = 0
    · rw [if_pos k] at h
      obtain ⟨p, n, _, _⟩ := a
      obtain ⟨p', n', _, _⟩ := b
      have e1 := h1.1 k
      have e2 := h2.1 h
      simp only at e1 e2
      subst e1 e2
      rfl
    · rw [if_neg k] at h
      exact absurd h k
  · rintro rfl
    rw [if_pos (h1.2 rfl)]
    exact h2.2 rfl
theorem ordN_trans (a b c : Nm) (h : ordN a b < 0) (k : ordN b c < 0) : ordN a c < 0 := by
  unfold ordN orI at *
  by_cases h1 : Lib.compareBytes a.policy b.policy = 0
  · rw [if_pos h1] at h
    have e := (cb_zero _ _).1 h1
    by_cases k1 : Lib.compareBytes b.policy c.policy = 0
    · rw [if_pos k1] at k
      rw [if_pos (by rw [e]; exact k1)]
      exact cb_trans _ _ _ h k
    · rw [if_neg k1] at k
      rw [e, if_neg k1]; exact k
  · rw [if_neg h1] at h
    by_cases k1 : Lib.compareBytes b.policy c.policy = 0
    · have e := (cb_zero _ _).1 k1
      rw [← e, if_neg h1]; exact h
    · rw [if_neg k1] at k
      have := cb_trans _ _ _ h k
      rw [if_neg (by omega)]; exact this
/-- Names in order: a is ahead of b. -/
def ltN (a b : Nm) : Prop := ordN a b < 0
theorem ltN_irrefl (a : Nm) : ¬ ltN a a := by
  have := (ordN_zero a a).2 rfl
  unfold ltN; omega
theorem ltN_trans {a b c : Nm} (h : ltN a b) (k : ltN b c) : ltN a c := ordN_trans a b c h k
theorem ltN_total {a b : Nm} (h : ¬ ltN a b) (k : a ≠ b) : ltN b a := by
  have h1 := ordN_swap a b
  have h2 := ordN_zero a b
  unfold ltN at *
  have : ordN a b ≠ 0 := fun q => k (h2.1 q)
  omega
abbrev cmpT (x y : Nm × Int) : Int := ordN x.1 y.1
theorem swoT : SWO (ltOf cmpT) where
  irrefl x := by
    simp only [ltOf, decide_eq_false_iff_not]
    exact ltN_irrefl x.1
  trans x y z h k := by
    simp only [ltOf, decide_eq_true_eq] at *
    exact ordN_trans _ _ _ h k
  ntrans x y z h k := by
    simp only [ltOf, decide_eq_false_iff_not] at *
    intro q
    have q' : ltN x.1 z.1 := q
    by_cases e : x.1 = y.1
    · rw [e] at q'; exact k q'
    · have h' : ltN y.1 x.1 := ltN_total h e
      exact k (ltN_trans h' q')
end Go.Proofs.Ytckcamlicgdklaa
