/- The rows of what each sector may have. -/
import Derived.Test.YtaaoabfmelpcpaaKpB
namespace Go.Proofs.Ytaaoabfmelpcpaa
open Go.RowKit Go.Mo

def strV (b : Bs) : Value := .string ⟨b.toArray⟩

structure MayAt (w : World) (G : Nat) (gs : List Nat) (vs : List Value) (M : Nat → List Bs) : Prop where
  row : w.heap[G]? = some (.cells vs.toArray 57 (0, 0))
  len : gs.length ≤ vs.length
  at_ : ∀ (k g : Nat) (v : Value), gs[k]? = some g → vs[k]? = some v → StrAt w g v ((M k).map strV)
  inj : ∀ (i j g : Nat), gs[i]? = some g → gs[j]? = some g → i = j
  out : G ∉ gs

section
variable {w w' : World} {G : Nat} {gs : List Nat} {vs : List Value} {M : Nat → List Bs}

theorem MayAt.lt (h : MayAt w G gs vs M) {k g : Nat} (hg : gs[k]? = some g) : g < w.heap.size := by
  have hk := (List.getElem?_eq_some_iff.1 hg).1
  have hkv : k < vs.length := Nat.lt_of_lt_of_le hk h.len
  obtain ⟨_, _, _, _, hh, _⟩ := h.at_ k g _ hg (List.getElem?_eq_getElem hkv)
  exact ltB hh

theorem MayAt.mod (h : MayAt w G gs vs M) {S : Nat → Prop} (hm : Mod S w w') (hG : ¬ S G) (hg : ∀ g ∈ gs, ¬ S g) : MayAt w' G gs vs M :=
  ⟨(hm.block G (ltB h.row) hG).trans h.row, h.len, fun k g v a b => (h.at_ k g v a b).mod hm (hg g (List.mem_of_getElem? a)), h.inj, h.out⟩

theorem MayAt.put (h : MayAt w G gs vs M) {k g : Nat} (hg : gs[k]? = some g) (hm : Mod (fun j => j = g) w w') {g' : Nat} {v' : Value} {xs : List Bs} (hs : StrAt w' g' v' (xs.map strV)) (hg' : g' = g ∨ w.heap.size ≤ g') :
    MayAt (w'.setCell ⟨G, k, none⟩ v') G (gs.set k g') (vs.set k v') (fun j => if j = k then xs else M j) := by
  have hGg : G ≠ g := fun e => h.out (e ▸ List.mem_of_getElem? hg)
  have hGl := ltB h.row
  have hGg' : g' ≠ G := by
    rcases hg' with e | e
    · rw [e]; exact hGg.symm
    · omega
  have hk := (List.getElem?_eq_some_iff.1 hg).1
  have hmS : Mod (fun j => j = G) w' (w'.setCell ⟨G, k, none⟩ v') := (Mod.refl (fun j => j = G) w').setCell (fun _ => rfl) _
  have hGw : w'.heap[G]? = some (.cells vs.toArray 57 (0, 0)) := (hm.block G hGl (fun e => hGg e)).trans h.row
  refine ⟨?_, by simpa using h.len, ?_, ?_, ?_⟩
  · rw [setB hGw k v']; simp
  · intro j gj vj a b
    by_cases e : j = k
    · subst e
      rw [List.getElem?_set_self hk] at a
      rw [List.getElem?_set_self (Nat.lt_of_lt_of_le hk h.len)] at b
      cases a; cases b
      rw [if_pos rfl]
      exact hs.mod hmS (fun e => hGg' e)
    · rw [List.getElem?_set_ne (fun q => e q.symm)] at a b
      rw [if_neg e]
      have hne : gj ≠ g := by
        intro q
        subst q
        exact e (h.inj _ _ _ a hg)
      exact ((h.at_ j gj vj a b).mod hm hne).mod hmS (fun q => h.out (q ▸ List.mem_of_getElem? a))
  · intro i j x a b
    have hnew : ∀ y, gs[y]? = some g' → y = k := by
      intro y hy
      rcases hg' with e | e
      · subst e; exact h.inj _ _ _ hy hg
      · have := h.lt hy; omega
    by_cases ei : i = k
    · by_cases ej : j = k
      · omega
      · subst ei
        rw [List.getElem?_set_self hk] at a
        rw [List.getElem?_set_ne (fun q => ej q.symm)] at b
        cases a
        exact (hnew j b).symm
    · rw [List.getElem?_set_ne (fun q => ei q.symm)] at a
      by_cases ej : j = k
      · subst ej
        rw [List.getElem?_set_self hk] at b
        cases b
        exact hnew i a
      · rw [List.getElem?_set_ne (fun q => ej q.symm)] at b
        exact h.inj _ _ _ a b
  · intro q
    rcases List.mem_or_eq_of_mem_set q with q | q
    · exact h.out q
    · exact hGg' q.symm

/-- One row more. -/
theorem MayAt.add (h : MayAt w G gs vs M) (hl : gs.length < vs.length) (hm : Mod (fun _ => False) w w') {g' : Nat} {v' : Value} {xs : List Bs} (hs : StrAt w' g' v' (xs.map strV)) (hg' : w.heap.size ≤ g') (hM : M gs.length = xs) :
    MayAt (w'.setCell ⟨G, gs.length, none⟩ v') G (gs ++ [g']) (vs.set gs.length v') M := by
  have hGl := ltB h.row
  have hmS : Mod (fun j => j = G) w' (w'.setCell ⟨G, gs.length, none⟩ v') := (Mod.refl (fun j => j = G) w').setCell (fun _ => rfl) _
  have hGw : w'.heap[G]? = some (.cells vs.toArray 57 (0, 0)) := (hm.block G hGl (fun e => e)).trans h.row
  refine ⟨?_, by simp; omega, ?_, ?_, ?_⟩
  · rw [setB hGw gs.length v']; simp
  · intro j gj vj a b
    by_cases e : j < gs.length
    · rw [List.getElem?_append_left e] at a
      rw [List.getElem?_set_ne (by omega)] at b
      exact ((h.at_ j gj vj a b).mod hm (fun q => q)).mod hmS (fun q => h.out (q ▸ List.mem_of_getElem? a))
    · have hj : j = gs.length := by
        have := (List.getElem?_eq_some_iff.1 a).1
        simp at this
        omega
      subst hj
      simp at a
      rw [List.getElem?_set_self hl] at b
      cases b
      subst a
      rw [hM]
      exact hs.mod hmS (fun q => by omega)
  · intro i j x a b
    have key : ∀ y, (gs ++ [g'])[y]? = some x → (gs[y]? = some x ∧ x < w.heap.size) ∨ (y = gs.length ∧ x = g') := by
      intro y hy
      by_cases e : y < gs.length
      · rw [List.getElem?_append_left e] at hy
        exact .inl ⟨hy, h.lt hy⟩
      · have hj : y = gs.length := by
          have := (List.getElem?_eq_some_iff.1 hy).1
          simp at this
          omega
        subst hj
        simp at hy
        exact .inr ⟨rfl, hy.symm⟩
    rcases key i a with ⟨q1, q2⟩ | ⟨q1, q2⟩ <;> rcases key j b with ⟨r1, r2⟩ | ⟨r1, r2⟩
    · exact h.inj _ _ _ q1 r1
    · omega
    · omega
    · omega
  · intro q
    rcases List.mem_append.1 q with q | q
    · exact h.out q
    · simp at q; omega
end
end Go.Proofs.Ytaaoabfmelpcpaa
