/- What a deed does to the sectors in use: plain lists. -/
import Derived.Test.YtaaoabfmelpcpaaDevX
namespace Go.Proofs.Ytaaoabfmelpcpaa
open Go.RowKit Go.Mo

def keysOf {α : Type} (m : List (Int × α)) : List Int := m.map (·.1)

theorem mem_keys_up {α : Type} (j k : Int) (v : α) : ∀ m : List (Int × α), j ∈ keysOf (up m k v) ↔ j = k ∨ j ∈ keysOf m
  | [] => by simp [keysOf, up]
  | y :: r => by
    have ih := mem_keys_up j k v r
    simp only [keysOf] at ih ⊢
    by_cases h : y.1 = k
    · simp only [up, h, if_true, List.map_cons, List.mem_cons]
      constructor
      · rintro (q | q)
        · exact .inl q
        · exact .inr (.inr q)
      · rintro (q | q | q)
        · exact .inl q
        · exact .inl q
        · exact .inr q
    · simp only [up, h, if_false, List.map_cons, List.mem_cons, ih]
      constructor
      · rintro (q | q | q)
        · exact .inr (.inl q)
        · exact .inl q
        · exact .inr (.inr q)
      · rintro (q | q | q)
        · exact .inr (.inl q)
        · exact .inl q
        · exact .inr (.inr q)
theorem nodup_keys_up {α : Type} (k : Int) (v : α) : ∀ m : List (Int × α), (keysOf m).Nodup → (keysOf (up m k v)).Nodup
  | [], _ => by simp [keysOf, up]
  | y :: r, h => by
    have hm := mem_keys_up y.1 k v r
    have ih := nodup_keys_up k v r
    simp only [keysOf, List.map_cons, List.nodup_cons] at h ih hm ⊢
    by_cases e : y.1 = k
    · subst e
      simp only [up, if_true, List.map_cons, List.nodup_cons]
      exact h
    · simp only [up, e, if_false, List.map_cons, List.nodup_cons]
      exact ⟨fun q => (hm.1 q).elim e h.1, ih h.2⟩
theorem lk_isNone {α : Type} (k : Int) : ∀ m : List (Int × α), (lk m k).isNone = true ↔ k ∉ keysOf m
  | [] => by simp [lk, keysOf]
  | y :: r => by
    have ih := lk_isNone k r
    simp only [keysOf] at ih ⊢
    by_cases e : y.1 = k
    · simp [lk, e]
    · simp only [lk, e, if_false, List.map_cons, List.mem_cons, not_or, ih]
      exact ⟨fun q => ⟨fun h => e h.symm, q⟩, fun q => q.2⟩
theorem nodup_le : ∀ (l l' : List Int), l.Nodup → (∀ x ∈ l, x ∈ l') → l.length ≤ l'.length
  | [], _, _, _ => by simp
  | x :: r, l', h, hs => by
    rw [List.nodup_cons] at h
    have hx := hs x (by simp)
    have := nodup_le r (l'.erase x) h.2 (fun y hy => (List.mem_erase_of_ne (fun e => h.1 (by rw [← e]; exact hy))).2 (hs y (by simp [hy])))
    have e := List.length_erase_of_mem hx
    have : 0 < l'.length := List.length_pos_of_mem hx
    simp only [List.length_cons]
    omega
theorem keys_written : ∀ (n : Nat) (l : List (Int × Bs)), l.length = n → (keysOf (written l)).Nodup ∧ ∀ k, k ∈ keysOf (written l) ↔ k ∈ keysOf l
  | 0, l, h => by
    have : l = [] := List.eq_nil_of_length_eq_zero h
    subst this; simp [written, keysOf]
  | n + 1, l, h => by
    have hne : l ≠ [] := by rintro rfl; simp at h
    have e := List.dropLast_concat_getLast hne
    have ih := keys_written n l.dropLast (by simp [h])
    rw [← e, written_snoc, wr1]
    refine ⟨nodup_keys_up _ _ _ ih.1, fun k => ?_⟩
    rw [mem_keys_up, ih.2]
    simp only [keysOf, List.map_append, List.map_cons, List.map_nil, List.mem_append, List.mem_singleton]
    exact or_comm
theorem keepL_nodup (p : Nat → Bool) : ∀ (l : List (Int × Bs)) (i : Nat) (acc : List (Int × Bs)), (keysOf acc).Nodup → (keysOf (keepL p i l acc)).Nodup
  | [], _, acc, h => by simpa [keepL] using h
  | y :: r, i, acc, h => by
    simp only [keepL]
    split
    · exact keepL_nodup p r _ _ (nodup_keys_up _ _ _ h)
    · exact keepL_nodup p r _ _ h
theorem keepL_mem (p : Nat → Bool) (k : Int) : ∀ (l : List (Int × Bs)) (i : Nat) (acc : List (Int × Bs)), k ∈ keysOf (keepL p i l acc) → k ∈ keysOf acc ∨ k ∈ keysOf l
  | [], _, acc, h => by simp [keepL] at h; exact .inl h
  | y :: r, i, acc, h => by
    simp only [keepL] at h
    have hr : ∀ q, k ∈ keysOf r → (q ∨ k ∈ keysOf (y :: r)) := fun q hk => .inr (by simp only [keysOf, List.map_cons, List.mem_cons] at hk ⊢; exact .inr hk)
    split at h
    · rcases keepL_mem p k r _ _ h with q | q
      · rcases (mem_keys_up _ _ _ _).1 q with q | q
        · exact .inr (by simp [keysOf, q])
        · exact .inl q
      · exact hr _ q
    · rcases keepL_mem p k r _ _ h with q | q
      · exact .inl q
      · exact hr _ q

def uk (d : Dv) : List Int := keysOf d.kept ++ keysOf ((written d.waiting).filter (notKept d))
theorem used_uk (d : Dv) : used d = (uk d).length := by simp [used, uk, keysOf]
theorem mem_uk (d : Dv) (k : Int) : k ∈ uk d ↔ k ∈ keysOf d.kept ∨ k ∈ keysOf d.waiting := by
  have hw := (keys_written _ d.waiting rfl).2 k
  simp only [uk, List.mem_append]
  constructor
  · rintro (q | q)
    · exact .inl q
    · simp only [keysOf, List.mem_map, List.mem_filter] at q
      obtain ⟨x, ⟨hx, _⟩, rfl⟩ := q
      exact .inr (hw.1 (by simp only [keysOf, List.mem_map]; exact ⟨x, hx, rfl⟩))
  · rintro (q | q)
    · exact .inl q
    · by_cases hk : k ∈ keysOf d.kept
      · exact .inl hk
      · have := hw.2 q
        simp only [keysOf, List.mem_map] at this
        obtain ⟨x, hx, rfl⟩ := this
        refine .inr ?_
        simp only [keysOf, List.mem_map, List.mem_filter]
        exact ⟨x, ⟨hx, by rw [notKept, lk_isNone]; exact hk⟩, rfl⟩
theorem uk_nodup (d : Dv) (h : (keysOf d.kept).Nodup) : (uk d).Nodup := by
  rw [uk, List.nodup_append]
  refine ⟨h, ?_, ?_⟩
  · have := (keys_written _ d.waiting rfl).1
    simp only [keysOf] at this ⊢
    exact this.sublist (List.Sublist.map _ List.filter_sublist)
  · intro a ha b hb e
    subst e
    simp only [keysOf, List.mem_map, List.mem_filter] at hb
    obtain ⟨x, ⟨_, hx⟩, rfl⟩ := hb
    rw [notKept, lk_isNone] at hx
    exact hx ha
theorem used_le (d d' : Dv) (h : (keysOf d.kept).Nodup) (hs : ∀ k, k ∈ uk d → k ∈ uk d') : used d ≤ used d' := by
  rw [used_uk, used_uk]; exact nodup_le _ _ (uk_nodup d h) hs
theorem fresh_iff (d : Dv) (k : Int) : fresh d k = true ↔ k ∉ uk d := by
  have hc := written_count k _ d.waiting rfl
  rw [mem_uk, not_or, fresh, Bool.and_eq_true, lk_isNone, decide_eq_true_eq, hc]
  refine and_congr Iff.rfl ?_
  constructor
  · intro h q
    simp only [keysOf, List.mem_map] at q
    obtain ⟨x, hx, rfl⟩ := q
    have h0 : (d.waiting.filter fun y => decide (y.1 = x.1)).length = 0 := by simpa using h
    have := List.eq_nil_of_length_eq_zero h0
    have hm : x ∈ d.waiting.filter fun y => decide (y.1 = x.1) := by simp [hx]
    rw [this] at hm
    cases hm
  · intro h
    have : d.waiting.filter (fun y => decide (y.1 = k)) = [] := by
      rw [List.filter_eq_nil_iff]
      intro y hy q
      exact h (by simp only [keysOf, List.mem_map]; exact ⟨y, hy, by simpa using q⟩)
    rw [this]; rfl

/-! What a deed does, of a device. -/
def dd (d : Dv) (x : Deed) : Dv :=
  if pickM x.what 8 = 0 then writeD d (max x.at_ (-1)) (wrB x)
  else if pickM x.what 8 = 2 then flushD d
  else if pickM x.what 8 = 3 then armD d x.n
  else if pickM x.what 8 = 4 then { d with down := true }
  else if pickM x.what 8 = 5 then wakeD d x.bits
  else d
def eb (d : Dv) (x : Deed) : Bs := if pickM x.what 8 = 1 then readB' (some d) x.at_ else []
def ee (d : Dv) (x : Deed) : Int :=
  if pickM x.what 8 = 0 then writeE d (max x.at_ (-1)) (wrB x).length
  else if pickM x.what 8 = 1 then readE d x.at_
  else if pickM x.what 8 = 2 then flushE d
  else 0
def ei (d : Dv) (x : Deed) : Bool := if pickM x.what 8 = 0 then true else if pickM x.what 8 = 6 then freshO d x.at_ else false
theorem doesD_some (d : Dv) (x : Deed) : doesD (some d) x = some (dd d x) := by
  rcases pickM_eight x.what with q | q | q | q | q | q | q | q <;> simp [doesD, dd, q]
theorem doesT_some (d : Dv) (x : Deed) : doesT (some d) x = .agg #[.string ⟨(eb d x).toArray⟩, .int .i64 (ee d x), .bool (ei d x)] := by
  rcases pickM_eight x.what with q | q | q | q | q | q | q | q <;> simp [doesT, eb, ee, ei, told, str, writeE', readE', flushE', freshO', q]

theorem used_eq {d d' : Dv} (hk : d'.kept = d.kept) (hw : d'.waiting = d.waiting) : used d' = used d := by
  unfold used
  rw [hk, hw, show notKept d' = notKept d by funext y; simp [notKept, hk]]
theorem turnD_used (d : Dv) : used (turnD d) = used d := used_eq (turnD_kept d) (turnD_wait d)
theorem turnD_quota (d : Dv) : (turnD d).quota = d.quota := by unfold turnD; split <;> rfl
theorem turnD_turns (d : Dv) (h0 : 0 ≤ d.turns) (h1 : d.turns < 1000000) : (turnD d).turns = d.turns + 1 := by
  have : wrap64 (d.turns + 1) = d.turns + 1 := by unfold wrap64; omega
  unfold turnD; split <;> exact this
theorem keepTo_used (d d' : Dv) (p : Nat → Bool) (hkn : (keysOf d.kept).Nodup) (hk : d'.kept = keepTo p d d.waiting.length) (hw : d'.waiting = []) : used d' ≤ used d ∧ (keysOf d'.kept).Nodup := by
  have e : keepTo p d d.waiting.length = keepL p 0 d.waiting d.kept := by simp [keepTo]
  have hn : (keysOf d'.kept).Nodup := by rw [hk, e]; exact keepL_nodup _ _ _ _ hkn
  refine ⟨used_le _ _ hn fun k hkk => ?_, hn⟩
  rw [mem_uk] at hkk ⊢
  rw [hk, hw, e] at hkk
  rcases hkk with q | q
  · exact keepL_mem _ _ _ _ _ q
  · simp [keysOf] at q

/-- What stands of a device with a quota. -/
structure QI (d : Dv) (Q : Int) (n : Nat) : Prop where
  kn : (keysOf d.kept).Nodup
  quota : d.quota = Q
  le : (used d : Int) ≤ Q
  t0 : 0 ≤ d.turns
  t1 : d.turns ≤ n

theorem put_used (d : Dv) (k : Int) (bs : Bs) (hkn : (keysOf d.kept).Nodup) :
    let d' := { d with waiting := d.waiting ++ [(k, bs)] }
    (fresh d k = true → used d' = used d + 1) ∧ (fresh d k = false → used d' = used d) := by
  intro d'
  have hm : ∀ j, j ∈ uk d' ↔ j = k ∨ j ∈ uk d := by
    intro j
    rw [mem_uk, mem_uk]
    simp only [d', keysOf, List.map_append, List.map_cons, List.map_nil, List.mem_append, List.mem_singleton]
    constructor
    · rintro (q | q | q)
      · exact .inr (.inl q)
      · exact .inr (.inr q)
      · exact .inl q
    · rintro (q | q | q)
      · exact .inr (.inr q)
      · exact .inl q
      · exact .inr (.inl q)
  have hn := uk_nodup d hkn
  have hn' := uk_nodup d' hkn
  constructor
  · intro hf
    have hk := (fresh_iff d k).1 hf
    have h1 := nodup_le (k :: uk d) (uk d') (List.nodup_cons.2 ⟨hk, hn⟩) (fun j hj => (hm j).2 (by simpa using hj))
    have h2 := nodup_le (uk d') (k :: uk d) hn' (fun j hj => by simpa using (hm j).1 hj)
    rw [used_uk, used_uk]
    simp only [List.length_cons] at h1 h2
    omega
  · intro hf
    have hk : k ∈ uk d := by
      apply Classical.byContradiction
      intro q
      rw [(fresh_iff d k).2 q] at hf
      cases hf
    have h1 := nodup_le (uk d) (uk d') hn (fun j hj => (hm j).2 (.inr hj))
    have h2 := nodup_le (uk d') (uk d) hn' (fun j hj => ((hm j).1 hj).elim (fun e => e ▸ hk) id)
    rw [used_uk, used_uk]
    omega

structure QStep (d : Dv) (x : Deed) (quota : Int) (n : Nat) : Prop where
  qi : QI (dd d x) quota (n + 1)
  up : d.turns ≤ (dd d x).turns
  one : (dd d x).turns ≤ d.turns + 1
  full : ee d x = 5 → pickM x.what 8 = 0 ∧ freshO d x.at_ = true ∧ (used d : Int) = quota ∧ used (dd d x) = used d ∧ (dd d x).waiting.length = d.waiting.length
  put : pickM x.what 8 = 0 → ee d x = 0 → (dd d x).waiting.length = d.waiting.length + 1 ∧ (freshO d x.at_ = true → used (dd d x) = used d + 1)
  less : pickM x.what 8 ≠ 0 → used (dd d x) ≤ used d

theorem qstep {d : Dv} {quota : Int} {n : Nat} (h : QI d quota n) (hn : n < 1000000) (x : Deed) : QStep d x quota n := by
  have ht : d.turns < 1000000 := by have := h.t1; omega
  have h1 : QI d quota (n + 1) := ⟨h.kn, h.quota, h.le, h.t0, by have := h.t1; omega⟩
  have same : ∀ d' : Dv, d'.kept = d.kept → d'.waiting = d.waiting → d'.quota = d.quota → d'.turns = d.turns → QI d' quota (n + 1) ∧ used d' = used d := by
    intro d' a b c e
    have hu := used_eq a b
    exact ⟨⟨by rw [a]; exact h.kn, by rw [c]; exact h.quota, by rw [hu]; exact h.le, by rw [e]; exact h.t0, by rw [e]; have := h.t1; omega⟩, hu⟩
  have turn : ∀ d' : Dv, QI d' quota n → d'.turns = d.turns → QI (turnD d') quota (n + 1) ∧ d.turns ≤ (turnD d').turns ∧ (turnD d').turns ≤ d.turns + 1 := by
    intro d' a e
    have ha := turnD_turns d' a.t0 (by rw [e]; exact ht)
    have := h.t0
    have := h.t1
    exact ⟨⟨by rw [turnD_kept]; exact a.kn, by rw [turnD_quota]; exact a.quota, by rw [turnD_used]; exact a.le, by omega, by omega⟩, by omega, by omega⟩
  rcases pickM_eight x.what with q | q | q | q | q | q | q | q
  · have e1 : dd d x = writeD d (max x.at_ (-1)) (wrB x) := by simp [dd, q]
    have e2 : ee d x = writeE d (max x.at_ (-1)) (wrB x).length := by simp [ee, q]
    generalize wrB x = bs at e1 e2
    by_cases hc : d.down = false ∧ (0 ≤ max x.at_ (-1) ∧ max x.at_ (-1) < d.sectors) ∧ bs.length = 256
    · have hat : max x.at_ (-1) = x.at_ := by omega
      rw [hat] at e1 e2 hc
      have e3 : dd d x = turnD (putD d x.at_ bs) := by rw [e1, writeD, if_pos hc]
      have e4 : ee d x = if d.armed = 1 then 8 else if fullD d x.at_ then 5 else 0 := by
        rw [e2, writeE, if_neg (by simp [hc.1]), if_pos hc.2.1, if_pos hc.2.2]
      have hfo : freshO d x.at_ = fresh d x.at_ := by simp [freshO, hc.2.1.1, hc.2.1.2]
      by_cases hf : fullD d x.at_ = true
      · have ep : putD d x.at_ bs = d := by rw [putD, if_pos hf]
        rw [ep] at e3
        have hh := turn d h rfl
        rw [← e3] at hh
        have hu : used (dd d x) = used d := by rw [e3, turnD_used]
        refine ⟨hh.1, hh.2.1, hh.2.2, fun _ => ?_, fun _ he => ?_, fun hne => absurd q hne⟩
        · simp only [fullD, Bool.and_eq_true, decide_eq_true_eq] at hf
          exact ⟨q, by rw [hfo]; exact hf.1, by rw [hf.2, h.quota], hu, by rw [e3, turnD_wait]⟩
        · rw [e4, hf] at he
          exfalso
          split at he
          · omega
          · simp at he
      · have ep : putD d x.at_ bs = { d with waiting := d.waiting ++ [(x.at_, bs)] } := by rw [putD, if_neg hf]
        have hpu := put_used d x.at_ bs h.kn
        simp only at hpu
        have hle : (used { d with waiting := d.waiting ++ [(x.at_, bs)] } : Int) ≤ quota := by
          have := h.le
          by_cases hfr : fresh d x.at_ = true
          · have := hpu.1 hfr
            have hne : ¬ (used d : Int) = d.quota := fun e => hf (by simp [fullD, hfr, e])
            have := h.quota
            omega
          · have := hpu.2 (by simpa using hfr)
            omega
        have hh := turn (putD d x.at_ bs) (by rw [ep]; exact ⟨h.kn, h.quota, hle, h.t0, h.t1⟩) (by rw [ep])
        rw [← e3] at hh
        refine ⟨hh.1, hh.2.1, hh.2.2, fun he => ?_, fun _ he => ⟨?_, fun hfr => ?_⟩, fun hne => absurd q hne⟩
        · rw [e4, if_neg hf] at he
          exfalso
          split at he <;> omega
        · rw [e3, turnD_wait, ep]; simp
        · rw [e3, turnD_used, ep]; exact hpu.1 (by rw [← hfo]; exact hfr)
    · have e3 : dd d x = d := by rw [e1, writeD, if_neg hc]
      have hne : ee d x ≠ 5 ∧ ee d x ≠ 0 := by
        rw [e2, writeE]
        by_cases a : d.down = true
        · rw [if_pos a]; omega
        · have a' : d.down = false := by simpa using a
          rw [if_neg a]
          by_cases b : 0 ≤ max x.at_ (-1) ∧ max x.at_ (-1) < d.sectors
          · rw [if_pos b, if_neg (fun c => hc ⟨a', b, c⟩)]; omega
          · rw [if_neg b]; omega
      refine ⟨by rw [e3]; exact h1, by rw [e3]; omega, by rw [e3]; omega, fun e => absurd e hne.1, fun _ e => absurd e hne.2, fun e => absurd q e⟩
  · have e3 : dd d x = d := by simp [dd, q]
    have e2 : ee d x ≠ 5 := by
      rw [show ee d x = readE d x.at_ by simp [ee, q]]; unfold readE
      split
      · omega
      · split <;> omega
    exact ⟨by rw [e3]; exact h1, by rw [e3]; omega, by rw [e3]; omega, fun e => absurd e e2, fun e => absurd e (by omega), fun _ => by rw [e3]; omega⟩
  · have e3 : dd d x = flushD d := by simp [dd, q]
    have e2 : ee d x ≠ 5 := by
      rw [show ee d x = flushE d by simp [ee, q]]; unfold flushE
      split
      · omega
      · split <;> omega
    by_cases a : d.down = true
    · have e4 : dd d x = d := by rw [e3, flushD, if_pos a]
      exact ⟨by rw [e4]; exact h1, by rw [e4]; omega, by rw [e4]; omega, fun e => absurd e e2, fun e => absurd e (by omega), fun _ => by rw [e4]; omega⟩
    · by_cases b : d.armed = 1
      · have e4 : dd d x = turnD d := by rw [e3, flushD, if_neg a, if_pos b]
        have hh := turn d h rfl
        rw [← e4] at hh
        exact ⟨hh.1, hh.2.1, hh.2.2, fun e => absurd e e2, fun e => absurd e (by omega), fun _ => by rw [e4, turnD_used]; omega⟩
      · have e4 : dd d x = { turnD d with kept := keepTo (fun _ => true) (turnD d) d.waiting.length, waiting := [] } := by rw [e3, flushD, if_neg a, if_neg b]
        have hh := turn d h rfl
        have hku := keepTo_used (turnD d) (dd d x) (fun _ => true) (by rw [turnD_kept]; exact h.kn) (by rw [e4, turnD_wait]) (by rw [e4])
        rw [turnD_used] at hku
        have et : (dd d x).turns = (turnD d).turns := by rw [e4]
        have eq : (dd d x).quota = (turnD d).quota := by rw [e4]
        refine ⟨⟨hku.2, by rw [eq]; exact hh.1.quota, by have := h.le; have := hku.1; omega, by rw [et]; exact hh.1.t0, by rw [et]; exact hh.1.t1⟩, by rw [et]; exact hh.2.1, by rw [et]; exact hh.2.2, fun e => absurd e e2, fun e => absurd e (by omega), fun _ => hku.1⟩
  · have e3 : dd d x = armD d x.n := by simp [dd, q]
    have e2 : ee d x = 0 := by simp [ee, q]
    have hs := same (dd d x) (by rw [e3]; unfold armD; split <;> rfl) (by rw [e3]; unfold armD; split <;> rfl) (by rw [e3]; unfold armD; split <;> rfl) (by rw [e3]; unfold armD; split <;> rfl)
    have et : (dd d x).turns = d.turns := by rw [e3]; unfold armD; split <;> rfl
    exact ⟨hs.1, by omega, by omega, fun e => by omega, fun e => absurd e (by omega), fun _ => by omega⟩
  · have e3 : dd d x = { d with down := true } := by simp [dd, q]
    have e2 : ee d x = 0 := by simp [ee, q]
    have hs := same (dd d x) (by rw [e3]) (by rw [e3]) (by rw [e3]) (by rw [e3])
    have et : (dd d x).turns = d.turns := by rw [e3]
    exact ⟨hs.1, by omega, by omega, fun e => by omega, fun e => absurd e (by omega), fun _ => by omega⟩
  · have e3 : dd d x = wakeD d x.bits := by simp [dd, q]
    have e2 : ee d x = 0 := by simp [ee, q]
    by_cases a : d.down = true
    · have e4 : dd d x = { d with kept := keepTo (wakeP x.bits) d d.waiting.length, waiting := [], down := false, armed := 0 } := by rw [e3, wakeD, if_pos a]
      have hku := keepTo_used d (dd d x) (wakeP x.bits) h.kn (by rw [e4]) (by rw [e4])
      have et : (dd d x).turns = d.turns := by rw [e4]
      have eq : (dd d x).quota = d.quota := by rw [e4]
      exact ⟨⟨hku.2, by rw [eq]; exact h.quota, by have := h.le; have := hku.1; omega, by rw [et]; exact h.t0, by rw [et]; have := h.t1; omega⟩, by omega, by omega, fun e => by omega, fun e => absurd e (by omega), fun _ => hku.1⟩
    · have e4 : dd d x = d := by rw [e3, wakeD, if_neg a]
      exact ⟨by rw [e4]; exact h1, by rw [e4]; omega, by rw [e4]; omega, fun e => by omega, fun e => absurd e (by omega), fun _ => by rw [e4]; omega⟩
  · have e3 : dd d x = d := by simp [dd, q]
    have e2 : ee d x = 0 := by simp [ee, q]
    exact ⟨by rw [e3]; exact h1, by rw [e3]; omega, by rw [e3]; omega, fun e => by omega, fun e => absurd e (by omega), fun _ => by rw [e3]; omega⟩
  · have e3 : dd d x = d := by simp [dd, q]
    have e2 : ee d x = 0 := by simp [ee, q]
    exact ⟨by rw [e3]; exact h1, by rw [e3]; omega, by rw [e3]; omega, fun e => by omega, fun e => absurd e (by omega), fun _ => by rw [e3]; omega⟩

theorem qnew (s q : Int) (h : ¬ badNew s q) : QI (newD s q) q 0 := by
  unfold badNew at h
  exact ⟨by simp [newD, keysOf], rfl, by simp [used, newD, written]; omega, by simp [newD], by simp [newD]⟩
end Go.Proofs.Ytaaoabfmelpcpaa
