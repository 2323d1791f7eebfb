/- What a sector may have behind it: plain lists. -/
import Derived.Test.YtaaoabfmelpcpaaQuA
namespace Go.Proofs.Ytaaoabfmelpcpaa
open Go.RowKit Go.Mo

/-- What waits for k, in order. -/
def seqOf (l : List (Int × Bs)) (k : Int) : List Bs := (l.filter fun x => decide (x.1 = k)).map (·.2)
def keptV (d : Dv) (k : Int) : Bs := (lk d.kept k).getD zeros
/-- What k may have behind a crash: the first is what is kept. -/
def mayOf (d : Dv) (k : Int) : List Bs := keptV d k :: seqOf d.waiting k

theorem seqOf_snoc (l : List (Int × Bs)) (x : Int × Bs) (k : Int) : seqOf (l ++ [x]) k = seqOf l k ++ (if x.1 = k then [x.2] else []) := by
  by_cases h : x.1 = k <;> simp [seqOf, List.filter_append, h]
theorem lk_rev (k : Int) : ∀ l : List (Int × Bs), lk l.reverse k = (seqOf l k).getLast?
  | [] => by simp [lk, seqOf]
  | x :: r => by
    have ih := lk_rev k r
    rw [List.reverse_cons, lk_append, ih]
    by_cases h : x.1 = k
    · rw [show seqOf (x :: r) k = x.2 :: seqOf r k by simp [seqOf, h], List.getLast?_cons]
      cases seqOf r k with
      | nil => simp [lk, h]
      | cons y t => simp [List.getLast?_cons]
    · rw [show seqOf (x :: r) k = seqOf r k by simp [seqOf, h]]
      simp [lk, h]
theorem last_may (d : Dv) (k : Int) : (mayOf d k).getLast? = some (last d k) := by
  rw [mayOf, List.getLast?_cons, last, lk_rev]
  cases (seqOf d.waiting k).getLast? <;> rfl

theorem lk_keep_all (k : Int) : ∀ (l : List (Int × Bs)) (i : Nat) (acc : List (Int × Bs)), lk (keepL (fun _ => true) i l acc) k = (lk l.reverse k).or (lk acc k)
  | [], i, acc => by simp [keepL, lk]
  | x :: r, i, acc => by
    rw [keepL, if_pos rfl, lk_keep_all k r, lk_up, List.reverse_cons, lk_append]
    by_cases h : x.1 = k <;> simp [lk, h] <;> cases lk r.reverse k <;> simp
theorem lk_keep_some (p : Nat → Bool) (k : Int) : ∀ (l : List (Int × Bs)) (i : Nat) (acc : List (Int × Bs)), (lk (keepL p i l acc) k = lk acc k) ∨ ∃ b ∈ seqOf l k, lk (keepL p i l acc) k = some b
  | [], i, acc => by simp [keepL]
  | x :: r, i, acc => by
    have hsub : ∀ b, b ∈ seqOf r k → b ∈ seqOf (x :: r) k := by
      intro b hb
      by_cases h : x.1 = k <;> simp [seqOf, h] at hb ⊢ <;> first | exact .inr hb | exact hb
    rw [keepL]
    by_cases q : p i = true
    · rw [if_pos q]
      rcases lk_keep_some p k r (i + 1) (up acc x.1 x.2) with h | ⟨b, hb, h⟩
      · rw [h, lk_up]
        by_cases e : x.1 = k
        · rw [if_pos e]
          exact .inr ⟨x.2, by simp [seqOf, e], rfl⟩
        · rw [if_neg e]; exact .inl rfl
      · exact .inr ⟨b, hsub b hb, h⟩
    · rw [if_neg q]
      rcases lk_keep_some p k r (i + 1) acc with h | ⟨b, hb, h⟩
      · exact .inl h
      · exact .inr ⟨b, hsub b hb, h⟩

/-- A device whose quota is its size. -/
structure KI (d : Dv) (n : Nat) : Prop where
  sectors : d.sectors = n
  quota : d.quota = n
  kn : (keysOf d.kept).Nodup
  keys : ∀ k ∈ uk d, 0 ≤ k ∧ k < n
  armed : 0 ≤ d.armed

theorem KI.notFull {d : Dv} {n : Nat} (h : KI d n) {k : Int} (h0 : 0 ≤ k) (h1 : k < n) : fullD d k = false := by
  unfold fullD
  by_cases hf : fresh d k = true
  · have hk := (fresh_iff d k).1 hf
    have := nodup_le (k :: uk d) ((List.range n).map Int.ofNat) (List.nodup_cons.2 ⟨hk, uk_nodup d h.kn⟩) (fun j hj => by
      have hj' : 0 ≤ j ∧ j < n := by
        rcases List.mem_cons.1 hj with rfl | hj
        · exact ⟨h0, h1⟩
        · exact h.keys j hj
      refine List.mem_map.2 ⟨j.toNat, List.mem_range.2 (by omega), ?_⟩
      simp only [Int.ofNat_eq_natCast]
      omega)
    simp only [List.length_cons, List.length_map, List.length_range, ← used_uk] at this
    have hq := h.quota
    simp only [Bool.and_eq_false_iff]
    exact .inr (decide_eq_false (by omega))
  · simp [hf]

theorem turnD_may (d : Dv) (k : Int) : mayOf (turnD d) k = mayOf d k := by simp [mayOf, keptV, turnD_kept, turnD_wait]
theorem turnD_KI {d : Dv} {n : Nat} (h : KI d n) : KI (turnD d) n := by
  have hs : (turnD d).sectors = d.sectors := by unfold turnD; split <;> rfl
  refine ⟨by rw [hs]; exact h.sectors, by rw [turnD_quota]; exact h.quota, by rw [turnD_kept]; exact h.kn, fun k hk => h.keys k ?_, ?_⟩
  · rw [mem_uk] at hk ⊢
    rwa [turnD_kept, turnD_wait] at hk
  · have := h.armed
    unfold turnD
    split
    · exact this
    · rename_i q
      show 0 ≤ d.armed - 1
      omega

theorem write_may {d : Dv} {n : Nat} (h : KI d n) (hd : d.down = false) {k : Int} (h0 : 0 ≤ k) (h1 : k < n) (bs : Bs) (hb : bs.length = 256) :
    KI (writeD d k bs) n ∧ (∀ j, mayOf (writeD d k bs) j = mayOf d j ++ (if k = j then [bs] else [])) ∧ writeE d k 256 = (if d.armed = 1 then 8 else 0) ∧ (writeD d k bs).down = decide (d.armed = 1) := by
  have hs := h.sectors
  have hc : d.down = false ∧ (0 ≤ k ∧ k < d.sectors) ∧ bs.length = 256 := ⟨hd, ⟨h0, by omega⟩, hb⟩
  have hf := h.notFull h0 h1
  have e : writeD d k bs = turnD { d with waiting := d.waiting ++ [(k, bs)] } := by rw [writeD, if_pos hc, putD, hf]; rfl
  have hK : KI { d with waiting := d.waiting ++ [(k, bs)] } n := by
    refine ⟨h.sectors, h.quota, h.kn, fun j hj => ?_, h.armed⟩
    rw [mem_uk] at hj
    simp only [keysOf, List.map_append, List.map_cons, List.map_nil, List.mem_append, List.mem_singleton] at hj
    rcases hj with q | q | q
    · exact h.keys j ((mem_uk _ _).2 (.inl q))
    · exact h.keys j ((mem_uk _ _).2 (.inr q))
    · subst q; exact ⟨h0, h1⟩
  refine ⟨by rw [e]; exact turnD_KI hK, fun j => ?_, ?_, ?_⟩
  · rw [e, turnD_may, mayOf, mayOf, seqOf_snoc]; rfl
  · rw [writeE, if_neg (by simp [hd]), if_pos ⟨h0, by omega⟩, if_pos rfl, hf]; simp
  · rw [e, turnD]
    by_cases q : d.armed = 0
    · have : ¬ d.armed = 1 := by omega
      simp [q, hd]
    · simp [q]

theorem flush_may {d : Dv} {n : Nat} (h : KI d n) (hd : d.down = false) :
    KI (flushD d) n ∧ flushE d = (if d.armed = 1 then 8 else 0) ∧ (flushD d).down = decide (d.armed = 1) ∧
      (d.armed = 1 → ∀ j, mayOf (flushD d) j = mayOf d j) ∧ (d.armed ≠ 1 → ∀ j, mayOf (flushD d) j = [last d j]) := by
  have hd' : ¬ d.down = true := by simp [hd]
  by_cases a : d.armed = 1
  · have e : flushD d = turnD d := by rw [flushD, if_neg hd', if_pos a]
    refine ⟨by rw [e]; exact turnD_KI h, by simp [flushE, hd, a], ?_, fun _ j => by rw [e, turnD_may], fun q => absurd a q⟩
    rw [e, turnD, if_neg (by omega)]
  · have e : flushD d = { turnD d with kept := keepTo (fun _ => true) (turnD d) d.waiting.length, waiting := [] } := by rw [flushD, if_neg hd', if_neg a]
    have hk : (flushD d).kept = keepL (fun _ => true) 0 d.waiting d.kept := by rw [e]; simp [keepTo, turnD_wait, turnD_kept]
    have hw : (flushD d).waiting = [] := by rw [e]
    have hT := turnD_KI h
    refine ⟨⟨by rw [e]; exact hT.sectors, by rw [e]; exact hT.quota, by rw [hk]; exact keepL_nodup _ _ _ _ h.kn, fun j hj => ?_, by rw [e]; exact hT.armed⟩, by simp [flushE, hd, a], ?_, fun q => absurd q a, fun _ j => ?_⟩
    · rw [mem_uk, hk, hw] at hj
      rcases hj with q | q
      · exact h.keys j ((mem_uk _ _).2 (keepL_mem _ _ _ _ _ q))
      · simp [keysOf] at q
    · have : (flushD d).down = (turnD d).down := by rw [e]
      rw [this, turnD]
      by_cases q : d.armed = 0
      · simp [q, hd]
      · simp [q]
    · rw [mayOf, keptV, hk, hw, lk_keep_all, last]
      cases h1 : lk d.waiting.reverse j <;> simp [seqOf]

theorem crash_wake_may {d : Dv} {n : Nat} (h : KI d n) (bits : List Bool) :
    let d' := wakeD { d with down := true } bits
    d'.down = false ∧ d'.sectors = n ∧ d'.waiting = [] ∧ d'.armed = 0 ∧ ∀ k, last d' k ∈ mayOf d k := by
  intro d'
  have e : d' = { d with kept := keepL (wakeP bits) 0 d.waiting d.kept, waiting := [], down := false, armed := 0 } := by simp [d', wakeD, keepTo]
  refine ⟨by rw [e], by rw [e]; exact h.sectors, by rw [e], by rw [e], fun k => ?_⟩
  rw [e, last]
  simp only [List.reverse_nil, lk]
  rcases lk_keep_some (wakeP bits) k d.waiting 0 d.kept with q | ⟨b, hb, q⟩
  · rw [q, mayOf, keptV]; simp
  · rw [q, mayOf]; simp [hb]

theorem new_KI (n : Nat) (arm : Int) (ha : 0 ≤ arm) : KI (armD (newD n n) arm) n ∧ (∀ k, mayOf (armD (newD n n) arm) k = [zeros]) ∧ (armD (newD n n) arm).down = false := by
  have e : armD (newD n n) arm = { newD n n with armed := arm } := by rw [armD, if_pos ha]
  refine ⟨⟨by rw [e]; rfl, by rw [e]; rfl, by rw [e]; simp [newD, keysOf], fun k hk => ?_, by rw [e]; exact ha⟩, fun k => by rw [e]; simp [mayOf, keptV, newD, lk, seqOf], by rw [e]; rfl⟩
  rw [mem_uk, e] at hk
  simp [newD, keysOf] at hk
end Go.Proofs.Ytaaoabfmelpcpaa
