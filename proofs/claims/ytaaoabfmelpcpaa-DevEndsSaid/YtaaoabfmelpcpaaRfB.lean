/- The document's device: Used, turn, Arm, Crash. -/
import Derived.Test.YtaaoabfmelpcpaaRfA
namespace Go.Proofs.Ytaaoabfmelpcpaa
open Go.RowKit Go.Mo

section
variable {w w' : World} {R : Nat} {S : Nat → Prop} {d : Dv} {n G : Nat} {W : Value} {vals : List Value} {we : List (Int × Value)}

theorem RefAt.neRG (h : RefAt w R S d n G W vals we) : G ≠ R := fun e => by have h1 := h.hR; rw [← e, h.hG] at h1; cases h1
theorem RefAt.neWR (h : RefAt w R S d n G W vals we) : W.ownBlock ≠ some R := own_ne h.row h.hR (by decide)
theorem RefAt.neWG (h : RefAt w R S d n G W vals we) : W.ownBlock ≠ some G := own_ne h.row h.hG (by decide)

/-- Where only the device's three blocks were turned, the bytes stand. -/
theorem RefAt.bs (h : RefAt w R S d n G W vals we) (hm : Mod (fun j => j = R ∨ j = G ∨ W.ownBlock = some j) w w') : BSame S w w' := fun j cs hj hc => by
  refine (hm.block j (h.lt j hj) ?_).trans hc
  rintro (rfl | rfl | e)
  · rw [h.hR] at hc; cases hc
  · rw [h.hG] at hc; cases hc
  · exact own_ne h.row hc (by decide) e

/-- The six cells alone are others. -/
theorem RefAt.reset (h : RefAt w R S d n G W vals we) (d' : Dv) (hk : d'.kept = d.kept) (hw : d'.waiting = d.waiting) (hs : d'.sectors = d.sectors) (ha : 0 ≤ d'.armed ∧ d'.armed ≤ 9223372036854775807)
    (hR' : w'.heap[R]? = some (.cells (rcells G W n d') 69 (0, 0))) (hm : Mod (fun j => j = R) w w') : RefAt w' R S d' n G W vals we ∧ Mod S w w' := by
  have hms : Mod S w w' := hm.weaken (fun j e _ => by rw [e]; exact h.sR)
  have hbs := h.bs (hm.weaken fun j e _ => .inl e)
  refine ⟨⟨hR', ?_, h.len, ?_, ?_, ?_, h.sR, h.sG, h.sW, fun j hj => Nat.lt_of_lt_of_le (h.lt j hj) hm.size, ?_, by rw [hw]; exact h.bound⟩, hms⟩
  · rw [hm.block G (h.lt _ h.sG) h.neRG]; exact h.hG
  · rw [hk]; exact fun i v hv => (h.kept i v hv).bsame hbs hm.size (fun j hj _ => hj)
  · exact own_same h.row (fun j hj => hm.block j (h.lt j (h.sW j hj)) (fun e => h.neWR (e ▸ hj)))
  · rw [hw]; exact h.wait.bsame hbs hm.size (fun j hj _ => hj)
  · exact ⟨hs.trans h.ri.sec, by rw [hk]; exact h.ri.kn, by rw [hk]; exact h.ri.inK, by rw [hw]; exact h.ri.inW, by rw [hk]; exact h.ri.l1, by rw [hw]; exact h.ri.l2, ha, h.ri.pos⟩

theorem RefOp.of (h : RefAt w' R S d n G W vals we ∧ Mod S w w') : RefOp w w' R S d n := ⟨S, ⟨_, _, _, _, h.1⟩, h.2, fun _ hj => .inl hj⟩

theorem uk_count (h : RI d n) : used d = ((List.range n).filter fun i => !freshO d (i : Nat)).length := by
  have hmem : ∀ k, k ∈ uk d ↔ k ∈ ((List.range n).filter fun i => !freshO d (i : Nat)).map Int.ofNat := by
    intro k
    simp only [List.mem_map, List.mem_filter, List.mem_range, Bool.not_eq_true']
    constructor
    · intro hk
      have hr : 0 ≤ k ∧ k < n := by
        rcases (mem_uk d k).1 hk with q | q
        · exact h.inK k q
        · obtain ⟨x, hx, rfl⟩ := List.mem_map.1 q
          exact h.inW x hx
      refine ⟨k.toNat, ⟨by omega, ?_⟩, by simp; omega⟩
      have hf : fresh d k = false := by
        cases e : fresh d k with
        | false => rfl
        | true => exact absurd hk ((fresh_iff d k).1 e)
      have hk' : ((k.toNat : Nat) : Int) = k := by omega
      rw [freshO, hk', hf, Bool.and_false]
    · rintro ⟨i, ⟨hi, hf⟩, rfl⟩
      have hsec := h.sec
      have hf' : fresh d (Int.ofNat i) = false := by
        have h0 : (0 : Int) ≤ (i : Int) := by omega
        have h1 : (i : Int) < d.sectors := by omega
        simp only [freshO, h0, h1, decide_true, Bool.true_and] at hf
        exact hf
      by_cases q : Int.ofNat i ∈ uk d
      · exact q
      · rw [(fresh_iff d _).2 q] at hf'; cases hf'
  have hn2 : (((List.range n).filter fun i => !freshO d (i : Nat)).map Int.ofNat).Nodup := by
    refine List.Pairwise.map Int.ofNat ?_ (List.Pairwise.filter _ (List.nodup_range (n := n)))
    intro a b e q
    exact e (Int.ofNat.inj q)
  have l1 := nodup_le _ _ (uk_nodup d h.kn) (fun k hk => (hmem k).1 hk)
  have l2 := nodup_le _ _ hn2 (fun k hk => (hmem k).2 hk)
  rw [used_uk]
  rw [List.length_map] at l1 l2
  omega

theorem rused_calls (h : RefAt w R S d n G W vals we) (hn : n ≤ 16384) : Calls Try.prog 33 #[.pointer (some ⟨R, 0, none⟩)] w fun e w' => e = .returned (.int .i64 (used d)) ∧ w = w' := by
  rw [uk_count h.ri]
  have c1 := h.c1
  have HF := Lib.hid (fun k => rfresh_calls h k)
  clear h
  go_enter Try.func33, Try.ntmps33
  go_wp2_with fail
  go_loopw [3, 4] (fun c i wr => ∃ j : Nat, j ≤ n ∧ i = .int .i64 j ∧ c = .int .i64 (((List.range j).filter fun i => !freshO d (i : Nat)).length) ∧ wr = w) (fun _ i _ => n - (intOf i).toNat)
  case atStart => exact ⟨0, by omega, rfl, rfl, rfl⟩
  case round =>
    obtain ⟨j, hj, rfl, rfl, rfl⟩ := hrel
    have hle : ((List.range j).filter fun i => !freshO d (i : Nat)).length ≤ j := by
      have := List.length_filter_le (fun i : Nat => !freshO d i) (List.range j)
      simpa using this
    by_cases hlt : j < n
    · have hstep : ((List.range (j + 1)).filter fun i => !freshO d (i : Nat)).length = ((List.range j).filter fun i => !freshO d (i : Nat)).length + (if freshO d j = true then 0 else 1) := by
        rw [List.range_succ, List.filter_append]
        cases hf : freshO d j <;> simp [hf]
      have HS := Lib.hid hstep
      clear hstep
      generalize ((List.range j).filter fun i => !freshO d (i : Nat)).length = c at hle HS ⊢
      go_wp2_with fail
      refine (HF.out j).mono ?_
      rintro e w1 ⟨rfl, rfl⟩
      cases hf : freshO d j with
      | true =>
        go_wp2_with fail
        go_roundw
        case rel => exact ⟨j + 1, by omega, by simp, by rw [HS.out, if_pos hf]; simp, by simp⟩
        case measure => simp [intOf]; omega
      | false =>
        go_wp2_with fail
        go_roundw
        case rel => exact ⟨j + 1, by omega, by simp, by rw [HS.out, if_neg (by simp [hf])]; simp, by simp⟩
        case measure => simp [intOf]; omega
    · have e : j = n := by omega
      subst e
      obtain ⟨c, hc⟩ : ∃ c, ((List.range j).filter fun i => !freshO d (i : Nat)).length = c := ⟨_, rfl⟩
      rw [hc] at hle ⊢
      have HC := Lib.hid hc
      clear hc
      go_wp2_with fail
      go_ret
      exact ⟨by rw [HC.out]; rfl, rfl⟩

theorem setMR {a w : World} {R : Nat} (h : Mod (fun j => j = R) a w) (i : Nat) (v : Value) : Mod (fun j => j = R) a (w.setCell ⟨R, i, none⟩ v) := h.setCell (fun _ => rfl) v

theorem rturn_calls (h : RefAt w R S d n G W vals we) (hd : d.down = false) : Calls Try.prog 50 #[.pointer (some ⟨R, 0, none⟩)] w fun e w' => e = .returned (.bool (decide (d.armed = 1))) ∧ RefAt w' R S (turnD d) n G W vals we ∧ Mod S w w' := by
  have c3 := h.c3
  have c4 := h.c4
  have c5 := h.c5
  rw [hd] at c5
  have f3 := h.fz 3
  have f4 := h.fz 4
  have f5 := h.fz 5
  have ha := h.ri.arm
  have HH := Lib.hid h
  clear h
  by_cases h0 : d.armed = 0
  · rw [h0] at c3
    go_enter Try.func50, Try.ntmps50
    go_wp2
    go_ret
    refine ⟨by simp [h0], HH.out.reset _ (by simp [turnD, h0]) (by simp [turnD, h0]) (by simp [turnD, h0]) (by simp [turnD, h0]) ?_ (setMR (Mod.refl _ _) _ _)⟩
    rw [setB HH.out.hR]; simp [turnD, h0, rcells]
  · by_cases h1 : d.armed = 1
    · rw [h1] at c3
      go_enter Try.func50, Try.ntmps50
      go_wp2
      go_ret
      refine ⟨by simp [h1], HH.out.reset _ (by simp [turnD, h1]) (by simp [turnD, h1]) (by simp [turnD, h1]) (by simp [turnD, h1]) ?_ (setMR (setMR (setMR (Mod.refl _ _) _ _) _ _) _ _)⟩
      rw [setB (setB (setB HH.out.hR 4 _) 3 _) 5 _]; simp [turnD, h1, rcells]
    · have h2 : ¬ d.armed - 1 = 0 := by omega
      go_enter Try.func50, Try.ntmps50
      go_wp2
      go_ret
      refine ⟨by simp [h1, h2], HH.out.reset _ (by simp [turnD, h0]) (by simp [turnD, h0]) (by simp [turnD, h0]) (by simp [turnD, h0]; omega) ?_ (setMR (setMR (setMR (Mod.refl _ _) _ _) _ _) _ _)⟩
      rw [setB (setB (setB HH.out.hR 4 _) 3 _) 5 _]; simp [turnD, h0, h1, h2, rcells]

theorem rarm_calls (h : RefAt w R S d n G W vals we) (a : Int) (ha : a ≤ 9223372036854775807) : Calls Try.prog 27 #[.pointer (some ⟨R, 0, none⟩), .int .i64 a] w fun e w' => e = ret0 ∧ RefAt w' R S (armD d a) n G W vals we ∧ Mod S w w' := by
  have c3 := h.c3
  have f3 := h.fz 3
  have HH := Lib.hid h
  clear h
  by_cases h0 : 0 ≤ a
  · go_enter Try.func27, Try.ntmps27
    go_wp2
    go_returns
    refine ⟨rfl, HH.out.reset _ (by simp [armD, h0]) (by simp [armD, h0]) (by simp [armD, h0]) (by simp [armD, h0]; omega) ?_ (setMR (Mod.refl _ _) _ _)⟩
    rw [setB HH.out.hR]; simp [armD, h0, rcells]
  · rw [show armD d a = d by simp [armD, h0]]
    go_enter Try.func27, Try.ntmps27
    go_wp2
    go_returns
    exact ⟨rfl, HH.out, Mod.refl _ _⟩

theorem rcrash_calls (h : RefAt w R S d n G W vals we) : Calls Try.prog 28 #[.pointer (some ⟨R, 0, none⟩)] w fun e w' => e = ret0 ∧ RefAt w' R S { d with down := true } n G W vals we ∧ Mod S w w' := by
  have c5 := h.c5
  have f5 := h.fz 5
  have HH := Lib.hid h
  clear h
  go_enter Try.func28, Try.ntmps28
  go_wp2
  go_returns
  refine ⟨rfl, HH.out.reset _ rfl rfl rfl HH.out.ri.arm ?_ (setMR (Mod.refl _ _) _ _)⟩
  rw [setB HH.out.hR]; simp [rcells]
end
end Go.Proofs.Ytaaoabfmelpcpaa
