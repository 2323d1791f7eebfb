/- Write. -/
import Derived.Test.YtaaoabfmelpcpaaDevM
import Derived.Deep.QuietTactic
import Derived.BigQuiet
import Derived.Deep.RegionHeld3
namespace Go.Proofs.Ytaaoabfmelpcpaa
open Go.RowKit Go.Mo

def fullD (d : Dv) (k : Int) : Bool := fresh d k && decide ((used d : Int) = d.quota)
def putD (d : Dv) (k : Int) (bs : Bs) : Dv := if fullD d k then d else { d with waiting := d.waiting ++ [(k, bs)] }
def writeE (d : Dv) (k : Int) (n : Nat) : Int := if d.down then 8 else if 0 ≤ k ∧ k < d.sectors then (if n = 256 then (if d.armed = 1 then 8 else if fullD d k then 5 else 0) else 2) else 7
def writeD (d : Dv) (k : Int) (bs : Bs) : Dv := if d.down = false ∧ (0 ≤ k ∧ k < d.sectors) ∧ bs.length = 256 then turnD (putD d k bs) else d

/-- What Write's closure leaves. -/
def WritePost (w : World) (B : Nat) (S : Nat → Prop) (d : Dv) (k : Int) (bs : Bs) (e : Ending) (w' : World) : Prop :=
  e = (if writeE d k bs.length = 0 then ret0 else pan (writeE d k bs.length)) ∧ Op w w' B S (writeD d k bs)

section
variable {w : World} {B : Nat} {S : Nat → Prop} {d : Dv}

theorem drewN_mod (w : World) (n : Nat) : Mod (fun _ => False) w (w.drewN n) := ⟨rfl, rfl, rfl, Nat.le_refl _, fun _ _ _ => rfl⟩
theorem used_any (h : Dev w B S d) (hk : d.kept.length ≤ 1000000) : Calls Try.prog 32 #[.pointer (some ⟨B, 0, none⟩)] w fun e w' => e = .returned (.int .i64 (used d)) ∧ Mod (fun _ => False) w w' := by
  obtain ⟨K, M, W, ke, we, h⟩ := h
  exact used_calls h hk
theorem fresh_any (h : Dev w B S d) (k : Int) : Calls Try.prog 43 #[.pointer (some ⟨B, 0, none⟩), .int .i64 k] w fun e w' => e = .returned (.bool (fresh d k)) ∧ w = w' := by
  obtain ⟨K, M, W, ke, we, h⟩ := h
  exact fresh_calls h k
theorem turn_any (h : Dev w B S d) (hd : d.down = false) : Calls Try.prog 37 #[.pointer (some ⟨B, 0, none⟩)] w fun e w' => e = (if d.armed = 1 then pan 8 else ret0) ∧ Dev w' B S (turnD d) ∧ Mod S w w' := by
  obtain ⟨K, M, W, ke, we, h⟩ := h
  exact (turn_calls h hd).mono fun e w' ⟨a, b, c⟩ => ⟨a, ⟨_, _, _, _, _, b⟩, c⟩
/-- put, of a row of bytes that is new since w0. -/
theorem put_any {w0 : World} (h : Dev w B S d) (k : Int) (g cap : Nat) (bs : Bs) (hb : Byt w (fun j => w0.heap.size ≤ j) (.slice (some ⟨g, 0, none⟩) bs.length cap) bs) (h0 : w0.heap.size ≤ w.heap.size) (hl : d.waiting.length < 1000000) :
    Calls Try.prog 44 #[.pointer (some ⟨B, 0, none⟩), .agg #[.int .i64 k, .slice (some ⟨g, 0, none⟩) bs.length cap]] w fun e w' => e = ret0 ∧
      ∃ S', Dev w' B S' { d with waiting := d.waiting ++ [(k, bs)] } ∧ Mod S w w' ∧ ∀ j, S' j → S j ∨ w0.heap.size ≤ j := by
  obtain ⟨K, M, W, ke, we, h⟩ := h
  obtain ⟨g', cap', hv, hg, _⟩ := hb.some
  cases hv
  exact (put_calls h k g cap bs _ hb hl).mono fun e w' ⟨a, W', b, c, q⟩ => ⟨a, _, ⟨_, _, _, _, _, b⟩, c, fun j hj => by
    rcases hj with hj | rfl | hj
    · exact .inl hj
    · exact .inr hg
    · exact (q j hj).imp id (fun q => by omega)⟩

theorem Dev.bound (h : Dev w B S d) : d.waiting.length ≤ 1000000 := by obtain ⟨K, M, W, ke, we, h⟩ := h; exact h.bound
theorem Dev.cs (h : Dev w B S d) : (∃ K, w.cell? ⟨B, 0, none⟩ = some (.map (some K))) ∧ w.cell? ⟨B, 3, none⟩ = some (.int .i64 d.sectors) ∧ w.cell? ⟨B, 4, none⟩ = some (.int .i64 d.quota) ∧ w.cell? ⟨B, 9, none⟩ = some (.bool d.down) ∧ S B := by
  obtain ⟨K, M, W, ke, we, h⟩ := h
  exact ⟨⟨K, h.c0⟩, h.c3, h.c4, h.c9, h.sB⟩

set_option maxHeartbeats 2000000 in
theorem write1_calls (h : Dev w B S d) (k : Int) (v : Value) (bs : Bs) (T : Nat → Prop) (hv : (∃ a c, v = .slice a bs.length c) ∧ (bs.length = 256 → Byt w T v bs)) (hkl : d.kept.length ≤ 1000000) (hwl : d.waiting.length < 1000000)
    (b0 b1 b2 : Nat) (h0 : w.heap[b0]? = some (.cells #[.pointer (some ⟨B, 0, none⟩)] 24 (0, 0))) (h1 : w.heap[b1]? = some (.cells #[.int .i64 k] 3 (0, 0))) (h2 : w.heap[b2]? = some (.cells #[v] 56 (0, 0))) (hS : ¬ S b0 ∧ ¬ S b1 ∧ ¬ S b2) :
    Calls Try.prog 40 #[.pointer (some ⟨b0, 0, none⟩), .pointer (some ⟨b1, 0, none⟩), .pointer (some ⟨b2, 0, none⟩)] w (WritePost w B S d k bs) := by
  obtain ⟨⟨va, vc, rfl⟩, hbyt⟩ := hv
  have e0 : w.cell? ⟨b0, 0, none⟩ = some (.pointer (some ⟨B, 0, none⟩)) := by rw [cellB h0]; rfl
  have e1 : w.cell? ⟨b1, 0, none⟩ = some (.int .i64 k) := by rw [cellB h1]; rfl
  have e2 : w.cell? ⟨b2, 0, none⟩ = some (.slice va bs.length vc) := by rw [cellB h2]; rfl
  obtain ⟨⟨K, c0⟩, c3, c4, c9, hSB⟩ := h.cs
  have hD := Lib.hid h
  have HL := Lib.hid (And.intro (ltB h0) (And.intro (ltB h1) (ltB h2)))
  clear h0 h1 h2 h
  cases hd : d.down with
  | true =>
    rw [hd] at c9
    have hP := Lib.hid (show WritePost w B S d k bs (pan 8) w from ⟨by simp [writeE, hd], by rw [show writeD d k bs = d by simp [writeD, hd]]; exact Op.keep hD.out (Mod.refl _ _)⟩)
    go_enter Try.func40, Try.ntmps40
    go_wp2_with fail
    refine (up_down B K w c0 c9).mono ?_
    rintro e w' ⟨rfl, rfl⟩
    exact ⟨rfl, hP.out⟩
  | false =>
    rw [hd] at c9
    by_cases hk : 0 ≤ k ∧ k < d.sectors
    · by_cases hn : bs.length = 256
      · have HB := Lib.hid (hbyt hn)
        have HN := Lib.hid hn
        rw [hn] at e2
        clear hbyt hn
        have HF := Lib.hid (show ∀ n, Calls Try.prog 43 #[.pointer (some ⟨B, 0, none⟩), .int .i64 k] (w.drewN n) fun e w' => e = .returned (.bool (fresh d k)) ∧ w' = w.drewN n from fun n => (fresh_any (hD.out.mod (drewN_mod w n)) k).mono fun e w' ⟨a, b⟩ => ⟨a, b.symm⟩)
        have HU := Lib.hid (used_any (hD.out.mod ((Mod.refl _ w).drew)) hkl)
        cases hf : fresh d k with
        | false =>
          rw [hf] at HF
          have hP : ∀ w', Op w w' B S (turnD { d with waiting := d.waiting ++ [(k, bs)] }) → WritePost w B S d k bs (if d.armed = 1 then pan 8 else ret0) w' := fun w' ho =>
            ⟨by by_cases q : d.armed = 1 <;> simp [writeE, hd, hk, HN.out, q, fullD, hf], by rw [show writeD d k bs = turnD { d with waiting := d.waiting ++ [(k, bs)] } by simp [writeD, hd, hk, HN.out, putD, fullD, hf]]; exact ho⟩
          have HP := Lib.hid hP
          clear hP hf
          go_enter Try.func40, Try.ntmps40
          go_wp2_with fail
          refine (up_ok B K w c0 c9).mono ?_
          rintro e w' ⟨rfl, rfl⟩
          go_wp2_with fail
          refine (there_ok B k d.sectors w c3 hk.1 hk.2).mono ?_
          rintro e w' ⟨rfl, rfl⟩
          go_wp2_with fail
          refine (must_ok _ _).mono ?_
          rintro e w' ⟨rfl, rfl⟩
          go_wp2_with fail
          go_quiet ((go_at_call 43; exact Calls.quiet_of_same (HF.out _)))
          have hmW := drewN_mod w nq
          generalize w.drewN nq = W at hmW ⊢
          have q0 : W.cell? ⟨b0, 0, none⟩ = some (.pointer (some ⟨B, 0, none⟩)) := (hmW.cell (p := ⟨b0, 0, none⟩) HL.out.1 (fun q => q)).trans e0
          have q1 : W.cell? ⟨b1, 0, none⟩ = some (.int .i64 k) := (hmW.cell (p := ⟨b1, 0, none⟩) HL.out.2.1 (fun q => q)).trans e1
          have q2 : W.cell? ⟨b2, 0, none⟩ = some (.slice va 256 vc) := (hmW.cell (p := ⟨b2, 0, none⟩) HL.out.2.2 (fun q => q)).trans e2
          have HC := Lib.hid (show Calls Try.prog 45 #[.slice va 256 vc] W.drew fun e w' => ∃ v', e = .returned v' ∧ Byt w' (fun k => W.heap.size ≤ k) v' bs ∧ Mod (fun _ => False) W.drew w' from by rw [← HN.out]; exact clone_ok _ bs T W.drew ((HB.out.same (hmW.same (fun _ _ q => q)) hmW.size (fun _ q _ => q)).same (Mod.same ((Mod.refl (fun _ => False) W).drew) (fun _ _ q => q)) (Nat.le_refl _) (fun _ q _ => q)) (by rw [HN.out]; omega))
          have HMW := Lib.hid hmW
          have HLW := Lib.hid (And.intro (Nat.lt_of_lt_of_le HL.out.1 hmW.size) (And.intro (Nat.lt_of_lt_of_le HL.out.2.1 hmW.size) (Nat.lt_of_lt_of_le HL.out.2.2 hmW.size)))
          clear hmW e0 e1 e2 c0 c3 c4 c9
          go_wp2
          go_region_held3 (fun w' => w'.cell? ⟨b0, 0, none⟩ = some (.pointer (some ⟨B, 0, none⟩)) ∧ w'.cell? ⟨b1, 0, none⟩ = some (.int .i64 k) ∧ w'.cell? ⟨b2, 0, none⟩ = some (.slice va 256 vc))
            (first
              | exact ⟨q0, q1, q2⟩
              | exact HR.out
              | exact HQ.out)
            (first
              | (go_at_call 45; refine HC.out.mono ?_; rintro e w2 ⟨v2, rfl, hv2, hm2⟩; obtain ⟨g2, cap2, rfl⟩ := hv2.shape; have HQ := Lib.hid (show w2.cell? ⟨b0, 0, none⟩ = some (.pointer (some ⟨B, 0, none⟩)) ∧ w2.cell? ⟨b1, 0, none⟩ = some (.int .i64 k) ∧ w2.cell? ⟨b2, 0, none⟩ = some (.slice va 256 vc) from ⟨(hm2.cell (p := ⟨b0, 0, none⟩) HLW.out.1 (fun q => q)).trans q0, (hm2.cell (p := ⟨b1, 0, none⟩) HLW.out.2.1 (fun q => q)).trans q1, (hm2.cell (p := ⟨b2, 0, none⟩) HLW.out.2.2 (fun q => q)).trans q2⟩); have HV2 := Lib.hid hv2; have HM2 := Lib.hid hm2; clear hv2 hm2)
              | (go_at_call 44; refine (put_any (w0 := W) (hD.out.mod (HMW.out.tr0 (((Mod.refl _ W).drew).tr0 HM2.out))) k g2 cap2 bs HV2.out HM2.out.size hwl).mono ?_; rintro e w3 ⟨rfl, S', hD3, hm3, hS3⟩; have HR := Lib.hid (show w3.cell? ⟨b0, 0, none⟩ = some (.pointer (some ⟨B, 0, none⟩)) ∧ w3.cell? ⟨b1, 0, none⟩ = some (.int .i64 k) ∧ w3.cell? ⟨b2, 0, none⟩ = some (.slice va 256 vc) from ⟨(hm3.cell (p := ⟨b0, 0, none⟩) (Nat.lt_of_lt_of_le HLW.out.1 HM2.out.size) hS.1).trans HQ.out.1, (hm3.cell (p := ⟨b1, 0, none⟩) (Nat.lt_of_lt_of_le HLW.out.2.1 HM2.out.size) hS.2.1).trans HQ.out.2.1, (hm3.cell (p := ⟨b2, 0, none⟩) (Nat.lt_of_lt_of_le HLW.out.2.2 HM2.out.size) hS.2.2).trans HQ.out.2.2⟩); have HD3 := Lib.hid (And.intro hD3 (And.intro hm3 hS3)); clear hD3 hm3 hS3))
          have HT := Lib.hid (turn_any HD3.out.1 hd)
          have HO := Lib.hid (show ∀ w4, Dev w4 B S' (turnD { d with waiting := d.waiting ++ [(k, bs)] }) → Mod S' w3 w4 → Op w w4 B S (turnD { d with waiting := d.waiting ++ [(k, bs)] }) from fun w4 h4 m4 =>
            ⟨S', h4, ((HMW.out.any.tr0 (((Mod.refl _ W).drew).tr0 HM2.out)).tr HD3.out.2.1).trans m4 (fun j hj hl => (HD3.out.2.2 j hj).elim id (fun q => by have := HMW.out.size; omega)), fun j hj => (HD3.out.2.2 j hj).imp id (fun q => Nat.le_trans HMW.out.size q)⟩)
          have c0' := HR.out.1
          by_cases ha : d.armed = 1
          · rw [if_pos ha] at HT HP
            clear ha
            go_wp2_with fail
            refine HT.out.mono ?_
            rintro e w4 ⟨rfl, hD4, hm4⟩
            exact ⟨rfl, HP.out _ (HO.out _ hD4 hm4)⟩
          · rw [if_neg ha] at HT HP
            clear ha
            go_wp2_with fail
            refine HT.out.mono ?_
            rintro e w4 ⟨rfl, hD4, hm4⟩
            have HF4 := Lib.hid (HP.out _ (HO.out _ hD4 hm4))
            clear hD4 hm4
            go_wp2_with fail
            refine (must_ok _ _).mono ?_
            rintro e w' ⟨rfl, rfl⟩
            go_wp2
            go_returns
            exact HF4.out
        | true =>
          rw [hf] at HF
          have hBl := hD.out.lt _ hSB
          by_cases hu : (used d : Int) = d.quota
          · have hP : ∀ w', Op w w' B S (turnD d) → WritePost w B S d k bs (if d.armed = 1 then pan 8 else pan 5) w' := fun w' ho =>
              ⟨by by_cases q : d.armed = 1 <;> simp [writeE, hd, hk, HN.out, q, fullD, hf, hu], by rw [show writeD d k bs = turnD d by simp [writeD, hd, hk, HN.out, putD, fullD, hf, hu]]; exact ho⟩
            have HP := Lib.hid hP
            have hub : ((used d : Int) == d.quota) = true := by simpa using hu
            clear hP hf hu
            go_enter Try.func40, Try.ntmps40
            go_wp2_with fail
            refine (up_ok B K w c0 c9).mono ?_
            rintro e w' ⟨rfl, rfl⟩
            go_wp2_with fail
            refine (there_ok B k d.sectors w c3 hk.1 hk.2).mono ?_
            rintro e w' ⟨rfl, rfl⟩
            go_wp2_with fail
            refine (must_ok _ _).mono ?_
            rintro e w' ⟨rfl, rfl⟩
            go_wp2_with fail
            go_region_held3 (fun w' => w'.cell? ⟨b0, 0, none⟩ = some (.pointer (some ⟨B, 0, none⟩)) ∧ w'.cell? ⟨b1, 0, none⟩ = some (.int .i64 k) ∧ w'.cell? ⟨B, 4, none⟩ = some (.int .i64 d.quota))
              (first
                | exact ⟨e0, e1, c4⟩
                | exact HQ1.out)
              (first
                | (go_at_call 43; refine (HF.out 1).mono ?_; rintro e w' ⟨rfl, rfl⟩)
                | (go_at_call 32; refine HU.out.mono ?_; rintro e W ⟨rfl, hmW⟩; have HQ1 := Lib.hid (show W.cell? ⟨b0, 0, none⟩ = some (.pointer (some ⟨B, 0, none⟩)) ∧ W.cell? ⟨b1, 0, none⟩ = some (.int .i64 k) ∧ W.cell? ⟨B, 4, none⟩ = some (.int .i64 d.quota) from ⟨(hmW.cell (p := ⟨b0, 0, none⟩) HL.out.1 (fun q => q)).trans e0, (hmW.cell (p := ⟨b1, 0, none⟩) HL.out.2.1 (fun q => q)).trans e1, (hmW.cell (p := ⟨B, 4, none⟩) hBl (fun q => q)).trans c4⟩); have HMW0 := Lib.hid hmW; clear hmW))
            all_goals
              have hmW : Mod (fun _ => False) w W := ((Mod.refl _ w).drew).tr0 HMW0.out
              have q0 := HQ1.out.1
              have HT := Lib.hid (turn_any (hD.out.mod hmW) hd)
              have HO := Lib.hid (show ∀ w4, Dev w4 B S (turnD d) → Mod S W w4 → Op w w4 B S (turnD d) from fun w4 h4 m4 => ⟨S, h4, hmW.any.tr m4, fun j hj => .inl hj⟩)
              clear hmW
              by_cases ha : d.armed = 1
              · rw [if_pos ha] at HT HP
                clear ha
                go_wp2_with fail
                refine HT.out.mono ?_
                rintro e w4 ⟨rfl, hD4, hm4⟩
                exact ⟨rfl, HP.out _ (HO.out _ hD4 hm4)⟩
              · rw [if_neg ha] at HT HP
                clear ha
                go_wp2_with fail
                refine HT.out.mono ?_
                rintro e w4 ⟨rfl, hD4, hm4⟩
                have HF4 := Lib.hid (HP.out _ (HO.out _ hD4 hm4))
                clear hD4 hm4
                go_wp2_with fail
                refine (must_no _ _).mono ?_
                rintro e w' ⟨rfl, rfl⟩
                exact ⟨rfl, HF4.out⟩
          · have hP : ∀ w', Op w w' B S (turnD { d with waiting := d.waiting ++ [(k, bs)] }) → WritePost w B S d k bs (if d.armed = 1 then pan 8 else ret0) w' := fun w' ho =>
              ⟨by by_cases q : d.armed = 1 <;> simp [writeE, hd, hk, HN.out, q, fullD, hf, hu], by rw [show writeD d k bs = turnD { d with waiting := d.waiting ++ [(k, bs)] } by simp [writeD, hd, hk, HN.out, putD, fullD, hf, hu]]; exact ho⟩
            have HP := Lib.hid hP
            have hub : ((used d : Int) == d.quota) = false := by simpa using hu
            clear hP hf hu
            go_enter Try.func40, Try.ntmps40
            go_wp2_with fail
            refine (up_ok B K w c0 c9).mono ?_
            rintro e w' ⟨rfl, rfl⟩
            go_wp2_with fail
            refine (there_ok B k d.sectors w c3 hk.1 hk.2).mono ?_
            rintro e w' ⟨rfl, rfl⟩
            go_wp2_with fail
            refine (must_ok _ _).mono ?_
            rintro e w' ⟨rfl, rfl⟩
            go_wp2_with fail
            go_region_held3 (fun w' => w'.cell? ⟨b0, 0, none⟩ = some (.pointer (some ⟨B, 0, none⟩)) ∧ w'.cell? ⟨b1, 0, none⟩ = some (.int .i64 k) ∧ w'.cell? ⟨B, 4, none⟩ = some (.int .i64 d.quota))
              (first
                | exact ⟨e0, e1, c4⟩
                | exact HQ1.out)
              (first
                | (go_at_call 43; refine (HF.out 1).mono ?_; rintro e w' ⟨rfl, rfl⟩)
                | (go_at_call 32; refine HU.out.mono ?_; rintro e W ⟨rfl, hmW⟩; have HQ1 := Lib.hid (show W.cell? ⟨b0, 0, none⟩ = some (.pointer (some ⟨B, 0, none⟩)) ∧ W.cell? ⟨b1, 0, none⟩ = some (.int .i64 k) ∧ W.cell? ⟨B, 4, none⟩ = some (.int .i64 d.quota) from ⟨(hmW.cell (p := ⟨b0, 0, none⟩) HL.out.1 (fun q => q)).trans e0, (hmW.cell (p := ⟨b1, 0, none⟩) HL.out.2.1 (fun q => q)).trans e1, (hmW.cell (p := ⟨B, 4, none⟩) hBl (fun q => q)).trans c4⟩); have HMW0 := Lib.hid hmW; clear hmW))
            all_goals
              have hmW : Mod (fun _ => False) w W := ((Mod.refl _ w).drew).tr0 HMW0.out
              have q0 : W.cell? ⟨b0, 0, none⟩ = some (.pointer (some ⟨B, 0, none⟩)) := (hmW.cell (p := ⟨b0, 0, none⟩) HL.out.1 (fun q => q)).trans e0
              have q1 : W.cell? ⟨b1, 0, none⟩ = some (.int .i64 k) := (hmW.cell (p := ⟨b1, 0, none⟩) HL.out.2.1 (fun q => q)).trans e1
              have q2 : W.cell? ⟨b2, 0, none⟩ = some (.slice va 256 vc) := (hmW.cell (p := ⟨b2, 0, none⟩) HL.out.2.2 (fun q => q)).trans e2
              have HC := Lib.hid (show Calls Try.prog 45 #[.slice va 256 vc] W.drew fun e w' => ∃ v', e = .returned v' ∧ Byt w' (fun k => W.heap.size ≤ k) v' bs ∧ Mod (fun _ => False) W.drew w' from by rw [← HN.out]; exact clone_ok _ bs T W.drew ((HB.out.same (hmW.same (fun _ _ q => q)) hmW.size (fun _ q _ => q)).same (Mod.same ((Mod.refl (fun _ => False) W).drew) (fun _ _ q => q)) (Nat.le_refl _) (fun _ q _ => q)) (by rw [HN.out]; omega))
              have HMW := Lib.hid hmW
              have HLW := Lib.hid (And.intro (Nat.lt_of_lt_of_le HL.out.1 hmW.size) (And.intro (Nat.lt_of_lt_of_le HL.out.2.1 hmW.size) (Nat.lt_of_lt_of_le HL.out.2.2 hmW.size)))
              clear hmW e0 e1 e2 c0 c3 c4 c9
              go_wp2
              go_region_held3 (fun w' => w'.cell? ⟨b0, 0, none⟩ = some (.pointer (some ⟨B, 0, none⟩)) ∧ w'.cell? ⟨b1, 0, none⟩ = some (.int .i64 k) ∧ w'.cell? ⟨b2, 0, none⟩ = some (.slice va 256 vc))
                (first
                  | exact ⟨q0, q1, q2⟩
                  | exact HR.out
                  | exact HQ.out)
                (first
                  | (go_at_call 45; refine HC.out.mono ?_; rintro e w2 ⟨v2, rfl, hv2, hm2⟩; obtain ⟨g2, cap2, rfl⟩ := hv2.shape; have HQ := Lib.hid (show w2.cell? ⟨b0, 0, none⟩ = some (.pointer (some ⟨B, 0, none⟩)) ∧ w2.cell? ⟨b1, 0, none⟩ = some (.int .i64 k) ∧ w2.cell? ⟨b2, 0, none⟩ = some (.slice va 256 vc) from ⟨(hm2.cell (p := ⟨b0, 0, none⟩) HLW.out.1 (fun q => q)).trans q0, (hm2.cell (p := ⟨b1, 0, none⟩) HLW.out.2.1 (fun q => q)).trans q1, (hm2.cell (p := ⟨b2, 0, none⟩) HLW.out.2.2 (fun q => q)).trans q2⟩); have HV2 := Lib.hid hv2; have HM2 := Lib.hid hm2; clear hv2 hm2)
                  | (go_at_call 44; refine (put_any (w0 := W) (hD.out.mod (HMW.out.tr0 (((Mod.refl _ W).drew).tr0 HM2.out))) k g2 cap2 bs HV2.out HM2.out.size hwl).mono ?_; rintro e w3 ⟨rfl, S', hD3, hm3, hS3⟩; have HR := Lib.hid (show w3.cell? ⟨b0, 0, none⟩ = some (.pointer (some ⟨B, 0, none⟩)) ∧ w3.cell? ⟨b1, 0, none⟩ = some (.int .i64 k) ∧ w3.cell? ⟨b2, 0, none⟩ = some (.slice va 256 vc) from ⟨(hm3.cell (p := ⟨b0, 0, none⟩) (Nat.lt_of_lt_of_le HLW.out.1 HM2.out.size) hS.1).trans HQ.out.1, (hm3.cell (p := ⟨b1, 0, none⟩) (Nat.lt_of_lt_of_le HLW.out.2.1 HM2.out.size) hS.2.1).trans HQ.out.2.1, (hm3.cell (p := ⟨b2, 0, none⟩) (Nat.lt_of_lt_of_le HLW.out.2.2 HM2.out.size) hS.2.2).trans HQ.out.2.2⟩); have HD3 := Lib.hid (And.intro hD3 (And.intro hm3 hS3)); clear hD3 hm3 hS3))
              have HT := Lib.hid (turn_any HD3.out.1 hd)
              have HO := Lib.hid (show ∀ w4, Dev w4 B S' (turnD { d with waiting := d.waiting ++ [(k, bs)] }) → Mod S' w3 w4 → Op w w4 B S (turnD { d with waiting := d.waiting ++ [(k, bs)] }) from fun w4 h4 m4 =>
                ⟨S', h4, ((HMW.out.any.tr0 (((Mod.refl _ W).drew).tr0 HM2.out)).tr HD3.out.2.1).trans m4 (fun j hj hl => (HD3.out.2.2 j hj).elim id (fun q => by have := HMW.out.size; omega)), fun j hj => (HD3.out.2.2 j hj).imp id (fun q => Nat.le_trans HMW.out.size q)⟩)
              have c0' := HR.out.1
              by_cases ha : d.armed = 1
              · rw [if_pos ha] at HT HP
                clear ha
                go_wp2_with fail
                refine HT.out.mono ?_
                rintro e w4 ⟨rfl, hD4, hm4⟩
                exact ⟨rfl, HP.out _ (HO.out _ hD4 hm4)⟩
              · rw [if_neg ha] at HT HP
                clear ha
                go_wp2_with fail
                refine HT.out.mono ?_
                rintro e w4 ⟨rfl, hD4, hm4⟩
                have HF4 := Lib.hid (HP.out _ (HO.out _ hD4 hm4))
                clear hD4 hm4
                go_wp2_with fail
                refine (must_ok _ _).mono ?_
                rintro e w' ⟨rfl, rfl⟩
                go_wp2
                go_returns
                exact HF4.out
      · have hP := Lib.hid (show WritePost w B S d k bs (pan 2) w from ⟨by simp [writeE, hd, hk, hn], by rw [show writeD d k bs = d by simp [writeD, hn]]; exact Op.keep hD.out (Mod.refl _ _)⟩)
        have hnb : ((bs.length : Int) == 256) = false := beq_eq_false_iff_ne.2 (by omega)
        clear hbyt hn
        go_enter Try.func40, Try.ntmps40
        go_wp2_with fail
        refine (up_ok B K w c0 c9).mono ?_
        rintro e w' ⟨rfl, rfl⟩
        go_wp2_with fail
        refine (there_ok B k d.sectors w c3 hk.1 hk.2).mono ?_
        rintro e w' ⟨rfl, rfl⟩
        go_wp2_with fail
        refine (must_no _ _).mono ?_
        rintro e w' ⟨rfl, rfl⟩
        exact ⟨rfl, hP.out⟩
    · have hP := Lib.hid (show WritePost w B S d k bs (pan 7) w from ⟨by simp [writeE, hd, hk], by rw [show writeD d k bs = d by simp [writeD, hk]]; exact Op.keep hD.out (Mod.refl _ _)⟩)
      go_enter Try.func40, Try.ntmps40
      go_wp2_with fail
      refine (up_ok B K w c0 c9).mono ?_
      rintro e w' ⟨rfl, rfl⟩
      go_wp2_with fail
      refine (there_no B k d.sectors w c3 hk).mono ?_
      rintro e w' ⟨rfl, rfl⟩
      exact ⟨rfl, hP.out⟩
end
end Go.Proofs.Ytaaoabfmelpcpaa
