/- The chapter's example. -/
import Derived.Test.YtaaoabfmelpcpaaDevW
namespace Go.Proofs.Ytaaoabfmelpcpaa
open Go.RowKit Go.Mo

theorem opH_step {w a b : World} {p : Value} {S : Nat → Prop} {o : Option Dv} (h0 : Mod (fun _ => False) w a) (hS : ∀ j, S j → w.heap.size ≤ j) (h : OpH a b p S o) : ∃ S', Hd b p S' o ∧ Mod (fun _ => False) w b ∧ ∀ j, S' j → w.heap.size ≤ j := by
  obtain ⟨S', h1, h2, h3⟩ := h
  exact ⟨S', h1, h0.trans h2 (fun j q l => by have := hS j q; omega), fun j hj => (h3 j hj).elim (hS j) (fun q => Nat.le_trans h0.size q)⟩

section
variable (s1 s2 : Bs) (h1 : s1.length = 256) (h2 : s2.length = 256)
def aw1 (s1 : Bs) : Dv := writeD (newD 4 1) 2 s1
def aw2 (s1 s2 : Bs) : Dv := writeD (aw1 s1) 3 s2
def aw3 (s1 s2 : Bs) : Dv := wakeD { aw2 s1 s2 with down := true } []
theorem aw1_eq (h1 : s1.length = 256) : aw1 s1 = { newD 4 1 with waiting := [(2, s1)], turns := 1 } := by
  simp [aw1, writeD, newD, putD, fullD, fresh, used, written, h1, turnD, lk, wrap64]
theorem aw_e1 : writeE (newD 4 1) 2 256 = 0 := by simp [writeE, newD, fullD, used, written]
theorem aw_e2 (h1 : s1.length = 256) : writeE (aw1 s1) 3 256 = 5 := by
  rw [aw1_eq s1 h1]
  simp [writeE, newD, fullD, used, written, fresh, lk, wr1, up, notKept, List.filter_cons]
theorem aw2_eq (h1 : s1.length = 256) (h2 : s2.length = 256) : aw2 s1 s2 = { newD 4 1 with waiting := [(2, s1)], turns := 2 } := by
  rw [aw2, aw1_eq s1 h1]
  simp [writeD, newD, putD, fullD, fresh, used, written, h2, turnD, lk, wrap64, wr1, up, notKept, List.filter_cons]
theorem aw3_eq (h1 : s1.length = 256) (h2 : s2.length = 256) : aw3 s1 s2 = { newD 4 1 with waiting := [], turns := 2 } := by
  rw [aw3, aw2_eq s1 s2 h1 h2]
  simp [wakeD, newD, keepTo, keepL, wakeP]
theorem aw_fresh (h1 : s1.length = 256) (h2 : s2.length = 256) : freshO (aw3 s1 s2) 2 = true := by
  rw [aw3_eq s1 s2 h1 h2]
  simp [freshO, newD, fresh, lk, written]
theorem aw_sec (h1 : s1.length = 256) (h2 : s2.length = 256) : (aw3 s1 s2).sectors = 4 := by rw [aw3_eq s1 s2 h1 h2]; rfl
end

theorem field39 (a b c d e f g : Value) (w : World) : (Instr.field 39 (.agg #[a, b, c, d, e, f, g]) 0).run Try.prog w = .ok a w := by kernel_rfl

theorem inv_new (s q : Int) : InvO (some (newD s q)) 0 := by
  intro d hd
  cases hd
  exact ⟨by simp [newD], by simp [newD], by simp [newD]⟩

theorem invO_write {d : Dv} {n : Nat} (h : InvO (some d) n) (k : Int) (bs : Bs) : InvO (some (writeD d k bs)) (n + 1) := by
  intro e he
  cases he
  exact (h d rfl).write k bs

set_option maxRecDepth 100000 in
set_option maxHeartbeats 1000000 in
theorem awake_ok (w : World) : Calls Try.prog 8 #[] w fun e w' => e = .returned (.bool true) ∧ Mod (fun _ => False) w w' := by
  have hl1 := sector_length 1
  have hl2 := sector_length 2
  have HN := Lib.hid (new_ok 4 1 (by unfold badNew; omega) w)
  have HS := Lib.hid sector_ok
  have HL := Lib.hid (And.intro hl1 hl2)
  clear hl1 hl2
  go_enter Try.func8, Try.ntmps8
  go_wp2_with fail
  refine HN.out.mono ?_
  rintro e w1 ⟨B, S, rfl, hd, hm, hS⟩
  have hh : Hd w1 (.pointer (some ⟨B, 0, none⟩)) S (some (newD 4 1)) := ⟨B, rfl, hd⟩
  have HH := Lib.hid (And.intro hh (And.intro hm hS))
  clear hh hm hS hd
  go_wp2_with fail
  refine (HS.out 1 _).mono ?_
  rintro e w2 ⟨v, rfl, hv, hm⟩
  have HV := Lib.hid hv
  have HM := Lib.hid hm
  obtain ⟨g, cap, rfl, _, _⟩ := hv.some
  clear hv hm
  go_wp2_with fail
  refine (write_H (HH.out.1.mod HM.out) (inv_new 4 1) (by omega) 2 _ (sector 1) _ ⟨⟨_, _, rfl⟩, fun _ => HV.out⟩).mono ?_
  rintro e w3 ⟨rfl, ho⟩
  obtain ⟨S3, h3, hm3, hS3⟩ := opH_step (HH.out.2.1.tr0 HM.out) HH.out.2.2 ho
  have H3 := Lib.hid (And.intro h3 (And.intro hm3 hS3))
  have hi3 := Lib.hid (show InvO (some (aw1 (sector 1))) 1 from invO_write (inv_new 4 1) _ _)
  have e3 : writeE' (some (newD 4 1)) 2 (sector 1).length = 0 := by rw [HL.out.1]; exact aw_e1
  rw [e3]
  clear h3 hm3 hS3 ho e3
  go_wp2_with fail
  refine (HS.out 2 _).mono ?_
  rintro e w4 ⟨v, rfl, hv, hm⟩
  have HV2 := Lib.hid hv
  have HM2 := Lib.hid hm
  obtain ⟨g2, cap2, rfl, _, _⟩ := hv.some
  clear hv hm
  go_wp2_with fail
  refine (write_H (H3.out.1.mod HM2.out) hi3.out (by omega) 3 _ (sector 2) _ ⟨⟨_, _, rfl⟩, fun _ => HV2.out⟩).mono ?_
  rintro e w5 ⟨rfl, ho⟩
  obtain ⟨S5, h5, hm5, hS5⟩ := opH_step (H3.out.2.1.tr0 HM2.out) H3.out.2.2 ho
  have H5 := Lib.hid (And.intro h5 (And.intro hm5 hS5))
  have hi5 := Lib.hid (show InvO (some (aw2 (sector 1) (sector 2))) 2 from invO_write hi3.out _ _)
  have e5 : writeE' (some (aw1 (sector 1))) 3 (sector 2).length = 5 := by rw [HL.out.2]; exact aw_e2 _ HL.out.1
  simp only [Option.map_some] 
  rw [show writeE' (some (writeD (newD 4 1) 2 (sector 1))) 3 (sector 2).length = 5 from e5]
  clear h5 hm5 hS5 ho e5
  go_wp2_with fail
  refine (crash_H H5.out.1).mono ?_
  rintro e w6 ⟨rfl, ho⟩
  obtain ⟨S6, h6, hm6, hS6⟩ := opH_step H5.out.2.1 H5.out.2.2 ho
  have H6 := Lib.hid (And.intro h6 (And.intro hm6 hS6))
  clear h6 hm6 hS6 ho
  go_wp2_with fail
  refine (wake_H H6.out.1 (.slice none 0 0) [] (by simp) ⟨none, 0, rfl, .inl ⟨rfl, rfl⟩⟩ (fun k hk => by cases hk)).mono ?_
  rintro e w7 ⟨rfl, ho⟩
  obtain ⟨S7, h7, hm7, hS7⟩ := opH_step H6.out.2.1 H6.out.2.2 ho
  have h7' : Hd w7 (.pointer (some ⟨B, 0, none⟩)) S7 (some (aw3 (sector 1) (sector 2))) := h7
  have hi7 := Lib.hid (show InvO (some (aw3 (sector 1) (sector 2))) 2 from fun d hd => by cases hd; exact ((hi5.out _ rfl).crash).wake [])
  have H7 := Lib.hid (And.intro h7' hm7)
  have hf : freshO' (some (aw3 (sector 1) (sector 2))) 2 = true := aw_fresh _ _ HL.out.1 HL.out.2
  have hsec : statO (some (aw3 (sector 1) (sector 2))) = #[.int .i64 4, .int .i64 1, .int .i64 (used (aw3 (sector 1) (sector 2))), .int .i64 (aw3 (sector 1) (sector 2)).waiting.length, .int .i64 (aw3 (sector 1) (sector 2)).armed, .int .i64 (aw3 (sector 1) (sector 2)).turns, .bool (aw3 (sector 1) (sector 2)).down] := by
    rw [statO, statV, aw_sec _ _ HL.out.1 HL.out.2, show (aw3 (sector 1) (sector 2)).quota = 1 by rw [aw3_eq _ _ HL.out.1 HL.out.2]; rfl]
  have hff := fresh_H h7' 2
  rw [hf] at hff
  have hss := stat_H h7' hi7.out (by omega)
  rw [hsec] at hss
  have HF := Lib.hid hff
  have HG := Lib.hid hss
  clear h7 hm7 hS7 ho h7' hff hss hsec hf
  go_wp2_with (first | (go_at_call 23; refine HF.out.mono ?_; rintro e w' ⟨rfl, rfl⟩) | (go_at_call 13; refine HG.out.mono ?_; rintro e w' ⟨rfl, hm⟩))
  rw [field39]
  go_wp2
  go_ret
  exact ⟨rfl, H7.out.2.tr0 hm⟩
end Go.Proofs.Ytaaoabfmelpcpaa
