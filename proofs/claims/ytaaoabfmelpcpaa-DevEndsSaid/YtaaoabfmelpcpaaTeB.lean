/- DevTells' walk. -/
import Derived.Test.YtaaoabfmelpcpaaTeA
namespace Go.Proofs.Ytaaoabfmelpcpaa
open Go.RowKit Go.Mo

theorem tkeepD {w : World} {q : Addr} {v : Value} (h : w.cell? q = some v) : (w.drew).cell? q = some v := h

set_option maxRecDepth 100000 in
set_option maxHeartbeats 8000000 in
theorem devtells_ok (w : World) (n : Nat) (q : Int) (hn0 : 1 ≤ n) (hn1 : n ≤ 40) (hq : ¬ badNew n q) (a : Option Addr) (c : Nat) (l : List Deed) (hl : Deeds w (.slice a l.length c) l) (h120 : l.length ≤ 120) :
    Calls Try.prog 3 #[.int .i64 n, .int .i64 q, .slice a l.length c] w fun e w' => e = .returned (.bool true) ∧ Mod (fun _ => False) w w' := by
  have HA := Lib.hid (fun w => awake_ok w)
  have HG := Lib.hid hq
  have HL := Lib.hid hl
  have h2 : ¬ (n : Int) > 40 := by omega
  have h3 : ¬ (l.length : Int) > 120 := by omega
  clear hl hq
  go_enter Try.func3, Try.ntmps3
  go_wp2_with fail
  refine (new_ok n q HG.out w).mono ?_
  rintro e w1 ⟨B, S0, rfl, hd, hm1, hS0⟩
  have hd0 : Hd w1 (.pointer (some ⟨B, 0, none⟩)) S0 (some (newD n q)) := ⟨B, rfl, hd⟩
  have H1 := Lib.hid (And.intro hd0 (And.intro hm1 hS0))
  clear hd hd0 hm1 hS0
  go_wp2_with fail
  refine (rnew_ok n q HG.out w1).mono ?_
  rintro e w2 ⟨R, S2, rfl, hr2, hm2, hS2⟩
  have hts : TS w w2 (.pointer (some ⟨B, 0, none⟩)) R n (newD n q) (newD n q) S0 S2 :=
    ⟨H1.out.1.mod hm2, hr2, fun j hj q => by have := H1.out.1.lt j hj; have := hS2 j q; omega, H1.out.2.1.tr hm2, H1.out.2.2, fun j hj => by have := hS2 j hj; have := H1.out.2.1.size; omega⟩
  have HT0 := Lib.hid hts
  clear hts hr2 hm2 hS2 H1
  go_wp2_with fail
  go_loopw [11] (fun i wr => ∃ (k : Nat) (d : Dv) (S S2 : Nat → Prop), k ≤ l.length ∧ i = .int .i64 k ∧ TS w wr (.pointer (some ⟨B, 0, none⟩)) R n d d S S2 ∧ InvO (some d) k) (fun i _ => l.length - (intOf i).toNat)
  case atStart => exact ⟨0, _, S0, S2, by omega, rfl, HT0.out, inv_new n q⟩
  case round =>
    obtain ⟨k, d, S, S2, hk, rfl, ht, hi⟩ := hrel
    by_cases hlt : k < l.length
    · obtain ⟨x, hx⟩ : ∃ x, l[k]? = some x := ⟨_, List.getElem?_eq_getElem hlt⟩
      obtain ⟨a', c', hac, hel⟩ := HL.out
      cases hac
      obtain ⟨L, off, ad, cd, ha, hL, k0, k1, k2, k3, kb, kn, kl⟩ := hel k x hx
      subst ha
      have q0 := (ht.mod.cell (p := ⟨L, off + k * 4, none⟩) hL (fun q => q)).trans k0
      have q1 := (ht.mod.cell (p := ⟨L, off + k * 4 + 1, none⟩) hL (fun q => q)).trans k1
      have q2 := (ht.mod.cell (p := ⟨L, off + k * 4 + 2, none⟩) hL (fun q => q)).trans k2
      have q3 := (ht.mod.cell (p := ⟨L, off + k * 4 + 3, none⟩) hL (fun q => q)).trans k3
      have HK := Lib.hid (And.intro hL (And.intro k0 (And.intro k1 (And.intro k2 (And.intro k3 (And.intro kb (And.intro kn kl)))))))
      have hwl : d.waiting.length < 1000000 := by have := (hi d rfl).count; omega
      have hi' : InvO (some (dd d x)) (k + 1) := by have := invO_does hi x; rwa [doesD_some] at this
      have HI := Lib.hid (And.intro hi (And.intro hwl hi'))
      have HTr := Lib.hid ht
      clear hL k0 k1 k2 k3 kb kn kl hel ht hi hwl hi'
      go_wp2_with fail
      have HF := Lib.hid (fun (W : World) (dA dB : Dv) (S S2 : Nat → Prop) (h : TS w W (.pointer (some ⟨B, 0, none⟩)) R n dA dB S S2) => h.four HK.out.1 HK.out.2.1 HK.out.2.2.1 HK.out.2.2.2.1 HK.out.2.2.2.2.1)
      have h16 : n ≤ 16384 := by omega
      have hk6 : k < 1000000 := by omega
      have hk7 : k + 1 ≤ 1000000 := by omega
      go_region_held3 (fun w' => w'.cell? ⟨L, off + k * 4, none⟩ = some (.int .i64 x.what) ∧ w'.cell? ⟨L, off + k * 4 + 1, none⟩ = some (.int .i64 x.at_) ∧ w'.cell? ⟨L, off + k * 4 + 2, none⟩ = some (.int .i64 x.n) ∧ w'.cell? ⟨L, off + k * 4 + 3, none⟩ = some (.slice ad x.bits.length cd))
        (first | exact HQ.out | exact ⟨q0, q1, q2, q3⟩)
        (first
          | (go_at_call 11; refine ((HTr.out.step ((Mod.refl _ wr).drew)).does HI.out.1 hk6 x HK.out.2.2.2.2.2.2.1 ad cd HK.out.2.2.2.2.2.1 HK.out.2.2.2.2.2.2.2).mono ?_; rintro e w2 ⟨rfl, Sa, hx2⟩; have HX := Lib.hid hx2; have HQ := Lib.hid (HF.out _ _ _ _ _ hx2); clear hx2)
          | (go_at_call 12; refine ((HTr.out.step ((Mod.refl _ wr).drew)).wants h16 HI.out.2.1 x HK.out.2.2.2.2.2.2.1 ad cd HK.out.2.2.2.2.2.1 HK.out.2.2.2.2.2.2.2).mono ?_; rintro e w2 ⟨rfl, Sb, hx2⟩; have HX := Lib.hid hx2; have HQ := Lib.hid (HF.out _ _ _ _ _ hx2); clear hx2)
          | (go_at_call 12; refine (HX.out.wants h16 HI.out.2.1 x HK.out.2.2.2.2.2.2.1 ad cd HK.out.2.2.2.2.2.1 HK.out.2.2.2.2.2.2.2).mono ?_; rintro e w3 ⟨rfl, Sb, hx2⟩; have HY := Lib.hid hx2; have HQ := Lib.hid (HF.out _ _ _ _ _ hx2); clear hx2)
          | (go_at_call 11; refine (HX.out.does HI.out.1 hk6 x HK.out.2.2.2.2.2.2.1 ad cd HK.out.2.2.2.2.2.1 HK.out.2.2.2.2.2.2.2).mono ?_; rintro e w3 ⟨rfl, Sa, hx2⟩; have HY := Lib.hid hx2; have HQ := Lib.hid (HF.out _ _ _ _ _ hx2); clear hx2)
          | (go_at_call 13; refine (HY.out.statA HI.out.2.2 hk7).mono ?_; rintro e w4 ⟨rfl, hx2⟩; have HZ := Lib.hid hx2; have HQ := Lib.hid (HF.out _ _ _ _ _ hx2); clear hx2)
          | (go_at_call 14; refine (HY.out.statB h16).mono ?_; rintro e w4 ⟨rfl, hx2⟩; have HZ := Lib.hid hx2; have HQ := Lib.hid (HF.out _ _ _ _ _ hx2); clear hx2)
          | (go_at_call 14; refine (HZ.out.statB h16).mono ?_; rintro e w5 ⟨rfl, hx2⟩; have HE := Lib.hid hx2; have HQ := Lib.hid (HF.out _ _ _ _ _ hx2); clear hx2)
          | (go_at_call 13; refine (HZ.out.statA HI.out.2.2 hk7).mono ?_; rintro e w5 ⟨rfl, hx2⟩; have HE := Lib.hid hx2; have HQ := Lib.hid (HF.out _ _ _ _ _ hx2); clear hx2))
      all_goals
        go_wp2_with fail
        go_roundw
        case rel => exact ⟨k + 1, _, _, _, by omega, by simp, HE.out, HI.out.2.2⟩
        case measure => simp [intOf]; omega
    · have HTr := Lib.hid ht
      clear ht hi
      go_wp2_with fail
      refine (HA.out wr).mono ?_
      rintro e w3 ⟨rfl, hm3⟩
      have HM := Lib.hid (HTr.out.mod.tr hm3)
      clear hm3
      go_wp2_with fail
      go_ret
      exact ⟨rfl, HM.out⟩

set_option maxRecDepth 100000 in
theorem devtells_small (w : World) (s q : Int) (a : Option Addr) (n c : Nat) (h : (s > 40 ∧ s ≤ 16384) ∨ (n : Int) > 120) :
    Calls Try.prog 3 #[.int .i64 s, .int .i64 q, .slice a n c] w fun e w' => e = .returned (.bool true) ∧ Mod (fun _ => False) w w' := by
  have HA := Lib.hid (awake_ok w)
  by_cases h1 : s > 40 ∧ s ≤ 16384
  · obtain ⟨h1, h2⟩ := h1
    clear h
    go_enter Try.func3, Try.ntmps3
    go_wp2_with fail
    refine HA.out.mono ?_
    rintro e w1 ⟨rfl, hm1⟩
    have HM := Lib.hid hm1
    clear hm1
    go_wp2_with fail
    go_ret
    exact ⟨rfl, HM.out⟩
  · have h3 : (n : Int) > 120 := by omega
    by_cases h4 : s > 40
    · have h5 : ¬ s ≤ 16384 := by omega
      clear h h1
      go_enter Try.func3, Try.ntmps3
      go_wp2_with fail
      refine HA.out.mono ?_
      rintro e w1 ⟨rfl, hm1⟩
      have HM := Lib.hid hm1
      clear hm1
      go_wp2_with fail
      go_ret
      exact ⟨rfl, HM.out⟩
    · clear h h1
      go_enter Try.func3, Try.ntmps3
      go_wp2_with fail
      refine HA.out.mono ?_
      rintro e w1 ⟨rfl, hm1⟩
      have HM := Lib.hid hm1
      clear hm1
      go_wp2_with fail
      go_ret
      exact ⟨rfl, HM.out⟩

set_option maxRecDepth 100000 in
theorem devtells_bad (w : World) (s q : Int) (a : Option Addr) (n c : Nat) (h : ¬ ((s > 40 ∧ s ≤ 16384) ∨ (n : Int) > 120)) (hb : badNew s q) :
    Calls Try.prog 3 #[.int .i64 s, .int .i64 q, .slice a n c] w fun e w' => e = .returned (.bool true) ∧ Mod (fun _ => False) w w' := by
  have HA := Lib.hid (awake_ok w)
  have HB := Lib.hid hb
  have h3 : ¬ (n : Int) > 120 := by omega
  by_cases h4 : s > 40
  · have h5 : ¬ s ≤ 16384 := by omega
    clear h hb
    go_enter Try.func3, Try.ntmps3
    go_wp2_with fail
    refine (new_bad s q HB.out w).mono ?_
    rintro e w' ⟨rfl, rfl⟩
    go_wp2_with fail
    refine (rnew_bad s q HB.out w).mono ?_
    rintro e w' ⟨rfl, rfl⟩
    go_wp2_with fail
    refine HA.out.mono ?_
    rintro e w1 ⟨rfl, hm1⟩
    have HM := Lib.hid hm1
    clear hm1
    go_wp2_with fail
    go_ret
    exact ⟨rfl, HM.out⟩
  · clear h hb
    go_enter Try.func3, Try.ntmps3
    go_wp2_with fail
    refine (new_bad s q HB.out w).mono ?_
    rintro e w' ⟨rfl, rfl⟩
    go_wp2_with fail
    refine (rnew_bad s q HB.out w).mono ?_
    rintro e w' ⟨rfl, rfl⟩
    go_wp2_with fail
    refine HA.out.mono ?_
    rintro e w1 ⟨rfl, hm1⟩
    have HM := Lib.hid hm1
    clear hm1
    go_wp2_with fail
    go_ret
    exact ⟨rfl, HM.out⟩

/-- Whatever the numbers, the deeds. -/
theorem devtells_any (w : World) (s q : Int) (v : Value) (l : List Deed) (hl : Deeds w v l) :
    Calls Try.prog 3 #[.int .i64 s, .int .i64 q, v] w fun e w' => e = .returned (.bool true) ∧ Mod (fun _ => False) w w' := by
  obtain ⟨a, c, rfl, _⟩ := id hl
  by_cases h : (s > 40 ∧ s ≤ 16384) ∨ (l.length : Int) > 120
  · exact devtells_small w s q a _ c h
  · by_cases hb : badNew s q
    · exact devtells_bad w s q a _ c h hb
    · have hb' := hb
      unfold badNew at hb'
      obtain ⟨n, rfl⟩ : ∃ n : Nat, s = n := ⟨s.toNat, by omega⟩
      exact devtells_ok w n q (by omega) (by omega) hb a c l hl (by omega)
end Go.Proofs.Ytaaoabfmelpcpaa
