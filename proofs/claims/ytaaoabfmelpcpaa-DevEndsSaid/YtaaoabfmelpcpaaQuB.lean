/- DevQuota's walk. -/
import Derived.Test.YtaaoabfmelpcpaaQuA
namespace Go.Proofs.Ytaaoabfmelpcpaa
open Go.RowKit Go.Mo

/-- v is a slice that reads the deeds l. -/
def Deeds (w : World) (v : Value) (l : List Deed) : Prop :=
  ∃ a c, v = .slice a l.length c ∧ ∀ i x, l[i]? = some x → ∃ L off ad cd, a = some ⟨L, off, none⟩ ∧ L < w.heap.size ∧
    w.cell? ⟨L, off + i * 4, none⟩ = some (.int .i64 x.what) ∧ w.cell? ⟨L, off + i * 4 + 1, none⟩ = some (.int .i64 x.at_) ∧ w.cell? ⟨L, off + i * 4 + 2, none⟩ = some (.int .i64 x.n) ∧
    w.cell? ⟨L, off + i * 4 + 3, none⟩ = some (.slice ad x.bits.length cd) ∧ Bits w (.slice ad x.bits.length cd) x.bits ∧ x.n ≤ 9223372036854775807 ∧ x.bits.length ≤ 140737488351232

set_option maxRecDepth 100000 in
theorem devquota_small (w : World) (s q : Int) (a : Option Addr) (n c : Nat) (h : s < 1 ∨ s > 40 ∨ q < 0 ∨ q > s ∨ (n : Int) > 120) :
    Calls Try.prog 7 #[.int .i64 s, .int .i64 q, .slice a n c] w fun e w' => e = .returned (.bool true) ∧ Mod (fun _ => False) w w' := by
  have HA := Lib.hid (awake_ok w)
  by_cases h1 : s < 1
  · clear h
    go_enter Try.func7, Try.ntmps7
    go_wp2_with (go_at_call 8; refine HA.out.mono ?_; rintro e w1 ⟨rfl, hm1⟩; have HM := Lib.hid hm1; clear hm1)
    go_ret
    exact ⟨rfl, HM.out⟩
  by_cases h2 : s > 40
  · clear h
    go_enter Try.func7, Try.ntmps7
    go_wp2_with (go_at_call 8; refine HA.out.mono ?_; rintro e w1 ⟨rfl, hm1⟩; have HM := Lib.hid hm1; clear hm1)
    go_ret
    exact ⟨rfl, HM.out⟩
  by_cases h3 : q < 0
  · clear h
    go_enter Try.func7, Try.ntmps7
    go_wp2_with (go_at_call 8; refine HA.out.mono ?_; rintro e w1 ⟨rfl, hm1⟩; have HM := Lib.hid hm1; clear hm1)
    go_ret
    exact ⟨rfl, HM.out⟩
  by_cases h4 : q > s
  · clear h
    go_enter Try.func7, Try.ntmps7
    go_wp2_with (go_at_call 8; refine HA.out.mono ?_; rintro e w1 ⟨rfl, hm1⟩; have HM := Lib.hid hm1; clear hm1)
    go_ret
    exact ⟨rfl, HM.out⟩
  have h5 : (n : Int) > 120 := by omega
  clear h
  go_enter Try.func7, Try.ntmps7
  go_wp2_with (go_at_call 8; refine HA.out.mono ?_; rintro e w1 ⟨rfl, hm1⟩; have HM := Lib.hid hm1; clear hm1)
  go_ret
  exact ⟨rfl, HM.out⟩

set_option maxRecDepth 100000 in
set_option maxHeartbeats 4000000 in
theorem devquota_ok (w : World) (s q : Int) (v : Value) (l : List Deed) (hl : Deeds w v l) :
    Calls Try.prog 7 #[.int .i64 s, .int .i64 q, v] w fun e w' => e = .returned (.bool true) ∧ Mod (fun _ => False) w w' := by
  obtain ⟨a, c, rfl, hel⟩ := hl
  by_cases hbad : s < 1 ∨ s > 40 ∨ q < 0 ∨ q > s ∨ (l.length : Int) > 120
  · exact devquota_small w s q a _ c hbad
  have h1 : ¬ s < 1 := by omega
  have h2 : ¬ s > 40 := by omega
  have h3 : ¬ q < 0 := by omega
  have h4 : ¬ q > s := by omega
  have h5 : ¬ (l.length : Int) > 120 := by omega
  have hgood : ¬ badNew s q := by unfold badNew; omega
  have HA := Lib.hid (awake_ok w)
  have HE := Lib.hid hel
  have HG := Lib.hid hgood
  clear hbad hgood hel
  go_enter Try.func7, Try.ntmps7
  go_wp2_with fail
  refine HA.out.mono ?_
  rintro e w1 ⟨rfl, hm1⟩
  have HM1 := Lib.hid hm1
  clear hm1
  go_wp2_with fail
  refine (new_ok s q HG.out w1).mono ?_
  rintro e w2 ⟨B, S0, rfl, hd, hm2, hS0⟩
  have hd0 : Hd w2 (.pointer (some ⟨B, 0, none⟩)) S0 (some (newD s q)) := ⟨B, rfl, hd⟩
  have H2 := Lib.hid (And.intro hd0 (And.intro (HM1.out.tr hm2) (fun j hj => Nat.le_trans HM1.out.size (hS0 j hj))))
  clear hd hd0 hm2 hS0
  go_wp2_with fail
  go_loopw [9] (fun i wr => ∃ (k : Nat) (d : Dv) (S : Nat → Prop), k ≤ l.length ∧ i = .int .i64 k ∧ Hd wr (.pointer (some ⟨B, 0, none⟩)) S (some d) ∧ InvO (some d) k ∧ QI d q k ∧ Mod (fun _ => False) w wr ∧ ∀ j, S j → w.heap.size ≤ j) (fun i _ => l.length - (intOf i).toNat)
  case atStart => exact ⟨0, _, S0, by omega, rfl, H2.out.1, inv_new s q, qnew s q HG.out, H2.out.2.1, H2.out.2.2⟩
  case round =>
    obtain ⟨k, d, S, hk, rfl, hh, hi, hq, hm, hS⟩ := hrel
    by_cases hlt : k < l.length
    · obtain ⟨x, hx⟩ : ∃ x, l[k]? = some x := ⟨_, List.getElem?_eq_getElem hlt⟩
      obtain ⟨L, off, ad, cd, ha, hL, k0, k1, k2, k3, kb, kn, kl⟩ := HE.out k x hx
      subst ha
      have HK := Lib.hid (And.intro hL (And.intro k0 (And.intro k1 (And.intro k2 (And.intro k3 (And.intro kb (And.intro kn kl)))))))
      have HI := Lib.hid (And.intro hh (And.intro hi (And.intro hq (And.intro hm hS))))
      have HST := Lib.hid (show Calls Try.prog 13 #[.pointer (some ⟨B, 0, none⟩)] wr (fun e w' => e = .returned (.agg #[.int .i64 d.sectors, .int .i64 d.quota, .int .i64 (used d), .int .i64 d.waiting.length, .int .i64 d.armed, .int .i64 d.turns, .bool d.down]) ∧ Mod (fun _ => False) wr w') from stat_H hh hi (by omega))
      clear hh hi hq hm hS hL k0 k1 k2 k3 kb kn kl hx
      go_wp2_with fail
      refine HST.out.mono ?_
      rintro e w3 ⟨rfl, hm3⟩
      have HM3 := Lib.hid hm3
      clear hm3
      obtain ⟨W3, hW3⟩ : ∃ W3, w3.alloc (.cells #[.int .i64 d.sectors, .int .i64 d.quota, .int .i64 (used d), .int .i64 d.waiting.length, .int .i64 d.armed, .int .i64 d.turns, .bool d.down] 39) = W3 := ⟨_, rfl⟩
      have hmw : Mod (fun _ => False) wr W3 := by rw [← hW3]; exact HM3.out.alloc _
      have hmw0 : Mod (fun _ => False) w W3 := HI.out.2.2.2.1.tr hmw
      have t10 : W3.heap[w3.heap.size]? = some (.cells #[.int .i64 d.sectors, .int .i64 d.quota, .int .i64 (used d), .int .i64 d.waiting.length, .int .i64 d.armed, .int .i64 d.turns, .bool d.down] 39 (0, 0)) := by rw [← hW3]; exact newB _ _
      have e0 := (hmw0.cell (p := ⟨L, off + k * 4, none⟩) HK.out.1 (fun q => q)).trans HK.out.2.1
      have e1 := (hmw0.cell (p := ⟨L, off + k * 4 + 1, none⟩) HK.out.1 (fun q => q)).trans HK.out.2.2.1
      have e2 := (hmw0.cell (p := ⟨L, off + k * 4 + 2, none⟩) HK.out.1 (fun q => q)).trans HK.out.2.2.2.1
      have e3 := (hmw0.cell (p := ⟨L, off + k * 4 + 3, none⟩) HK.out.1 (fun q => q)).trans HK.out.2.2.2.2.1
      have hh3 := HI.out.1.mod hmw
      have HF := Lib.hid (show Calls Try.prog 23 #[.pointer (some ⟨B, 0, none⟩), .int .i64 x.at_] W3 (fun e w' => e = .returned (.bool (freshO d x.at_)) ∧ W3 = w') from fresh_H hh3 x.at_)
      have HDO := Lib.hid (show Calls Try.prog 11 #[.pointer (some ⟨B, 0, none⟩), .agg #[.int .i64 x.what, .int .i64 x.at_, .int .i64 x.n, .slice ad x.bits.length cd]] W3 (fun e w' => e = .returned (.agg #[.string ⟨(eb d x).toArray⟩, .int .i64 (ee d x), .bool (ei d x)]) ∧ OpH W3 w' (.pointer (some ⟨B, 0, none⟩)) S (some (dd d x))) from by
        have := does_calls hh3 HI.out.2.1 (by omega) x HK.out.2.2.2.2.2.2.1 ad cd (HK.out.2.2.2.2.2.1.mod hmw0) HK.out.2.2.2.2.2.2.2
        rw [← doesT_some, ← doesD_some]
        exact this)
      have HH3 := Lib.hid (And.intro hh3 (And.intro hmw0 t10))
      clear hmw hmw0 t10 hh3
      go_wp2_with fail
      refine HF.out.mono ?_
      rintro e w' ⟨rfl, rfl⟩
      go_wp2_with fail
      refine HDO.out.mono ?_
      rintro e w4 ⟨rfl, ho⟩
      obtain ⟨S', h4, m4, s4⟩ := ho
      obtain ⟨W4, hW4⟩ : ∃ W4, w4.alloc (.cells #[.string ⟨(eb d x).toArray⟩, .int .i64 (ee d x), .bool (ei d x)] 32) = W4 := ⟨_, rfl⟩
      obtain ⟨d', hd'⟩ : ∃ d', dd d x = d' := ⟨_, rfl⟩
      have hqs := qstep HI.out.2.2.1 (by omega) x
      have hin := invO_does HI.out.2.1 x
      rw [doesD_some] at hin
      rw [hd'] at h4 hin
      have HQS := Lib.hid hqs
      have m34 : Mod S W3 W4 := by rw [← hW4]; exact m4.alloc _
      have h44 : Hd W4 (.pointer (some ⟨B, 0, none⟩)) S' (some d') := by rw [← hW4]; exact h4.mod ((Mod.refl _ w4).alloc _)
      have t12 : W4.heap[w4.heap.size]? = some (.cells #[.string ⟨(eb d x).toArray⟩, .int .i64 (ee d x), .bool (ei d x)] 32 (0, 0)) := by rw [← hW4]; exact newB _ _
      have hSlt := HI.out.1.lt
      have hsz3 := HM3.out.size
      have hsz4 : w3.heap.size < W3.heap.size := ltB HH3.out.2.2
      have hsz5 := m4.size
      have t10 := (m34.block _ hsz4 (fun qq => by have := hSlt _ qq; omega)).trans HH3.out.2.2
      have mw4 : Mod (fun _ => False) w W4 := HH3.out.2.1.trans m34 (fun j qq l => by have := HI.out.2.2.2.2 j qq; omega)
      have HST4 := Lib.hid (show Calls Try.prog 13 #[.pointer (some ⟨B, 0, none⟩)] W4 (fun e w' => e = .returned (.agg #[.int .i64 d'.sectors, .int .i64 d'.quota, .int .i64 (used d'), .int .i64 d'.waiting.length, .int .i64 d'.armed, .int .i64 d'.turns, .bool d'.down]) ∧ Mod (fun _ => False) W4 w') from stat_H h44 hin (by omega))
      have H4 := Lib.hid (And.intro h44 (And.intro mw4 (And.intro t12 (And.intro t10 (And.intro hin s4)))))
      have hsz6 : W4.heap.size = w4.heap.size + 1 := by rw [← hW4]; simp
      clear h4 m4 s4 hqs hin m34 h44 t12 t10 mw4 e0 e1 e2 e3 hSlt
      go_wp2_with fail
      refine HST4.out.mono ?_
      rintro e w5 ⟨rfl, hm5⟩
      obtain ⟨W5, hW5⟩ : ∃ W5, w5.alloc (.cells #[.int .i64 d'.sectors, .int .i64 d'.quota, .int .i64 (used d'), .int .i64 d'.waiting.length, .int .i64 d'.armed, .int .i64 d'.turns, .bool d'.down] 39) = W5 := ⟨_, rfl⟩
      have m45 : Mod (fun _ => False) W4 W5 := by rw [← hW5]; exact hm5.alloc _
      have mw5 := H4.out.2.1.tr m45
      have t13 : W5.heap[w5.heap.size]? = some (.cells #[.int .i64 d'.sectors, .int .i64 d'.quota, .int .i64 (used d'), .int .i64 d'.waiting.length, .int .i64 d'.armed, .int .i64 d'.turns, .bool d'.down] 39 (0, 0)) := by rw [← hW5]; exact newB _ _
      have t12 := (m45.block _ (by omega) (fun qq => qq)).trans H4.out.2.2.1
      have t10 := (m45.block _ (by omega) (fun qq => qq)).trans H4.out.2.2.2.1
      have e0 := (mw5.cell (p := ⟨L, off + k * 4, none⟩) HK.out.1 (fun q => q)).trans HK.out.2.1
      have a2 : W5.cell? ⟨w3.heap.size, 2, none⟩ = some (.int .i64 (used d)) := by rw [cellB t10]; rfl
      have a3 : W5.cell? ⟨w3.heap.size, 3, none⟩ = some (.int .i64 d.waiting.length) := by rw [cellB t10]; rfl
      have a5 : W5.cell? ⟨w3.heap.size, 5, none⟩ = some (.int .i64 d.turns) := by rw [cellB t10]; rfl
      have b2 : W5.cell? ⟨w5.heap.size, 2, none⟩ = some (.int .i64 (used d')) := by rw [cellB t13]; rfl
      have b3 : W5.cell? ⟨w5.heap.size, 3, none⟩ = some (.int .i64 d'.waiting.length) := by rw [cellB t13]; rfl
      have b5 : W5.cell? ⟨w5.heap.size, 5, none⟩ = some (.int .i64 d'.turns) := by rw [cellB t13]; rfl
      have c1 : W5.cell? ⟨w4.heap.size, 1, none⟩ = some (.int .i64 (ee d x)) := by rw [cellB t12]; rfl
      have H5 := Lib.hid (And.intro (H4.out.1.mod m45) mw5)
      have HP := Lib.hid (fun W => pick_calls x.what 8 W (by omega))
      clear m45 mw5 t13 t12 t10 hm5
      go_wp2_with fail
      have hinn := H4.out.2.2.2.2.1
      have hqi : QI d' q (k + 1) := by rw [← hd']; exact HQS.out.qi
      have hS'b : ∀ j, S' j → w.heap.size ≤ j := fun j hj => by
        have := HI.out.2.2.2.1.size
        have := HM3.out.size
        rcases H4.out.2.2.2.2.2 j hj with qq | qq
        · exact HI.out.2.2.2.2 j qq
        · omega
      have HEND := Lib.hid (And.intro hqi hS'b)
      have g1 : ¬ q < (used d' : Int) := by have := hqi.le; omega
      have g2 : ¬ d'.turns < d.turns := by have := HQS.out.up; rw [hd'] at this; omega
      have g3 : ¬ d.turns + 1 < d'.turns := by have := HQS.out.one; rw [hd'] at this; omega
      have g4 : 0 ≤ d.turns := HI.out.2.2.1.t0
      have g5 : d.turns ≤ 1000 := by have := HI.out.2.2.1.t1; omega
      have g6 : (used d : Int) ≤ 1000 := by have := HI.out.2.2.1.le; omega
      have g7 : (d.waiting.length : Int) ≤ 1000 := by have := (HI.out.2.1 d rfl).count; omega
      have qf := HQS.out.full
      have qp := HQS.out.put
      have ql := HQS.out.less
      rw [hd'] at qf qp ql
      clear hinn hqi hS'b hd'
      refine (HP.out _).mono ?_
      rintro e w' ⟨rfl, rfl⟩
      by_cases hA : ee d x = 5
      · obtain ⟨hp, hfr, hu, hu2, hw⟩ := qf hA
        clear qp ql qf
        have hu3 : (used d' : Int) = q := by omega
        have hw2 : (d'.waiting.length : Int) = d.waiting.length := by omega
        rw [hu3] at b2 g1
        rw [hu] at a2 g6
        rw [hw2] at b3
        rw [hA] at c1
        clear hu hu2 hw hu3 hw2 hA
        rw [hp, hfr]
        clear hp hfr
        go_wp2
        go_roundw
        case rel => exact ⟨k + 1, d', S', by omega, by go_num, H5.out.1, H4.out.2.2.2.2.1, HEND.out.1, H5.out.2, HEND.out.2⟩
        case measure => simp [intOf]; omega
      have hA' : (ee d x == 5) = false := by simpa using hA
      by_cases hW : pickM x.what 8 = 0
      · by_cases hz : ee d x = 0
        · obtain ⟨hw, hf⟩ := qp hW hz
          have hw2 : (d'.waiting.length : Int) = d.waiting.length + 1 := by omega
          rw [hw2] at b3
          rw [hz] at c1
          rw [hW]
          clear qp ql qf hw hw2 hz hW hA hA'
          by_cases hfr : freshO d x.at_ = true
          · have hu2 := hf hfr
            have hu3 : (used d' : Int) = used d + 1 := by omega
            rw [hu3] at b2 g1
            rw [hfr]
            clear hf hu2 hu3 hfr
            go_wp2
            go_roundw
            case rel => exact ⟨k + 1, d', S', by omega, by go_num, H5.out.1, H4.out.2.2.2.2.1, HEND.out.1, H5.out.2, HEND.out.2⟩
            case measure => simp [intOf]; omega
          · have hfr' : freshO d x.at_ = false := by simpa using hfr
            rw [hfr']
            clear hf hfr hfr'
            go_wp2
            go_roundw
            case rel => exact ⟨k + 1, d', S', by omega, by go_num, H5.out.1, H4.out.2.2.2.2.1, HEND.out.1, H5.out.2, HEND.out.2⟩
            case measure => simp [intOf]; omega
        · have hz' : (ee d x == 0) = false := by simpa using hz
          rw [hW]
          clear qp ql qf hz hW hA
          go_wp2
          go_roundw
          case rel => exact ⟨k + 1, d', S', by omega, by go_num, H5.out.1, H4.out.2.2.2.2.1, HEND.out.1, H5.out.2, HEND.out.2⟩
          case measure => simp [intOf]; omega
      · have hW' : (pickM x.what 8 == 0) = false := by simpa using hW
        have hle : ¬ (used d : Int) < used d' := by have := ql hW; omega
        clear qp ql qf hW hA
        go_wp2
        go_roundw
        case rel => exact ⟨k + 1, d', S', by omega, by go_num, H5.out.1, H4.out.2.2.2.2.1, HEND.out.1, H5.out.2, HEND.out.2⟩
        case measure => simp [intOf]; omega
    · have e : k = l.length := by omega
      subst e
      have HH := Lib.hid hm
      clear hh hi hq hm hS
      go_wp2
      go_ret
      exact ⟨rfl, HH.out⟩
end Go.Proofs.Ytaaoabfmelpcpaa
