/- DevKeeps' walk. -/
import Derived.Test.YtaaoabfmelpcpaaKpG
import Derived.Deep.CutBlock
namespace Go.Proofs.Ytaaoabfmelpcpaa
open Go.RowKit Go.Mo

theorem field39_6 (a b c d e f g : Value) (w : World) : (Instr.field 39 (.agg #[a, b, c, d, e, f, g]) 6).run Try.prog w = .ok g w := by kernel_rfl
theorem field39_3 (a b c d e f g : Value) (w : World) : (Instr.field 39 (.agg #[a, b, c, d, e, f, g]) 3).run Try.prog w = .ok d w := by kernel_rfl
theorem field39_4 (a b c d e f g : Value) (w : World) : (Instr.field 39 (.agg #[a, b, c, d, e, f, g]) 4).run Try.prog w = .ok e w := by kernel_rfl
theorem info57 : (Try.prog.info? 57).map (fun i => (i.zero, i.size, i.bytes)) = some (some (.slice none 0 0), 1, 24) := by kernel_rfl

set_option maxRecDepth 100000 in
set_option maxHeartbeats 4000000 in
theorem devkeeps_ok (w : World) (n : Nat) (hn0 : 1 ≤ n) (hn1 : n ≤ 40) (a : Option Addr) (c : Nat) (l : List Deed) (hl : Deeds w (.slice a l.length c) l) (h120 : l.length ≤ 120) (arm : Int) (ha0 : 0 ≤ arm) (ha1 : arm ≤ 9223372036854775807)
    (vb : Value) (bits : List Bool) (hb : Bls w vb bits) (hbl : bits.length ≤ 140737488355328) :
    Calls Try.prog 6 #[.int .i64 n, .slice a l.length c, .int .i64 arm, vb] w fun e w' => e = .returned (.bool true) ∧ Mod (fun _ => False) w w' := by
  obtain ⟨i57, hi57, hz0, hz1, hz2⟩ := info_parts info57
  have HA := Lib.hid (awake_ok w)
  have HG := Lib.hid (show ¬ badNew n n by unfold badNew; omega)
  have HL := Lib.hid hl
  have HBB := Lib.hid hb
  have h1 : ¬ (n : Int) < 1 := by omega
  have h2 : ¬ (n : Int) > 40 := by omega
  have h3 : ¬ (l.length : Int) > 120 := by omega
  have h4 : ¬ arm < 0 := by omega
  clear hl hb
  go_enter Try.func6, Try.ntmps6
  go_wp2_with fail
  refine HA.out.mono ?_
  rintro e w1 ⟨rfl, hm1⟩
  have HM1 := Lib.hid hm1
  clear hm1
  go_wp2_with fail
  refine (new_ok n n HG.out w1).mono ?_
  rintro e w2 ⟨B, S0, rfl, hd, hm2, hS0⟩
  have hd0 : Hd w2 (.pointer (some ⟨B, 0, none⟩)) S0 (some (newD n n)) := ⟨B, rfl, hd⟩
  have H2 := Lib.hid (And.intro hd0 (And.intro (HM1.out.tr hm2) (fun j hj => Nat.le_trans HM1.out.size (hS0 j hj))))
  clear hd hd0 hm2 hS0
  go_wp2_with fail
  refine (arm_H H2.out.1 arm ha1).mono ?_
  rintro e w3 ⟨rfl, ho⟩
  obtain ⟨S3, h3d, hm3, hS3⟩ := opH_step H2.out.2.1 H2.out.2.2 ho
  have hK := new_KI n arm ha0
  have hI3 : InvO (some (armD (newD n n) arm)) 0 := fun d hd => by cases hd; exact ((inv_new n n) _ rfl).arm _
  simp only [Option.map_some] at h3d
  generalize armD (newD n n) arm = d3 at hK hI3 h3d
  have H3 := Lib.hid (And.intro h3d (And.intro hm3 (And.intro hS3 (And.intro hK hI3))))
  clear h3d hm3 hS3 hK hI3 ho
  go_wp2_with (first | (at_make; refine wpList_make_full _ rfl _ _ 55 rfl w3.heap.size 57 i57 (.slice none 0 0) 1 Try.underlying55 hi57 hz0 hz1 .i64 .i64 n n n rfl rfl rfl rfl (by rw [hz2]; omega) (by simp [maxLen]; omega) (Nat.le_refl _) ?_; intro w4 ho4 hg4))
  obtain ⟨i5, hi5, hy0, hy1, hy2⟩ := info_parts info5
  have hmay : MayAt w4 w3.heap.size [] (List.replicate n (.slice none 0 0)) (fun _ => [zeros]) := by
    refine ⟨?_, by simp, fun k g v a => by simp at a, fun i j g a => by simp at a, by simp⟩
    rcases ho4.2 with ⟨h', _⟩ | ⟨g, cap, cur, e, _, hg, _, _, hs, ht⟩
    · simp at h'
    · simp at e
      obtain ⟨rfl, rfl⟩ := e
      rw [hg]
      have : cur.toList = List.replicate n (.slice none 0 0) := by
        rw [List.take_of_length_le (by simp; omega)] at ht
        exact ht.trans (by rw [Nat.mul_one]; exact toList_madeCells_one _ n)
      rw [← this]
  have hm4 : Mod (fun _ => False) w3 w4 := (Mod.refl _ w3).grown hg4 (fun k hk _ => by cases hk)
  have H4 := Lib.hid (And.intro hmay hm4)
  clear hmay hm4 ho4 hg4
  go_loopw [12] (fun i wr => ∃ (gs : List Nat) (vs : List Value), gs.length ≤ n ∧ vs.length = n ∧ i = .int .i64 gs.length ∧ MayAt wr w3.heap.size gs vs (fun _ => [zeros]) ∧ (∀ g ∈ gs, w3.heap.size < g) ∧ Mod (fun _ => False) w3 wr) (fun i _ => n - (intOf i).toNat)
  case atStart => exact ⟨[], _, by simp, by simp, rfl, H4.out.1, by simp, H4.out.2⟩
  case round =>
    obtain ⟨gs, vs, hg, hv, rfl, hMy, hgs, hm⟩ := hrel
    by_cases hlt : gs.length < n
    · obtain ⟨old, hold⟩ : ∃ old, vs[gs.length]? = some old := ⟨_, List.getElem?_eq_getElem (by omega)⟩
      have HMY := Lib.hid (And.intro hMy (And.intro hgs hm))
      have HO := Lib.hid hold
      clear hMy hgs hm hold
      go_wp2_with (first | (at_make; refine wpList_make_full _ rfl _ _ 56 rfl wr.heap.size 5 i5 (.int .u8 0) 1 Try.underlying56 hi5 hy0 hy1 .i64 .i64 256 256 256 rfl rfl rfl rfl (by rw [hy2]; omega) (by simp [maxLen]) (Nat.le_refl _) ?_; intro w5 ho5 hg5))
      have hm5 : Mod (fun _ => False) wr w5 := (Mod.refl _ wr).grown hg5 (fun k hk _ => by cases hk)
      have hb5 : Byt w5 (fun k => wr.heap.size ≤ k) (.slice (some ⟨wr.heap.size, 0, none⟩) 256 256) zeros := by
        have hz : zeros.length = 256 := zeros_length
        have e : (madeCells (Value.int .u8 0).cells (256 * 1)).toList = zeros.map by8 := by
          rw [Nat.mul_one]
          refine (toList_madeCells_one _ 256).trans ?_
          unfold zeros
          rw [List.map_replicate]; rfl
        rw [e] at ho5
        exact byt_of_own (by rw [hz]; exact ho5) (by simp)
      have hcv := conv_byt hb5
      have hrow : ∀ o, (w5.alloc o).heap[w3.heap.size]? = some (.cells vs.toArray 57 (0, 0)) := fun o => allocB ((hm5.block _ (ltB HMY.out.1.row) (fun q => q)).trans HMY.out.1.row) o
      have hold' : ∀ o, (w5.alloc o).cell? ⟨w3.heap.size, gs.length, none⟩ = some old := fun o => by
        rw [cellB (hrow o)]; simpa using HO.out
      have hfr' : ∀ o, (w5.alloc o).frozen? ⟨w3.heap.size, gs.length, none⟩ = false := fun o => frozB (hrow o) _
      have H5 := Lib.hid hm5
      clear ho5 hg5 hm5 hb5 hrow
      rw [hcv]
      clear hcv
      go_wp2
      go_roundw
      case rel =>
        refine ⟨gs ++ [w5.heap.size], vs.set gs.length (.slice (some ⟨w5.heap.size, 0, none⟩) 1 1), by simp; omega, by simpa using hv, by simp, ?_, ?_, ?_⟩
        · exact (HMY.out.1.mod (S := fun _ => False) H5.out (fun q => q) (fun _ _ q => q)).add (by omega) ((Mod.refl _ w5).alloc _) (xs := [zeros]) (StrAt.one w5 (strV zeros)) (Nat.le_refl _) rfl
        · intro g hg
          have := H5.out.size
          have := HMY.out.2.2.size
          have := ltB HMY.out.1.row
          rcases List.mem_append.1 hg with hg | hg
          · exact HMY.out.2.1 g hg
          · simp at hg; omega
        · exact ((HMY.out.2.2.tr H5.out).alloc _).setCell (fun q => by simp at q) _
      case measure => simp [intOf]; omega
    · have e : gs.length = n := by omega
      have hM0 : ∀ j, j < n → mayOf d3 (j : Int) = [zeros] := fun j _ => H3.out.2.2.2.1.2.1 _
      have hdw := H3.out.1.mod hm
      have hS3lt := H3.out.1.lt
      have hk0 : KW w wr (.pointer (some ⟨B, 0, none⟩)) w3.heap.size n 0 d3 S3 (fun _ => [zeros]) gs vs := by
        refine ⟨hdw, H3.out.2.2.2.2, hMy, e, hv, fun q => ?_, fun g hg q => ?_, H3.out.2.1.tr hm, H3.out.2.2.1, H3.out.2.1.size, fun g hg => ?_⟩
        · have := hS3lt _ q; omega
        · have := hS3lt _ q
          have := hgs g hg
          omega
        · have := hgs g hg
          have := H3.out.2.1.size
          omega
      have hki0 := H3.out.2.2.2.1.1
      have hGG : w.heap.size ≤ w3.heap.size := H3.out.2.1.size
      clear hMy hgs hm hdw hS3lt
      generalize w3.heap.size = G at hk0 hGG ⊢
      have HK0 := Lib.hid (And.intro hk0 (And.intro hki0 hM0))
      clear hk0 hki0 hM0 H2 H4 HM1
      rw [e]
      go_upto_block 2 with fail
      go_cut [13, 14, 15, 16, 17, 18, 19, 20] from 69 to 157 (fun _ _ _ _ _ _ _ _ wx => ∃ (d : Dv) (S : Nat → Prop) (M : Nat → List Bs) (gs : List Nat) (vs : List Value), KW w wx (.pointer (some ⟨B, 0, none⟩)) G n 120 d S M gs vs ∧ KI d n ∧ (∀ j : Nat, j < n → mayOf d j = M j) ∧ ∀ j, j < n → (M j).length ≤ 121)
      case first =>
        go_wp2_with fail
        go_loopw [13] (fun i wx => ∃ (k : Nat) (d : Dv) (S : Nat → Prop) (M : Nat → List Bs) (gs : List Nat) (vs : List Value), k ≤ l.length ∧ i = .int .i64 k ∧ KW w wx (.pointer (some ⟨B, 0, none⟩)) G n k d S M gs vs ∧ KI d n ∧ (∀ j : Nat, j < n → mayOf d j = M j) ∧ ∀ j, j < n → (M j).length ≤ k + 1) (fun i _ => l.length - (intOf i).toNat)
        case atStart =>
          exact ⟨0, d3, S3, fun _ => [zeros], gs, vs, by omega, rfl, HK0.out.1, HK0.out.2.1, HK0.out.2.2, fun _ _ => by simp⟩
        case round =>
          clear e hv hlt hg
          obtain ⟨k, d, S, M, gs2, vs2, hk, rfl, hkw, hki, hM, hMl⟩ := hrel
          by_cases hlt : k < l.length
          · have HST := Lib.hid (hkw.stat (by omega))
            have HI := Lib.hid (And.intro hkw (And.intro hki (And.intro hM hMl)))
            clear hkw hki hM hMl
            have hf6 := field39_6
            go_wp2_with fail
            refine HST.out.mono ?_
            rintro e w5 ⟨rfl, hm5⟩
            have hk5 := HI.out.1.step hm5
            have HM5 := Lib.hid (And.intro hm5 hk5)
            clear hm5 hk5
            by_cases hdn : d.down = true
            · go_wp2_with fail
              go_meet
              exact ⟨d, S, M, gs2, vs2, HM5.out.2.le (by omega), HI.out.2.1, HI.out.2.2.1, fun j hj => by have := HI.out.2.2.2 j hj; omega⟩
            · have hdn' : d.down = false := by simpa using hdn
              obtain ⟨x, hx⟩ : ∃ x, l[k]? = some x := ⟨_, List.getElem?_eq_getElem hlt⟩
              obtain ⟨a', c', hac, hel⟩ := HL.out
              cases hac
              obtain ⟨L, off, ad, cd, ha, hL, k0, k1, k2, k3, kb, kn, kl⟩ := hel k x hx
              subst ha
              have e0 := (HM5.out.2.mod.cell (p := ⟨L, off + k * 4, none⟩) hL (fun q => q)).trans k0
              have e1 := (HM5.out.2.mod.cell (p := ⟨L, off + k * 4 + 1, none⟩) hL (fun q => q)).trans k1
              have e2 := (HM5.out.2.mod.cell (p := ⟨L, off + k * 4 + 2, none⟩) hL (fun q => q)).trans k2
              have HK := Lib.hid (And.intro hL (And.intro k0 (And.intro k1 k2)))
              clear hL k0 k1 k2 k3 kb kn kl hel
              go_wp2_with fail
              refine (pick_calls x.at_ n w5 (by omega)).mono ?_
              rintro e w' ⟨rfl, rfl⟩
              obtain ⟨hp0, hp1⟩ := pickM_lt x.at_ (show (1 : Int) ≤ n by omega)
              obtain ⟨at_, hat⟩ : ∃ a : Nat, pickM x.at_ n = (a : Int) := ⟨(pickM x.at_ n).toNat, by omega⟩
              rw [hat]
              rw [hat] at hp0 hp1
              clear hat hp0
              by_cases hq : x.what.tmod 3 = 2
              · have HFL := Lib.hid (HM5.out.2.flush)
                obtain ⟨fk, fe, fd, f1, f2⟩ := flush_may HI.out.2.1 hdn'
                have HFM := Lib.hid (And.intro fk (And.intro f1 f2))
                clear fk fd f1 f2
                go_wp2_with fail
                refine HFL.out.mono ?_
                rintro e w6 ⟨rfl, S6, hk6⟩
                have HK6 := Lib.hid hk6
                clear hk6
                rw [fe]
                clear fe
                by_cases ha : d.armed = 1
                · rw [if_pos ha]
                  go_wp2_with fail
                  go_loopw [16] (fun i wx => i = .int .i64 0 ∧ wx = w6) (fun _ _ => 0)
                  case atStart => exact ⟨rfl, rfl⟩
                  case round =>
                    obtain ⟨rfl, rfl⟩ := hrel
                    go_wp2_with fail
                    go_roundw
                    case rel =>
                      refine ⟨k + 1, flushD d, S6, M, gs2, vs2, by omega, by simp, HK6.out.le (by omega), HFM.out.1, fun j hj => ?_, fun j hj => ?_⟩
                      · rw [HFM.out.2.1 ha]; exact HI.out.2.2.1 j hj
                      · have := HI.out.2.2.2 j hj; omega
                    case measure => simp [intOf]; omega
                · rw [if_neg ha]
                  go_wp2_with fail
                  go_loopw [16] (fun i wx => ∃ (j : Nat) (M' : Nat → List Bs) (gs' : List Nat) (vs' : List Value), j ≤ n ∧ i = .int .i64 j ∧ KW w wx (.pointer (some ⟨B, 0, none⟩)) G n k (flushD d) S6 M' gs' vs' ∧ ∀ i : Nat, i < n → M' i = if i < j then [last d i] else M i) (fun i _ => n - (intOf i).toNat)
                  case atStart => exact ⟨0, M, gs2, vs2, by omega, rfl, HK6.out, fun _ _ => by simp⟩
                  case round =>
                    obtain ⟨j, M', gs', vs', hj, rfl, hkj, hMj⟩ := hrel
                    by_cases hjn : j < n
                    · obtain ⟨g, v, hgj, hvj, hst, hcell, hfz⟩ := hkj.at hjn
                      obtain ⟨o, cap, cur, rfl, hrest⟩ := id hst
                      have hlast : ((M' j).map strV).getLast? = some (strV (last d j)) := by
                        rw [hMj j hjn, if_neg (by omega), ← HI.out.2.2.1 j hjn, List.getLast?_map, last_may]; rfl
                      have hcut := hst.cut hlast
                      have hpos : 1 ≤ ((M' j).map strV).length := by
                        rcases hq0 : (M' j).map strV with _ | ⟨a, b⟩
                        · rw [hq0] at hlast; simp at hlast
                        · simp
                      have hcap : ((M' j).map strV).length ≤ cap := hrest.2.2.1
                      have HJ := Lib.hid (And.intro hkj (And.intro hMj (And.intro hst (And.intro hrest (And.intro hcut (And.intro hgj hvj))))))
                      clear hkj hMj hst hrest hcut hgj hvj hlast
                      generalize ((M' j).map strV).length = len at hpos hcap hcell HJ
                      obtain ⟨q, rfl⟩ : ∃ q, len = q + 1 := ⟨len - 1, by omega⟩
                      simp only [Nat.add_sub_cancel] at HJ
                      have hcapm := HJ.out.2.2.2.1.2.2.2.1
                      have hqb : (q : Int) ≤ 9223372036854775807 := by simp only [maxLen] at hcapm; omega
                      clear hpos hcapm
                      go_wp2_with fail
                      go_region
                      go_wp2_with fail
                      go_roundw
                      case rel =>
                        refine ⟨j + 1, _, _, _, by omega, by simp, (HJ.out.1.put HJ.out.2.2.2.2.2.1 (Mod.refl _ wr) (xs := [last d j]) HJ.out.2.2.2.2.1 (.inl rfl)).step (Mod.refl _ _).drew, fun i hi => ?_⟩
                        by_cases hij : i = j
                        · subst hij; rw [if_pos rfl, if_pos (by omega)]
                        · rw [if_neg hij, HJ.out.2.1 i hi]
                          by_cases hlt' : i < j
                          · rw [if_pos hlt', if_pos (by omega)]
                          · rw [if_neg hlt', if_neg (by omega)]
                      case measure => simp [intOf]; omega
                    · go_wp2_with fail
                      go_roundw
                      case rel =>
                        refine ⟨k + 1, flushD d, S6, M', gs', vs', by omega, by simp, hkj.le (by omega), HFM.out.1, fun j hj => ?_, fun j hj => ?_⟩
                        · rw [HFM.out.2.2 ha, hMj j hj, if_pos (by omega)]
                        · rw [hMj j hj, if_pos (by omega)]; simp
                      case measure => simp [intOf]; omega
              · go_wp2_with fail
                refine (sector_ok x.n w5).mono ?_
                rintro e w6 ⟨vv, rfl, hbb, hm6⟩
                have HB6 := Lib.hid (And.intro hbb (And.intro hm6 (HM5.out.2.step hm6)))
                clear hbb hm6
                have HW := Lib.hid (HB6.out.2.2.write (by omega) at_ vv (sector x.n) _ HB6.out.1 (sector_length x.n))
                obtain ⟨wk, wm, we, wd⟩ := write_may HI.out.2.1 hdn' (by omega) hp1 (sector x.n) (sector_length x.n)
                have HWM := Lib.hid (And.intro wk (And.intro wm wd))
                clear wk wm wd
                go_wp2_with fail
                refine HW.out.mono ?_
                rintro e w7 ⟨rfl, hm7, S7, hk7⟩
                rw [we]
                clear we
                obtain ⟨f, hf⟩ : ∃ f : Int, (if d.armed = 1 then (8 : Int) else 0) = f := ⟨_, rfl⟩
                rw [hf]
                have HF := Lib.hid hf
                clear hf
                have hS5 := HM5.out.2.hd.lt
                have hb7 : Byt w7 (fun j => w5.heap.size ≤ j) vv (sector x.n) := HB6.out.1.same (hm7.same (fun j hj q => by have := hS5 j q; omega)) hm7.size (fun _ q _ => q)
                have hlt7 : ∀ g, (g ∈ gs2 ∨ g = G) → g < w5.heap.size := fun g hg => by
                  rcases hg with hg | rfl
                  · obtain ⟨i, hi⟩ := List.getElem?_of_mem hg
                    exact HM5.out.2.may.lt hi
                  · exact ltB HM5.out.2.may.row
                have HK7 := Lib.hid (And.intro hk7 (And.intro hb7 hlt7))
                clear hk7 hb7 hS5 hm7 hlt7
                go_upto_region 26 with fail
                go_cut [] from 69 to 157 (fun wx => ∃ (gs' : List Nat) (vs' : List Value), KW w wx (.pointer (some ⟨B, 0, none⟩)) G n (k + 1) (writeD d at_ (sector x.n)) S7 (fun j => if j = at_ then M at_ ++ [sector x.n] else M j) gs' vs' ∧ Byt wx (fun j => w5.heap.size ≤ j) vv (sector x.n))
                case first =>
                  obtain ⟨g, v, hgj, hvj, hst, hcell, hfz⟩ := HK7.out.1.at (show at_ < n by omega)
                  have hcv := conv_byt (show Byt w7.drew (fun j => w5.heap.size ≤ j) vv (sector x.n) from HK7.out.2.1.same (((Mod.refl (fun _ => False) w7).drew).same (fun _ _ q => q)) (Nat.le_refl _) (fun _ q _ => q))
                  have hlen := HI.out.2.2.2 at_ (by omega)
                  obtain ⟨o, cap, cur, rfl, hrest⟩ := id hst
                  rw [List.length_map] at hcell hst
                  have hGr := HK7.out.1.may.row
                  have hGl := ltB hGr
                  have hGg : ¬ G = g := fun e => HK7.out.1.may.out (e ▸ List.mem_of_getElem? hgj)
                  have HJ := Lib.hid (And.intro hst (And.intro hgj (And.intro hvj hGr)))
                  clear hst hrest hgj hvj hGr
                  go_region_law (refine step_append_str rfl _ _ rfl (HJ.out.1.mod (((Mod.refl (fun _ => False) w7).alloc _).drew) (fun q => q)) rfl ⟨w7.heap.size, 0, none⟩ 1 rfl ⟨(sector x.n).toArray⟩ (by simp [go_sem]) (by simp; omega) ?_; intro v' w8 g' hs8 hm8 hg8; obtain ⟨o', cap', cur', rfl, _⟩ := id hs8; simp only [List.length_append, List.length_map, List.length_cons, List.length_nil, Nat.zero_add] at hs8; have hr8 : w8.heap[G]? = some (.cells vs2.toArray 57 (0, 0)) := (hm8.block G (by simp; omega) hGg).trans (allocB HJ.out.2.2.2 _); have e8 := (cellB hr8 at_).trans (show vs2.toArray[at_]? = some _ by simpa using HJ.out.2.2.1); have f8 := frozB hr8 at_; have H8 := Lib.hid (And.intro hs8 (And.intro hm8 hg8)); clear hs8 hm8 hg8 hr8)
                  all_goals
                    go_wp2_with fail
                    go_meet
                    refine HK7.out.1.app HJ.out.2.1 (Mod.tr (((Mod.refl _ w7).alloc _).drew) H8.out.2.1) H8.out.1 (H8.out.2.2.imp id fun q => Nat.le_trans (by simp) q) HK7.out.2.1 (fun q => ?_) (fun q => ?_)
                    · have := HK7.out.2.2 g (.inl (List.mem_of_getElem? HJ.out.2.1)); omega
                    · have := HK7.out.2.2 G (.inr rfl); omega
                case rest =>
                  obtain ⟨gs', vs', hk8, hb8⟩ := hcut
                  have hM8 : ∀ j : Nat, j < n → mayOf (writeD d at_ (sector x.n)) j = if j = at_ then M at_ ++ [sector x.n] else M j := fun j hj => by
                    rw [HWM.out.2.1, HI.out.2.2.1 j hj]
                    by_cases q : j = at_
                    · subst q; simp
                    · rw [if_neg (by omega), if_neg q]; simp
                  have hl8 : ∀ j, j < n → (if j = at_ then M at_ ++ [sector x.n] else M j).length ≤ k + 1 + 1 := fun j hj => by
                    have h1 := HI.out.2.2.2 j hj
                    have h2 := HI.out.2.2.2 at_ (by omega)
                    split
                    · simp; omega
                    · omega
                  have HK8 := Lib.hid (And.intro hk8 (And.intro hb8 (And.intro hM8 hl8)))
                  clear hk8 hb8 hM8 hl8
                  by_cases ha : d.armed = 1
                  · obtain rfl : f = 8 := by rw [← HF.out, if_pos ha]
                    go_wp2_with fail
                    go_roundw
                    case rel => exact ⟨k + 1, _, S7, _, gs', vs', by omega, by simp, HK8.out.1, HWM.out.1, HK8.out.2.2.1, HK8.out.2.2.2⟩
                    case measure => simp [intOf]; omega
                  · obtain rfl : f = 0 := by rw [← HF.out, if_neg ha]
                    have hRD := Lib.hid (HK8.out.1.read at_)
                    have hre : readE (writeD d at_ (sector x.n)) at_ = 0 := readE_ok (by rw [HWM.out.2.2]; simp [ha]) (by omega) (by rw [HWM.out.1.sectors]; exact hp1)
                    have hla : last (writeD d at_ (sector x.n)) at_ = sector x.n := by
                      have h1 := last_may (writeD d at_ (sector x.n)) at_
                      rw [HWM.out.2.1, if_pos rfl] at h1
                      simpa using h1.symm
                    rw [hre] at hRD
                    go_wp2_with fail
                    refine hRD.out.mono ?_
                    rintro e w9 ⟨nv, rfl, hb9, hm9⟩
                    have hb9 := hb9 (by trivial)
                    rw [hla] at hb9
                    have hcv1 := conv_byt hb9
                    have hcv2 := conv_byt (HK8.out.2.1.same (hm9.same (fun _ _ q => q)) hm9.size (fun _ q _ => q))
                    have HM9 := Lib.hid (HK8.out.1.step hm9)
                    clear hb9 hm9
                    go_wp2_with fail
                    go_roundw
                    case rel => exact ⟨k + 1, _, S7, _, gs', vs', by omega, by simp, HM9.out, HWM.out.1, HK8.out.2.2.1, HK8.out.2.2.2⟩
                    case measure => simp [intOf]; omega
          · go_wp2_with fail
            go_meet
            exact ⟨d, S, M, gs2, vs2, hkw.le (by omega), hki, hM, fun j hj => by have := hMl j hj; omega⟩
      case rest =>
        clear e hv hlt hg
        obtain ⟨d, S, M, gs, vs, hkw, hki, hM, hMl⟩ := hcut
        obtain ⟨e1, e2, e3, e4, e5⟩ := crash_wake_may hki bits
        have HI := Lib.hid (And.intro hkw (And.intro hki (And.intro hM (And.intro hMl (And.intro e1 (And.intro e2 (And.intro e3 (And.intro e4 e5))))))))
        clear hkw hki hM hMl e1 e2 e3 e4 e5
        have hCR := Lib.hid (HI.out.1.crash)
        go_wp2_with fail
        refine hCR.out.mono ?_
        rintro e w5 ⟨rfl, S5, hk5⟩
        have HK5 := Lib.hid hk5
        have hR0 := Lib.hid (hk5.read 0)
        clear hk5
        go_wp2_with fail
        refine hR0.out.mono ?_
        rintro e w6 ⟨nv, rfl, _, hm6⟩
        rw [show readE { d with down := true } 0 = 8 from rfl]
        have HK6 := Lib.hid (HK5.out.step hm6)
        have hWK := Lib.hid (HK6.out.wake vb bits HBB.out hbl)
        clear hm6
        go_wp2_with fail
        refine hWK.out.mono ?_
        rintro e w7 ⟨rfl, S7, hk7⟩
        have HK7 := Lib.hid hk7
        clear hk7
        obtain ⟨d7, hd7⟩ : ∃ d7, wakeD { d with down := true } bits = d7 := ⟨_, rfl⟩
        rw [hd7] at HK7 HI
        have HD7 := Lib.hid hd7
        clear hd7
        go_wp2_with fail
        go_loopw [23] (fun i wx => ∃ k : Nat, k ≤ n ∧ i = .int .i64 k ∧ KW w wx (.pointer (some ⟨B, 0, none⟩)) G n 120 d7 S7 M gs vs) (fun i _ => n - (intOf i).toNat)
        case atStart => exact ⟨0, by omega, rfl, HK7.out⟩
        case round =>
          obtain ⟨k, hk, rfl, hkw⟩ := hrel
          by_cases hlt : k < n
          · have hre : readE d7 k = 0 := readE_ok HI.out.2.2.2.2.1 (by omega) (by rw [HI.out.2.2.2.2.2.1]; omega)
            have hla : last d7 k ∈ M k := by rw [← HI.out.2.2.1 k hlt]; exact HI.out.2.2.2.2.2.2.2.2 k
            have hRD := Lib.hid (hkw.read k)
            rw [hre] at hRD
            have HKW := Lib.hid (And.intro hkw hla)
            clear hkw hla hre
            go_wp2_with fail
            refine hRD.out.mono ?_
            rintro e w8 ⟨nv, rfl, hb8, hm8⟩
            have hb8 := hb8 (by trivial)
            have HK8 := Lib.hid (And.intro (HKW.out.1.step hm8) hb8)
            clear hb8 hm8
            obtain ⟨g, v, hgj, hvj, hst, hcell, hfz⟩ := HK8.out.1.at hlt
            obtain ⟨o, cap, cur, rfl, hcur, hsz, hle, hmx, hx⟩ := id hst
            rw [List.length_map] at hcell hle
            have HC := Lib.hid (And.intro hcell (And.intro hcur hx))
            have hlM := HI.out.2.2.2.1 k hlt
            clear hst hcell hcur hx hgj hvj hfz
            go_wp2_with fail
            go_loopw [26, 27] (fun s i wx => ∃ j : Nat, j ≤ (M k).length ∧ i = .int .i64 j ∧ s = .bool (((M k).take j).any fun y => decide (y = last d7 k)) ∧ Mod (fun _ => False) w8 wx) (fun _ i _ => (M k).length - (intOf i).toNat)
            case atStart => exact ⟨0, by omega, rfl, by simp, Mod.refl _ _⟩
            case round =>
              obtain ⟨j, hj, rfl, rfl, hm⟩ := hrel
              have c1 := (hm.cell (p := ⟨G, k, none⟩) (ltB HK8.out.1.may.row) (fun q => q)).trans HC.out.1
              have HMM := Lib.hid hm
              by_cases hjl : j < (M k).length
              · obtain ⟨y, hy⟩ : ∃ y, (M k)[j]? = some y := ⟨_, List.getElem?_eq_getElem hjl⟩
                have c2 : wr.cell? ⟨g, o + j, none⟩ = some (.string ⟨y.toArray⟩) := (hm.cell (p := ⟨g, o + j, none⟩) (ltB HC.out.2.1) (fun q => q)).trans (by rw [cellB HC.out.2.1]; exact HC.out.2.2 j _ (by rw [List.getElem?_map, hy]; rfl))
                have hcv : ∀ q, (convert 56 9 nv).run Try.prog (wr.drewN q) = .ok (.string ⟨(last d7 k).toArray⟩) (wr.drewN q) := fun q => conv_byt (HK8.out.2.same ((hm.tr (drewN_mod wr q)).same (fun _ _ q => q)) hm.size (fun _ q _ => q))
                have hty : (((M k).take (j + 1)).any fun y => decide (y = last d7 k)) = ((((M k).take j).any fun y => decide (y = last d7 k)) || decide (y = last d7 k)) := by
                  rw [List.take_add_one, hy, List.any_append]; simp
                have HTY := Lib.hid hty
                clear hty hm
                cases hany : (((M k).take j).any fun y => decide (y = last d7 k)) with
                | true =>
                  go_wp2_with fail
                  go_quiet (fail)
                  go_wp2_with fail
                  go_roundw
                  case rel => exact ⟨j + 1, by omega, by simp, by rw [HTY.out, hany]; rfl, HMM.out.tr (drewN_mod wr _)⟩
                  case measure => simp [intOf]; omega
                | false =>
                  go_wp2_with fail
                  go_quiet (fail)
                  go_wp2_with fail
                  go_roundw
                  case rel =>
                    refine ⟨j + 1, by omega, by simp, ?_, HMM.out.tr (drewN_mod wr _)⟩
                    rw [HTY.out, hany]
                    exact beq_flip _ _
                  case measure => simp [intOf]; omega
              · clear hm
                have e : j = (M k).length := by omega
                subst e
                have hany : (((M k).take (M k).length).any fun y => decide (y = last d7 k)) = true := by
                  rw [List.take_length, List.any_eq_true]
                  exact ⟨_, HKW.out.2, by simp⟩
                rw [hany]
                go_wp2_with fail
                go_roundw
                case rel => exact ⟨k + 1, by omega, by simp, HK8.out.1.step HMM.out⟩
                case measure => simp [intOf]; omega
          · have hST := Lib.hid (hkw.stat (by omega))
            have HKW := Lib.hid hkw
            clear hkw
            have hw0 := HI.out.2.2.2.2.2.2.1
            have ha0' := HI.out.2.2.2.2.2.2.2.1
            rw [hw0, ha0'] at hST
            have hf3 := field39_3
            have hf4 := field39_4
            go_wp2_with fail
            refine hST.out.mono ?_
            rintro e w8 ⟨rfl, hm8⟩
            have HK8 := Lib.hid (HKW.out.step hm8)
            have hST2 := Lib.hid (HK8.out.stat (by omega))
            rw [hw0, ha0'] at hST2
            clear hm8
            go_wp2_with fail
            refine hST2.out.mono ?_
            rintro e w9 ⟨rfl, hm9⟩
            have HK9 := Lib.hid (HK8.out.step hm9)
            clear hm9
            go_wp2_with fail
            go_ret
            exact ⟨rfl, HK9.out.mod⟩
end Go.Proofs.Ytaaoabfmelpcpaa
