/- OutputsOf, TermsOf, ProgramOf, ProgramsOf: counts. PRINTED BY A PROGRAM OF MY OWN. -/
import Derived.Test.YtckcamlicgdklaaCnB
namespace Go.Proofs.Ytckcamlicgdklaa
open Go.RowKit Go.Mo

set_option maxRecDepth 100000 in
theorem outputsOf_calls (w0 : World) (v : Value) (h : Rd w0 70 [v]) (w : World) (hm : Mod (fun _ => False) w0 w) : Calls Try.prog 61 #[v, .int .i64 6000] w fun e w' => Cnt w 50000000000000 (fun _ => True) e w' := by
  obtain ⟨a, len, cap, rfl, hb, _, hel⟩ := h.slice Try.underlying70 cc49 (by omega)
  have hlen := len_of_bytes hb bb49
  have HE := Lib.hid hel
  have HM := Lib.hid hm
  clear hel hm hb h
  go_enter Try.func61, Try.ntmps61
  go_wp2_with fail
  go_loopw [5, 6] (fun n i wr => ∃ (k : Nat) (z : Int), k ≤ len ∧ i = .int .i64 k ∧ n = .int .i64 z ∧ 0 ≤ z ∧ z ≤ 50000000000000 ∧ Mod (fun _ => False) w wr) (fun _ i _ => len - (intOf i).toNat)
  case atStart => exact ⟨0, _, by omega, rfl, rfl, by omega, by omega, Mod.refl _ w⟩
  case round =>
    obtain ⟨k, z, hk, rfl, rfl, hz0, hz1, hmr⟩ := hrel
    by_cases hlt : k < len
    · by_cases hz : z ≤ 6000
      · obtain ⟨L, off, ds, rfl, hL, hcl, hrd, hcs⟩ := HE.out k hlt
        have hld := load_mid (p := off + k * 69) (fun j u hu => (hmr.cell (p := ⟨L, _, none⟩) (Nat.lt_of_lt_of_le hL HM.out.size) (fun q => q)).trans ((HM.out.cell (p := ⟨L, _, none⟩) hL (fun q => q)).trans (hcs j u hu))) 49 0 69 _ Try.underlying49 rfl ss49 (by omega)
        have hcc := outputOf_calls w0 ds hrd wr (HM.out.tr hmr)
        rw [Nat.add_zero] at hld
        rw [List.drop_zero, List.take_of_length_le (by omega)] at hld
        have HLD := Lib.hid hld
        have HCC := Lib.hid hcc
        have hMR := Lib.hid hmr
        clear hmr hcs hrd hld hcc
        go_wp2_with (refine wpList_exec rfl (exec_load_pt _ _ 49 _ rfl ⟨L, off + k * 69, none⟩ rfl HLD.out) ?_)
        refine HCC.out.mono ?_
        rintro e w9 ⟨m, rfl, hm0, hm1, hmR, hmw⟩
        have hM9 := Lib.hid (hMR.out.tr hmw)
        clear hmw hmR
        go_wp2_with fail
        go_roundw
        case rel => exact ⟨k + 1, z + m, by omega, rfl, rfl, by omega, by omega, hM9.out⟩
        case measure => simp [intOf]; omega
      · have hMR := Lib.hid hmr
        clear hmr
        go_wp2_with fail
        go_ret
        exact ⟨z, rfl, by omega, by omega, trivial, hMR.out⟩
    · have e : k = len := by omega
      subst e
      have hMR := Lib.hid hmr
      clear hmr
      go_wp2_with fail
      go_ret
      exact ⟨z, rfl, by omega, by omega, trivial, hMR.out⟩
set_option maxRecDepth 100000 in
theorem termsOf_calls (w0 : World) (v : Value) (h : Rd w0 124 [v]) (w : World) (hm : Mod (fun _ => False) w0 w) : Calls Try.prog 48 #[v, .int .i64 6000] w fun e w' => Cnt w 20000000000000 (fun _ => True) e w' := by
  obtain ⟨a, len, cap, rfl, hb, _, hel⟩ := h.slice Try.underlying124 cc47 (by omega)
  have hlen := len_of_bytes hb bb47
  have HE := Lib.hid hel
  have HM := Lib.hid hm
  clear hel hm hb h
  go_enter Try.func48, Try.ntmps48
  go_wp2_with fail
  go_loopw [5, 6] (fun n i wr => ∃ (k : Nat) (z : Int), k ≤ len ∧ i = .int .i64 k ∧ n = .int .i64 z ∧ 0 ≤ z ∧ z ≤ 20000000000000 ∧ Mod (fun _ => False) w wr) (fun _ i _ => len - (intOf i).toNat)
  case atStart => exact ⟨0, _, by omega, rfl, rfl, by omega, by omega, Mod.refl _ w⟩
  case round =>
    obtain ⟨k, z, hk, rfl, rfl, hz0, hz1, hmr⟩ := hrel
    by_cases hlt : k < len
    · by_cases hz : z ≤ 6000
      · obtain ⟨L, off, ds, rfl, hL, hcl, hrd, hcs⟩ := HE.out k hlt
        have hld := load_mid (p := off + k * 1) (fun j u hu => (hmr.cell (p := ⟨L, _, none⟩) (Nat.lt_of_lt_of_le hL HM.out.size) (fun q => q)).trans ((HM.out.cell (p := ⟨L, _, none⟩) hL (fun q => q)).trans (hcs j u hu))) 47 0 1 _ Try.underlying47 rfl ss47 (by omega)
        have hcc := termOf_calls w0 ds hrd wr (HM.out.tr hmr)
        rw [Nat.add_zero] at hld
        rw [List.drop_zero, List.take_of_length_le (by omega)] at hld
        simp only [Nat.mul_one] at hld
        have HLD := Lib.hid hld
        have HCC := Lib.hid hcc
        have hMR := Lib.hid hmr
        clear hmr hcs hrd hld hcc
        go_wp2_with (refine wpList_exec rfl (exec_load_pt _ _ 47 _ rfl ⟨L, off + k, none⟩ rfl HLD.out) ?_)
        refine HCC.out.mono ?_
        rintro e w9 ⟨m, rfl, hm0, hm1, hmR, hmw⟩
        have hM9 := Lib.hid (hMR.out.tr hmw)
        clear hmw hmR
        go_wp2_with fail
        go_roundw
        case rel => exact ⟨k + 1, z + 1 + m, by omega, rfl, rfl, by omega, by omega, hM9.out⟩
        case measure => simp [intOf]; omega
      · have hMR := Lib.hid hmr
        clear hmr
        go_wp2_with fail
        go_ret
        exact ⟨z, rfl, by omega, by omega, trivial, hMR.out⟩
    · have e : k = len := by omega
      subst e
      have hMR := Lib.hid hmr
      clear hmr
      go_wp2_with fail
      go_ret
      exact ⟨z, rfl, by omega, by omega, trivial, hMR.out⟩
set_option maxRecDepth 100000 in
theorem programOf_calls (w0 : World) (cs : List Value) (h : Rd w0 161 cs) (w : World) (hm : Mod (fun _ => False) w0 w) : Calls Try.prog 62 #[.agg cs.toArray, .int .i64 6000] w fun e w' => Cnt w 20000000000000 (fun _ => True) e w' := by
  obtain ⟨v, hv, hr⟩ := h.cellAt Try.underlying161 1 rfl 159 1 rfl rfl cc159 cc161 (by omega)
  obtain ⟨a, len, cap, rfl, hbl, _, hel⟩ := hr.slice Try.underlying159 cc170 (by omega)
  have hlen := len_of_bytes hbl bb170
  obtain ⟨w1, hw1⟩ : ∃ w1, w.alloc (.cells cs.toArray 161) = w1 := ⟨_, rfl⟩
  have hb : w1.heap[w.heap.size]? = some (.cells cs.toArray 161 (0, 0)) := by rw [← hw1]; exact newB w _
  have hm1 : Mod (fun _ => False) w w1 := by rw [← hw1]; exact (Mod.refl _ w).alloc _
  have HB := Lib.hid (fun (W : World) (hW : Mod (fun _ => False) w1 W) => (hW.block _ (ltB hb) (fun q => q)).trans hb)
  have HM := Lib.hid hm1
  have HM0 := Lib.hid (hm.tr hm1)
  have HS := Lib.hid (fun (W : World) (hW : Mod (fun _ => False) w1 W) => (show W.cell? ⟨w.heap.size, 1, none⟩ = some (.slice a len cap) from (cellB (HB.out _ hW) 1).trans (by rw [List.getElem?_toArray]; exact hv)))
  have HE := Lib.hid hel
  clear hel hm hb h hm1 hr hv hbl
  go_enter Try.func62, Try.ntmps62
  go_wp2_with fail
  go_loopw [5, 6] (fun n i wr => ∃ (k : Nat) (z : Int), k ≤ len ∧ i = .int .i64 k ∧ n = .int .i64 z ∧ 0 ≤ z ∧ z ≤ 20000000000000 ∧ Mod (fun _ => False) w1 wr) (fun _ i _ => len - (intOf i).toNat)
  case atStart => exact ⟨0, _, by omega, rfl, rfl, by omega, by omega, Mod.refl _ w1⟩
  case round =>
    obtain ⟨k, z, hk, rfl, rfl, hz0, hz1, hmr⟩ := hrel
    have s0 := HS.out _ hmr
    by_cases hlt : k < len
    · by_cases hz : z ≤ 6000
      · obtain ⟨L, off, ds, rfl, hL, hcl, hrd, hcs⟩ := HE.out k hlt
        have hld := load_mid (p := off + k * 4) (fun j u hu => (hmr.cell (p := ⟨L, _, none⟩) (Nat.lt_of_lt_of_le hL HM0.out.size) (fun q => q)).trans ((HM0.out.cell (p := ⟨L, _, none⟩) hL (fun q => q)).trans (hcs j u hu))) 47 3 1 _ Try.underlying47 rfl ss47 (by omega)
        have hcc := termOf_calls w0 _ (hrd.fieldAt Try.underlying170 3 rfl 47 3 1 rfl rfl cc47) wr (HM0.out.tr hmr)
        have HLD := Lib.hid hld
        have HCC := Lib.hid hcc
        have hMR := Lib.hid hmr
        clear hmr hcs hrd hld hcc
        go_wp2_with (refine wpList_exec rfl (exec_load_pt _ _ 47 _ rfl ⟨L, off + k * 4 + 3, none⟩ rfl HLD.out) ?_)
        refine HCC.out.mono ?_
        rintro e w9 ⟨m, rfl, hm0, hm1, hmR, hmw⟩
        have hM9 := Lib.hid (hMR.out.tr hmw)
        clear hmw hmR
        go_wp2_with fail
        go_roundw
        case rel => exact ⟨k + 1, z + 1 + m, by omega, rfl, rfl, by omega, by omega, hM9.out⟩
        case measure => simp [intOf]; omega
      · have hMR := Lib.hid hmr
        clear hmr
        go_wp2_with fail
        go_ret
        exact ⟨z, rfl, by omega, by omega, trivial, HM.out.tr hMR.out⟩
    · have e : k = len := by omega
      subst e
      have hMR := Lib.hid hmr
      clear hmr
      go_wp2_with fail
      go_ret
      exact ⟨z, rfl, by omega, by omega, trivial, HM.out.tr hMR.out⟩
set_option maxRecDepth 100000 in
theorem programsOf_calls (w0 : World) (v : Value) (h : Rd w0 123 [v]) (w : World) (hm : Mod (fun _ => False) w0 w) : Calls Try.prog 47 #[v, .int .i64 6000] w fun e w' => Cnt w 30000000000000 (fun _ => True) e w' := by
  obtain ⟨a, len, cap, rfl, hb, _, hel⟩ := h.slice Try.underlying123 cc161 (by omega)
  have hlen := len_of_bytes hb bb161
  have HE := Lib.hid hel
  have HM := Lib.hid hm
  clear hel hm hb h
  go_enter Try.func47, Try.ntmps47
  go_wp2_with fail
  go_loopw [5, 6] (fun n i wr => ∃ (k : Nat) (z : Int), k ≤ len ∧ i = .int .i64 k ∧ n = .int .i64 z ∧ 0 ≤ z ∧ z ≤ 30000000000000 ∧ Mod (fun _ => False) w wr) (fun _ i _ => len - (intOf i).toNat)
  case atStart => exact ⟨0, _, by omega, rfl, rfl, by omega, by omega, Mod.refl _ w⟩
  case round =>
    obtain ⟨k, z, hk, rfl, rfl, hz0, hz1, hmr⟩ := hrel
    by_cases hlt : k < len
    · by_cases hz : z ≤ 6000
      · obtain ⟨L, off, ds, rfl, hL, hcl, hrd, hcs⟩ := HE.out k hlt
        have hld := load_mid (p := off + k * 2) (fun j u hu => (hmr.cell (p := ⟨L, _, none⟩) (Nat.lt_of_lt_of_le hL HM.out.size) (fun q => q)).trans ((HM.out.cell (p := ⟨L, _, none⟩) hL (fun q => q)).trans (hcs j u hu))) 161 0 2 _ Try.underlying161 rfl ss161 (by omega)
        have hcc := programOf_calls w0 ds hrd wr (HM.out.tr hmr)
        rw [Nat.add_zero] at hld
        rw [List.drop_zero, List.take_of_length_le (by omega)] at hld
        have HLD := Lib.hid hld
        have HCC := Lib.hid hcc
        have hMR := Lib.hid hmr
        clear hmr hcs hrd hld hcc
        go_wp2_with (refine wpList_exec rfl (exec_load_pt _ _ 161 _ rfl ⟨L, off + k * 2, none⟩ rfl HLD.out) ?_)
        refine HCC.out.mono ?_
        rintro e w9 ⟨m, rfl, hm0, hm1, hmR, hmw⟩
        have hM9 := Lib.hid (hMR.out.tr hmw)
        clear hmw hmR
        go_wp2_with fail
        go_roundw
        case rel => exact ⟨k + 1, z + m, by omega, rfl, rfl, by omega, by omega, hM9.out⟩
        case measure => simp [intOf]; omega
      · have hMR := Lib.hid hmr
        clear hmr
        go_wp2_with fail
        go_ret
        exact ⟨z, rfl, by omega, by omega, trivial, hMR.out⟩
    · have e : k = len := by omega
      subst e
      have hMR := Lib.hid hmr
      clear hmr
      go_wp2_with fail
      go_ret
      exact ⟨z, rfl, by omega, by omega, trivial, hMR.out⟩
end Go.Proofs.Ytckcamlicgdklaa
