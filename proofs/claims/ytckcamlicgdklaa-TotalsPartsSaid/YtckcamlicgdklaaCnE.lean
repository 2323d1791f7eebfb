/- TxOf, TxsOf, BlockOf, StoredOf, StateOf, great: counts. PRINTED BY A PROGRAM OF MY OWN. -/
import Derived.Test.YtckcamlicgdklaaCnD
namespace Go.Proofs.Ytckcamlicgdklaa
open Go.RowKit Go.Mo

set_option maxRecDepth 100000 in
set_option maxHeartbeats 1000000 in
theorem txOf_calls (w0 : World) (cs : List Value) (h : Rd w0 127 cs) (w : World) (hm : Mod (fun _ => False) w0 w) : Calls Try.prog 38 #[.agg cs.toArray, .int .i64 6000] w fun e w' => Cnt w 600000000000000 (fun _ => True) e w' := by
  have hl := h.len Try.underlying127
  rw [cc127] at hl
  have HR0 := Lib.hid (h.fieldAt Try.underlying127 0 rfl 121 0 40 rfl rfl cc121)
  obtain ⟨v1, hv1, hr1⟩ := h.cellAt Try.underlying127 1 rfl 122 40 rfl rfl cc122 cc127 (by omega)
  obtain ⟨a1, l1, c1, rfl, hb1, _, hel1⟩ := id (hr1.slice Try.underlying122 cc141 (by omega))
  have hl1 := len_of_bytes hb1 bb141
  have HR1 := Lib.hid hr1
  have HC40 := Lib.hid hv1
  have HE1 := Lib.hid hel1
  clear hv1 hr1 hb1 hel1
  obtain ⟨v2, hv2, hr2⟩ := h.cellAt Try.underlying127 2 rfl 123 41 rfl rfl cc123 cc127 (by omega)
  obtain ⟨a2, l2, c2, rfl, hb2, _, hel2⟩ := id (hr2.slice Try.underlying123 cc161 (by omega))
  have hl2 := len_of_bytes hb2 bb161
  have HR2 := Lib.hid hr2
  have HC41 := Lib.hid hv2
  have HE2 := Lib.hid hel2
  clear hv2 hr2 hb2 hel2
  obtain ⟨v3, hv3, hr3⟩ := h.cellAt Try.underlying127 3 rfl 124 42 rfl rfl cc124 cc127 (by omega)
  obtain ⟨a3, l3, c3, rfl, hb3, _, hel3⟩ := id (hr3.slice Try.underlying124 cc47 (by omega))
  have hl3 := len_of_bytes hb3 bb47
  have HR3 := Lib.hid hr3
  have HC42 := Lib.hid hv3
  have HE3 := Lib.hid hel3
  clear hv3 hr3 hb3 hel3
  obtain ⟨v4, hv4, hr4⟩ := h.cellAt Try.underlying127 4 rfl 125 43 rfl rfl cc125 cc127 (by omega)
  obtain ⟨a4, l4, c4, rfl, hb4, _, hel4⟩ := id (hr4.slice Try.underlying125 cc144 (by omega))
  have hl4 := len_of_bytes hb4 bb144
  have HR4 := Lib.hid hr4
  have HC43 := Lib.hid hv4
  have HE4 := Lib.hid hel4
  clear hv4 hr4 hb4 hel4
  obtain ⟨w1, hw1⟩ : ∃ w1, w.alloc (.cells cs.toArray 127) = w1 := ⟨_, rfl⟩
  have hb : w1.heap[w.heap.size]? = some (.cells cs.toArray 127 (0, 0)) := by rw [← hw1]; exact newB w _
  have hm1 : Mod (fun _ => False) w w1 := by rw [← hw1]; exact (Mod.refl _ w).alloc _
  have HB := Lib.hid (fun (W : World) (hW : Mod (fun _ => False) w1 W) => (hW.block _ (ltB hb) (fun q => q)).trans hb)
  have HM := Lib.hid hm1
  have HM0 := Lib.hid (hm.tr hm1)
  have HL := Lib.hid hl
  clear hb h hm1 hm hl
  have HS1 := Lib.hid (fun (W : World) (hW : Mod (fun _ => False) w1 W) => (show W.cell? ⟨w.heap.size, 40, none⟩ = some (.slice a1 l1 c1) from (cellB (HB.out _ hW) 40).trans (by rw [List.getElem?_toArray]; exact HC40.out)))
  have HS4 := Lib.hid (fun (W : World) (hW : Mod (fun _ => False) w1 W) => (show W.cell? ⟨w.heap.size, 43, none⟩ = some (.slice a4 l4 c4) from (cellB (HB.out _ hW) 43).trans (by rw [List.getElem?_toArray]; exact HC43.out)))
  go_enter Try.func38, Try.ntmps38
  go_upto_region 1 with fail
  refine wp_region_held_drew (S := fun W => Mod (fun _ => False) w1 W) (by kernel_rfl) ((Mod.refl _ w1).drew) (fun hH => ?_)
  refine wpAnyH_take (i := 0) (oi := { dst := some 8, op := Op.fieldAddr 127 (Operand.tmp 2) 0, type := 0, pos := "count.go:94", after := #[], guard := none }) (v := .pointer (some ⟨w.heap.size, 0, none⟩)) rfl (by kernel_rfl) (by kernel_rfl) (by kernel_rfl) (fun _ _ _ h => h) (Or.inl ⟨by rfl, ?_⟩) hH ?_
  · intro w' hSw
    go_simp
    try with_reducible rfl
  (try simp only [Act.put, List.setIfInBounds_toArray, List.set_cons_zero, List.set_cons_succ])
  refine wpAnyH_take (i := 1) (oi := { dst := some 9, op := Op.load 121 (Operand.tmp 8), type := 121, pos := "count.go:94", after := #[{ on := 0, ground := Ground.data }], guard := none }) (v := .agg ((cs.drop 0).take 40).toArray) rfl (by kernel_rfl) (by kernel_rfl) (by kernel_rfl) (fun _ _ _ h => h) (Or.inl ⟨by rfl, ?_⟩) hH ?_
  · intro w' hSw
    exact exec_load_pt _ _ 121 _ rfl ⟨w.heap.size, 0, none⟩ rfl (load_box (HB.out _ hSw) 121 0 40 _ Try.underlying121 rfl ss121 (by rw [HL.out]; omega))
  (try simp only [Act.put, List.setIfInBounds_toArray, List.set_cons_zero, List.set_cons_succ])
  refine wpAnyH_take (i := 2) (oi := { dst := some 10, op := Op.move (Operand.tmp 1), type := 3, pos := "count.go:94", after := #[], guard := none }) (v := .int .i64 6000) rfl (by kernel_rfl) (by kernel_rfl) (by kernel_rfl) (fun _ _ _ h => h) (Or.inl ⟨by rfl, ?_⟩) hH ?_
  · intro w' hSw
    go_simp
    try with_reducible rfl
  (try simp only [Act.put, List.setIfInBounds_toArray, List.set_cons_zero, List.set_cons_succ])
  refine wpAnyH_take (i := 4) (oi := { dst := some 12, op := Op.fieldAddr 127 (Operand.tmp 2) 2, type := 0, pos := "count.go:94", after := #[], guard := none }) (v := .pointer (some ⟨w.heap.size, 41, none⟩)) rfl (by kernel_rfl) (by kernel_rfl) (by kernel_rfl) (fun _ _ _ h => h) (Or.inl ⟨by rfl, ?_⟩) hH ?_
  · intro w' hSw
    go_simp
    try with_reducible rfl
  (try simp only [Act.put, List.setIfInBounds_toArray, List.set_cons_zero, List.set_cons_succ])
  refine wpAnyH_take (i := 5) (oi := { dst := some 13, op := Op.load 123 (Operand.tmp 12), type := 123, pos := "count.go:94", after := #[{ on := 4, ground := Ground.data }], guard := none }) (v := .slice a2 l2 c2) rfl (by kernel_rfl) (by kernel_rfl) (by kernel_rfl) (fun _ _ _ h => h) (Or.inl ⟨by rfl, ?_⟩) hH ?_
  · intro w' hSw
    have s : w'.cell? ⟨w.heap.size, 41, none⟩ = some (.slice a2 l2 c2) := (cellB (HB.out _ hSw) 41).trans (by rw [List.getElem?_toArray]; exact HC41.out)
    go_simp
    try with_reducible rfl
  (try simp only [Act.put, List.setIfInBounds_toArray, List.set_cons_zero, List.set_cons_succ])
  refine wpAnyH_take (i := 6) (oi := { dst := some 14, op := Op.move (Operand.tmp 1), type := 3, pos := "count.go:94", after := #[], guard := none }) (v := .int .i64 6000) rfl (by kernel_rfl) (by kernel_rfl) (by kernel_rfl) (fun _ _ _ h => h) (Or.inl ⟨by rfl, ?_⟩) hH ?_
  · intro w' hSw
    go_simp
    try with_reducible rfl
  (try simp only [Act.put, List.setIfInBounds_toArray, List.set_cons_zero, List.set_cons_succ])
  refine wpAnyH_take (i := 9) (oi := { dst := some 17, op := Op.fieldAddr 127 (Operand.tmp 2) 3, type := 0, pos := "count.go:94", after := #[], guard := none }) (v := .pointer (some ⟨w.heap.size, 42, none⟩)) rfl (by kernel_rfl) (by kernel_rfl) (by kernel_rfl) (fun _ _ _ h => h) (Or.inl ⟨by rfl, ?_⟩) hH ?_
  · intro w' hSw
    go_simp
    try with_reducible rfl
  (try simp only [Act.put, List.setIfInBounds_toArray, List.set_cons_zero, List.set_cons_succ])
  refine wpAnyH_take (i := 10) (oi := { dst := some 18, op := Op.load 124 (Operand.tmp 17), type := 124, pos := "count.go:94", after := #[{ on := 9, ground := Ground.data }], guard := none }) (v := .slice a3 l3 c3) rfl (by kernel_rfl) (by kernel_rfl) (by kernel_rfl) (fun _ _ _ h => h) (Or.inl ⟨by rfl, ?_⟩) hH ?_
  · intro w' hSw
    have s : w'.cell? ⟨w.heap.size, 42, none⟩ = some (.slice a3 l3 c3) := (cellB (HB.out _ hSw) 42).trans (by rw [List.getElem?_toArray]; exact HC42.out)
    go_simp
    try with_reducible rfl
  (try simp only [Act.put, List.setIfInBounds_toArray, List.set_cons_zero, List.set_cons_succ])
  refine wpAnyH_take (i := 11) (oi := { dst := some 19, op := Op.move (Operand.tmp 1), type := 3, pos := "count.go:94", after := #[], guard := none }) (v := .int .i64 6000) rfl (by kernel_rfl) (by kernel_rfl) (by kernel_rfl) (fun _ _ _ h => h) (Or.inl ⟨by rfl, ?_⟩) hH ?_
  · intro w' hSw
    go_simp
    try with_reducible rfl
  (try simp only [Act.put, List.setIfInBounds_toArray, List.set_cons_zero, List.set_cons_succ])
  refine wpAnyH_ready (rs := [3]) (by kernel_rfl) (by simp) ?_
  refine AllReadyH.cons (o := { dst := some 11, op := Op.call { callee := Callee.value (Operand.func 46), args := #[Operand.tmp 9, Operand.tmp 10], argTypes := #[121, 3] }, type := 3, pos := "count.go:94", after := #[{ on := 1, ground := Ground.data }, { on := 2, ground := Ground.data }], guard := none }) rfl (fun K hK => ?_) AllReadyH.nil
  go_simp
  refine (bodyOf_calls w0 _ HR0.out _ (HM0.out.tr ((Mod.refl _ w1).drew))).mono ?_
  rintro e v1 ⟨n1, rfl, n1lo, n1hi, n1R, hm⟩
  have HM1 := Lib.hid (((Mod.refl _ w1).drew).tr hm)
  clear n1R
  clear hm
  refine hK.out _ _ HM1.out (fun hH => ?_)
  clear hK K
  (try simp only [Act.put, List.setIfInBounds_toArray, List.set_cons_zero, List.set_cons_succ])
  refine wpAnyH_ready (rs := [7]) (by kernel_rfl) (by simp) ?_
  refine AllReadyH.cons (o := { dst := some 15, op := Op.call { callee := Callee.value (Operand.func 47), args := #[Operand.tmp 13, Operand.tmp 14], argTypes := #[123, 3] }, type := 3, pos := "count.go:94", after := #[{ on := 5, ground := Ground.data }, { on := 6, ground := Ground.data }, { on := 3, ground := Ground.chain }], guard := none }) rfl (fun K hK => ?_) AllReadyH.nil
  go_simp
  refine (programsOf_calls w0 _ HR2.out _ (HM0.out.tr HM1.out)).mono ?_
  rintro e v2 ⟨n2, rfl, n2lo, n2hi, n2R, hm⟩
  have HM2 := Lib.hid (HM1.out.tr hm)
  clear n2R
  clear hm
  refine hK.out _ _ HM2.out (fun hH => ?_)
  clear hK K
  (try simp only [Act.put, List.setIfInBounds_toArray, List.set_cons_zero, List.set_cons_succ])
  refine wpAnyH_take (i := 8) (oi := { dst := some 16, op := Op.binOp BinOp.add 3 (Operand.tmp 11) (Operand.tmp 15) 3, type := 3, pos := "count.go:94", after := #[{ on := 3, ground := Ground.data }, { on := 7, ground := Ground.data }], guard := none }) (v := .int .i64 (n1 + n2)) rfl (by kernel_rfl) (by kernel_rfl) (by kernel_rfl) (fun _ _ _ h => h) (Or.inl ⟨by rfl, ?_⟩) hH ?_
  · intro w' hSw
    go_simp
    first | exact wrap_i64 (by omega) (by omega) | with_reducible rfl
  (try simp only [Act.put, List.setIfInBounds_toArray, List.set_cons_zero, List.set_cons_succ])
  refine wpAnyH_ready (rs := [12]) (by kernel_rfl) (by simp) ?_
  refine AllReadyH.cons (o := { dst := some 20, op := Op.call { callee := Callee.value (Operand.func 48), args := #[Operand.tmp 18, Operand.tmp 19], argTypes := #[124, 3] }, type := 3, pos := "count.go:94", after := #[{ on := 10, ground := Ground.data }, { on := 11, ground := Ground.data }, { on := 7, ground := Ground.chain }], guard := none }) rfl (fun K hK => ?_) AllReadyH.nil
  go_simp
  refine (termsOf_calls w0 _ HR3.out _ (HM0.out.tr HM2.out)).mono ?_
  rintro e v3 ⟨n3, rfl, n3lo, n3hi, n3R, hm⟩
  have HM3 := Lib.hid (HM2.out.tr hm)
  clear n3R
  clear hm
  refine hK.out _ _ HM3.out (fun hH => ?_)
  clear hK K
  (try simp only [Act.put, List.setIfInBounds_toArray, List.set_cons_zero, List.set_cons_succ])
  refine wpAnyH_take (i := 13) (oi := { dst := some 21, op := Op.binOp BinOp.add 3 (Operand.tmp 16) (Operand.tmp 20) 3, type := 3, pos := "count.go:94", after := #[{ on := 8, ground := Ground.data }, { on := 12, ground := Ground.data }], guard := none }) (v := .int .i64 ((n1 + n2) + n3)) rfl (by kernel_rfl) (by kernel_rfl) (by kernel_rfl) (fun _ _ _ h => h) (Or.inl ⟨by rfl, ?_⟩) hH ?_
  · intro w' hSw
    go_simp
    first | exact wrap_i64 (by omega) (by omega) | with_reducible rfl
  (try simp only [Act.put, List.setIfInBounds_toArray, List.set_cons_zero, List.set_cons_succ])
  refine wpAnyH_take (i := 14) (oi := { dst := some 5, op := Op.assign (Operand.tmp 21), type := 3, pos := "count.go:94", after := #[{ on := 13, ground := Ground.data }, { on := 12, ground := Ground.chain }, { on := 0, ground := Ground.phase }, { on := 1, ground := Ground.phase }, { on := 2, ground := Ground.phase }, { on := 3, ground := Ground.phase }, { on := 4, ground := Ground.phase }, { on := 5, ground := Ground.phase }, { on := 6, ground := Ground.phase }, { on := 7, ground := Ground.phase }, { on := 8, ground := Ground.phase }, { on := 9, ground := Ground.phase }, { on := 10, ground := Ground.phase }, { on := 11, ground := Ground.phase }, { on := 12, ground := Ground.phase }, { on := 13, ground := Ground.phase }], guard := none }) (v := .int .i64 ((n1 + n2) + n3)) rfl (by kernel_rfl) (by kernel_rfl) (by kernel_rfl) (fun _ _ _ h => h) (Or.inl ⟨by rfl, ?_⟩) hH ?_
  · intro w' hSw
    go_simp
    try with_reducible rfl
  (try simp only [Act.put, List.setIfInBounds_toArray, List.set_cons_zero, List.set_cons_succ])
  refine wpAnyH_done (by kernel_rfl) ?_ _
  go_wp2_with fail
  go_loopw [5, 6] (fun n i wr => ∃ (k : Nat) (z : Int), k ≤ l1 ∧ i = .int .i64 k ∧ n = .int .i64 z ∧ 0 ≤ z ∧ z ≤ 600000000000000 ∧ Mod (fun _ => False) w1 wr) (fun _ i _ => l1 - (intOf i).toNat)
  case atStart => exact ⟨0, _, by omega, rfl, rfl, by omega, by omega, HM3.out⟩
  case round =>
    obtain ⟨k, z, hk, rfl, rfl, hz0, hz1, hmr⟩ := hrel
    have s0 := HS1.out _ hmr
    by_cases hlt : k < l1
    · by_cases hz : z ≤ 6000
      · obtain ⟨L, off, ds, rfl, hL, hcl, hrd, hcs⟩ := HE1.out k hlt
        obtain ⟨u, hu, hru⟩ := hrd.cellAt Try.underlying141 0 rfl 139 0 rfl rfl cc139 cc141 (by omega)
        obtain ⟨a9, l9, c9, rfl, hb9, _⟩ := hru.slice Try.underlying139 cc27 (by omega)
        have hl9 := len_of_bytes hb9 bb27
        have hc : wr.cell? ⟨L, off + k, none⟩ = some (.slice a9 l9 c9) := by
          have := (hmr.cell (p := ⟨L, _, none⟩) (Nat.lt_of_lt_of_le hL HM0.out.size) (fun q => q)).trans ((HM0.out.cell (p := ⟨L, _, none⟩) hL (fun q => q)).trans (hcs 0 _ hu))
          simpa only [Nat.add_zero, Nat.mul_one] using this
        have hMR := Lib.hid hmr
        clear hmr hcs hrd hu hru hb9
        go_wp2_with fail
        go_roundw
        case rel => exact ⟨k + 1, z + 1 + l9, by omega, rfl, rfl, by omega, by omega, hMR.out⟩
        case measure => simp [intOf]; omega
      · have hMR := Lib.hid hmr
        clear hmr
        go_wp2_with fail
        go_loopw [5, 7] (fun n i wr => ∃ (k : Nat) (z : Int), k ≤ l4 ∧ i = .int .i64 k ∧ n = .int .i64 z ∧ 0 ≤ z ∧ z ≤ 600000000000000 ∧ Mod (fun _ => False) w1 wr) (fun _ i _ => l4 - (intOf i).toNat)
        case atStart => exact ⟨0, _, by omega, rfl, rfl, by omega, by omega, hMR.out⟩
        case round =>
          obtain ⟨k, z, hk, rfl, rfl, hz0, hz1, hmr⟩ := hrel
          have s0 := HS4.out _ hmr
          by_cases hlt : k < l4
          · by_cases hz : z ≤ 6000
            · obtain ⟨L, off, ds, rfl, hL, hcl, hrd, hcs⟩ := HE4.out k hlt
              have hld := load_mid (p := off + k * 5) (fun j u hu => (hmr.cell (p := ⟨L, _, none⟩) (Nat.lt_of_lt_of_le hL HM0.out.size) (fun q => q)).trans ((HM0.out.cell (p := ⟨L, _, none⟩) hL (fun q => q)).trans (hcs j u hu))) 47 2 1 _ Try.underlying47 rfl ss47 (by omega)
              have hcc := termOf_calls w0 _ (hrd.fieldAt Try.underlying144 2 rfl 47 2 1 rfl rfl cc47) wr (HM0.out.tr hmr)
              have HLD := Lib.hid hld
              have HCC := Lib.hid hcc
              have hMR := Lib.hid hmr
              clear hmr hcs hrd hld hcc
              go_wp2_with (refine wpList_exec rfl (exec_load_pt _ _ 47 _ rfl ⟨L, off + k * 5 + 2, none⟩ rfl HLD.out) ?_)
              refine HCC.out.mono ?_
              rintro e w9 ⟨m, rfl, hm0, hm1, hmR, hmw⟩
              have hM9 := Lib.hid (hMR.out.tr hmw)
              clear hmw hmR
              go_wp2_with fail
              go_roundw
              case rel => exact ⟨k + 1, z + 1 + m, by omega, rfl, rfl, by omega, by omega, hM9.out⟩
              case measure => simp [intOf]; omega
            · have hMR := Lib.hid hmr
              clear hmr
              go_wp2_with fail
              go_ret
              exact ⟨z, rfl, by omega, by omega, trivial, HM.out.tr hMR.out⟩
          · have e : k = l4 := by omega
            subst e
            have hMR := Lib.hid hmr
            clear hmr
            go_wp2_with fail
            go_ret
            exact ⟨z, rfl, by omega, by omega, trivial, HM.out.tr hMR.out⟩
    · have e : k = l1 := by omega
      subst e
      have hMR := Lib.hid hmr
      clear hmr
      go_wp2_with fail
      go_loopw [5, 7] (fun n i wr => ∃ (k : Nat) (z : Int), k ≤ l4 ∧ i = .int .i64 k ∧ n = .int .i64 z ∧ 0 ≤ z ∧ z ≤ 600000000000000 ∧ Mod (fun _ => False) w1 wr) (fun _ i _ => l4 - (intOf i).toNat)
      case atStart => exact ⟨0, _, by omega, rfl, rfl, by omega, by omega, hMR.out⟩
      case round =>
        obtain ⟨k, z, hk, rfl, rfl, hz0, hz1, hmr⟩ := hrel
        have s0 := HS4.out _ hmr
        by_cases hlt : k < l4
        · by_cases hz : z ≤ 6000
          · obtain ⟨L, off, ds, rfl, hL, hcl, hrd, hcs⟩ := HE4.out k hlt
            have hld := load_mid (p := off + k * 5) (fun j u hu => (hmr.cell (p := ⟨L, _, none⟩) (Nat.lt_of_lt_of_le hL HM0.out.size) (fun q => q)).trans ((HM0.out.cell (p := ⟨L, _, none⟩) hL (fun q => q)).trans (hcs j u hu))) 47 2 1 _ Try.underlying47 rfl ss47 (by omega)
            have hcc := termOf_calls w0 _ (hrd.fieldAt Try.underlying144 2 rfl 47 2 1 rfl rfl cc47) wr (HM0.out.tr hmr)
            have HLD := Lib.hid hld
            have HCC := Lib.hid hcc
            have hMR := Lib.hid hmr
            clear hmr hcs hrd hld hcc
            go_wp2_with (refine wpList_exec rfl (exec_load_pt _ _ 47 _ rfl ⟨L, off + k * 5 + 2, none⟩ rfl HLD.out) ?_)
            refine HCC.out.mono ?_
            rintro e w9 ⟨m, rfl, hm0, hm1, hmR, hmw⟩
            have hM9 := Lib.hid (hMR.out.tr hmw)
            clear hmw hmR
            go_wp2_with fail
            go_roundw
            case rel => exact ⟨k + 1, z + 1 + m, by omega, rfl, rfl, by omega, by omega, hM9.out⟩
            case measure => simp [intOf]; omega
          · have hMR := Lib.hid hmr
            clear hmr
            go_wp2_with fail
            go_ret
            exact ⟨z, rfl, by omega, by omega, trivial, HM.out.tr hMR.out⟩
        · have e : k = l4 := by omega
          subst e
          have hMR := Lib.hid hmr
          clear hmr
          go_wp2_with fail
          go_ret
          exact ⟨z, rfl, by omega, by omega, trivial, HM.out.tr hMR.out⟩
set_option maxRecDepth 100000 in
set_option maxHeartbeats 1000000 in
theorem txsOf_calls (w0 : World) (v : Value) (h : Rd w0 34 [v]) (w : World) (hm : Mod (fun _ => False) w0 w) : Calls Try.prog 31 #[v, .int .i64 6000] w fun e w' => Cnt w 700000000000000 (fun _ => True) e w' := by
  obtain ⟨a, len, cap, rfl, hb, _, hel⟩ := h.slice Try.underlying34 cc127 (by omega)
  have hlen := len_of_bytes hb bb127
  have HE := Lib.hid hel
  have HM := Lib.hid hm
  clear hel hm hb h
  go_enter Try.func31, Try.ntmps31
  go_wp2_with fail
  go_loopw [5, 6] (fun n i wr => ∃ (k : Nat) (z : Int), k ≤ len ∧ i = .int .i64 k ∧ n = .int .i64 z ∧ 0 ≤ z ∧ z ≤ 700000000000000 ∧ Mod (fun _ => False) w wr) (fun _ i _ => len - (intOf i).toNat)
  case atStart => exact ⟨0, _, by omega, rfl, rfl, by omega, by omega, Mod.refl _ w⟩
  case round =>
    obtain ⟨k, z, hk, rfl, rfl, hz0, hz1, hmr⟩ := hrel
    by_cases hlt : k < len
    · by_cases hz : z ≤ 6000
      · obtain ⟨L, off, ds, rfl, hL, hcl, hrd, hcs⟩ := HE.out k hlt
        have hld := load_mid (p := off + k * 45) (fun j u hu => (hmr.cell (p := ⟨L, _, none⟩) (Nat.lt_of_lt_of_le hL HM.out.size) (fun q => q)).trans ((HM.out.cell (p := ⟨L, _, none⟩) hL (fun q => q)).trans (hcs j u hu))) 127 0 45 _ Try.underlying127 rfl ss127 (by omega)
        have hcc := txOf_calls w0 ds hrd wr (HM.out.tr hmr)
        rw [Nat.add_zero] at hld
        rw [List.drop_zero, List.take_of_length_le (by omega)] at hld
        have HLD := Lib.hid hld
        have HCC := Lib.hid hcc
        have hMR := Lib.hid hmr
        clear hmr hcs hrd hld hcc
        go_wp2_with (refine wpList_exec rfl (exec_load_pt _ _ 127 _ rfl ⟨L, off + k * 45, none⟩ rfl HLD.out) ?_)
        refine HCC.out.mono ?_
        rintro e w9 ⟨m, rfl, hm0, hm1, hmR, hmw⟩
        have hM9 := Lib.hid (hMR.out.tr hmw)
        clear hmw hmR
        go_wp2_with fail
        go_roundw
        case rel => exact ⟨k + 1, z + m, by omega, rfl, rfl, by omega, by omega, hM9.out⟩
        case measure => simp [intOf]; omega
      · have hMR := Lib.hid hmr
        clear hmr
        go_wp2_with fail
        go_ret
        exact ⟨z, rfl, by omega, by omega, trivial, hMR.out⟩
    · have e : k = len := by omega
      subst e
      have hMR := Lib.hid hmr
      clear hmr
      go_wp2_with fail
      go_ret
      exact ⟨z, rfl, by omega, by omega, trivial, hMR.out⟩
set_option maxRecDepth 100000 in
set_option maxHeartbeats 1000000 in
theorem blockOf_calls (w0 : World) (cs : List Value) (h : Rd w0 103 cs) (w : World) (hm : Mod (fun _ => False) w0 w) : Calls Try.prog 39 #[.agg cs.toArray, .int .i64 6000] w fun e w' => Cnt w 800000000000000 (fun _ => True) e w' := by
  obtain ⟨v1, hv1, hr1⟩ := h.cellAt Try.underlying103 1 rfl 34 67 rfl rfl cc34 cc103 (by omega)
  obtain ⟨a1, l1, c1, rfl, hb1, _, hel1⟩ := id (hr1.slice Try.underlying34 cc127 (by omega))
  have hl1 := len_of_bytes hb1 bb127
  have HR1 := Lib.hid hr1
  have HC67 := Lib.hid hv1
  have HE1 := Lib.hid hel1
  clear hv1 hr1 hb1 hel1
  obtain ⟨w1, hw1⟩ : ∃ w1, w.alloc (.cells cs.toArray 103) = w1 := ⟨_, rfl⟩
  have hb : w1.heap[w.heap.size]? = some (.cells cs.toArray 103 (0, 0)) := by rw [← hw1]; exact newB w _
  have hm1 : Mod (fun _ => False) w w1 := by rw [← hw1]; exact (Mod.refl _ w).alloc _
  have HB := Lib.hid (fun (W : World) (hW : Mod (fun _ => False) w1 W) => (hW.block _ (ltB hb) (fun q => q)).trans hb)
  have HM := Lib.hid hm1
  have HM0 := Lib.hid (hm.tr hm1)
  have HS := Lib.hid (fun (W : World) (hW : Mod (fun _ => False) w1 W) => (show W.cell? ⟨w.heap.size, 67, none⟩ = some (.slice a1 l1 c1) from (cellB (HB.out _ hW) 67).trans (by rw [List.getElem?_toArray]; exact HC67.out)))
  have s0 := HS.out _ (Mod.refl _ w1)
  have HCC := Lib.hid (txsOf_calls w0 _ HR1.out w1 (hm.tr hm1))
  clear hb h hm1 hm
  go_enter Try.func39, Try.ntmps39
  go_wp2_with fail
  refine HCC.out.mono ?_
  rintro e w2 ⟨n, rfl, h0, h1, hR, hm2⟩
  have HM2 := Lib.hid (HM.out.tr hm2)
  clear hm2 hR
  go_wp2_with fail
  go_ret
  exact ⟨_, rfl, by omega, by omega, trivial, HM2.out⟩
set_option maxRecDepth 100000 in
set_option maxHeartbeats 1000000 in
theorem storedOf_calls (w0 : World) (cs : List Value) (h : Rd w0 108 cs) (w : World) (hm : Mod (fun _ => False) w0 w) : Calls Try.prog 32 #[.agg cs.toArray, .int .i64 6000] w fun e w' => Cnt w 1200000000000000 (fun _ => True) e w' := by
  have hl := h.len Try.underlying108
  rw [cc108] at hl
  have HR1 := Lib.hid (h.fieldAt Try.underlying108 1 rfl 103 32 68 rfl rfl cc103)
  have HR3 := Lib.hid (h.fieldAt Try.underlying108 3 rfl 106 101 5 rfl rfl cc106)
  obtain ⟨w1, hw1⟩ : ∃ w1, w.alloc (.cells cs.toArray 108) = w1 := ⟨_, rfl⟩
  have hb : w1.heap[w.heap.size]? = some (.cells cs.toArray 108 (0, 0)) := by rw [← hw1]; exact newB w _
  have hm1 : Mod (fun _ => False) w w1 := by rw [← hw1]; exact (Mod.refl _ w).alloc _
  have HB := Lib.hid (fun (W : World) (hW : Mod (fun _ => False) w1 W) => (hW.block _ (ltB hb) (fun q => q)).trans hb)
  have HM := Lib.hid hm1
  have HM0 := Lib.hid (hm.tr hm1)
  have HL := Lib.hid hl
  clear hb h hm1 hm hl
  go_enter Try.func32, Try.ntmps32
  go_upto_region 1 with fail
  refine wp_region_held_drew (S := fun W => Mod (fun _ => False) w1 W) (by kernel_rfl) ((Mod.refl _ w1).drew) (fun hH => ?_)
  refine wpAnyH_take (i := 0) (oi := { dst := some 5, op := Op.fieldAddr 108 (Operand.tmp 2) 1, type := 0, pos := "count.go:127", after := #[], guard := none }) (v := .pointer (some ⟨w.heap.size, 32, none⟩)) rfl (by kernel_rfl) (by kernel_rfl) (by kernel_rfl) (fun _ _ _ h => h) (Or.inl ⟨by rfl, ?_⟩) hH ?_
  · intro w' hSw
    go_simp
    try with_reducible rfl
  (try simp only [Act.put, List.setIfInBounds_toArray, List.set_cons_zero, List.set_cons_succ])
  refine wpAnyH_take (i := 1) (oi := { dst := some 6, op := Op.load 103 (Operand.tmp 5), type := 103, pos := "count.go:127", after := #[{ on := 0, ground := Ground.data }], guard := none }) (v := .agg ((cs.drop 32).take 68).toArray) rfl (by kernel_rfl) (by kernel_rfl) (by kernel_rfl) (fun _ _ _ h => h) (Or.inl ⟨by rfl, ?_⟩) hH ?_
  · intro w' hSw
    exact exec_load_pt _ _ 103 _ rfl ⟨w.heap.size, 32, none⟩ rfl (load_box (HB.out _ hSw) 103 32 68 _ Try.underlying103 rfl ss103 (by rw [HL.out]; omega))
  (try simp only [Act.put, List.setIfInBounds_toArray, List.set_cons_zero, List.set_cons_succ])
  refine wpAnyH_take (i := 2) (oi := { dst := some 7, op := Op.move (Operand.tmp 1), type := 3, pos := "count.go:127", after := #[], guard := none }) (v := .int .i64 6000) rfl (by kernel_rfl) (by kernel_rfl) (by kernel_rfl) (fun _ _ _ h => h) (Or.inl ⟨by rfl, ?_⟩) hH ?_
  · intro w' hSw
    go_simp
    try with_reducible rfl
  (try simp only [Act.put, List.setIfInBounds_toArray, List.set_cons_zero, List.set_cons_succ])
  refine wpAnyH_take (i := 4) (oi := { dst := some 9, op := Op.fieldAddr 108 (Operand.tmp 2) 3, type := 0, pos := "count.go:127", after := #[], guard := none }) (v := .pointer (some ⟨w.heap.size, 101, none⟩)) rfl (by kernel_rfl) (by kernel_rfl) (by kernel_rfl) (fun _ _ _ h => h) (Or.inl ⟨by rfl, ?_⟩) hH ?_
  · intro w' hSw
    go_simp
    try with_reducible rfl
  (try simp only [Act.put, List.setIfInBounds_toArray, List.set_cons_zero, List.set_cons_succ])
  refine wpAnyH_take (i := 5) (oi := { dst := some 10, op := Op.load 106 (Operand.tmp 9), type := 106, pos := "count.go:127", after := #[{ on := 4, ground := Ground.data }], guard := none }) (v := .agg ((cs.drop 101).take 5).toArray) rfl (by kernel_rfl) (by kernel_rfl) (by kernel_rfl) (fun _ _ _ h => h) (Or.inl ⟨by rfl, ?_⟩) hH ?_
  · intro w' hSw
    exact exec_load_pt _ _ 106 _ rfl ⟨w.heap.size, 101, none⟩ rfl (load_box (HB.out _ hSw) 106 101 5 _ Try.underlying106 rfl ss106 (by rw [HL.out]; omega))
  (try simp only [Act.put, List.setIfInBounds_toArray, List.set_cons_zero, List.set_cons_succ])
  refine wpAnyH_take (i := 6) (oi := { dst := some 11, op := Op.move (Operand.tmp 1), type := 3, pos := "count.go:127", after := #[], guard := none }) (v := .int .i64 6000) rfl (by kernel_rfl) (by kernel_rfl) (by kernel_rfl) (fun _ _ _ h => h) (Or.inl ⟨by rfl, ?_⟩) hH ?_
  · intro w' hSw
    go_simp
    try with_reducible rfl
  (try simp only [Act.put, List.setIfInBounds_toArray, List.set_cons_zero, List.set_cons_succ])
  refine wpAnyH_ready (rs := [3]) (by kernel_rfl) (by simp) ?_
  refine AllReadyH.cons (o := { dst := some 8, op := Op.call { callee := Callee.value (Operand.func 39), args := #[Operand.tmp 6, Operand.tmp 7], argTypes := #[103, 3] }, type := 3, pos := "count.go:127", after := #[{ on := 1, ground := Ground.data }, { on := 2, ground := Ground.data }], guard := none }) rfl (fun K hK => ?_) AllReadyH.nil
  go_simp
  refine (blockOf_calls w0 _ HR1.out _ (HM0.out.tr ((Mod.refl _ w1).drew))).mono ?_
  rintro e v1 ⟨n1, rfl, n1lo, n1hi, n1R, hm⟩
  have HM1 := Lib.hid (((Mod.refl _ w1).drew).tr hm)
  clear n1R
  clear hm
  refine hK.out _ _ HM1.out (fun hH => ?_)
  clear hK K
  (try simp only [Act.put, List.setIfInBounds_toArray, List.set_cons_zero, List.set_cons_succ])
  refine wpAnyH_ready (rs := [7]) (by kernel_rfl) (by simp) ?_
  refine AllReadyH.cons (o := { dst := some 12, op := Op.call { callee := Callee.value (Operand.func 40), args := #[Operand.tmp 10, Operand.tmp 11], argTypes := #[106, 3] }, type := 3, pos := "count.go:127", after := #[{ on := 5, ground := Ground.data }, { on := 6, ground := Ground.data }, { on := 3, ground := Ground.chain }], guard := none }) rfl (fun K hK => ?_) AllReadyH.nil
  go_simp
  refine (diffOf_calls w0 _ HR3.out _ (HM0.out.tr HM1.out)).mono ?_
  rintro e v2 ⟨n2, rfl, n2lo, n2hi, n2R, hm⟩
  have HM2 := Lib.hid (HM1.out.tr hm)
  clear n2R
  clear hm
  refine hK.out _ _ HM2.out (fun hH => ?_)
  clear hK K
  (try simp only [Act.put, List.setIfInBounds_toArray, List.set_cons_zero, List.set_cons_succ])
  refine wpAnyH_take (i := 8) (oi := { dst := some 13, op := Op.binOp BinOp.add 3 (Operand.tmp 8) (Operand.tmp 12) 3, type := 3, pos := "count.go:127", after := #[{ on := 3, ground := Ground.data }, { on := 7, ground := Ground.data }], guard := none }) (v := .int .i64 (n1 + n2)) rfl (by kernel_rfl) (by kernel_rfl) (by kernel_rfl) (fun _ _ _ h => h) (Or.inl ⟨by rfl, ?_⟩) hH ?_
  · intro w' hSw
    go_simp
    first | exact wrap_i64 (by omega) (by omega) | with_reducible rfl
  (try simp only [Act.put, List.setIfInBounds_toArray, List.set_cons_zero, List.set_cons_succ])
  refine wpAnyH_take (i := 9) (oi := { dst := some 4, op := Op.assign (Operand.tmp 13), type := 3, pos := "count.go:127", after := #[{ on := 8, ground := Ground.data }, { on := 7, ground := Ground.chain }, { on := 0, ground := Ground.phase }, { on := 1, ground := Ground.phase }, { on := 2, ground := Ground.phase }, { on := 3, ground := Ground.phase }, { on := 4, ground := Ground.phase }, { on := 5, ground := Ground.phase }, { on := 6, ground := Ground.phase }, { on := 7, ground := Ground.phase }, { on := 8, ground := Ground.phase }], guard := none }) (v := .int .i64 (n1 + n2)) rfl (by kernel_rfl) (by kernel_rfl) (by kernel_rfl) (fun _ _ _ h => h) (Or.inl ⟨by rfl, ?_⟩) hH ?_
  · intro w' hSw
    go_simp
    try with_reducible rfl
  (try simp only [Act.put, List.setIfInBounds_toArray, List.set_cons_zero, List.set_cons_succ])
  refine wpAnyH_done (by kernel_rfl) ?_ _
  go_wp2_with fail
  go_ret
  exact ⟨_, rfl, by omega, by omega, trivial, HM.out.tr HM2.out⟩
set_option maxRecDepth 100000 in
set_option maxHeartbeats 1000000 in
theorem stateOf_calls (w0 : World) (cs : List Value) (h : Rd w0 36 cs) (w : World) (hm : Mod (fun _ => False) w0 w) : Calls Try.prog 17 #[.agg cs.toArray, .int .i64 6000] w fun e w' => Cnt w 3000000000000000 (fun n => n ≤ 6000 → ∀ (a : Option Addr) (len c : Nat), cs[44]? = some (.slice a len c) → (len : Int) ≤ n ∧ ∀ ms, LensOf w0 a len ms → ((ms.sum : Nat) : Int) ≤ n) e w' := by
  have hl := h.len Try.underlying36
  rw [cc36] at hl
  obtain ⟨v2, hv2, hr2⟩ := h.cellAt Try.underlying36 2 rfl 28 44 rfl rfl cc28 cc36 (by omega)
  obtain ⟨a2, l2, c2, rfl, hb2, _, hel2⟩ := id (hr2.slice Try.underlying28 cc51 (by omega))
  have hl2 := len_of_bytes hb2 bb51
  have HR2 := Lib.hid hr2
  have HC44 := Lib.hid hv2
  have HE2 := Lib.hid hel2
  clear hv2 hr2 hb2 hel2
  obtain ⟨v3, hv3, hr3⟩ := h.cellAt Try.underlying36 3 rfl 29 45 rfl rfl cc29 cc36 (by omega)
  obtain ⟨a3, l3, c3, rfl, hb3, _, hel3⟩ := id (hr3.slice Try.underlying29 cc108 (by omega))
  have hl3 := len_of_bytes hb3 bb108
  have HR3 := Lib.hid hr3
  have HC45 := Lib.hid hv3
  have HE3 := Lib.hid hel3
  clear hv3 hr3 hb3 hel3
  obtain ⟨v9, hv9, hr9⟩ := h.cellAt Try.underlying36 9 rfl 33 179 rfl rfl cc33 cc36 (by omega)
  obtain ⟨a9, l9, c9, rfl, hb9, _, hel9⟩ := id (hr9.slice Try.underlying33 cc88 (by omega))
  have hl9 := len_of_bytes hb9 bb88
  have HR9 := Lib.hid hr9
  have HC179 := Lib.hid hv9
  have HE9 := Lib.hid hel9
  clear hv9 hr9 hb9 hel9
  obtain ⟨v10, hv10, hr10⟩ := h.cellAt Try.underlying36 10 rfl 34 180 rfl rfl cc34 cc36 (by omega)
  obtain ⟨a10, l10, c10, rfl, hb10, _, hel10⟩ := id (hr10.slice Try.underlying34 cc127 (by omega))
  have hl10 := len_of_bytes hb10 bb127
  have HR10 := Lib.hid hr10
  have HC180 := Lib.hid hv10
  have HE10 := Lib.hid hel10
  clear hv10 hr10 hb10 hel10
  obtain ⟨w1, hw1⟩ : ∃ w1, w.alloc (.cells cs.toArray 36) = w1 := ⟨_, rfl⟩
  have hb : w1.heap[w.heap.size]? = some (.cells cs.toArray 36 (0, 0)) := by rw [← hw1]; exact newB w _
  have hm1 : Mod (fun _ => False) w w1 := by rw [← hw1]; exact (Mod.refl _ w).alloc _
  have HB := Lib.hid (fun (W : World) (hW : Mod (fun _ => False) w1 W) => (hW.block _ (ltB hb) (fun q => q)).trans hb)
  have HM := Lib.hid hm1
  have HM0 := Lib.hid (hm.tr hm1)
  have HL := Lib.hid hl
  clear hb h hm1 hm hl
  have HS3 := Lib.hid (fun (W : World) (hW : Mod (fun _ => False) w1 W) => (show W.cell? ⟨w.heap.size, 45, none⟩ = some (.slice a3 l3 c3) from (cellB (HB.out _ hW) 45).trans (by rw [List.getElem?_toArray]; exact HC45.out)))
  go_enter Try.func17, Try.ntmps17
  go_upto_region 1 with fail
  refine wp_region_held_drew (S := fun W => Mod (fun _ => False) w1 W) (by kernel_rfl) ((Mod.refl _ w1).drew) (fun hH => ?_)
  refine wpAnyH_take (i := 0) (oi := { dst := some 7, op := Op.fieldAddr 36 (Operand.tmp 2) 2, type := 0, pos := "count.go:130", after := #[], guard := none }) (v := .pointer (some ⟨w.heap.size, 44, none⟩)) rfl (by kernel_rfl) (by kernel_rfl) (by kernel_rfl) (fun _ _ _ h => h) (Or.inl ⟨by rfl, ?_⟩) hH ?_
  · intro w' hSw
    go_simp
    try with_reducible rfl
  (try simp only [Act.put, List.setIfInBounds_toArray, List.set_cons_zero, List.set_cons_succ])
  refine wpAnyH_take (i := 1) (oi := { dst := some 8, op := Op.load 28 (Operand.tmp 7), type := 28, pos := "count.go:130", after := #[{ on := 0, ground := Ground.data }], guard := none }) (v := .slice a2 l2 c2) rfl (by kernel_rfl) (by kernel_rfl) (by kernel_rfl) (fun _ _ _ h => h) (Or.inl ⟨by rfl, ?_⟩) hH ?_
  · intro w' hSw
    have s : w'.cell? ⟨w.heap.size, 44, none⟩ = some (.slice a2 l2 c2) := (cellB (HB.out _ hSw) 44).trans (by rw [List.getElem?_toArray]; exact HC44.out)
    go_simp
    try with_reducible rfl
  (try simp only [Act.put, List.setIfInBounds_toArray, List.set_cons_zero, List.set_cons_succ])
  refine wpAnyH_take (i := 2) (oi := { dst := some 9, op := Op.move (Operand.tmp 1), type := 3, pos := "count.go:130", after := #[], guard := none }) (v := .int .i64 6000) rfl (by kernel_rfl) (by kernel_rfl) (by kernel_rfl) (fun _ _ _ h => h) (Or.inl ⟨by rfl, ?_⟩) hH ?_
  · intro w' hSw
    go_simp
    try with_reducible rfl
  (try simp only [Act.put, List.setIfInBounds_toArray, List.set_cons_zero, List.set_cons_succ])
  refine wpAnyH_take (i := 5) (oi := { dst := some 12, op := Op.fieldAddr 36 (Operand.tmp 2) 10, type := 0, pos := "count.go:130", after := #[], guard := none }) (v := .pointer (some ⟨w.heap.size, 180, none⟩)) rfl (by kernel_rfl) (by kernel_rfl) (by kernel_rfl) (fun _ _ _ h => h) (Or.inl ⟨by rfl, ?_⟩) hH ?_
  · intro w' hSw
    go_simp
    try with_reducible rfl
  (try simp only [Act.put, List.setIfInBounds_toArray, List.set_cons_zero, List.set_cons_succ])
  refine wpAnyH_take (i := 6) (oi := { dst := some 13, op := Op.load 34 (Operand.tmp 12), type := 34, pos := "count.go:130", after := #[{ on := 5, ground := Ground.data }], guard := none }) (v := .slice a10 l10 c10) rfl (by kernel_rfl) (by kernel_rfl) (by kernel_rfl) (fun _ _ _ h => h) (Or.inl ⟨by rfl, ?_⟩) hH ?_
  · intro w' hSw
    have s : w'.cell? ⟨w.heap.size, 180, none⟩ = some (.slice a10 l10 c10) := (cellB (HB.out _ hSw) 180).trans (by rw [List.getElem?_toArray]; exact HC180.out)
    go_simp
    try with_reducible rfl
  (try simp only [Act.put, List.setIfInBounds_toArray, List.set_cons_zero, List.set_cons_succ])
  refine wpAnyH_take (i := 7) (oi := { dst := some 14, op := Op.move (Operand.tmp 1), type := 3, pos := "count.go:130", after := #[], guard := none }) (v := .int .i64 6000) rfl (by kernel_rfl) (by kernel_rfl) (by kernel_rfl) (fun _ _ _ h => h) (Or.inl ⟨by rfl, ?_⟩) hH ?_
  · intro w' hSw
    go_simp
    try with_reducible rfl
  (try simp only [Act.put, List.setIfInBounds_toArray, List.set_cons_zero, List.set_cons_succ])
  refine wpAnyH_take (i := 10) (oi := { dst := some 17, op := Op.fieldAddr 36 (Operand.tmp 2) 9, type := 0, pos := "count.go:130", after := #[], guard := none }) (v := .pointer (some ⟨w.heap.size, 179, none⟩)) rfl (by kernel_rfl) (by kernel_rfl) (by kernel_rfl) (fun _ _ _ h => h) (Or.inl ⟨by rfl, ?_⟩) hH ?_
  · intro w' hSw
    go_simp
    try with_reducible rfl
  (try simp only [Act.put, List.setIfInBounds_toArray, List.set_cons_zero, List.set_cons_succ])
  refine wpAnyH_take (i := 11) (oi := { dst := some 18, op := Op.load 33 (Operand.tmp 17), type := 33, pos := "count.go:130", after := #[{ on := 10, ground := Ground.data }], guard := none }) (v := .slice a9 l9 c9) rfl (by kernel_rfl) (by kernel_rfl) (by kernel_rfl) (fun _ _ _ h => h) (Or.inl ⟨by rfl, ?_⟩) hH ?_
  · intro w' hSw
    have s : w'.cell? ⟨w.heap.size, 179, none⟩ = some (.slice a9 l9 c9) := (cellB (HB.out _ hSw) 179).trans (by rw [List.getElem?_toArray]; exact HC179.out)
    go_simp
    try with_reducible rfl
  (try simp only [Act.put, List.setIfInBounds_toArray, List.set_cons_zero, List.set_cons_succ])
  refine wpAnyH_take (i := 12) (oi := { dst := some 19, op := Op.call { callee := Callee.builtin Builtin.len, args := #[Operand.tmp 18], argTypes := #[33] }, type := 3, pos := "count.go:130", after := #[{ on := 11, ground := Ground.data }], guard := none }) (v := .int .i64 l9) rfl (by kernel_rfl) (by kernel_rfl) (by kernel_rfl) (fun _ _ _ h => h) (Or.inl ⟨by rfl, ?_⟩) hH ?_
  · intro w' hSw
    go_simp
    try with_reducible rfl
  (try simp only [Act.put, List.setIfInBounds_toArray, List.set_cons_zero, List.set_cons_succ])
  refine wpAnyH_ready (rs := [3]) (by kernel_rfl) (by simp) ?_
  refine AllReadyH.cons (o := { dst := some 10, op := Op.call { callee := Callee.value (Operand.func 30), args := #[Operand.tmp 8, Operand.tmp 9], argTypes := #[28, 3] }, type := 3, pos := "count.go:130", after := #[{ on := 1, ground := Ground.data }, { on := 2, ground := Ground.data }], guard := none }) rfl (fun K hK => ?_) AllReadyH.nil
  go_simp
  refine (entriesOf_calls w0 _ HR2.out _ (HM0.out.tr ((Mod.refl _ w1).drew))).mono ?_
  rintro e v1 ⟨n1, rfl, n1lo, n1hi, n1R, hm⟩
  have HM1 := Lib.hid (((Mod.refl _ w1).drew).tr hm)
  have HQ1 := Lib.hid n1R; clear n1R
  clear hm
  refine hK.out _ _ HM1.out (fun hH => ?_)
  clear hK K
  (try simp only [Act.put, List.setIfInBounds_toArray, List.set_cons_zero, List.set_cons_succ])
  refine wpAnyH_take (i := 4) (oi := { dst := some 11, op := Op.binOp BinOp.add 3 (Operand.const (Value.int IntKind.i64 1)) (Operand.tmp 10) 3, type := 3, pos := "count.go:130", after := #[{ on := 3, ground := Ground.data }], guard := none }) (v := .int .i64 (1 + n1)) rfl (by kernel_rfl) (by kernel_rfl) (by kernel_rfl) (fun _ _ _ h => h) (Or.inl ⟨by rfl, ?_⟩) hH ?_
  · intro w' hSw
    go_simp
    first | exact wrap_i64 (by omega) (by omega) | with_reducible rfl
  (try simp only [Act.put, List.setIfInBounds_toArray, List.set_cons_zero, List.set_cons_succ])
  refine wpAnyH_ready (rs := [8]) (by kernel_rfl) (by simp) ?_
  refine AllReadyH.cons (o := { dst := some 15, op := Op.call { callee := Callee.value (Operand.func 31), args := #[Operand.tmp 13, Operand.tmp 14], argTypes := #[34, 3] }, type := 3, pos := "count.go:130", after := #[{ on := 6, ground := Ground.data }, { on := 7, ground := Ground.data }, { on := 3, ground := Ground.chain }], guard := none }) rfl (fun K hK => ?_) AllReadyH.nil
  go_simp
  refine (txsOf_calls w0 _ HR10.out _ (HM0.out.tr HM1.out)).mono ?_
  rintro e v2 ⟨n2, rfl, n2lo, n2hi, n2R, hm⟩
  have HM2 := Lib.hid (HM1.out.tr hm)
  clear n2R
  clear hm
  refine hK.out _ _ HM2.out (fun hH => ?_)
  clear hK K
  (try simp only [Act.put, List.setIfInBounds_toArray, List.set_cons_zero, List.set_cons_succ])
  refine wpAnyH_take (i := 9) (oi := { dst := some 16, op := Op.binOp BinOp.add 3 (Operand.tmp 11) (Operand.tmp 15) 3, type := 3, pos := "count.go:130", after := #[{ on := 4, ground := Ground.data }, { on := 8, ground := Ground.data }], guard := none }) (v := .int .i64 ((1 + n1) + n2)) rfl (by kernel_rfl) (by kernel_rfl) (by kernel_rfl) (fun _ _ _ h => h) (Or.inl ⟨by rfl, ?_⟩) hH ?_
  · intro w' hSw
    go_simp
    first | exact wrap_i64 (by omega) (by omega) | with_reducible rfl
  (try simp only [Act.put, List.setIfInBounds_toArray, List.set_cons_zero, List.set_cons_succ])
  refine wpAnyH_take (i := 13) (oi := { dst := some 20, op := Op.binOp BinOp.add 3 (Operand.tmp 16) (Operand.tmp 19) 3, type := 3, pos := "count.go:130", after := #[{ on := 9, ground := Ground.data }, { on := 12, ground := Ground.data }], guard := none }) (v := .int .i64 (((1 + n1) + n2) + l9)) rfl (by kernel_rfl) (by kernel_rfl) (by kernel_rfl) (fun _ _ _ h => h) (Or.inl ⟨by rfl, ?_⟩) hH ?_
  · intro w' hSw
    go_simp
    first | exact wrap_i64 (by omega) (by omega) | with_reducible rfl
  (try simp only [Act.put, List.setIfInBounds_toArray, List.set_cons_zero, List.set_cons_succ])
  refine wpAnyH_take (i := 14) (oi := { dst := some 5, op := Op.assign (Operand.tmp 20), type := 3, pos := "count.go:130", after := #[{ on := 13, ground := Ground.data }, { on := 8, ground := Ground.chain }, { on := 0, ground := Ground.phase }, { on := 1, ground := Ground.phase }, { on := 2, ground := Ground.phase }, { on := 3, ground := Ground.phase }, { on := 4, ground := Ground.phase }, { on := 5, ground := Ground.phase }, { on := 6, ground := Ground.phase }, { on := 7, ground := Ground.phase }, { on := 8, ground := Ground.phase }, { on := 9, ground := Ground.phase }, { on := 10, ground := Ground.phase }, { on := 11, ground := Ground.phase }, { on := 12, ground := Ground.phase }, { on := 13, ground := Ground.phase }], guard := none }) (v := .int .i64 (((1 + n1) + n2) + l9)) rfl (by kernel_rfl) (by kernel_rfl) (by kernel_rfl) (fun _ _ _ h => h) (Or.inl ⟨by rfl, ?_⟩) hH ?_
  · intro w' hSw
    go_simp
    try with_reducible rfl
  (try simp only [Act.put, List.setIfInBounds_toArray, List.set_cons_zero, List.set_cons_succ])
  refine wpAnyH_done (by kernel_rfl) ?_ _
  go_wp2_with fail
  go_loopw [5, 6] (fun n i wr => ∃ (k : Nat) (z : Int), k ≤ l3 ∧ i = .int .i64 k ∧ n = .int .i64 z ∧ n1 ≤ z ∧ z ≤ 3000000000000000 ∧ Mod (fun _ => False) w1 wr) (fun _ i _ => l3 - (intOf i).toNat)
  case atStart => exact ⟨0, _, by omega, rfl, rfl, by omega, by omega, HM2.out⟩
  case round =>
    obtain ⟨k, z, hk, rfl, rfl, hz0, hz1, hmr⟩ := hrel
    have s0 := HS3.out _ hmr
    by_cases hlt : k < l3
    · by_cases hz : z ≤ 6000
      · obtain ⟨L, off, ds, rfl, hL, hcl, hrd, hcs⟩ := HE3.out k hlt
        have hld := load_mid (p := off + k * 106) (fun j u hu => (hmr.cell (p := ⟨L, _, none⟩) (Nat.lt_of_lt_of_le hL HM0.out.size) (fun q => q)).trans ((HM0.out.cell (p := ⟨L, _, none⟩) hL (fun q => q)).trans (hcs j u hu))) 108 0 106 _ Try.underlying108 rfl ss108 (by omega)
        have hcc := storedOf_calls w0 ds hrd wr (HM0.out.tr hmr)
        rw [Nat.add_zero] at hld
        rw [List.drop_zero, List.take_of_length_le (by omega)] at hld
        have HLD := Lib.hid hld
        have HCC := Lib.hid hcc
        have hMR := Lib.hid hmr
        clear hmr hcs hrd hld hcc
        go_wp2_with (refine wpList_exec rfl (exec_load_pt _ _ 108 _ rfl ⟨L, off + k * 106, none⟩ rfl HLD.out) ?_)
        refine HCC.out.mono ?_
        rintro e w9 ⟨m, rfl, hm0, hm1, hmR, hmw⟩
        have hM9 := Lib.hid (hMR.out.tr hmw)
        clear hmw hmR
        go_wp2_with fail
        go_roundw
        case rel => exact ⟨k + 1, z + m, by omega, rfl, rfl, by omega, by omega, hM9.out⟩
        case measure => simp [intOf]; omega
      · have hMR := Lib.hid hmr
        clear hmr
        go_wp2_with fail
        go_ret
        refine ⟨z, rfl, by omega, by omega, fun q a' l' c' e => ?_, HM.out.tr hMR.out⟩
        rw [HC44.out] at e
        obtain ⟨e1, e2⟩ := HQ1.out (by omega) a' l' c' (by simpa using e)
        exact ⟨by omega, fun ms hl => by have := e2 ms hl; omega⟩
    · have e : k = l3 := by omega
      subst e
      have hMR := Lib.hid hmr
      clear hmr
      go_wp2_with fail
      go_ret
      refine ⟨z, rfl, by omega, by omega, fun q a' l' c' e => ?_, HM.out.tr hMR.out⟩
      rw [HC44.out] at e
      obtain ⟨e1, e2⟩ := HQ1.out (by omega) a' l' c' (by simpa using e)
      exact ⟨by omega, fun ms hl => by have := e2 ms hl; omega⟩
set_option maxRecDepth 100000 in
set_option maxHeartbeats 1000000 in
theorem great_calls (w0 : World) (cs : List Value) (h : Rd w0 36 cs) (w : World) (hm : Mod (fun _ => False) w0 w) : Calls Try.prog 5 #[.agg cs.toArray] w fun e w' => ∃ b : Bool, e = .returned (.bool b) ∧ (b = false → ∀ (a : Option Addr) (len c : Nat), cs[44]? = some (.slice a len c) → len ≤ 6000 ∧ ∀ ms, LensOf w0 a len ms → ms.sum ≤ 6000) ∧ Mod (fun _ => False) w w' := by
  have hl := h.len Try.underlying36
  rw [cc36] at hl
  obtain ⟨w1, hw1⟩ : ∃ w1, w.alloc (.cells cs.toArray 36) = w1 := ⟨_, rfl⟩
  have hb : w1.heap[w.heap.size]? = some (.cells cs.toArray 36 (0, 0)) := by rw [← hw1]; exact newB w _
  have hm1 : Mod (fun _ => False) w w1 := by rw [← hw1]; exact (Mod.refl _ w).alloc _
  have HB := Lib.hid (fun (W : World) (hW : Mod (fun _ => False) w1 W) => (hW.block _ (ltB hb) (fun q => q)).trans hb)
  have HM := Lib.hid hm1
  have HM0 := Lib.hid (hm.tr hm1)
  have hld := load_box hb 36 0 182 _ Try.underlying36 rfl ss36 (by omega)
  rw [List.drop_zero, List.take_of_length_le (by omega)] at hld
  have HLD := Lib.hid hld
  have HCC := Lib.hid (stateOf_calls w0 cs h w1 (hm.tr hm1))
  clear hb h hm1 hm hl hld
  go_enter Try.func5, Try.ntmps5
  go_wp2_with (refine wpList_exec rfl (exec_load_pt _ _ 36 _ rfl ⟨w.heap.size, 0, none⟩ rfl HLD.out) ?_)
  refine HCC.out.mono ?_
  rintro e w2 ⟨n, rfl, h0, h1, hR, hm2⟩
  have HM2 := Lib.hid (HM.out.tr hm2)
  have HR := Lib.hid hR
  clear hm2 hR
  go_wp2_with fail
  go_ret
  refine ⟨_, rfl, fun q a l c e => ?_, HM2.out⟩
  have hn : n ≤ 6000 := by simpa using q
  obtain ⟨e1, e2⟩ := HR.out hn a l c e
  exact ⟨by omega, fun ms hl => by have := e2 ms hl; omega⟩
end Go.Proofs.Ytckcamlicgdklaa
