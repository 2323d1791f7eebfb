/- TotalsParts: its walk. PRINTED BY A PROGRAM OF MY OWN. -/
import Derived.Test.YtckcamlicgdklaaLwU
namespace Go.Proofs.Ytckcamlicgdklaa
open Go.RowKit Go.Mo Go.Sort

/-- The coins counted so far. -/
def zz (fees forf : Int) (es : List Ent) (S : List Adr) : Int := fees + forf + (S.map fun a => coins ((ofA es a).map (·.val))).sum
theorem zz_snoc (fees forf : Int) (es : List Ent) (S : List Adr) (a : Adr) : zz fees forf es (S ++ [a]) = zz fees forf es S + coins ((ofA es a).map (·.val)) := by
  simp [zz]; omega
set_option maxRecDepth 100000 in
set_option maxHeartbeats 16000000 in
theorem parts_calls (w : World) (cs xs : List Value) (h36 : Rd w 36 cs) (h51 : Rd w 51 xs) (hone : cs.toArray.all (·.oneCell') = true) : Calls Try.prog 3 #[.agg cs.toArray, .agg xs.toArray] w fun e w' => e = .returned (.bool true) ∧ Mod (fun _ => False) w w' := by
  have hcl := h36.len Try.underlying36
  rw [cc36] at hcl
  obtain ⟨x, xa, xc, rfl, hxco, hxas⟩ := ent_of_rd h51
  obtain ⟨sv, hsv, hrs⟩ := h36.cellAt Try.underlying36 2 rfl 28 44 rfl rfl cc28 cc36 (by omega)
  obtain ⟨fv, hfv, hrf⟩ := h36.cellAt Try.underlying36 7 rfl 2 177 rfl rfl (by kernel_rfl) cc36 (by omega)
  obtain ⟨gv, hgv, hrg⟩ := h36.cellAt Try.underlying36 8 rfl 2 178 rfl rfl (by kernel_rfl) cc36 (by omega)
  obtain ⟨fees, rfl, hf⟩ := hrf.int Try.underlying2
  obtain ⟨forf, rfl, hg⟩ := hrg.int Try.underlying2
  obtain ⟨sa, es, sc, rfl, hsn, hlens, hents⟩ := ents_of_rd hrs
  obtain ⟨w1, hw1⟩ : ∃ w1, (w.alloc (.cells cs.toArray 36)).alloc (.cells (entCells x xa xc).toArray 51) = w1 := ⟨_, rfl⟩
  have hpb : PB w w1 cs (entCells x xa xc) := by
    refine ⟨?_, ?_, ?_⟩
    · rw [← hw1]; exact allocB (newB w _) _
    · rw [← hw1]; have := newB (w.alloc (.cells cs.toArray 36)) (.cells (entCells x xa xc).toArray 51); rwa [World.size_alloc] at this
    · rw [← hw1]; exact ((Mod.refl _ w).alloc _).alloc _
  have hof := h51.fieldAt Try.underlying51 1 rfl 49 33 69 rfl rfl cc49
  have HC := Lib.hid (And.intro (StC.mk hcl hsv hfv hgv) (And.intro (in64_wf hf) (in64_wf hg)))
  have HX := Lib.hid (And.intro hxco hxas)
  have HEN := Lib.hid (And.intro hsn (And.intro hlens hents))
  have HPB := Lib.hid hpb
  have HRD := Lib.hid (And.intro h36 hof)
  have HONE := Lib.hid hone
  clear hcl hsv hfv hgv hf hg hxco hxas hsn hlens hents hpb h36 hof h51 hrs hrf hrg
  go_enter Try.func3, Try.ntmps3
  go_wp2_with fail
  refine (awake_calls w1).mono ?_
  rintro e w2 ⟨rfl, hm2⟩
  have hpb2 := HPB.out.tr hm2 (fun q e => e.elim)
  have HP2 := Lib.hid hpb2
  have HL2 := Lib.hid (load36_box HC.out.1.len hpb2.hs)
  clear hm2 hpb2
  go_upto_region 3 with fail
  refine wp_region_lit ?_
  refine wpList_exec rfl (exec_load_at _ _ 36 _ rfl ⟨w.heap.size, 0, none⟩ rfl HL2.out) ?_
  (try simp only [Act.put, List.setIfInBounds_toArray, List.set_cons_zero, List.set_cons_succ])
  go_wp2_with fail
  refine (great_calls w cs HRD.out.1 w2 HP2.out.mod).mono ?_
  rintro e w3 ⟨bg, rfl, hgr, hm3⟩
  rename_i hK
  refine hK _ _ ?_
  clear hK
  (try simp only [Act.put, List.setIfInBounds_toArray, List.set_cons_zero, List.set_cons_succ])
  have hpb3 := HP2.out.tr hm3 (fun q e => e.elim)
  have HP3 := Lib.hid hpb3
  have HGR := Lib.hid hgr
  have HL3 := Lib.hid (load_box hpb3.hx 49 33 69 _ Try.underlying49 rfl ss49 (by rw [entCells_length]; omega))
  clear hm3 hpb3 hgr
  cases bg with
  | true =>
    refine wpList_exec (v := .bool true) rfl (by go_simp) ?_
    (try simp only [Act.put, List.setIfInBounds_toArray, List.set_cons_zero, List.set_cons_succ])
    refine wpList_skip (by rfl) ?_
    (try simp only [Act.put, List.setIfInBounds_toArray, List.set_cons_zero, List.set_cons_succ])
    refine wpList_skip (by rfl) ?_
    (try simp only [Act.put, List.setIfInBounds_toArray, List.set_cons_zero, List.set_cons_succ])
    refine wpList_skip (by rfl) ?_
    (try simp only [Act.put, List.setIfInBounds_toArray, List.set_cons_zero, List.set_cons_succ])
    refine wpList_skip (by rfl) ?_
    (try simp only [Act.put, List.setIfInBounds_toArray, List.set_cons_zero, List.set_cons_succ])
    refine wpList_exec (v := .bool true) rfl (by go_simp) ?_
    (try simp only [Act.put, List.setIfInBounds_toArray, List.set_cons_zero, List.set_cons_succ])
    go_wp2_with fail
    go_ret
    exact ⟨rfl, HP3.out.mod⟩
  | false =>
    refine wpList_exec (v := .bool false) rfl (by go_simp) ?_
    (try simp only [Act.put, List.setIfInBounds_toArray, List.set_cons_zero, List.set_cons_succ])
    refine wpList_execG (v := .pointer (some ⟨w.heap.size + 1, 33, none⟩)) (w' := w3) (by rfl) (by go_simp) ?_
    (try simp only [Act.put, List.setIfInBounds_toArray, List.set_cons_zero, List.set_cons_succ])
    refine wpList_execG (by rfl) (exec_load_at _ _ 49 _ rfl ⟨w.heap.size + 1, 33, none⟩ rfl HL3.out) ?_
    (try simp only [Act.put, List.setIfInBounds_toArray, List.set_cons_zero, List.set_cons_succ])
    go_wp2_with fail
    refine (outputOf_calls w _ HRD.out.2 w3 HP3.out.mod).mono ?_
    rintro e w4 ⟨n, rfl, hn0, hn1, hnR, hm4⟩
    rename_i hK
    refine hK _ _ ?_
    clear hK
    (try simp only [Act.put, List.setIfInBounds_toArray, List.set_cons_zero, List.set_cons_succ])
    have HP4 := Lib.hid (HP3.out.tr hm4 (fun q e => e.elim))
    have HNR := Lib.hid hnR
    clear hm4 hnR
    by_cases hn : n ≤ 6000
    · have hnd : decide (n > 6000) = false := by simp; omega
      refine wpList_execG (v := .bool false) (w' := w4) (by rfl) (by go_simp) ?_
      (try simp only [Act.put, List.setIfInBounds_toArray, List.set_cons_zero, List.set_cons_succ])
      refine wpList_exec (v := .bool false) rfl (by go_simp) ?_
      (try simp only [Act.put, List.setIfInBounds_toArray, List.set_cons_zero, List.set_cons_succ])
      have hgr := HGR.out (by first | rfl | trivial) sa es.length sc HC.out.1.ents
      have hes6 := hgr.1
      have has6 : (assetsOf es).length ≤ 6000 := by rw [assets_sum]; exact hgr.2 _ HEN.out.2.1
      have hx6 : x.val.assets.length ≤ 6000 := by
        have := HNR.out hn xa x.val.assets.length xc (by rw [List.getElem?_take, if_pos (by omega), List.getElem?_drop]; exact (ent_get66 x xa xc).2)
        omega
      have HE := Lib.hid (HEN.out.2.2 (fun y hy => by
        have h1 := le_sum (List.mem_map.2 ⟨y, hy, rfl⟩ : y.val.assets.length ∈ es.map fun x => x.val.assets.length)
        rw [← assets_sum] at h1
        omega) (by omega))
      have HXA := Lib.hid (And.intro HX.out.1 (HX.out.2 (by omega)))
      have HBD := Lib.hid (And.intro has6 hx6)
      clear hgr HGR HNR has6 hx6 hn0 hn1 hnd
      go_upto_region 6 with fail
      go_cut [6] from 32 (fun p wx => ∃ b6, p = .pointer (some ⟨b6, 0, none⟩) ∧ L1 w wx cs (entCells x xa xc) b6 (zz fees forf es []) [] (.slice none 0 0) [] [] (.slice none 0 0))
      case first =>
        refine wp_region_held_drew (S := fun W => Mod (fun _ => False) w4 W) (by kernel_rfl) (Mod.refl _ w4).drew (fun hH => ?_)
        refine wpAnyH_take (i := 0) (oi := { dst := some 32, op := Op.fieldAddr 36 (Operand.tmp 2) 7, type := 0, pos := "outright.go:54", after := #[], guard := none }) (v := .pointer (some ⟨w.heap.size, 177, none⟩)) rfl (by kernel_rfl) (by kernel_rfl) (by kernel_rfl) (fun _ _ _ h => h) (Or.inl ⟨by rfl, ?_⟩) hH ?_
        · intro w' hSw
          go_simp
          try with_reducible rfl
        (try simp only [Act.put, List.setIfInBounds_toArray, List.set_cons_zero, List.set_cons_succ])
        refine wpAnyH_take (i := 1) (oi := { dst := some 33, op := Op.load 2 (Operand.tmp 32), type := 2, pos := "outright.go:54", after := #[{ on := 0, ground := Ground.data }], guard := none }) (v := .int .i64 fees) rfl (by kernel_rfl) (by kernel_rfl) (by kernel_rfl) (fun _ _ _ h => h) (Or.inl ⟨by rfl, ?_⟩) hH ?_
        · intro w' hSw
          have s : w'.cell? ⟨w.heap.size, 177, none⟩ = some (.int .i64 fees) := (cellB (HP4.out.tr hSw (fun q e => e.elim)).hs 177).trans (by rw [List.getElem?_toArray]; exact HC.out.1.fees)
          go_simp
          try with_reducible rfl
        (try simp only [Act.put, List.setIfInBounds_toArray, List.set_cons_zero, List.set_cons_succ])
        refine wpAnyH_take (i := 3) (oi := { dst := some 35, op := Op.fieldAddr 36 (Operand.tmp 2) 8, type := 0, pos := "outright.go:54", after := #[], guard := none }) (v := .pointer (some ⟨w.heap.size, 178, none⟩)) rfl (by kernel_rfl) (by kernel_rfl) (by kernel_rfl) (fun _ _ _ h => h) (Or.inl ⟨by rfl, ?_⟩) hH ?_
        · intro w' hSw
          go_simp
          try with_reducible rfl
        (try simp only [Act.put, List.setIfInBounds_toArray, List.set_cons_zero, List.set_cons_succ])
        refine wpAnyH_take (i := 4) (oi := { dst := some 36, op := Op.load 2 (Operand.tmp 35), type := 2, pos := "outright.go:54", after := #[{ on := 3, ground := Ground.data }], guard := none }) (v := .int .i64 forf) rfl (by kernel_rfl) (by kernel_rfl) (by kernel_rfl) (fun _ _ _ h => h) (Or.inl ⟨by rfl, ?_⟩) hH ?_
        · intro w' hSw
          have s : w'.cell? ⟨w.heap.size, 178, none⟩ = some (.int .i64 forf) := (cellB (HP4.out.tr hSw (fun q e => e.elim)).hs 178).trans (by rw [List.getElem?_toArray]; exact HC.out.1.forf)
          go_simp
          try with_reducible rfl
        (try simp only [Act.put, List.setIfInBounds_toArray, List.set_cons_zero, List.set_cons_succ])
        refine wpAnyH_ready (rs := [2, 8]) (by kernel_rfl) (by simp) ?_
        refine AllReadyH.cons (o := { dst := some 34, op := Op.call { callee := Callee.value (Operand.func 8), args := #[Operand.tmp 33], argTypes := #[2] }, type := 57, pos := "outright.go:54", after := #[{ on := 1, ground := Ground.data }], guard := none }) rfl (fun K hK => ?_) (AllReadyH.cons (o := { dst := some 6, op := Op.alloc 57, type := 0, pos := "outright.go:54", after := #[], guard := none }) rfl (fun K hK => ?_) AllReadyH.nil)
        · skip
          go_simp
          refine (wide_calls fees HC.out.2.1.1 HC.out.2.1.2 w4.drew).mono ?_
          rintro e v1 ⟨rfl, hm1⟩
          have HM1 := Lib.hid (((Mod.refl (fun _ => False) w4).drew).tr hm1)
          clear hm1
          refine hK.out _ _ HM1.out (fun hH => ?_)
          clear hK K
          (try simp only [Act.put, List.setIfInBounds_toArray, List.set_cons_zero, List.set_cons_succ])
          refine wpAnyH_ready (rs := [5, 8]) (by kernel_rfl) (by simp) ?_
          refine AllReadyH.cons (o := { dst := some 37, op := Op.call { callee := Callee.value (Operand.func 8), args := #[Operand.tmp 36], argTypes := #[2] }, type := 57, pos := "outright.go:54", after := #[{ on := 4, ground := Ground.data }, { on := 2, ground := Ground.chain }], guard := none }) rfl (fun K hK => ?_) (AllReadyH.cons (o := { dst := some 6, op := Op.alloc 57, type := 0, pos := "outright.go:54", after := #[], guard := none }) rfl (fun K hK => ?_) AllReadyH.nil)
          · skip
            go_simp
            refine (wide_calls forf HC.out.2.2.1 HC.out.2.2.2 v1).mono ?_
            rintro e v2 ⟨rfl, hm2⟩
            have HM2 := Lib.hid ((HM1.out).tr hm2)
            clear hm2
            refine hK.out _ _ HM2.out (fun hH => ?_)
            clear hK K
            (try simp only [Act.put, List.setIfInBounds_toArray, List.set_cons_zero, List.set_cons_succ])
            refine wpAnyH_ready (rs := [6, 8]) (by kernel_rfl) (by simp) ?_
            refine AllReadyH.cons (o := { dst := some 38, op := Op.buildSlice 77 2 #[(0, Operand.tmp 34), (1, Operand.tmp 37)], type := 77, pos := "outright.go:54", after := #[{ on := 2, ground := Ground.data }, { on := 5, ground := Ground.data }], guard := none }) rfl (fun K hK => ?_) (AllReadyH.cons (o := { dst := some 6, op := Op.alloc 57, type := 0, pos := "outright.go:54", after := #[], guard := none }) rfl (fun K hK => ?_) AllReadyH.nil)
            · skip
              have hW3 := wides_two v2 fees forf
              have hM3 : Mod (fun _ => False) w4 (v2.alloc (.cells #[.int .i64 (hiW fees), .int .u64 (loW fees), .int .i64 (hiW forf), .int .u64 (loW forf)] 57)) := (HM2.out).alloc _
              refine step_execW rfl (exec_wides2 _ _ rfl fees forf rfl rfl) ?_
              refine hK.out _ _ hM3 (fun hH => ?_)
              clear hK K
              (try simp only [Act.put, List.setIfInBounds_toArray, List.set_cons_zero, List.set_cons_succ])
              clear hH
              have hH : (fun W => Mod (fun _ => False) w4 W) (v2.alloc (.cells #[.int .i64 (hiW fees), .int .u64 (loW fees), .int .i64 (hiW forf), .int .u64 (loW forf)] 57)) := hM3
              generalize v2.alloc (.cells #[.int .i64 (hiW fees), .int .u64 (loW fees), .int .i64 (hiW forf), .int .u64 (loW forf)] 57) = v3 at hW3 hM3 hH ⊢
              generalize v2.heap.size = g3 at hW3 ⊢
              have HW3 := Lib.hid hW3
              have HM3 := Lib.hid hM3
              clear hW3 hM3
              refine wpAnyH_ready (rs := [7, 8]) (by kernel_rfl) (by simp) ?_
              refine AllReadyH.cons (o := { dst := some 39, op := Op.call { callee := Callee.value (Operand.func 7), args := #[Operand.tmp 38], argTypes := #[77] }, type := 57, pos := "outright.go:54", after := #[{ on := 6, ground := Ground.data }, { on := 5, ground := Ground.chain }], guard := none }) rfl (fun K hK => ?_) (AllReadyH.cons (o := { dst := some 6, op := Op.alloc 57, type := 0, pos := "outright.go:54", after := #[], guard := none }) rfl (fun K hK => ?_) AllReadyH.nil)
              · skip
                go_simp
                refine (plus_calls v3 _ [fees, forf] HW3.out (by simp)).mono ?_
                rintro e v4 ⟨rfl, hm4⟩
                have HM4 := Lib.hid ((HM3.out).tr hm4)
                clear hm4
                refine hK.out _ _ HM4.out (fun hH => ?_)
                clear hK K
                (try simp only [Act.put, List.setIfInBounds_toArray, List.set_cons_zero, List.set_cons_succ])
                refine wpAnyH_ready (rs := [8]) (by kernel_rfl) (by simp) ?_
                refine AllReadyH.cons (o := { dst := some 6, op := Op.alloc 57, type := 0, pos := "outright.go:54", after := #[], guard := none }) rfl (fun K hK => ?_) AllReadyH.nil
                have hA5 := newB v4 (.cells #[.int .i64 0, .int .u64 0] 57)
                have hM5 : Mod (fun _ => False) w4 (v4.alloc (.cells #[.int .i64 0, .int .u64 0] 57)) := (HM4.out).alloc _
                have hsz : Nw w v4.heap.size ∧ w4.heap.size ≤ v4.heap.size := by have h1 := ltB HP4.out.hx; have h2 := (HM4.out).size; exact ⟨by unfold Nw; omega, h2⟩
                refine step_execW rfl (exec_alloc _ _ 57 #[.int .i64 0, .int .u64 0] rfl zv57) ?_
                refine hK.out _ _ hM5 (fun hH => ?_)
                clear hK K
                (try simp only [Act.put, List.setIfInBounds_toArray, List.set_cons_zero, List.set_cons_succ])
                clear hH
                have hH : (fun W => Mod (fun _ => False) w4 W) (v4.alloc (.cells #[.int .i64 0, .int .u64 0] 57)) := hM5
                generalize v4.alloc (.cells #[.int .i64 0, .int .u64 0] 57) = v5 at hA5 hM5 hH ⊢
                generalize v4.heap.size = b5 at hA5 hsz ⊢
                have HA5 := Lib.hid hA5
                have HM5 := Lib.hid hM5
                have HSZ := Lib.hid hsz
                clear hA5 hM5 hsz
                refine wpAnyH_ready (rs := [9]) (by kernel_rfl) (by simp) ?_
                refine AllReadyH.cons (o := { dst := none, op := Op.store 57 (Operand.tmp 6) (Operand.tmp 39), type := 0, pos := "outright.go:54", after := #[{ on := 8, ground := Ground.data }, { on := 7, ground := Ground.data }, { on := 7, ground := Ground.chain }, { on := 0, ground := Ground.phase }, { on := 1, ground := Ground.phase }, { on := 2, ground := Ground.phase }, { on := 3, ground := Ground.phase }, { on := 4, ground := Ground.phase }, { on := 5, ground := Ground.phase }, { on := 6, ground := Ground.phase }, { on := 7, ground := Ground.phase }, { on := 8, ground := Ground.phase }], guard := none }) rfl (fun K hK => ?_) AllReadyH.nil
                have hst := store57 v5 b5 [fees, forf].sum HA5.out
                have hc9 := setRow_same (cs := #[.int .i64 (hiW [fees, forf].sum), .int .u64 (loW [fees, forf].sum)]) HA5.out
                have hm9 : Mod (fun _ => False) w4 (v5.setRow b5 #[.int .i64 (hiW [fees, forf].sum), .int .u64 (loW [fees, forf].sum)]) := Mod_setRow HM5.out (fun q => by have h9 := HSZ.out; omega) _
                generalize v5.setRow b5 #[.int .i64 (hiW [fees, forf].sum), .int .u64 (loW [fees, forf].sum)] = w9 at hst hc9 hm9
                refine step_execS rfl (exec_store _ _ rfl rfl rfl hst) ?_
                refine hK.out _ _ hm9 (fun hH => ?_)
                clear hK K
                (try simp only [Act.put])
                refine wpAnyH_done (by kernel_rfl) ?_ _
                have hp9 := HP4.out.tr hm9 (fun q e => e.elim)
                have HF9 := Lib.hid (And.intro hp9 hc9)
                clear hst hm9 hc9 hp9
                go_wp2_with fail
                go_meet
                case rel =>
                  refine ⟨_, rfl, HF9.out.1, HSZ.out.1, ?_, ⟨rfl, .inl ⟨rfl, rfl⟩⟩, (fun q hq => by cases hq), rfl, ⟨rfl, .inl ⟨rfl, rfl⟩⟩, (fun q hq => by cases hq), fun i rv d h1 => by simp at h1⟩
                  rw [show zz fees forf es [] = [fees, forf].sum by simp [zz]]
                  exact HF9.out.2
              · skip
                have hA6 := newB v3 (.cells #[.int .i64 0, .int .u64 0] 57)
                have hM6 : Mod (fun _ => False) w4 (v3.alloc (.cells #[.int .i64 0, .int .u64 0] 57)) := (HM3.out).alloc _
                have hsz : Nw w v3.heap.size ∧ w4.heap.size ≤ v3.heap.size := by have h1 := ltB HP4.out.hx; have h2 := (HM3.out).size; exact ⟨by unfold Nw; omega, h2⟩
                have hW6 := (HW3.out).tr ((Mod.refl (fun _ => False) v3).alloc (.cells #[.int .i64 0, .int .u64 0] 57))
                refine step_execW rfl (exec_alloc _ _ 57 #[.int .i64 0, .int .u64 0] rfl zv57) ?_
                refine hK.out _ _ hM6 (fun hH => ?_)
                clear hK K
                (try simp only [Act.put, List.setIfInBounds_toArray, List.set_cons_zero, List.set_cons_succ])
                clear hH
                have hH : (fun W => Mod (fun _ => False) w4 W) (v3.alloc (.cells #[.int .i64 0, .int .u64 0] 57)) := hM6
                generalize v3.alloc (.cells #[.int .i64 0, .int .u64 0] 57) = v6 at hA6 hM6 hH hW6 ⊢
                generalize v3.heap.size = b6 at hA6 hsz ⊢
                have HA6 := Lib.hid hA6
                have HM6 := Lib.hid hM6
                have HSZ := Lib.hid hsz
                have HW6 := Lib.hid hW6
                clear hW6
                clear hA6 hM6 hsz
                refine wpAnyH_ready (rs := [7]) (by kernel_rfl) (by simp) ?_
                refine AllReadyH.cons (o := { dst := some 39, op := Op.call { callee := Callee.value (Operand.func 7), args := #[Operand.tmp 38], argTypes := #[77] }, type := 57, pos := "outright.go:54", after := #[{ on := 6, ground := Ground.data }, { on := 5, ground := Ground.chain }], guard := none }) rfl (fun K hK => ?_) AllReadyH.nil
                go_simp
                refine (plus_calls v6 _ [fees, forf] HW6.out (by simp)).mono ?_
                rintro e v7 ⟨rfl, hm7⟩
                have HM7 := Lib.hid ((HM6.out).tr hm7)
                have HA7 := Lib.hid ((hm7.block _ (ltB HA6.out) (fun q => q)).trans HA6.out)
                clear hm7
                refine hK.out _ _ HM7.out (fun hH => ?_)
                clear hK K
                (try simp only [Act.put, List.setIfInBounds_toArray, List.set_cons_zero, List.set_cons_succ])
                refine wpAnyH_ready (rs := [9]) (by kernel_rfl) (by simp) ?_
                refine AllReadyH.cons (o := { dst := none, op := Op.store 57 (Operand.tmp 6) (Operand.tmp 39), type := 0, pos := "outright.go:54", after := #[{ on := 8, ground := Ground.data }, { on := 7, ground := Ground.data }, { on := 7, ground := Ground.chain }, { on := 0, ground := Ground.phase }, { on := 1, ground := Ground.phase }, { on := 2, ground := Ground.phase }, { on := 3, ground := Ground.phase }, { on := 4, ground := Ground.phase }, { on := 5, ground := Ground.phase }, { on := 6, ground := Ground.phase }, { on := 7, ground := Ground.phase }, { on := 8, ground := Ground.phase }], guard := none }) rfl (fun K hK => ?_) AllReadyH.nil
                have hst := store57 v7 b6 [fees, forf].sum HA7.out
                have hc9 := setRow_same (cs := #[.int .i64 (hiW [fees, forf].sum), .int .u64 (loW [fees, forf].sum)]) HA7.out
                have hm9 : Mod (fun _ => False) w4 (v7.setRow b6 #[.int .i64 (hiW [fees, forf].sum), .int .u64 (loW [fees, forf].sum)]) := Mod_setRow HM7.out (fun q => by have h9 := HSZ.out; omega) _
                generalize v7.setRow b6 #[.int .i64 (hiW [fees, forf].sum), .int .u64 (loW [fees, forf].sum)] = w9 at hst hc9 hm9
                refine step_execS rfl (exec_store _ _ rfl rfl rfl hst) ?_
                refine hK.out _ _ hm9 (fun hH => ?_)
                clear hK K
                (try simp only [Act.put])
                refine wpAnyH_done (by kernel_rfl) ?_ _
                have hp9 := HP4.out.tr hm9 (fun q e => e.elim)
                have HF9 := Lib.hid (And.intro hp9 hc9)
                clear hst hm9 hc9 hp9
                go_wp2_with fail
                go_meet
                case rel =>
                  refine ⟨_, rfl, HF9.out.1, HSZ.out.1, ?_, ⟨rfl, .inl ⟨rfl, rfl⟩⟩, (fun q hq => by cases hq), rfl, ⟨rfl, .inl ⟨rfl, rfl⟩⟩, (fun q hq => by cases hq), fun i rv d h1 => by simp at h1⟩
                  rw [show zz fees forf es [] = [fees, forf].sum by simp [zz]]
                  exact HF9.out.2
            · skip
              have hA8 := newB v2 (.cells #[.int .i64 0, .int .u64 0] 57)
              have hM8 : Mod (fun _ => False) w4 (v2.alloc (.cells #[.int .i64 0, .int .u64 0] 57)) := (HM2.out).alloc _
              have hsz : Nw w v2.heap.size ∧ w4.heap.size ≤ v2.heap.size := by have h1 := ltB HP4.out.hx; have h2 := (HM2.out).size; exact ⟨by unfold Nw; omega, h2⟩
              refine step_execW rfl (exec_alloc _ _ 57 #[.int .i64 0, .int .u64 0] rfl zv57) ?_
              refine hK.out _ _ hM8 (fun hH => ?_)
              clear hK K
              (try simp only [Act.put, List.setIfInBounds_toArray, List.set_cons_zero, List.set_cons_succ])
              clear hH
              have hH : (fun W => Mod (fun _ => False) w4 W) (v2.alloc (.cells #[.int .i64 0, .int .u64 0] 57)) := hM8
              generalize v2.alloc (.cells #[.int .i64 0, .int .u64 0] 57) = v8 at hA8 hM8 hH ⊢
              generalize v2.heap.size = b8 at hA8 hsz ⊢
              have HA8 := Lib.hid hA8
              have HM8 := Lib.hid hM8
              have HSZ := Lib.hid hsz
              clear hA8 hM8 hsz
              refine wpAnyH_ready (rs := [6]) (by kernel_rfl) (by simp) ?_
              refine AllReadyH.cons (o := { dst := some 38, op := Op.buildSlice 77 2 #[(0, Operand.tmp 34), (1, Operand.tmp 37)], type := 77, pos := "outright.go:54", after := #[{ on := 2, ground := Ground.data }, { on := 5, ground := Ground.data }], guard := none }) rfl (fun K hK => ?_) AllReadyH.nil
              have hW9 := wides_two v8 fees forf
              have hM9 : Mod (fun _ => False) w4 (v8.alloc (.cells #[.int .i64 (hiW fees), .int .u64 (loW fees), .int .i64 (hiW forf), .int .u64 (loW forf)] 57)) := (HM8.out).alloc _
              have hA9 := allocB HA8.out (.cells #[.int .i64 (hiW fees), .int .u64 (loW fees), .int .i64 (hiW forf), .int .u64 (loW forf)] 57)
              refine step_execW rfl (exec_wides2 _ _ rfl fees forf rfl rfl) ?_
              refine hK.out _ _ hM9 (fun hH => ?_)
              clear hK K
              (try simp only [Act.put, List.setIfInBounds_toArray, List.set_cons_zero, List.set_cons_succ])
              clear hH
              have hH : (fun W => Mod (fun _ => False) w4 W) (v8.alloc (.cells #[.int .i64 (hiW fees), .int .u64 (loW fees), .int .i64 (hiW forf), .int .u64 (loW forf)] 57)) := hM9
              generalize v8.alloc (.cells #[.int .i64 (hiW fees), .int .u64 (loW fees), .int .i64 (hiW forf), .int .u64 (loW forf)] 57) = v9 at hW9 hM9 hH hA9 ⊢
              generalize v8.heap.size = g9 at hW9 ⊢
              have HW9 := Lib.hid hW9
              have HM9 := Lib.hid hM9
              have HA9 := Lib.hid hA9
              clear hA9
              clear hW9 hM9
              refine wpAnyH_ready (rs := [7]) (by kernel_rfl) (by simp) ?_
              refine AllReadyH.cons (o := { dst := some 39, op := Op.call { callee := Callee.value (Operand.func 7), args := #[Operand.tmp 38], argTypes := #[77] }, type := 57, pos := "outright.go:54", after := #[{ on := 6, ground := Ground.data }, { on := 5, ground := Ground.chain }], guard := none }) rfl (fun K hK => ?_) AllReadyH.nil
              go_simp
              refine (plus_calls v9 _ [fees, forf] HW9.out (by simp)).mono ?_
              rintro e v10 ⟨rfl, hm10⟩
              have HM10 := Lib.hid ((HM9.out).tr hm10)
              have HA10 := Lib.hid ((hm10.block _ (ltB HA9.out) (fun q => q)).trans HA9.out)
              clear hm10
              refine hK.out _ _ HM10.out (fun hH => ?_)
              clear hK K
              (try simp only [Act.put, List.setIfInBounds_toArray, List.set_cons_zero, List.set_cons_succ])
              refine wpAnyH_ready (rs := [9]) (by kernel_rfl) (by simp) ?_
              refine AllReadyH.cons (o := { dst := none, op := Op.store 57 (Operand.tmp 6) (Operand.tmp 39), type := 0, pos := "outright.go:54", after := #[{ on := 8, ground := Ground.data }, { on := 7, ground := Ground.data }, { on := 7, ground := Ground.chain }, { on := 0, ground := Ground.phase }, { on := 1, ground := Ground.phase }, { on := 2, ground := Ground.phase }, { on := 3, ground := Ground.phase }, { on := 4, ground := Ground.phase }, { on := 5, ground := Ground.phase }, { on := 6, ground := Ground.phase }, { on := 7, ground := Ground.phase }, { on := 8, ground := Ground.phase }], guard := none }) rfl (fun K hK => ?_) AllReadyH.nil
              have hst := store57 v10 b8 [fees, forf].sum HA10.out
              have hc9 := setRow_same (cs := #[.int .i64 (hiW [fees, forf].sum), .int .u64 (loW [fees, forf].sum)]) HA10.out
              have hm9 : Mod (fun _ => False) w4 (v10.setRow b8 #[.int .i64 (hiW [fees, forf].sum), .int .u64 (loW [fees, forf].sum)]) := Mod_setRow HM10.out (fun q => by have h9 := HSZ.out; omega) _
              generalize v10.setRow b8 #[.int .i64 (hiW [fees, forf].sum), .int .u64 (loW [fees, forf].sum)] = w9 at hst hc9 hm9
              refine step_execS rfl (exec_store _ _ rfl rfl rfl hst) ?_
              refine hK.out _ _ hm9 (fun hH => ?_)
              clear hK K
              (try simp only [Act.put])
              refine wpAnyH_done (by kernel_rfl) ?_ _
              have hp9 := HP4.out.tr hm9 (fun q e => e.elim)
              have HF9 := Lib.hid (And.intro hp9 hc9)
              clear hst hm9 hc9 hp9
              go_wp2_with fail
              go_meet
              case rel =>
                refine ⟨_, rfl, HF9.out.1, HSZ.out.1, ?_, ⟨rfl, .inl ⟨rfl, rfl⟩⟩, (fun q hq => by cases hq), rfl, ⟨rfl, .inl ⟨rfl, rfl⟩⟩, (fun q hq => by cases hq), fun i rv d h1 => by simp at h1⟩
                rw [show zz fees forf es [] = [fees, forf].sum by simp [zz]]
                exact HF9.out.2
          · skip
            have hA11 := newB v1 (.cells #[.int .i64 0, .int .u64 0] 57)
            have hM11 : Mod (fun _ => False) w4 (v1.alloc (.cells #[.int .i64 0, .int .u64 0] 57)) := (HM1.out).alloc _
            have hsz : Nw w v1.heap.size ∧ w4.heap.size ≤ v1.heap.size := by have h1 := ltB HP4.out.hx; have h2 := (HM1.out).size; exact ⟨by unfold Nw; omega, h2⟩
            refine step_execW rfl (exec_alloc _ _ 57 #[.int .i64 0, .int .u64 0] rfl zv57) ?_
            refine hK.out _ _ hM11 (fun hH => ?_)
            clear hK K
            (try simp only [Act.put, List.setIfInBounds_toArray, List.set_cons_zero, List.set_cons_succ])
            clear hH
            have hH : (fun W => Mod (fun _ => False) w4 W) (v1.alloc (.cells #[.int .i64 0, .int .u64 0] 57)) := hM11
            generalize v1.alloc (.cells #[.int .i64 0, .int .u64 0] 57) = v11 at hA11 hM11 hH ⊢
            generalize v1.heap.size = b11 at hA11 hsz ⊢
            have HA11 := Lib.hid hA11
            have HM11 := Lib.hid hM11
            have HSZ := Lib.hid hsz
            clear hA11 hM11 hsz
            refine wpAnyH_ready (rs := [5]) (by kernel_rfl) (by simp) ?_
            refine AllReadyH.cons (o := { dst := some 37, op := Op.call { callee := Callee.value (Operand.func 8), args := #[Operand.tmp 36], argTypes := #[2] }, type := 57, pos := "outright.go:54", after := #[{ on := 4, ground := Ground.data }, { on := 2, ground := Ground.chain }], guard := none }) rfl (fun K hK => ?_) AllReadyH.nil
            go_simp
            refine (wide_calls forf HC.out.2.2.1 HC.out.2.2.2 v11).mono ?_
            rintro e v12 ⟨rfl, hm12⟩
            have HM12 := Lib.hid ((HM11.out).tr hm12)
            have HA12 := Lib.hid ((hm12.block _ (ltB HA11.out) (fun q => q)).trans HA11.out)
            clear hm12
            refine hK.out _ _ HM12.out (fun hH => ?_)
            clear hK K
            (try simp only [Act.put, List.setIfInBounds_toArray, List.set_cons_zero, List.set_cons_succ])
            refine wpAnyH_ready (rs := [6]) (by kernel_rfl) (by simp) ?_
            refine AllReadyH.cons (o := { dst := some 38, op := Op.buildSlice 77 2 #[(0, Operand.tmp 34), (1, Operand.tmp 37)], type := 77, pos := "outright.go:54", after := #[{ on := 2, ground := Ground.data }, { on := 5, ground := Ground.data }], guard := none }) rfl (fun K hK => ?_) AllReadyH.nil
            have hW13 := wides_two v12 fees forf
            have hM13 : Mod (fun _ => False) w4 (v12.alloc (.cells #[.int .i64 (hiW fees), .int .u64 (loW fees), .int .i64 (hiW forf), .int .u64 (loW forf)] 57)) := (HM12.out).alloc _
            have hA13 := allocB HA12.out (.cells #[.int .i64 (hiW fees), .int .u64 (loW fees), .int .i64 (hiW forf), .int .u64 (loW forf)] 57)
            refine step_execW rfl (exec_wides2 _ _ rfl fees forf rfl rfl) ?_
            refine hK.out _ _ hM13 (fun hH => ?_)
            clear hK K
            (try simp only [Act.put, List.setIfInBounds_toArray, List.set_cons_zero, List.set_cons_succ])
            clear hH
            have hH : (fun W => Mod (fun _ => False) w4 W) (v12.alloc (.cells #[.int .i64 (hiW fees), .int .u64 (loW fees), .int .i64 (hiW forf), .int .u64 (loW forf)] 57)) := hM13
            generalize v12.alloc (.cells #[.int .i64 (hiW fees), .int .u64 (loW fees), .int .i64 (hiW forf), .int .u64 (loW forf)] 57) = v13 at hW13 hM13 hH hA13 ⊢
            generalize v12.heap.size = g13 at hW13 ⊢
            have HW13 := Lib.hid hW13
            have HM13 := Lib.hid hM13
            have HA13 := Lib.hid hA13
            clear hA13
            clear hW13 hM13
            refine wpAnyH_ready (rs := [7]) (by kernel_rfl) (by simp) ?_
            refine AllReadyH.cons (o := { dst := some 39, op := Op.call { callee := Callee.value (Operand.func 7), args := #[Operand.tmp 38], argTypes := #[77] }, type := 57, pos := "outright.go:54", after := #[{ on := 6, ground := Ground.data }, { on := 5, ground := Ground.chain }], guard := none }) rfl (fun K hK => ?_) AllReadyH.nil
            go_simp
            refine (plus_calls v13 _ [fees, forf] HW13.out (by simp)).mono ?_
            rintro e v14 ⟨rfl, hm14⟩
            have HM14 := Lib.hid ((HM13.out).tr hm14)
            have HA14 := Lib.hid ((hm14.block _ (ltB HA13.out) (fun q => q)).trans HA13.out)
            clear hm14
            refine hK.out _ _ HM14.out (fun hH => ?_)
            clear hK K
            (try simp only [Act.put, List.setIfInBounds_toArray, List.set_cons_zero, List.set_cons_succ])
            refine wpAnyH_ready (rs := [9]) (by kernel_rfl) (by simp) ?_
            refine AllReadyH.cons (o := { dst := none, op := Op.store 57 (Operand.tmp 6) (Operand.tmp 39), type := 0, pos := "outright.go:54", after := #[{ on := 8, ground := Ground.data }, { on := 7, ground := Ground.data }, { on := 7, ground := Ground.chain }, { on := 0, ground := Ground.phase }, { on := 1, ground := Ground.phase }, { on := 2, ground := Ground.phase }, { on := 3, ground := Ground.phase }, { on := 4, ground := Ground.phase }, { on := 5, ground := Ground.phase }, { on := 6, ground := Ground.phase }, { on := 7, ground := Ground.phase }, { on := 8, ground := Ground.phase }], guard := none }) rfl (fun K hK => ?_) AllReadyH.nil
            have hst := store57 v14 b11 [fees, forf].sum HA14.out
            have hc9 := setRow_same (cs := #[.int .i64 (hiW [fees, forf].sum), .int .u64 (loW [fees, forf].sum)]) HA14.out
            have hm9 : Mod (fun _ => False) w4 (v14.setRow b11 #[.int .i64 (hiW [fees, forf].sum), .int .u64 (loW [fees, forf].sum)]) := Mod_setRow HM14.out (fun q => by have h9 := HSZ.out; omega) _
            generalize v14.setRow b11 #[.int .i64 (hiW [fees, forf].sum), .int .u64 (loW [fees, forf].sum)] = w9 at hst hc9 hm9
            refine step_execS rfl (exec_store _ _ rfl rfl rfl hst) ?_
            refine hK.out _ _ hm9 (fun hH => ?_)
            clear hK K
            (try simp only [Act.put])
            refine wpAnyH_done (by kernel_rfl) ?_ _
            have hp9 := HP4.out.tr hm9 (fun q e => e.elim)
            have HF9 := Lib.hid (And.intro hp9 hc9)
            clear hst hm9 hc9 hp9
            go_wp2_with fail
            go_meet
            case rel =>
              refine ⟨_, rfl, HF9.out.1, HSZ.out.1, ?_, ⟨rfl, .inl ⟨rfl, rfl⟩⟩, (fun q hq => by cases hq), rfl, ⟨rfl, .inl ⟨rfl, rfl⟩⟩, (fun q hq => by cases hq), fun i rv d h1 => by simp at h1⟩
              rw [show zz fees forf es [] = [fees, forf].sum by simp [zz]]
              exact HF9.out.2
        · skip
          have hA15 := newB w4.drew (.cells #[.int .i64 0, .int .u64 0] 57)
          have hM15 : Mod (fun _ => False) w4 (w4.drew.alloc (.cells #[.int .i64 0, .int .u64 0] 57)) := ((Mod.refl (fun _ => False) w4).drew).alloc _
          have hsz : Nw w w4.drew.heap.size ∧ w4.heap.size ≤ w4.drew.heap.size := by have h1 := ltB HP4.out.hx; have h2 := ((Mod.refl (fun _ => False) w4).drew).size; exact ⟨by unfold Nw; omega, h2⟩
          refine step_execW rfl (exec_alloc _ _ 57 #[.int .i64 0, .int .u64 0] rfl zv57) ?_
          refine hK.out _ _ hM15 (fun hH => ?_)
          clear hK K
          (try simp only [Act.put, List.setIfInBounds_toArray, List.set_cons_zero, List.set_cons_succ])
          clear hH
          have hH : (fun W => Mod (fun _ => False) w4 W) (w4.drew.alloc (.cells #[.int .i64 0, .int .u64 0] 57)) := hM15
          generalize w4.drew.alloc (.cells #[.int .i64 0, .int .u64 0] 57) = v15 at hA15 hM15 hH ⊢
          generalize w4.drew.heap.size = b15 at hA15 hsz ⊢
          have HA15 := Lib.hid hA15
          have HM15 := Lib.hid hM15
          have HSZ := Lib.hid hsz
          clear hA15 hM15 hsz
          refine wpAnyH_ready (rs := [2]) (by kernel_rfl) (by simp) ?_
          refine AllReadyH.cons (o := { dst := some 34, op := Op.call { callee := Callee.value (Operand.func 8), args := #[Operand.tmp 33], argTypes := #[2] }, type := 57, pos := "outright.go:54", after := #[{ on := 1, ground := Ground.data }], guard := none }) rfl (fun K hK => ?_) AllReadyH.nil
          go_simp
          refine (wide_calls fees HC.out.2.1.1 HC.out.2.1.2 v15).mono ?_
          rintro e v16 ⟨rfl, hm16⟩
          have HM16 := Lib.hid ((HM15.out).tr hm16)
          have HA16 := Lib.hid ((hm16.block _ (ltB HA15.out) (fun q => q)).trans HA15.out)
          clear hm16
          refine hK.out _ _ HM16.out (fun hH => ?_)
          clear hK K
          (try simp only [Act.put, List.setIfInBounds_toArray, List.set_cons_zero, List.set_cons_succ])
          refine wpAnyH_ready (rs := [5]) (by kernel_rfl) (by simp) ?_
          refine AllReadyH.cons (o := { dst := some 37, op := Op.call { callee := Callee.value (Operand.func 8), args := #[Operand.tmp 36], argTypes := #[2] }, type := 57, pos := "outright.go:54", after := #[{ on := 4, ground := Ground.data }, { on := 2, ground := Ground.chain }], guard := none }) rfl (fun K hK => ?_) AllReadyH.nil
          go_simp
          refine (wide_calls forf HC.out.2.2.1 HC.out.2.2.2 v16).mono ?_
          rintro e v17 ⟨rfl, hm17⟩
          have HM17 := Lib.hid ((HM16.out).tr hm17)
          have HA17 := Lib.hid ((hm17.block _ (ltB HA16.out) (fun q => q)).trans HA16.out)
          clear hm17
          refine hK.out _ _ HM17.out (fun hH => ?_)
          clear hK K
          (try simp only [Act.put, List.setIfInBounds_toArray, List.set_cons_zero, List.set_cons_succ])
          refine wpAnyH_ready (rs := [6]) (by kernel_rfl) (by simp) ?_
          refine AllReadyH.cons (o := { dst := some 38, op := Op.buildSlice 77 2 #[(0, Operand.tmp 34), (1, Operand.tmp 37)], type := 77, pos := "outright.go:54", after := #[{ on := 2, ground := Ground.data }, { on := 5, ground := Ground.data }], guard := none }) rfl (fun K hK => ?_) AllReadyH.nil
          have hW18 := wides_two v17 fees forf
          have hM18 : Mod (fun _ => False) w4 (v17.alloc (.cells #[.int .i64 (hiW fees), .int .u64 (loW fees), .int .i64 (hiW forf), .int .u64 (loW forf)] 57)) := (HM17.out).alloc _
          have hA18 := allocB HA17.out (.cells #[.int .i64 (hiW fees), .int .u64 (loW fees), .int .i64 (hiW forf), .int .u64 (loW forf)] 57)
          refine step_execW rfl (exec_wides2 _ _ rfl fees forf rfl rfl) ?_
          refine hK.out _ _ hM18 (fun hH => ?_)
          clear hK K
          (try simp only [Act.put, List.setIfInBounds_toArray, List.set_cons_zero, List.set_cons_succ])
          clear hH
          have hH : (fun W => Mod (fun _ => False) w4 W) (v17.alloc (.cells #[.int .i64 (hiW fees), .int .u64 (loW fees), .int .i64 (hiW forf), .int .u64 (loW forf)] 57)) := hM18
          generalize v17.alloc (.cells #[.int .i64 (hiW fees), .int .u64 (loW fees), .int .i64 (hiW forf), .int .u64 (loW forf)] 57) = v18 at hW18 hM18 hH hA18 ⊢
          generalize v17.heap.size = g18 at hW18 ⊢
          have HW18 := Lib.hid hW18
          have HM18 := Lib.hid hM18
          have HA18 := Lib.hid hA18
          clear hA18
          clear hW18 hM18
          refine wpAnyH_ready (rs := [7]) (by kernel_rfl) (by simp) ?_
          refine AllReadyH.cons (o := { dst := some 39, op := Op.call { callee := Callee.value (Operand.func 7), args := #[Operand.tmp 38], argTypes := #[77] }, type := 57, pos := "outright.go:54", after := #[{ on := 6, ground := Ground.data }, { on := 5, ground := Ground.chain }], guard := none }) rfl (fun K hK => ?_) AllReadyH.nil
          go_simp
          refine (plus_calls v18 _ [fees, forf] HW18.out (by simp)).mono ?_
          rintro e v19 ⟨rfl, hm19⟩
          have HM19 := Lib.hid ((HM18.out).tr hm19)
          have HA19 := Lib.hid ((hm19.block _ (ltB HA18.out) (fun q => q)).trans HA18.out)
          clear hm19
          refine hK.out _ _ HM19.out (fun hH => ?_)
          clear hK K
          (try simp only [Act.put, List.setIfInBounds_toArray, List.set_cons_zero, List.set_cons_succ])
          refine wpAnyH_ready (rs := [9]) (by kernel_rfl) (by simp) ?_
          refine AllReadyH.cons (o := { dst := none, op := Op.store 57 (Operand.tmp 6) (Operand.tmp 39), type := 0, pos := "outright.go:54", after := #[{ on := 8, ground := Ground.data }, { on := 7, ground := Ground.data }, { on := 7, ground := Ground.chain }, { on := 0, ground := Ground.phase }, { on := 1, ground := Ground.phase }, { on := 2, ground := Ground.phase }, { on := 3, ground := Ground.phase }, { on := 4, ground := Ground.phase }, { on := 5, ground := Ground.phase }, { on := 6, ground := Ground.phase }, { on := 7, ground := Ground.phase }, { on := 8, ground := Ground.phase }], guard := none }) rfl (fun K hK => ?_) AllReadyH.nil
          have hst := store57 v19 b15 [fees, forf].sum HA19.out
          have hc9 := setRow_same (cs := #[.int .i64 (hiW [fees, forf].sum), .int .u64 (loW [fees, forf].sum)]) HA19.out
          have hm9 : Mod (fun _ => False) w4 (v19.setRow b15 #[.int .i64 (hiW [fees, forf].sum), .int .u64 (loW [fees, forf].sum)]) := Mod_setRow HM19.out (fun q => by have h9 := HSZ.out; omega) _
          generalize v19.setRow b15 #[.int .i64 (hiW [fees, forf].sum), .int .u64 (loW [fees, forf].sum)] = w9 at hst hc9 hm9
          refine step_execS rfl (exec_store _ _ rfl rfl rfl hst) ?_
          refine hK.out _ _ hm9 (fun hH => ?_)
          clear hK K
          (try simp only [Act.put])
          refine wpAnyH_done (by kernel_rfl) ?_ _
          have hp9 := HP4.out.tr hm9 (fun q e => e.elim)
          have HF9 := Lib.hid (And.intro hp9 hc9)
          clear hst hm9 hc9 hp9
          go_wp2_with fail
          go_meet
          case rel =>
            refine ⟨_, rfl, HF9.out.1, HSZ.out.1, ?_, ⟨rfl, .inl ⟨rfl, rfl⟩⟩, (fun q hq => by cases hq), rfl, ⟨rfl, .inl ⟨rfl, rfl⟩⟩, (fun q hq => by cases hq), fun i rv d h1 => by simp at h1⟩
            rw [show zz fees forf es [] = [fees, forf].sum by simp [zz]]
            exact HF9.out.2
      case rest =>
        obtain ⟨b6, rfl, hl1⟩ := hcut
        have HL1 := Lib.hid hl1
        obtain ⟨z40, hz40, hs40⟩ := zv40
        have HZ40 := Lib.hid (And.intro hz40 hs40)
        clear hl1 hz40 hs40
        go_wp2_with fail
        go_loopw [5, 7, 8] (fun v5 v7 i wr => ∃ (k : Nat) (rvs : List Value) (rows : List (List (Nm × Int))) (v5' v7' : Value), k ≤ es.length ∧ v5' = v5 ∧ v7' = v7 ∧ i = .int .i64 k ∧ RowsOf es (addrs (es.take k)) rows ∧ L1 w wr cs (entCells x xa xc) b6 (zz fees forf es (addrs (es.take k))) (addrs (es.take k)) v5' rvs rows v7') (fun _ _ i _ => es.length - (intOf i).toNat)
        case atStart => exact ⟨0, [], [], _, _, by omega, rfl, rfl, rfl, RowsOf.nil es, HL1.out⟩
        case round =>
          obtain ⟨k, rvs, rows, v5, v7, hk, rfl, rfl, rfl, hro, hl⟩ := hrel
          have s44 : wr.cell? ⟨w.heap.size, 44, none⟩ = some (.slice sa es.length sc) := (cellB hl.pb.hs 44).trans (by rw [List.getElem?_toArray]; exact HC.out.1.ents)
          have HL := Lib.hid hl
          have HRO := Lib.hid hro
          clear hl hro
          by_cases hlt : k < es.length
          · obtain ⟨y, hy⟩ : ∃ y, es[k]? = some y := ⟨_, List.getElem?_eq_getElem hlt⟩
            obtain ⟨_, L, off, a2, c2, rfl, hL, _, hcs⟩ := HE.out.at hy
            have hl40 : (loadVar 40 ⟨L, off + k * 102 + 33, none⟩).run Try.prog wr = .ok (.agg (adrCells y.addr).toArray) wr :=
              run_loadVar_mid wr L (off + k * 102 + 33) 40 (adrCells y.addr) _ (fun q u hu => (HL.out.pb.mod.cell (p := ⟨L, _, none⟩) hL (fun q => q)).trans (by rw [Nat.add_assoc]; exact hcs (33 + q) u (ent_adr y a2 c2 hu))) Try.underlying40 rfl (by rw [size40, adrCells_length])
            have hZ := newB wr (.cells z40 40)
            have hst : (storeVar 40 ⟨wr.heap.size, 0, none⟩ (.agg (adrCells y.addr).toArray)).run Try.prog (wr.alloc (.cells z40 40)) = .ok () ((wr.alloc (.cells z40 40)).setRow wr.heap.size (adrCells y.addr).toArray) :=
              run_storeVar_row (P := Try.prog) _ wr.heap.size 40 40 z40 (adrCells y.addr).toArray hZ (by rw [size40]; simp [adrCells_length]) (by rw [HZ40.out.2]; simp [adrCells_length]) (by rw [List.all_toArray, List.all_eq_true]; exact adrCells_one y.addr)
            have hR := setRow_same (cs := (adrCells y.addr).toArray) hZ
            have hmr : Mod (fun _ => False) wr ((wr.alloc (.cells z40 40)).setRow wr.heap.size (adrCells y.addr).toArray) := Mod_setRow ((Mod.refl _ wr).alloc (.cells z40 40)) (b := wr.heap.size) (fun q => by omega) _
            generalize (wr.alloc (.cells z40 40)).setRow wr.heap.size (adrCells y.addr).toArray = w9 at hst hR hmr
            have HLD := Lib.hid (And.intro hl40 hst)
            have hl9 := HL.out.tr hmr
            have hn5 : ∀ q, v5.ownBlock = some q → q ≠ wr.heap.size := fun q hq => Nat.ne_of_lt (ownsRow_lt HL.out.seen hq)
            have hn7 : ∀ q, v7.ownBlock = some q → q ≠ wr.heap.size := fun q hq => Nat.ne_of_lt (ownsRow_lt HL.out.rown hq)
            clear hl40 hst hZ hcs hmr
            go_upto_region 11 with fail
            refine wp_region_lit ?_
            refine wpList_exec (v := .pointer (some ⟨w.heap.size, 44, none⟩)) rfl (by go_simp) ?_
            (try simp only [Act.put, List.setIfInBounds_toArray, List.set_cons_zero, List.set_cons_succ])
            refine wpList_exec (v := .slice (some ⟨L, off, none⟩) es.length sc) rfl (by go_simp) ?_
            (try simp only [Act.put, List.setIfInBounds_toArray, List.set_cons_zero, List.set_cons_succ])
            refine wpList_exec (v := .int .i64 k) rfl (by go_simp) ?_
            (try simp only [Act.put, List.setIfInBounds_toArray, List.set_cons_zero, List.set_cons_succ])
            refine wpList_exec (v := .pointer (some ⟨L, off + k * 102, none⟩)) rfl (by go_simp) ?_
            (try simp only [Act.put, List.setIfInBounds_toArray, List.set_cons_zero, List.set_cons_succ])
            refine wpList_exec (v := .pointer (some ⟨L, off + k * 102 + 33, none⟩)) rfl (by go_simp) ?_
            (try simp only [Act.put, List.setIfInBounds_toArray, List.set_cons_zero, List.set_cons_succ])
            refine wpList_exec (v := .pointer (some ⟨L, off + k * 102 + 33, none⟩)) rfl (by go_simp) ?_
            (try simp only [Act.put, List.setIfInBounds_toArray, List.set_cons_zero, List.set_cons_succ])
            refine wpList_exec rfl (exec_load_at _ _ 40 _ rfl ⟨L, off + k * 102 + 33, none⟩ rfl HLD.out.1) ?_
            (try simp only [Act.put, List.setIfInBounds_toArray, List.set_cons_zero, List.set_cons_succ])
            refine wpList_execW rfl (exec_alloc _ _ 40 z40 rfl HZ40.out.1) ?_
            (try simp only [Act.put, List.setIfInBounds_toArray, List.set_cons_zero, List.set_cons_succ])
            refine wpList_execS rfl (exec_store _ _ rfl rfl rfl HLD.out.2) ?_
            (try simp only [Act.put])
            clear HLD s44
            generalize wr.heap.size = b9 at hR hn5 hn7 ⊢
            have HB9 := Lib.hid (And.intro hR (And.intro hn5 hn7))
            have hSl := addrs_le es k
            have hsn := addrs_snoc hy
            generalize addrs (es.take k) = S at hl9 HRO hSl hsn
            have HL9 := Lib.hid hl9
            have HSN := Lib.hid (And.intro hsn hy)
            obtain ⟨va5, vc5, rfl⟩ := owns_shape hl9.seen
            clear hR hn5 hn7 hl9 hsn hy HL
            go_wp2_with fail
            go_loopw [10, 11] (fun kn j wi => ∃ j' : Nat, j' ≤ S.length ∧ j = .int .i64 j' ∧ kn = .bool (decide (y.addr ∈ S.take j')) ∧ Mod (fun _ => False) w9 wi) (fun _ j _ => S.length - (intOf j).toNat)
            case atStart => exact ⟨0, by omega, rfl, by simp, Mod.refl _ w9⟩
            case round =>
              obtain ⟨j, hj, rfl, rfl, hmi⟩ := hrel
              have HMI := Lib.hid hmi
              clear hmi
              by_cases hjl : j < S.length
              · obtain ⟨c, hc⟩ : ∃ c, S[j]? = some c := ⟨_, List.getElem?_eq_getElem hjl⟩
                by_cases hkn : y.addr ∈ S.take j
                · have HKN := Lib.hid (take_mem_mono hkn)
                  rw [decide_eq_true hkn]
                  clear hkn hc
                  go_upto_region 16 with fail
                  refine wp_region_held_drew (S := fun W => Mod (fun _ => False) w9 W) (by kernel_rfl) HMI.out.drew (fun hH => ?_)
                  refine wpAnyH_take (i := 0) (oi := { dst := some 60, op := Op.move (Operand.tmp 10), type := 4, pos := "outright.go:60", after := #[], guard := none }) (v := .bool true) rfl (by kernel_rfl) (by kernel_rfl) (by kernel_rfl) (fun _ _ _ h => h) (Or.inl ⟨by rfl, ?_⟩) hH ?_
                  · intro w' hSw
                    go_simp
                    try with_reducible rfl
                  (try simp only [Act.put, List.setIfInBounds_toArray, List.set_cons_zero, List.set_cons_succ])
                  refine wpAnyH_take (i := 1) (oi := { dst := some 61, op := Op.move (Operand.tmp 60), type := 4, pos := "outright.go:60", after := #[{ on := 0, ground := Ground.data }], guard := none }) (v := .bool true) rfl (by kernel_rfl) (by kernel_rfl) (by kernel_rfl) (fun _ _ _ h => h) (Or.inl ⟨by rfl, ?_⟩) hH ?_
                  · intro w' hSw
                    go_simp
                    try with_reducible rfl
                  (try simp only [Act.put, List.setIfInBounds_toArray, List.set_cons_zero, List.set_cons_succ])
                  refine wpAnyH_take (i := 2) (oi := { dst := some 62, op := Op.move (Operand.tmp 5), type := 55, pos := "outright.go:60", after := #[{ on := 1, ground := Ground.guard }], guard := some (1, false) }) (v := undef) rfl (by kernel_rfl) (by kernel_rfl) (by kernel_rfl) (fun _ _ _ h => h) (Or.inr ⟨by rfl, rfl⟩) hH ?_
                  (try simp only [Act.put, List.setIfInBounds_toArray, List.set_cons_zero, List.set_cons_succ])
                  refine wpAnyH_take (i := 3) (oi := { dst := some 63, op := Op.move (Operand.tmp 11), type := 3, pos := "outright.go:60", after := #[{ on := 1, ground := Ground.guard }], guard := some (1, false) }) (v := undef) rfl (by kernel_rfl) (by kernel_rfl) (by kernel_rfl) (fun _ _ _ h => h) (Or.inr ⟨by rfl, rfl⟩) hH ?_
                  (try simp only [Act.put, List.setIfInBounds_toArray, List.set_cons_zero, List.set_cons_succ])
                  refine wpAnyH_take (i := 4) (oi := { dst := some 64, op := Op.indexAddr 55 (Operand.tmp 62) (Operand.tmp 63), type := 0, pos := "outright.go:60", after := #[{ on := 2, ground := Ground.data }, { on := 3, ground := Ground.data }, { on := 1, ground := Ground.guard }], guard := some (1, false) }) (v := undef) rfl (by kernel_rfl) (by kernel_rfl) (by kernel_rfl) (fun _ _ _ h => h) (Or.inr ⟨by rfl, rfl⟩) hH ?_
                  (try simp only [Act.put, List.setIfInBounds_toArray, List.set_cons_zero, List.set_cons_succ])
                  refine wpAnyH_take (i := 5) (oi := { dst := some 65, op := Op.load 40 (Operand.tmp 64), type := 40, pos := "outright.go:60", after := #[{ on := 4, ground := Ground.data }, { on := 1, ground := Ground.guard }], guard := some (1, false) }) (v := undef) rfl (by kernel_rfl) (by kernel_rfl) (by kernel_rfl) (fun _ _ _ h => h) (Or.inr ⟨by rfl, rfl⟩) hH ?_
                  (try simp only [Act.put, List.setIfInBounds_toArray, List.set_cons_zero, List.set_cons_succ])
                  refine wpAnyH_take (i := 6) (oi := { dst := some 66, op := Op.load 40 (Operand.tmp 9), type := 40, pos := "outright.go:60", after := #[{ on := 1, ground := Ground.guard }], guard := some (1, false) }) (v := undef) rfl (by kernel_rfl) (by kernel_rfl) (by kernel_rfl) (fun _ _ _ h => h) (Or.inr ⟨by rfl, rfl⟩) hH ?_
                  (try simp only [Act.put, List.setIfInBounds_toArray, List.set_cons_zero, List.set_cons_succ])
                  refine wpAnyH_take (i := 7) (oi := { dst := some 67, op := Op.binOp BinOp.eql 40 (Operand.tmp 65) (Operand.tmp 66) 40, type := 4, pos := "outright.go:60", after := #[{ on := 5, ground := Ground.data }, { on := 6, ground := Ground.data }, { on := 1, ground := Ground.guard }], guard := some (1, false) }) (v := undef) rfl (by kernel_rfl) (by kernel_rfl) (by kernel_rfl) (fun _ _ _ h => h) (Or.inr ⟨by rfl, rfl⟩) hH ?_
                  (try simp only [Act.put, List.setIfInBounds_toArray, List.set_cons_zero, List.set_cons_succ])
                  refine wpAnyH_take (i := 8) (oi := { dst := some 68, op := Op.pick (Operand.tmp 61) (Operand.const (Value.bool true)) (Operand.tmp 67), type := 4, pos := "outright.go:60", after := #[{ on := 1, ground := Ground.data }, { on := 7, ground := Ground.data }], guard := none }) (v := .bool true) rfl (by kernel_rfl) (by kernel_rfl) (by kernel_rfl) (fun _ _ _ h => h) (Or.inl ⟨by rfl, ?_⟩) hH ?_
                  · intro w' hSw
                    go_simp
                    try with_reducible rfl
                  (try simp only [Act.put, List.setIfInBounds_toArray, List.set_cons_zero, List.set_cons_succ])
                  refine wpAnyH_take (i := 9) (oi := { dst := some 10, op := Op.assign (Operand.tmp 68), type := 4, pos := "outright.go:60", after := #[{ on := 8, ground := Ground.data }, { on := 1, ground := Ground.chain }, { on := 0, ground := Ground.phase }, { on := 1, ground := Ground.phase }, { on := 2, ground := Ground.phase }, { on := 3, ground := Ground.phase }, { on := 4, ground := Ground.phase }, { on := 5, ground := Ground.phase }, { on := 6, ground := Ground.phase }, { on := 7, ground := Ground.phase }, { on := 8, ground := Ground.phase }], guard := none }) (v := .bool true) rfl (by kernel_rfl) (by kernel_rfl) (by kernel_rfl) (fun _ _ _ h => h) (Or.inl ⟨by rfl, ?_⟩) hH ?_
                  · intro w' hSw
                    go_simp
                    try with_reducible rfl
                  (try simp only [Act.put, List.setIfInBounds_toArray, List.set_cons_zero, List.set_cons_succ])
                  refine wpAnyH_done (by kernel_rfl) ?_ _
                  go_wp2_with fail
                  go_roundw
                  case rel => exact ⟨j + 1, by omega, rfl, by rw [decide_eq_true HKN.out], HMI.out.drew⟩
                  case measure => simp [intOf]; omega
                · have HKN := Lib.hid (take_mem_succ hc hkn)
                  rw [decide_eq_false hkn]
                  obtain ⟨g, c5, hv5, _⟩ := seen_load HL9.out.seen hc
                  have HSL := Lib.hid (fun (W : World) (hW : Mod (fun _ => False) w9 W) => (show (loadVar 40 ⟨g, j * 33, none⟩).run Try.prog W = .ok (.agg (adrCells c).toArray) W from by
                    obtain ⟨g', c', e', h'⟩ := seen_load (HL9.out.tr hW).seen hc
                    rw [hv5] at e'
                    simp only [Value.slice.injEq, Option.some.injEq, Addr.mk.injEq] at e'
                    rw [e'.1.1]
                    exact h'))
                  have HB := Lib.hid (fun (W : World) (hW : Mod (fun _ => False) w9 W) => load40_box ((hW.block _ (ltB HB9.out.1) (fun q => q)).trans HB9.out.1))
                  simp only [Value.slice.injEq] at hv5
                  obtain ⟨rfl, _, rfl⟩ := hv5
                  clear hkn hc
                  go_upto_region 16 with fail
                  refine wp_region_held_drew (S := fun W => Mod (fun _ => False) w9 W) (by kernel_rfl) HMI.out.drew (fun hH => ?_)
                  refine wpAnyH_take (i := 0) (oi := { dst := some 60, op := Op.move (Operand.tmp 10), type := 4, pos := "outright.go:60", after := #[], guard := none }) (v := .bool false) rfl (by kernel_rfl) (by kernel_rfl) (by kernel_rfl) (fun _ _ _ h => h) (Or.inl ⟨by rfl, ?_⟩) hH ?_
                  · intro w' hSw
                    go_simp
                    try with_reducible rfl
                  (try simp only [Act.put, List.setIfInBounds_toArray, List.set_cons_zero, List.set_cons_succ])
                  refine wpAnyH_take (i := 1) (oi := { dst := some 61, op := Op.move (Operand.tmp 60), type := 4, pos := "outright.go:60", after := #[{ on := 0, ground := Ground.data }], guard := none }) (v := .bool false) rfl (by kernel_rfl) (by kernel_rfl) (by kernel_rfl) (fun _ _ _ h => h) (Or.inl ⟨by rfl, ?_⟩) hH ?_
                  · intro w' hSw
                    go_simp
                    try with_reducible rfl
                  (try simp only [Act.put, List.setIfInBounds_toArray, List.set_cons_zero, List.set_cons_succ])
                  refine wpAnyH_take (i := 2) (oi := { dst := some 62, op := Op.move (Operand.tmp 5), type := 55, pos := "outright.go:60", after := #[{ on := 1, ground := Ground.guard }], guard := some (1, false) }) (v := .slice (some ⟨g, 0, none⟩) S.length vc5) rfl (by kernel_rfl) (by kernel_rfl) (by kernel_rfl) (fun _ _ _ h => h) (Or.inl ⟨by rfl, ?_⟩) hH ?_
                  · intro w' hSw
                    go_simp
                    try with_reducible rfl
                  (try simp only [Act.put, List.setIfInBounds_toArray, List.set_cons_zero, List.set_cons_succ])
                  refine wpAnyH_take (i := 3) (oi := { dst := some 63, op := Op.move (Operand.tmp 11), type := 3, pos := "outright.go:60", after := #[{ on := 1, ground := Ground.guard }], guard := some (1, false) }) (v := .int .i64 j) rfl (by kernel_rfl) (by kernel_rfl) (by kernel_rfl) (fun _ _ _ h => h) (Or.inl ⟨by rfl, ?_⟩) hH ?_
                  · intro w' hSw
                    go_simp
                    try with_reducible rfl
                  (try simp only [Act.put, List.setIfInBounds_toArray, List.set_cons_zero, List.set_cons_succ])
                  refine wpAnyH_take (i := 4) (oi := { dst := some 64, op := Op.indexAddr 55 (Operand.tmp 62) (Operand.tmp 63), type := 0, pos := "outright.go:60", after := #[{ on := 2, ground := Ground.data }, { on := 3, ground := Ground.data }, { on := 1, ground := Ground.guard }], guard := some (1, false) }) (v := .pointer (some ⟨g, j * 33, none⟩)) rfl (by kernel_rfl) (by kernel_rfl) (by kernel_rfl) (fun _ _ _ h => h) (Or.inl ⟨by rfl, ?_⟩) hH ?_
                  · intro w' hSw
                    go_simp
                    try with_reducible rfl
                  (try simp only [Act.put, List.setIfInBounds_toArray, List.set_cons_zero, List.set_cons_succ])
                  refine wpAnyH_take (i := 5) (oi := { dst := some 65, op := Op.load 40 (Operand.tmp 64), type := 40, pos := "outright.go:60", after := #[{ on := 4, ground := Ground.data }, { on := 1, ground := Ground.guard }], guard := some (1, false) }) (v := .agg (adrCells c).toArray) rfl (by kernel_rfl) (by kernel_rfl) (by kernel_rfl) (fun _ _ _ h => h) (Or.inl ⟨by rfl, ?_⟩) hH ?_
                  · intro w' hSw
                    exact exec_load_at _ _ 40 _ rfl ⟨g, j * 33, none⟩ rfl (HSL.out _ hSw)
                  (try simp only [Act.put, List.setIfInBounds_toArray, List.set_cons_zero, List.set_cons_succ])
                  refine wpAnyH_take (i := 6) (oi := { dst := some 66, op := Op.load 40 (Operand.tmp 9), type := 40, pos := "outright.go:60", after := #[{ on := 1, ground := Ground.guard }], guard := some (1, false) }) (v := .agg (adrCells y.addr).toArray) rfl (by kernel_rfl) (by kernel_rfl) (by kernel_rfl) (fun _ _ _ h => h) (Or.inl ⟨by rfl, ?_⟩) hH ?_
                  · intro w' hSw
                    exact exec_load_at _ _ 40 _ rfl ⟨b9, 0, none⟩ rfl (HB.out _ hSw)
                  (try simp only [Act.put, List.setIfInBounds_toArray, List.set_cons_zero, List.set_cons_succ])
                  refine wpAnyH_take (i := 7) (oi := { dst := some 67, op := Op.binOp BinOp.eql 40 (Operand.tmp 65) (Operand.tmp 66) 40, type := 4, pos := "outright.go:60", after := #[{ on := 5, ground := Ground.data }, { on := 6, ground := Ground.data }, { on := 1, ground := Ground.guard }], guard := some (1, false) }) (v := .bool (decide (c = y.addr))) rfl (by kernel_rfl) (by kernel_rfl) (by kernel_rfl) (fun _ _ _ h => h) (Or.inl ⟨by rfl, ?_⟩) hH ?_
                  · intro w' hSw
                    exact exec_eql40 _ _ rfl c y.addr rfl rfl
                  (try simp only [Act.put, List.setIfInBounds_toArray, List.set_cons_zero, List.set_cons_succ])
                  refine wpAnyH_take (i := 8) (oi := { dst := some 68, op := Op.pick (Operand.tmp 61) (Operand.const (Value.bool true)) (Operand.tmp 67), type := 4, pos := "outright.go:60", after := #[{ on := 1, ground := Ground.data }, { on := 7, ground := Ground.data }], guard := none }) (v := .bool (decide (c = y.addr))) rfl (by kernel_rfl) (by kernel_rfl) (by kernel_rfl) (fun _ _ _ h => h) (Or.inl ⟨by rfl, ?_⟩) hH ?_
                  · intro w' hSw
                    go_simp
                    try with_reducible rfl
                  (try simp only [Act.put, List.setIfInBounds_toArray, List.set_cons_zero, List.set_cons_succ])
                  refine wpAnyH_take (i := 9) (oi := { dst := some 10, op := Op.assign (Operand.tmp 68), type := 4, pos := "outright.go:60", after := #[{ on := 8, ground := Ground.data }, { on := 1, ground := Ground.chain }, { on := 0, ground := Ground.phase }, { on := 1, ground := Ground.phase }, { on := 2, ground := Ground.phase }, { on := 3, ground := Ground.phase }, { on := 4, ground := Ground.phase }, { on := 5, ground := Ground.phase }, { on := 6, ground := Ground.phase }, { on := 7, ground := Ground.phase }, { on := 8, ground := Ground.phase }], guard := none }) (v := .bool (decide (c = y.addr))) rfl (by kernel_rfl) (by kernel_rfl) (by kernel_rfl) (fun _ _ _ h => h) (Or.inl ⟨by rfl, ?_⟩) hH ?_
                  · intro w' hSw
                    go_simp
                    try with_reducible rfl
                  (try simp only [Act.put, List.setIfInBounds_toArray, List.set_cons_zero, List.set_cons_succ])
                  refine wpAnyH_done (by kernel_rfl) ?_ _
                  go_wp2_with fail
                  go_roundw
                  case rel => exact ⟨j + 1, by omega, rfl, by rw [decide_eq_decide.2 HKN.out.symm], HMI.out.drew⟩
                  case measure => simp [intOf]; omega
              · have e : j = S.length := by omega
                subst e
                rw [List.take_length]
                by_cases ha : y.addr ∈ S
                · rw [decide_eq_true ha]
                  have HA := Lib.hid ha
                  clear ha hj hjl
                  go_wp2_with fail
                  go_roundw
                  case rel =>
                    have e := HSN.out.1
                    rw [if_pos HA.out] at e
                    exact ⟨k + 1, rvs, rows, _, _, by omega, rfl, rfl, by simp, by rw [e]; exact HRO.out, by rw [e]; exact HL9.out.tr HMI.out⟩
                  case measure => simp [intOf]; omega
                · rw [decide_eq_false ha]
                  have HA := Lib.hid ha
                  clear ha hj hjl
                  have hwi := HL9.out.tr HMI.out
                  have hb9 := (HMI.out.block _ (ltB HB9.out.1) (fun q => q)).trans HB9.out.1
                  have hNB := newB wr (.cells (adrCells y.addr).toArray 40)
                  have hmA : Mod (fun _ => False) wr (wr.alloc (.cells (adrCells y.addr).toArray 40)) := (Mod.refl _ wr).alloc _
                  have hwB := hwi.tr hmA
                  have hb9B := (hmA.block _ (ltB hb9) (fun q => q)).trans hb9
                  have HLD := Lib.hid (load40_box hb9)
                  obtain ⟨z40', _, hinf, hz40s⟩ := info40
                  obtain ⟨i40, hi, hi0, hi1, hi2⟩ := info_parts hinf
                  go_upto_region 18 with fail
                  refine wp_region_lit ?_
                  refine wpList_exec (v := .slice va5 S.length vc5) rfl (by go_simp) ?_
                  (try simp only [Act.put, List.setIfInBounds_toArray, List.set_cons_zero, List.set_cons_succ])
                  refine wpList_exec rfl (exec_load_at _ _ 40 _ rfl ⟨b9, 0, none⟩ rfl HLD.out) ?_
                  (try simp only [Act.put, List.setIfInBounds_toArray, List.set_cons_zero, List.set_cons_succ])
                  refine wpList_execW rfl (exec_adr1 _ _ rfl y.addr rfl) ?_
                  (try simp only [Act.put, List.setIfInBounds_toArray, List.set_cons_zero, List.set_cons_succ])
                  generalize wr.alloc (.cells (adrCells y.addr).toArray 40) = wB at hNB hwB hb9B ⊢
                  generalize wr.heap.size = gB at hNB ⊢
                  have HN := Lib.hid (row_cells hNB)
                  have HWB := Lib.hid (And.intro hwB hb9B)
                  clear hwi hb9 hmA hNB hwB hb9B
                  refine wpList_append_at _ rfl _ _ 55 rfl 40 i40 _ 33 33 Try.underlying55 hi hi0 hi1 hi2 (by simpa [Value.cells] using hz40s) (by decide) (.slice va5 S.length vc5) S.length (S.flatMap adrCells) rfl HWB.out.1.seen ⟨gB, 0, none⟩ 1 1 (adrCells y.addr) rfl (by rw [adrCells_length]) HN.out (adrCells_one y.addr) (by simp only [maxLen]; omega) (by omega) ?_
                  intro v5n w10 ho hg hat
                  (try simp only [Act.put, List.setIfInBounds_toArray, List.set_cons_zero, List.set_cons_succ])
                  have hl10 : L1 w w10 cs (entCells x xa xc) b6 (zz fees forf es S) (S ++ [y.addr]) v5n rvs rows v7 := HWB.out.1.more (by simpa using ho) hg hat
                  have hm10 : Mod (fun q => (Value.slice va5 S.length vc5).ownBlock = some q) wB w10 := (Mod.refl (fun q => (Value.slice va5 S.length vc5).ownBlock = some q) wB).grown hg (fun q hq _ => hq)
                  have hb10 := (hm10.block _ (ltB HWB.out.2) (fun q => HB9.out.2.1 _ q rfl)).trans HWB.out.2
                  have HL10 := Lib.hid hl10
                  have HLD2 := Lib.hid (And.intro (load36_box HC.out.1.len hl10.pb.hs) (load40_box hb10))
                  have HBAL := Lib.hid (balance_calls w10 cs _ fees forf HC.out.1 y.addr es (HE.out.tr hl10.pb.mod) (by
                    have h1 := assets_ofA y.addr es
                    have h2 := bookV_le (ofA es y.addr)
                    have h3 := HBD.out.1
                    unfold ofA at h2
                    unfold ofA at h1
                    omega))
                  clear ho hg hat hl10 hm10 hb10 hi hi0 hi1 hi2 hinf hz40s
                  go_upto_region 19 with fail
                  refine wp_region_lit ?_
                  refine wpList_exec rfl (exec_load_at _ _ 36 _ rfl ⟨w.heap.size, 0, none⟩ rfl HLD2.out.1) ?_
                  (try simp only [Act.put, List.setIfInBounds_toArray, List.set_cons_zero, List.set_cons_succ])
                  refine wpList_exec rfl (exec_load_at _ _ 40 _ rfl ⟨b9, 0, none⟩ rfl HLD2.out.2) ?_
                  (try simp only [Act.put, List.setIfInBounds_toArray, List.set_cons_zero, List.set_cons_succ])
                  go_wp2_with fail
                  refine HBAL.out.mono ?_
                  rintro e w11 ⟨u, d, rfl, p1, p2, p3, p4, p5⟩
                  rename_i hK
                  refine hK _ _ ?_
                  clear hK
                  (try simp only [Act.put, List.setIfInBounds_toArray, List.set_cons_zero, List.set_cons_succ])
                  obtain ⟨ua, un, uc, rfl⟩ := ownsRow_slice p3
                  have hl11 := HL10.out.tr p5
                  have hub : ∀ q, (Value.slice ua un uc).ownBlock = some q → Nw w q ∧ q ≠ b6 ∧ v5n.ownBlock ≠ some q ∧ v7.ownBlock ≠ some q := fun q hq => by
                    have h0 := p4 q hq
                    have h1 := ltB HL10.out.pb.hx
                    have h2 := ltB HL10.out.coin
                    refine ⟨by unfold Nw; omega, by omega, fun e => ?_, fun e => ?_⟩
                    · have := ownsRow_lt HL10.out.seen e; omega
                    · have := ownsRow_lt HL10.out.rown e; omega
                  have HD := Lib.hid (And.intro (show d.Perm ((bookV ((ofA es y.addr).map (·.val))).filter (nzW ·.2)) from p1) (And.intro p2 hub))
                  have hst := store57 (w11.alloc (.cells #[.int .i64 0, .int .u64 0] 57)) w11.heap.size (coins ((ofA es y.addr).map (·.val))) (newB w11 _)
                  have hc12 := setRow_same (cs := #[.int .i64 (hiW (coins ((ofA es y.addr).map (·.val)))), .int .u64 (loW (coins ((ofA es y.addr).map (·.val))))]) (newB w11 (.cells #[.int .i64 0, .int .u64 0] 57))
                  have hm12 : Mod (fun _ => False) w11 ((w11.alloc (.cells #[.int .i64 0, .int .u64 0] 57)).setRow w11.heap.size #[.int .i64 (hiW (coins ((ofA es y.addr).map (·.val)))), .int .u64 (loW (coins ((ofA es y.addr).map (·.val))))]) := Mod_setRow ((Mod.refl _ w11).alloc _) (fun q => by omega) _
                  have p3n := p3
                  generalize (w11.alloc (.cells #[.int .i64 0, .int .u64 0] 57)).setRow w11.heap.size #[.int .i64 (hiW (coins ((ofA es y.addr).map (·.val)))), .int .u64 (loW (coins ((ofA es y.addr).map (·.val))))] = w12 at hst hc12 hm12
                  have HST := Lib.hid hst
                  have hl12 := hl11.tr hm12
                  have ho12 := ownsRow_block p3n (fun q hq => hm12.block q (ownsRow_lt p3n hq) (fun e => e))
                  have HL12 := Lib.hid (And.intro hl12 ho12)
                  have HLD3 := Lib.hid (And.intro (load57_box hl12.coin) (load57_box hc12))
                  clear p1 p2 p3 p4 p5 hl11 hub hst hc12 hm12 p3n hl12 ho12
                  refine wpList_exec (v := .tuple #[wideV (coins ((ofA es y.addr).map (·.val))), .slice ua un uc]) rfl (by go_simp; rfl) ?_
                  (try simp only [Act.put, List.setIfInBounds_toArray, List.set_cons_zero, List.set_cons_succ])
                  refine wpList_exec (v := wideV (coins ((ofA es y.addr).map (·.val)))) rfl (by go_simp) ?_
                  (try simp only [Act.put, List.setIfInBounds_toArray, List.set_cons_zero, List.set_cons_succ])
                  refine wpList_exec (v := .slice ua un uc) rfl (by go_simp) ?_
                  (try simp only [Act.put, List.setIfInBounds_toArray, List.set_cons_zero, List.set_cons_succ])
                  refine wpList_execW rfl (exec_alloc _ _ 57 #[.int .i64 0, .int .u64 0] rfl zv57) ?_
                  (try simp only [Act.put, List.setIfInBounds_toArray, List.set_cons_zero, List.set_cons_succ])
                  refine wpList_execS rfl (exec_store _ _ rfl rfl rfl HST.out) ?_
                  (try simp only [Act.put])
                  go_upto_region 20 with fail
                  generalize w11.heap.size = b12 at HLD3 ⊢
                  refine wp_region_lit ?_
                  refine wpList_exec rfl (exec_load_at _ _ 57 _ rfl ⟨b6, 0, none⟩ rfl HLD3.out.1) ?_
                  (try simp only [Act.put, List.setIfInBounds_toArray, List.set_cons_zero, List.set_cons_succ])
                  refine wpList_exec rfl (exec_load_at _ _ 57 _ rfl ⟨b12, 0, none⟩ rfl HLD3.out.2) ?_
                  (try simp only [Act.put, List.setIfInBounds_toArray, List.set_cons_zero, List.set_cons_succ])
                  refine wpList_execW rfl (exec_wides2 _ _ rfl (zz fees forf es S) (coins ((ofA es y.addr).map (·.val))) rfl rfl) ?_
                  (try simp only [Act.put, List.setIfInBounds_toArray, List.set_cons_zero, List.set_cons_succ])
                  go_wp2_with fail
                  refine (plus2 w12 (zz fees forf es S) (coins ((ofA es y.addr).map (·.val)))).mono ?_
                  rintro e w14 ⟨rfl, hm14⟩
                  rename_i hK
                  refine hK _ _ ?_
                  clear hK
                  (try simp only [Act.put, List.setIfInBounds_toArray, List.set_cons_zero, List.set_cons_succ])
                  have hm14' := ((Mod.refl (fun _ => False) w12).alloc _).tr hm14
                  have hl14 := HL12.out.1.tr hm14'
                  have ho14 := ownsRow_block HL12.out.2 (fun q hq => hm14'.block q (ownsRow_lt HL12.out.2 hq) (fun e => e))
                  have hst := store57 w14 b6 ((zz fees forf es S) + (coins ((ofA es y.addr).map (·.val)))) hl14.coin
                  have hc15 := setRow_same (cs := #[.int .i64 (hiW ((zz fees forf es S) + (coins ((ofA es y.addr).map (·.val))))), .int .u64 (loW ((zz fees forf es S) + (coins ((ofA es y.addr).map (·.val)))))]) hl14.coin
                  have hm15 : Mod (fun q => q = b6) w14 (w14.setRow b6 #[.int .i64 (hiW ((zz fees forf es S) + (coins ((ofA es y.addr).map (·.val))))), .int .u64 (loW ((zz fees forf es S) + (coins ((ofA es y.addr).map (·.val)))))]) := Mod_setRow (Mod.refl (fun q => q = b6) w14) (fun _ => rfl) _
                  generalize w14.setRow b6 #[.int .i64 (hiW ((zz fees forf es S) + (coins ((ofA es y.addr).map (·.val))))), .int .u64 (loW ((zz fees forf es S) + (coins ((ofA es y.addr).map (·.val)))))] = w15 at hst hc15 hm15
                  have HST2 := Lib.hid hst
                  have hl15 := hl14.coins hm15 hc15
                  have ho15 := ownsRow_block ho14 (fun q hq => hm15.block q (ownsRow_lt ho14 hq) (fun e => (HD.out.2.2 q hq).2.1 e))
                  have HL15 := Lib.hid (And.intro hl15 ho15)
                  clear hm14 hm14' hl14 ho14 hst hc15 hm15 hl15 ho15
                  refine wpList_execS rfl (exec_store _ _ rfl rfl rfl HST2.out) ?_
                  (try simp only [Act.put])
                  have hNR := newB w15 (.cells #[.slice ua un uc] 33)
                  have hmR : Mod (fun _ => False) w15 (w15.alloc (.cells #[.slice ua un uc] 33)) := (Mod.refl _ w15).alloc _
                  have hlR := HL15.out.1.tr hmR
                  have hoR := ownsRow_block HL15.out.2 (fun q hq => hmR.block q (ownsRow_lt HL15.out.2 hq) (fun e => e))
                  obtain ⟨i33, hi, hi0, hi1, hi2⟩ := info_parts info33
                  have hrl : rvs.length ≤ 6000 := by have h1 := hlR.rlen; have h2 := HRO.out.1; omega
                  go_upto_region 21 with fail
                  refine wp_region_lit ?_
                  refine wpList_exec (v := v7) rfl (by go_simp) ?_
                  (try simp only [Act.put, List.setIfInBounds_toArray, List.set_cons_zero, List.set_cons_succ])
                  refine wpList_exec (v := .slice ua un uc) rfl (by go_simp) ?_
                  (try simp only [Act.put, List.setIfInBounds_toArray, List.set_cons_zero, List.set_cons_succ])
                  refine wpList_execW rfl (exec_row1 _ _ rfl (.slice ua un uc) rfl rfl) ?_
                  (try simp only [Act.put, List.setIfInBounds_toArray, List.set_cons_zero, List.set_cons_succ])
                  generalize w15.alloc (.cells #[.slice ua un uc] 33) = wR at hNR hlR hoR ⊢
                  generalize w15.heap.size = gR at hNR ⊢
                  have HN2 := Lib.hid (row_cells (cs := [.slice ua un uc]) hNR)
                  have HLR := Lib.hid (And.intro hlR hoR)
                  clear hNR hmR hlR hoR
                  refine wpList_append_at _ rfl _ _ 60 rfl 33 i33 _ 1 24 Try.underlying60 hi hi0 hi1 hi2 rfl (by decide) v7 rvs.length rvs rfl (by simpa using HLR.out.1.rown) ⟨gR, 0, none⟩ 1 1 [.slice ua un uc] rfl rfl HN2.out (by intro q hq; simp at hq; subst hq; rfl) (by simp only [maxLen]; omega) (by omega) ?_
                  intro v7n w16 ho hg hat
                  (try simp only [Act.put, List.setIfInBounds_toArray, List.set_cons_zero, List.set_cons_succ])
                  have hl16 := HLR.out.1.rowMore HLR.out.2 HD.out.2.2 (by simpa using ho) hg hat
                  have HL16 := Lib.hid hl16
                  clear ho hg hat hl16 hi hi0 hi1 hi2 hrl
                  go_wp2_with fail
                  go_roundw
                  case rel =>
                    have e := HSN.out.1
                    rw [if_neg HA.out] at e
                    refine ⟨k + 1, rvs ++ [.slice ua un uc], rows ++ [d], _, _, by omega, rfl, rfl, by simp, by rw [e]; exact HRO.out.snoc HD.out.1 HD.out.2.1, ?_⟩
                    rw [e, zz_snoc]
                    exact HL16.out
                  case measure => simp [intOf]; omega
          · have e : k = es.length := by omega
            subst e
            have hl := HL.out
            have hro := HRO.out
            rw [List.take_length] at hl hro
            clear HL HRO
            have HL := Lib.hid hl
            have HRO := Lib.hid hro
            clear hl hro hlt
            have hz : zz fees forf es (addrs es) = (coins (es.map (·.val)) + (fees + forf)) := by
              have := coins_parts (addrs es) (addrs_nodup es) es (addrs_mem es)
              unfold zz
              omega
            have hl := HL.out
            rw [hz] at hl
            have hSl : (addrs es).length ≤ es.length := by have := addrs_le es es.length; rwa [List.take_length] at this
            have hrl : rows.length ≤ 6000 := by have := HRO.out.1; omega
            have hfl := rows_all HRO.out
            have hfl6 : rows.flatten.length ≤ 6000 := by have := HBD.out.1; omega
            have hrw := hl.rowsAt (by omega) (fun d hd => by
              have h1 := le_sum (List.mem_map.2 ⟨d, hd, rfl⟩ : d.length ∈ rows.map List.length)
              have h2 : rows.flatten.length = (rows.map List.length).sum := List.length_flatten
              omega)
            have hbes : (bookV (es.map (·.val))).length ≤ 1000000 := by have h1 := bookV_le es; have h2 := HBD.out.1; omega
            have HL1 := Lib.hid hl
            have HRW := Lib.hid (And.intro hrw (And.intro hfl6 hbes))
            have HS1 := Lib.hid (And.intro hSl hes6)
            clear hl hz HL hSl hrl hfl hfl6 hrw hbes
            obtain ⟨S, hSe⟩ : ∃ S, addrs es = S := ⟨_, rfl⟩
            go_upto_region 22 with fail
            clear s44 hk
            refine wp_region_held_drew (S := fun W => Mod (fun _ => False) wr W) (by kernel_rfl) (Mod.refl _ wr).drew (fun hH => ?_)
            refine wpAnyH_take (i := 0) (oi := { dst := some 88, op := Op.load 57 (Operand.tmp 6), type := 57, pos := "outright.go:70", after := #[], guard := none }) (v := wideV (coins (es.map (·.val)) + (fees + forf))) rfl (by kernel_rfl) (by kernel_rfl) (by kernel_rfl) (fun _ _ _ h => h) (Or.inl ⟨by rfl, ?_⟩) hH ?_
            · intro w' hSw
              exact exec_load_at _ _ 57 _ rfl ⟨b6, 0, none⟩ rfl (load57_box (HL1.out.tr hSw).coin)
            (try simp only [Act.put, List.setIfInBounds_toArray, List.set_cons_zero, List.set_cons_succ])
            refine wpAnyH_take (i := 1) (oi := { dst := some 89, op := Op.load 36 (Operand.tmp 2), type := 36, pos := "outright.go:70", after := #[], guard := none }) (v := .agg cs.toArray) rfl (by kernel_rfl) (by kernel_rfl) (by kernel_rfl) (fun _ _ _ h => h) (Or.inl ⟨by rfl, ?_⟩) hH ?_
            · intro w' hSw
              exact exec_load_at _ _ 36 _ rfl ⟨w.heap.size, 0, none⟩ rfl (load36_box HC.out.1.len (HL1.out.tr hSw).pb.hs)
            (try simp only [Act.put, List.setIfInBounds_toArray, List.set_cons_zero, List.set_cons_succ])
            refine wpAnyH_ready (rs := [2]) (by kernel_rfl) (by simp) ?_
            refine AllReadyH.cons (o := { dst := some 90, op := Op.call { callee := Callee.value (Operand.func 10), args := #[Operand.tmp 89], argTypes := #[36] }, type := 57, pos := "outright.go:70", after := #[{ on := 1, ground := Ground.data }], guard := none }) rfl (fun K hK => ?_) AllReadyH.nil
            go_simp
            refine (coins_calls wr.drew cs _ fees forf HC.out.1 HC.out.2.1 HC.out.2.2 es (HE.out.tr (HL1.out.tr (Mod.refl (fun _ => False) wr).drew).pb.mod) HRW.out.2.2).mono ?_
            rintro e v1 ⟨rfl, hm1⟩
            have HM1 := Lib.hid (((Mod.refl (fun _ => False) wr).drew).tr hm1)
            clear hm1
            refine hK.out _ _ HM1.out (fun hH => ?_)
            clear hK K
            (try simp only [Act.put, List.setIfInBounds_toArray, List.set_cons_zero, List.set_cons_succ])
            refine wpAnyH_take (i := 3) (oi := { dst := some 91, op := Op.binOp BinOp.neq 57 (Operand.tmp 88) (Operand.tmp 90) 57, type := 4, pos := "outright.go:70", after := #[{ on := 0, ground := Ground.data }, { on := 2, ground := Ground.data }], guard := none }) (v := .bool false) rfl (by kernel_rfl) (by kernel_rfl) (by kernel_rfl) (fun _ _ _ h => h) (Or.inl ⟨by rfl, ?_⟩) hH ?_
            · intro w' hSw
              exact exec_neqW _ _ rfl (coins (es.map (·.val)) + (fees + forf)) rfl rfl
            (try simp only [Act.put, List.setIfInBounds_toArray, List.set_cons_zero, List.set_cons_succ])
            refine wpAnyH_take (i := 4) (oi := { dst := some 92, op := Op.move (Operand.tmp 91), type := 4, pos := "outright.go:70", after := #[{ on := 3, ground := Ground.data }, { on := 2, ground := Ground.chain }], guard := none }) (v := .bool false) rfl (by kernel_rfl) (by kernel_rfl) (by kernel_rfl) (fun _ _ _ h => h) (Or.inl ⟨by rfl, ?_⟩) hH ?_
            · intro w' hSw
              go_simp
              try with_reducible rfl
            (try simp only [Act.put, List.setIfInBounds_toArray, List.set_cons_zero, List.set_cons_succ])
            refine wpAnyH_take (i := 5) (oi := { dst := some 93, op := Op.move (Operand.tmp 7), type := 60, pos := "outright.go:70", after := #[{ on := 4, ground := Ground.guard }], guard := some (4, false) }) (v := v7) rfl (by kernel_rfl) (by kernel_rfl) (by kernel_rfl) (fun _ _ _ h => h) (Or.inl ⟨by rfl, ?_⟩) hH ?_
            · intro w' hSw
              go_simp
              try with_reducible rfl
            (try simp only [Act.put, List.setIfInBounds_toArray, List.set_cons_zero, List.set_cons_succ])
            refine wpAnyH_take (i := 7) (oi := { dst := some 95, op := Op.load 36 (Operand.tmp 2), type := 36, pos := "outright.go:70", after := #[{ on := 4, ground := Ground.guard }], guard := some (4, false) }) (v := .agg cs.toArray) rfl (by kernel_rfl) (by kernel_rfl) (by kernel_rfl) (fun _ _ _ h => h) (Or.inl ⟨by rfl, ?_⟩) hH ?_
            · intro w' hSw
              exact exec_load_at _ _ 36 _ rfl ⟨w.heap.size, 0, none⟩ rfl (load36_box HC.out.1.len (HL1.out.tr hSw).pb.hs)
            (try simp only [Act.put, List.setIfInBounds_toArray, List.set_cons_zero, List.set_cons_succ])
            refine wpAnyH_ready (rs := [6]) (by kernel_rfl) (by simp) ?_
            refine AllReadyH.cons (o := { dst := some 94, op := Op.call { callee := Callee.value (Operand.func 12), args := #[Operand.tmp 93], argTypes := #[60] }, type := 33, pos := "outright.go:70", after := #[{ on := 5, ground := Ground.data }, { on := 4, ground := Ground.chain }, { on := 4, ground := Ground.guard }], guard := some (4, false) }) rfl (fun K hK => ?_) AllReadyH.nil
            go_simp
            refine (merge_calls v1 v7 rows (rows_tr HRW.out.1 HM1.out) (by have := HRW.out.2.1; omega) (by have h1 := bookA_le rows.flatten; have := HRW.out.2.1; omega)).mono ?_
            rintro e v2 ⟨um, dm, rfl, p1, p2, p3, p4, p5⟩
            have HM2 := Lib.hid (HM1.out.tr p5)
            have HTM := Lib.hid (And.intro p1 (And.intro p2 (tots_at p3 (by have h1 := perm_le' p1; have := HRW.out.2.1; omega))))
            clear p1 p2 p3 p4 p5
            refine hK.out _ _ HM2.out (fun hH => ?_)
            clear hK K
            (try simp only [Act.put, List.setIfInBounds_toArray, List.set_cons_zero, List.set_cons_succ])
            refine wpAnyH_ready (rs := [8]) (by kernel_rfl) (by simp) ?_
            refine AllReadyH.cons (o := { dst := some 96, op := Op.call { callee := Callee.value (Operand.func 13), args := #[Operand.tmp 95], argTypes := #[36] }, type := 33, pos := "outright.go:70", after := #[{ on := 7, ground := Ground.data }, { on := 6, ground := Ground.chain }, { on := 4, ground := Ground.guard }], guard := some (4, false) }) rfl (fun K hK => ?_) AllReadyH.nil
            go_simp
            refine (assets_calls v2 cs _ fees forf HC.out.1 es (HE.out.tr (HL1.out.tr HM2.out).pb.mod) HRW.out.2.2).mono ?_
            rintro e v3 ⟨ua, da, rfl, p1, p2, p3, p4, p5⟩
            have HM3 := Lib.hid (HM2.out.tr p5)
            have HSC := Lib.hid (same_calls v3 um ua dm da (HTM.out.2.2.tr p5) (tots_at p3 (by have h1 := perm_le p1; have := HRW.out.2.2; omega)))
            have hsame := merge_same HRO.out HTM.out.1 HTM.out.2.1 p1 p2
            clear p1 p2 p3 p4 p5
            rw [decide_eq_true hsame] at HSC
            refine hK.out _ _ HM3.out (fun hH => ?_)
            clear hK K
            (try simp only [Act.put, List.setIfInBounds_toArray, List.set_cons_zero, List.set_cons_succ])
            refine wpAnyH_ready (rs := [9]) (by kernel_rfl) (by simp) ?_
            refine AllReadyH.cons (o := { dst := some 97, op := Op.call { callee := Callee.value (Operand.func 11), args := #[Operand.tmp 94, Operand.tmp 96], argTypes := #[33, 33] }, type := 4, pos := "outright.go:70", after := #[{ on := 6, ground := Ground.data }, { on := 8, ground := Ground.data }, { on := 8, ground := Ground.chain }, { on := 4, ground := Ground.guard }], guard := some (4, false) }) rfl (fun K hK => ?_) AllReadyH.nil
            go_simp
            refine HSC.out.mono ?_
            rintro e v4 ⟨rfl, hm4⟩
            have HM4 := Lib.hid (HM3.out.tr hm4)
            clear hm4 hsame
            refine hK.out _ _ HM4.out (fun hH => ?_)
            clear hK K
            (try simp only [Act.put, List.setIfInBounds_toArray, List.set_cons_zero, List.set_cons_succ])
            refine wpAnyH_take (i := 10) (oi := { dst := some 98, op := Op.unOp UnOp.not 4 (Operand.tmp 97), type := 4, pos := "outright.go:70", after := #[{ on := 9, ground := Ground.data }, { on := 4, ground := Ground.guard }], guard := some (4, false) }) (v := .bool false) rfl (by kernel_rfl) (by kernel_rfl) (by kernel_rfl) (fun _ _ _ h => h) (Or.inl ⟨by rfl, ?_⟩) hH ?_
            · intro w' hSw
              go_simp
              try with_reducible rfl
            (try simp only [Act.put, List.setIfInBounds_toArray, List.set_cons_zero, List.set_cons_succ])
            refine wpAnyH_take (i := 11) (oi := { dst := some 99, op := Op.pick (Operand.tmp 92) (Operand.const (Value.bool true)) (Operand.tmp 98), type := 4, pos := "outright.go:70", after := #[{ on := 4, ground := Ground.data }, { on := 10, ground := Ground.data }], guard := none }) (v := .bool false) rfl (by kernel_rfl) (by kernel_rfl) (by kernel_rfl) (fun _ _ _ h => h) (Or.inl ⟨by rfl, ?_⟩) hH ?_
            · intro w' hSw
              go_simp
              try with_reducible rfl
            (try simp only [Act.put, List.setIfInBounds_toArray, List.set_cons_zero, List.set_cons_succ])
            refine wpAnyH_done (by kernel_rfl) ?_ _
            have hl4 := HL1.out.tr HM4.out
            obtain ⟨z36, hz36, hs36, hb36⟩ := st36
            have hst := run_storeVar_row (P := Try.prog) (v4.alloc (.cells z36 36)) v4.heap.size 36 36 z36 cs.toArray (newB v4 _) (by rw [ss36']; simp [HC.out.1.len]) (by rw [hs36]; simp [HC.out.1.len]) HONE.out
            have hc24 := setRow_same (cs := cs.toArray) (newB v4 (.cells z36 36))
            have hm24 : Mod (fun _ => False) v4 ((v4.alloc (.cells z36 36)).setRow v4.heap.size cs.toArray) := Mod_setRow ((Mod.refl _ v4).alloc (.cells z36 36)) (b := v4.heap.size) (fun q => by omega) _
            generalize (v4.alloc (.cells z36 36)).setRow v4.heap.size cs.toArray = w24 at hst hc24 hm24
            have HST24 := Lib.hid (And.intro (load36_box HC.out.1.len hl4.pb.hs) (And.intro hst hz36))
            have hm24' := HM4.out.tr hm24
            have hb14 : wr.heap.size ≤ v4.heap.size := HM4.out.size
            clear hst hm24 hb36 hs36 hz36 hl4
            go_upto_region 24 with fail
            refine wp_region_lit ?_
            refine wpList_exec rfl (exec_load_at _ _ 36 _ rfl ⟨w.heap.size, 0, none⟩ rfl HST24.out.1) ?_
            (try simp only [Act.put, List.setIfInBounds_toArray, List.set_cons_zero, List.set_cons_succ])
            refine wpList_execW rfl (exec_alloc _ _ 36 z36 rfl HST24.out.2.2) ?_
            (try simp only [Act.put, List.setIfInBounds_toArray, List.set_cons_zero, List.set_cons_succ])
            refine wpList_execS rfl (exec_store _ _ rfl rfl rfl HST24.out.2.1) ?_
            (try simp only [Act.put])
            go_upto_region 25 with fail
            generalize v4.heap.size = b14 at hc24 hb14 ⊢
            have HB14 := Lib.hid (And.intro hc24 (And.intro hb14 hm24'))
            clear hc24 hb14 hm24'
            obtain ⟨l, hle, hlp, hlc⟩ := ents_list HE.out
            have hll : l.length = es.length := by rw [← hle]; simp
            have HLL := Lib.hid (And.intro hle (And.intro hlp hlc))
            have HB2 := Lib.hid (show w.heap.size + 2 ≤ b14 from by have h1 := ltB HL1.out.pb.hx; have h2 := HB14.out.2.1; omega)
            have HLT := Lib.hid (ltB HB14.out.1)
            have HHL := Lib.hid hll
            have HPS := Lib.hid (fun (W : World) (hW : Mod (fun q => q = b14) w24 W) => ((HL1.out.pb.tr HB14.out.2.2 (fun q e => e.elim)).tr hW (fun q e => by subst e; exact HB2.out)))
            clear hle hlp hlc hll
            go_cut [] from 101 (fun wx => Mod (fun _ => False) wr wx ∧ ∃ v', wx.heap[b14]? = some (.cells (cs.set 44 v').toArray 36 (0, 0)) ∧ EntsAt wx v' (es ++ [x]))
            case first =>
              refine wp_region_held_drew (S := fun W => Mod (fun q => q = b14) w24 W) (by kernel_rfl) (Mod.refl _ w24).drew (fun hH => ?_)
              refine wpAnyH_take (i := 1) (oi := { dst := some 102, op := Op.fieldAddr 36 (Operand.tmp 2) 2, type := 0, pos := "outright.go:74", after := #[], guard := none }) (v := .pointer (some ⟨w.heap.size, 44, none⟩)) rfl (by kernel_rfl) (by kernel_rfl) (by kernel_rfl) (fun _ _ _ h => h) (Or.inl ⟨by rfl, ?_⟩) hH ?_
              · intro w' hSw
                go_simp
                try with_reducible rfl
              (try simp only [Act.put, List.setIfInBounds_toArray, List.set_cons_zero, List.set_cons_succ])
              refine wpAnyH_take (i := 2) (oi := { dst := some 103, op := Op.load 28 (Operand.tmp 102), type := 28, pos := "outright.go:74", after := #[{ on := 1, ground := Ground.data }], guard := none }) (v := .slice sa es.length sc) rfl (by kernel_rfl) (by kernel_rfl) (by kernel_rfl) (fun _ _ _ h => h) (Or.inl ⟨by rfl, ?_⟩) hH ?_
              · intro w' hSw
                have s : w'.cell? ⟨w.heap.size, 44, none⟩ = some (.slice sa es.length sc) := (cellB (HPS.out _ hSw).hs 44).trans (by rw [List.getElem?_toArray]; exact HC.out.1.ents)
                go_simp
                try with_reducible rfl
              (try simp only [Act.put, List.setIfInBounds_toArray, List.set_cons_zero, List.set_cons_succ])
              refine wpAnyH_take (i := 4) (oi := { dst := some 105, op := Op.load 51 (Operand.tmp 3), type := 51, pos := "outright.go:74", after := #[], guard := none }) (v := .agg (entCells x xa xc).toArray) rfl (by kernel_rfl) (by kernel_rfl) (by kernel_rfl) (fun _ _ _ h => h) (Or.inl ⟨by rfl, ?_⟩) hH ?_
              · intro w' hSw
                exact exec_load_at _ _ 51 _ rfl ⟨w.heap.size + 1, 0, none⟩ rfl (load51_box (entCells_length _ _ _) (HPS.out _ hSw).hx)
              (try simp only [Act.put, List.setIfInBounds_toArray, List.set_cons_zero, List.set_cons_succ])
              refine wpAnyH_ready (rs := [0, 5]) (by kernel_rfl) (by simp) ?_
              refine AllReadyH.cons (o := { dst := some 101, op := Op.buildSlice 28 0 #[], type := 28, pos := "outright.go:74", after := #[], guard := none }) rfl (fun K hK => ?_) (AllReadyH.cons (o := { dst := some 106, op := Op.buildSlice 28 1 #[(0, Operand.tmp 105)], type := 28, pos := "outright.go:74", after := #[{ on := 4, ground := Ground.data }], guard := none }) rfl (fun K hK => ?_) AllReadyH.nil)
              · skip
                have hA := newB w24.drew (.cells #[] 51)
                have hM : Mod (fun _ => False) w24 (w24.drew.alloc (.cells #[] 51)) := ((Mod.refl (fun _ => False) w24).drew).alloc _
                have hz : w24.heap.size ≤ w24.drew.heap.size := ((Mod.refl (fun _ => False) w24).drew).size
                refine step_execW rfl (exec_slice0 _ _ rfl) ?_
                refine hK.out _ _ ((Mod.refl (fun q => q = b14) w24).trans hM (fun q e _ => e.elim)) (fun hH => ?_)
                clear hK K
                (try simp only [Act.put, List.setIfInBounds_toArray, List.set_cons_zero, List.set_cons_succ])
                clear hH
                have hH : (fun W => Mod (fun q => q = b14) w24 W) (w24.drew.alloc (.cells #[] 51)) := ((Mod.refl (fun q => q = b14) w24).trans hM (fun q e _ => e.elim))
                generalize w24.drew.alloc (.cells #[] 51) = w101 at hA hM hH ⊢
                generalize w24.drew.heap.size = g101 at hA hz ⊢
                have HO101 := Lib.hid (And.intro (own_empty hA) (fun (k : Nat) (hk : (Value.slice (some ⟨g101, 0, none⟩) 0 0).ownBlock = some k) => show w24.heap.size ≤ k from by cases hk; exact hz))
                have HM101 := Lib.hid hM
                clear hA hM hz
                refine wpAnyH_ready (rs := [3, 5]) (by kernel_rfl) (by simp) ?_
                refine AllReadyH.cons (o := { dst := some 104, op := Op.call { callee := Callee.builtin Builtin.append, args := #[Operand.tmp 101, Operand.tmp 103], argTypes := #[28, 28] }, type := 28, pos := "outright.go:74", after := #[{ on := 0, ground := Ground.data }, { on := 2, ground := Ground.data }], guard := none }) rfl (fun K hK => ?_) (AllReadyH.cons (o := { dst := some 106, op := Op.buildSlice 28 1 #[(0, Operand.tmp 105)], type := 28, pos := "outright.go:74", after := #[{ on := 4, ground := Ground.data }], guard := none }) rfl (fun K hK => ?_) AllReadyH.nil)
                · skip
                  obtain ⟨v102, w102, hrun, ho, hg, hat⟩ := append_ents (w0 := w) (m := es.length) 28 HO101.out.1 HHL.out HEN.out.1 HLL.out.2.2 ((HPS.out _ ((Mod.refl (fun q => q = b14) w24).trans HM101.out (fun q e _ => e.elim))).mod) (by have := HS1.out.2; omega)
                  have hM : Mod (fun _ => False) w24 w102 := (HM101.out).grown hg (fun q hq hl => by have := HO101.out.2 q hq; omega)
                  have hz : ∀ q, v102.ownBlock = some q → w24.heap.size ≤ q := fun q hq => by
                    rcases hat q hq with e | e
                    · exact HO101.out.2 q e
                    · have := (HM101.out).size; omega
                  refine step_execW rfl (exec_append28 (s := .tmp 101) (x := .tmp 103) (v := (.slice (some ⟨g101, 0, none⟩) 0 0)) (rv := .slice sa es.length sc) _ _ rfl rfl rfl hrun) ?_
                  refine hK.out _ _ ((Mod.refl (fun q => q = b14) w24).trans hM (fun q e _ => e.elim)) (fun hH => ?_)
                  clear hK K
                  (try simp only [Act.put, List.setIfInBounds_toArray, List.set_cons_zero, List.set_cons_succ])
                  have HO102 := Lib.hid (And.intro ho hz)
                  have HM102 := Lib.hid hM
                  clear hrun ho hg hat hM hz
                  refine wpAnyH_ready (rs := [5]) (by kernel_rfl) (by simp) ?_
                  refine AllReadyH.cons (o := { dst := some 106, op := Op.buildSlice 28 1 #[(0, Operand.tmp 105)], type := 28, pos := "outright.go:74", after := #[{ on := 4, ground := Ground.data }], guard := none }) rfl (fun K hK => ?_) AllReadyH.nil
                  have hA := newB w102 (.cells (entCells x xa xc).toArray 51)
                  have hM : Mod (fun _ => False) w24 (w102.alloc (.cells (entCells x xa xc).toArray 51)) := (HM102.out).alloc _
                  have ho := ownsRow_block HO102.out.1 (fun q hq => ((Mod.refl (fun _ => False) w102).alloc (.cells (entCells x xa xc).toArray 51)).block q (ownsRow_lt HO102.out.1 hq) (fun e => e))
                  have hon := fun (k : Nat) (hk : (v102 : Value).ownBlock = some k) => Nat.ne_of_lt (ownsRow_lt HO102.out.1 hk)
                  refine step_execW rfl (exec_ent1 _ _ rfl x xa xc rfl) ?_
                  refine hK.out _ _ ((Mod.refl (fun q => q = b14) w24).trans hM (fun q e _ => e.elim)) (fun hH => ?_)
                  clear hK K
                  (try simp only [Act.put, List.setIfInBounds_toArray, List.set_cons_zero, List.set_cons_succ])
                  clear hH
                  have hH : (fun W => Mod (fun q => q = b14) w24 W) (w102.alloc (.cells (entCells x xa xc).toArray 51)) := ((Mod.refl (fun q => q = b14) w24).trans hM (fun q e _ => e.elim))
                  generalize w102.alloc (.cells (entCells x xa xc).toArray 51) = w103 at hA hM hH ho ⊢
                  generalize w102.heap.size = g103 at hA hon ⊢
                  have HM103 := Lib.hid hM
                  have HO103 := Lib.hid (And.intro ho HO102.out.2)
                  have H5103 := Lib.hid (And.intro hA hon)
                  clear ho hon
                  clear hA hM
                  refine wpAnyH_ready (rs := [6]) (by kernel_rfl) (by simp) ?_
                  refine AllReadyH.cons (o := { dst := some 107, op := Op.call { callee := Callee.builtin Builtin.append, args := #[Operand.tmp 104, Operand.tmp 106], argTypes := #[28, 28] }, type := 28, pos := "outright.go:74", after := #[{ on := 3, ground := Ground.data }, { on := 5, ground := Ground.data }, { on := 3, ground := Ground.chain }], guard := none }) rfl (fun K hK => ?_) AllReadyH.nil
                  obtain ⟨i51, hi, hi0, hi1, hi2⟩ := info_parts info51
                  refine step_append_at _ rfl (.tmp 104) (.tmp 106) 28 rfl 51 i51 _ 102 176 Try.underlying28 hi hi0 hi1 hi2 (by simpa [Value.cells] using z51_size) (by decide) v102 (0 + es.length) ([] ++ entsCells l) rfl HO103.out.1 ⟨g103, 0, none⟩ 1 1 (entCells x xa xc) rfl (by rw [entCells_length]) (row_cells H5103.out.1) (by have := entCells_one x xa xc; rw [List.all_toArray, List.all_eq_true] at this; exact this) (by have h1 := HHL.out; have h2 := HS1.out.2; simp only [maxLen]; omega) (by have h1 := HHL.out; have h2 := HS1.out.2; omega) ?_
                  intro v7n w7n ho7 hg7 hat7
                  have hm7 : Mod (fun _ => False) w24 w7n := (HM103.out).grown hg7 (fun q hq hl => by have := HO103.out.2 q hq; omega)
                  have hw7 : ∀ q, v7n.ownBlock = some q → w24.heap.size ≤ q := fun q hq => by
                    rcases hat7 q hq with e | e
                    · exact HO103.out.2 q e
                    · have := (HM103.out).size; omega
                  obtain ⟨qa, qc, rfl⟩ := owns_shape ho7
                  have hb7 := (hm7.block _ HLT.out (fun q => q)).trans HB14.out.1
                  have H7 := Lib.hid (And.intro ho7 (And.intro hm7 (And.intro hw7 hb7)))
                  refine hK.out _ _ ((Mod.refl (fun q => q = b14) w24).trans hm7 (fun q e _ => e.elim)) (fun hH => ?_)
                  clear hK K
                  (try simp only [Act.put, List.setIfInBounds_toArray, List.set_cons_zero, List.set_cons_succ])
                  clear ho7 hg7 hat7 hm7 hw7 hb7 hi hi0 hi1 hi2
                  refine wpAnyH_take (i := 7) (oi := { dst := some 108, op := Op.fieldAddr 36 (Operand.tmp 14) 2, type := 0, pos := "outright.go:74", after := #[{ on := 0, ground := Ground.phase }, { on := 1, ground := Ground.phase }, { on := 2, ground := Ground.phase }, { on := 3, ground := Ground.phase }, { on := 4, ground := Ground.phase }, { on := 5, ground := Ground.phase }, { on := 6, ground := Ground.phase }], guard := none }) (v := .pointer (some ⟨b14, 44, none⟩)) rfl (by kernel_rfl) (by kernel_rfl) (by kernel_rfl) (fun _ _ _ h => h) (Or.inl ⟨by rfl, ?_⟩) hH ?_
                  · intro w' hSw
                    go_simp
                    try with_reducible rfl
                  (try simp only [Act.put, List.setIfInBounds_toArray, List.set_cons_zero, List.set_cons_succ])
                  refine wpAnyH_ready (rs := [8]) (by kernel_rfl) (by simp) ?_
                  refine AllReadyH.cons (o := { dst := none, op := Op.store 28 (Operand.tmp 108) (Operand.tmp 107), type := 0, pos := "outright.go:74", after := #[{ on := 7, ground := Ground.data }, { on := 6, ground := Ground.data }, { on := 6, ground := Ground.chain }, { on := 0, ground := Ground.phase }, { on := 1, ground := Ground.phase }, { on := 2, ground := Ground.phase }, { on := 3, ground := Ground.phase }, { on := 4, ground := Ground.phase }, { on := 5, ground := Ground.phase }, { on := 6, ground := Ground.phase }], guard := none }) rfl (fun K hK => ?_) AllReadyH.nil
                  have hc44 : w7n.cell? ⟨b14, 44, none⟩ = some (.slice sa es.length sc) := (cellB H7.out.2.2.2 44).trans (by rw [List.getElem?_toArray]; exact HC.out.1.ents)
                  refine step_execS rfl (exec_storec _ _ rfl rfl rfl hc44 (frozB H7.out.2.2.2 44)) ?_
                  have hb8 := setB H7.out.2.2.2 44 (.slice qa ((0 + es.length) + 1) qc)
                  have hm8 : Mod (fun q => q = b14) w7n (w7n.setCell ⟨b14, 44, none⟩ (.slice qa ((0 + es.length) + 1) qc)) := (Mod.refl (fun q => q = b14) w7n).setCell (p := ⟨b14, 44, none⟩) (fun _ => rfl) _
                  generalize w7n.setCell ⟨b14, 44, none⟩ (.slice qa ((0 + es.length) + 1) qc) = w8n at hb8 hm8
                  have hm8' : Mod (fun q => q = b14) w24 w8n := (((Mod.refl (fun q => q = b14) w24).trans H7.out.2.1 (fun q e _ => e.elim))).trans hm8 (fun q e _ => e)
                  refine hK.out _ _ hm8' (fun hH => ?_)
                  clear hK K
                  (try simp only [Act.put])
                  refine wpAnyH_done (by kernel_rfl) ?_ _
                  have H8 := Lib.hid (And.intro hb8 (And.intro hm8 hm8'))
                  clear hc44 hb8 hm8 hm8'
                  go_wp2_with fail
                  go_meet
                  case rel =>
                    have hmw : Mod (fun _ => False) wr w8n := HB14.out.2.2.trans H8.out.2.2 (fun q e hl => by have := HB14.out.2.1; omega)
                    refine ⟨hmw, _, by simpa using H8.out.1, ?_⟩
                    have hro : RowE w w8n (.slice qa ((0 + es.length) + 1) qc) (l ++ [(x, xa, xc)]) := by
                      refine ⟨fun y hy => ?_, ?_, fun q hq => ?_⟩
                      · rcases List.mem_append.1 hy with e | e
                        · exact HLL.out.2.1 y e
                        · simp at e; subst e
                          exact HXA.out
                      · have h1 := ownsRow_block H7.out.1 (fun q hq => H8.out.2.1.block q (ownsRow_lt H7.out.1 hq) (fun e => by have h2 := H7.out.2.2.1 q hq; have h3 := HLT.out; omega))
                        have h2 := HHL.out
                        simpa [entsCells, h2] using h1
                      · have h2 := H7.out.2.2.1 q hq; have h3 := HLT.out; have h4 := HB2.out; omega
                    have := hro.ents ((HL1.out.tr hmw).pb.mod) (by have h1 := HHL.out; have h2 := HS1.out.2; simp; omega)
                    simpa [HLL.out.1] using this
                · skip
                  have hA := newB w101 (.cells (entCells x xa xc).toArray 51)
                  have hM : Mod (fun _ => False) w24 (w101.alloc (.cells (entCells x xa xc).toArray 51)) := (HM101.out).alloc _
                  have ho := ownsRow_block HO101.out.1 (fun q hq => ((Mod.refl (fun _ => False) w101).alloc (.cells (entCells x xa xc).toArray 51)).block q (ownsRow_lt HO101.out.1 hq) (fun e => e))
                  have hon := fun (k : Nat) (hk : ((.slice (some ⟨g101, 0, none⟩) 0 0) : Value).ownBlock = some k) => Nat.ne_of_lt (ownsRow_lt HO101.out.1 hk)
                  refine step_execW rfl (exec_ent1 _ _ rfl x xa xc rfl) ?_
                  refine hK.out _ _ ((Mod.refl (fun q => q = b14) w24).trans hM (fun q e _ => e.elim)) (fun hH => ?_)
                  clear hK K
                  (try simp only [Act.put, List.setIfInBounds_toArray, List.set_cons_zero, List.set_cons_succ])
                  clear hH
                  have hH : (fun W => Mod (fun q => q = b14) w24 W) (w101.alloc (.cells (entCells x xa xc).toArray 51)) := ((Mod.refl (fun q => q = b14) w24).trans hM (fun q e _ => e.elim))
                  generalize w101.alloc (.cells (entCells x xa xc).toArray 51) = w104 at hA hM hH ho ⊢
                  generalize w101.heap.size = g104 at hA hon ⊢
                  have HM104 := Lib.hid hM
                  have HO104 := Lib.hid (And.intro ho HO101.out.2)
                  have H5104 := Lib.hid (And.intro hA hon)
                  clear ho hon
                  clear hA hM
                  refine wpAnyH_ready (rs := [3]) (by kernel_rfl) (by simp) ?_
                  refine AllReadyH.cons (o := { dst := some 104, op := Op.call { callee := Callee.builtin Builtin.append, args := #[Operand.tmp 101, Operand.tmp 103], argTypes := #[28, 28] }, type := 28, pos := "outright.go:74", after := #[{ on := 0, ground := Ground.data }, { on := 2, ground := Ground.data }], guard := none }) rfl (fun K hK => ?_) AllReadyH.nil
                  obtain ⟨v105, w105, hrun, ho, hg, hat⟩ := append_ents (w0 := w) (m := es.length) 28 HO104.out.1 HHL.out HEN.out.1 HLL.out.2.2 ((HPS.out _ ((Mod.refl (fun q => q = b14) w24).trans HM104.out (fun q e _ => e.elim))).mod) (by have := HS1.out.2; omega)
                  have hM : Mod (fun _ => False) w24 w105 := (HM104.out).grown hg (fun q hq hl => by have := HO104.out.2 q hq; omega)
                  have hz : ∀ q, v105.ownBlock = some q → w24.heap.size ≤ q := fun q hq => by
                    rcases hat q hq with e | e
                    · exact HO104.out.2 q e
                    · have := (HM104.out).size; omega
                  refine step_execW rfl (exec_append28 (s := .tmp 101) (x := .tmp 103) (v := (.slice (some ⟨g101, 0, none⟩) 0 0)) (rv := .slice sa es.length sc) _ _ rfl rfl rfl hrun) ?_
                  refine hK.out _ _ ((Mod.refl (fun q => q = b14) w24).trans hM (fun q e _ => e.elim)) (fun hH => ?_)
                  clear hK K
                  (try simp only [Act.put, List.setIfInBounds_toArray, List.set_cons_zero, List.set_cons_succ])
                  have HO105 := Lib.hid (And.intro ho hz)
                  have HM105 := Lib.hid hM
                  have hmo : Mod (fun q => ((.slice (some ⟨g101, 0, none⟩) 0 0) : Value).ownBlock = some q) w104 w105 := (Mod.refl (fun q => ((.slice (some ⟨g101, 0, none⟩) 0 0) : Value).ownBlock = some q) w104).grown hg (fun q hq _ => hq)
                  have H5105 := Lib.hid (And.intro ((hmo.block _ (ltB H5104.out.1) (fun q => H5104.out.2 _ q rfl)).trans H5104.out.1) trivial)
                  clear hmo
                  clear hrun ho hg hat hM hz
                  refine wpAnyH_ready (rs := [6]) (by kernel_rfl) (by simp) ?_
                  refine AllReadyH.cons (o := { dst := some 107, op := Op.call { callee := Callee.builtin Builtin.append, args := #[Operand.tmp 104, Operand.tmp 106], argTypes := #[28, 28] }, type := 28, pos := "outright.go:74", after := #[{ on := 3, ground := Ground.data }, { on := 5, ground := Ground.data }, { on := 3, ground := Ground.chain }], guard := none }) rfl (fun K hK => ?_) AllReadyH.nil
                  obtain ⟨i51, hi, hi0, hi1, hi2⟩ := info_parts info51
                  refine step_append_at _ rfl (.tmp 104) (.tmp 106) 28 rfl 51 i51 _ 102 176 Try.underlying28 hi hi0 hi1 hi2 (by simpa [Value.cells] using z51_size) (by decide) v105 (0 + es.length) ([] ++ entsCells l) rfl HO105.out.1 ⟨g104, 0, none⟩ 1 1 (entCells x xa xc) rfl (by rw [entCells_length]) (row_cells H5105.out.1) (by have := entCells_one x xa xc; rw [List.all_toArray, List.all_eq_true] at this; exact this) (by have h1 := HHL.out; have h2 := HS1.out.2; simp only [maxLen]; omega) (by have h1 := HHL.out; have h2 := HS1.out.2; omega) ?_
                  intro v7n w7n ho7 hg7 hat7
                  have hm7 : Mod (fun _ => False) w24 w7n := (HM105.out).grown hg7 (fun q hq hl => by have := HO105.out.2 q hq; omega)
                  have hw7 : ∀ q, v7n.ownBlock = some q → w24.heap.size ≤ q := fun q hq => by
                    rcases hat7 q hq with e | e
                    · exact HO105.out.2 q e
                    · have := (HM105.out).size; omega
                  obtain ⟨qa, qc, rfl⟩ := owns_shape ho7
                  have hb7 := (hm7.block _ HLT.out (fun q => q)).trans HB14.out.1
                  have H7 := Lib.hid (And.intro ho7 (And.intro hm7 (And.intro hw7 hb7)))
                  refine hK.out _ _ ((Mod.refl (fun q => q = b14) w24).trans hm7 (fun q e _ => e.elim)) (fun hH => ?_)
                  clear hK K
                  (try simp only [Act.put, List.setIfInBounds_toArray, List.set_cons_zero, List.set_cons_succ])
                  clear ho7 hg7 hat7 hm7 hw7 hb7 hi hi0 hi1 hi2
                  refine wpAnyH_take (i := 7) (oi := { dst := some 108, op := Op.fieldAddr 36 (Operand.tmp 14) 2, type := 0, pos := "outright.go:74", after := #[{ on := 0, ground := Ground.phase }, { on := 1, ground := Ground.phase }, { on := 2, ground := Ground.phase }, { on := 3, ground := Ground.phase }, { on := 4, ground := Ground.phase }, { on := 5, ground := Ground.phase }, { on := 6, ground := Ground.phase }], guard := none }) (v := .pointer (some ⟨b14, 44, none⟩)) rfl (by kernel_rfl) (by kernel_rfl) (by kernel_rfl) (fun _ _ _ h => h) (Or.inl ⟨by rfl, ?_⟩) hH ?_
                  · intro w' hSw
                    go_simp
                    try with_reducible rfl
                  (try simp only [Act.put, List.setIfInBounds_toArray, List.set_cons_zero, List.set_cons_succ])
                  refine wpAnyH_ready (rs := [8]) (by kernel_rfl) (by simp) ?_
                  refine AllReadyH.cons (o := { dst := none, op := Op.store 28 (Operand.tmp 108) (Operand.tmp 107), type := 0, pos := "outright.go:74", after := #[{ on := 7, ground := Ground.data }, { on := 6, ground := Ground.data }, { on := 6, ground := Ground.chain }, { on := 0, ground := Ground.phase }, { on := 1, ground := Ground.phase }, { on := 2, ground := Ground.phase }, { on := 3, ground := Ground.phase }, { on := 4, ground := Ground.phase }, { on := 5, ground := Ground.phase }, { on := 6, ground := Ground.phase }], guard := none }) rfl (fun K hK => ?_) AllReadyH.nil
                  have hc44 : w7n.cell? ⟨b14, 44, none⟩ = some (.slice sa es.length sc) := (cellB H7.out.2.2.2 44).trans (by rw [List.getElem?_toArray]; exact HC.out.1.ents)
                  refine step_execS rfl (exec_storec _ _ rfl rfl rfl hc44 (frozB H7.out.2.2.2 44)) ?_
                  have hb8 := setB H7.out.2.2.2 44 (.slice qa ((0 + es.length) + 1) qc)
                  have hm8 : Mod (fun q => q = b14) w7n (w7n.setCell ⟨b14, 44, none⟩ (.slice qa ((0 + es.length) + 1) qc)) := (Mod.refl (fun q => q = b14) w7n).setCell (p := ⟨b14, 44, none⟩) (fun _ => rfl) _
                  generalize w7n.setCell ⟨b14, 44, none⟩ (.slice qa ((0 + es.length) + 1) qc) = w8n at hb8 hm8
                  have hm8' : Mod (fun q => q = b14) w24 w8n := (((Mod.refl (fun q => q = b14) w24).trans H7.out.2.1 (fun q e _ => e.elim))).trans hm8 (fun q e _ => e)
                  refine hK.out _ _ hm8' (fun hH => ?_)
                  clear hK K
                  (try simp only [Act.put])
                  refine wpAnyH_done (by kernel_rfl) ?_ _
                  have H8 := Lib.hid (And.intro hb8 (And.intro hm8 hm8'))
                  clear hc44 hb8 hm8 hm8'
                  go_wp2_with fail
                  go_meet
                  case rel =>
                    have hmw : Mod (fun _ => False) wr w8n := HB14.out.2.2.trans H8.out.2.2 (fun q e hl => by have := HB14.out.2.1; omega)
                    refine ⟨hmw, _, by simpa using H8.out.1, ?_⟩
                    have hro : RowE w w8n (.slice qa ((0 + es.length) + 1) qc) (l ++ [(x, xa, xc)]) := by
                      refine ⟨fun y hy => ?_, ?_, fun q hq => ?_⟩
                      · rcases List.mem_append.1 hy with e | e
                        · exact HLL.out.2.1 y e
                        · simp at e; subst e
                          exact HXA.out
                      · have h1 := ownsRow_block H7.out.1 (fun q hq => H8.out.2.1.block q (ownsRow_lt H7.out.1 hq) (fun e => by have h2 := H7.out.2.2.1 q hq; have h3 := HLT.out; omega))
                        have h2 := HHL.out
                        simpa [entsCells, h2] using h1
                      · have h2 := H7.out.2.2.1 q hq; have h3 := HLT.out; have h4 := HB2.out; omega
                    have := hro.ents ((HL1.out.tr hmw).pb.mod) (by have h1 := HHL.out; have h2 := HS1.out.2; simp; omega)
                    simpa [HLL.out.1] using this
              · skip
                have hA := newB w24.drew (.cells (entCells x xa xc).toArray 51)
                have hM : Mod (fun _ => False) w24 (w24.drew.alloc (.cells (entCells x xa xc).toArray 51)) := ((Mod.refl (fun _ => False) w24).drew).alloc _
                refine step_execW rfl (exec_ent1 _ _ rfl x xa xc rfl) ?_
                refine hK.out _ _ ((Mod.refl (fun q => q = b14) w24).trans hM (fun q e _ => e.elim)) (fun hH => ?_)
                clear hK K
                (try simp only [Act.put, List.setIfInBounds_toArray, List.set_cons_zero, List.set_cons_succ])
                clear hH
                have hH : (fun W => Mod (fun q => q = b14) w24 W) (w24.drew.alloc (.cells (entCells x xa xc).toArray 51)) := ((Mod.refl (fun q => q = b14) w24).trans hM (fun q e _ => e.elim))
                generalize w24.drew.alloc (.cells (entCells x xa xc).toArray 51) = w106 at hA hM hH ⊢
                generalize w24.drew.heap.size = g106 at hA ⊢
                have HM106 := Lib.hid hM
                have H5106 := Lib.hid (And.intro hA trivial)
                clear hA hM
                refine wpAnyH_ready (rs := [0]) (by kernel_rfl) (by simp) ?_
                refine AllReadyH.cons (o := { dst := some 101, op := Op.buildSlice 28 0 #[], type := 28, pos := "outright.go:74", after := #[], guard := none }) rfl (fun K hK => ?_) AllReadyH.nil
                have hA := newB w106 (.cells #[] 51)
                have hM : Mod (fun _ => False) w24 (w106.alloc (.cells #[] 51)) := (HM106.out).alloc _
                have hz : w24.heap.size ≤ w106.heap.size := (HM106.out).size
                have h5 := allocB H5106.out.1 (.cells #[] 51)
                have h5n := Nat.ne_of_gt (ltB H5106.out.1)
                refine step_execW rfl (exec_slice0 _ _ rfl) ?_
                refine hK.out _ _ ((Mod.refl (fun q => q = b14) w24).trans hM (fun q e _ => e.elim)) (fun hH => ?_)
                clear hK K
                (try simp only [Act.put, List.setIfInBounds_toArray, List.set_cons_zero, List.set_cons_succ])
                clear hH
                have hH : (fun W => Mod (fun q => q = b14) w24 W) (w106.alloc (.cells #[] 51)) := ((Mod.refl (fun q => q = b14) w24).trans hM (fun q e _ => e.elim))
                generalize w106.alloc (.cells #[] 51) = w107 at hA hM hH h5 ⊢
                generalize w106.heap.size = g107 at hA hz h5n ⊢
                have HO107 := Lib.hid (And.intro (own_empty hA) (fun (k : Nat) (hk : (Value.slice (some ⟨g107, 0, none⟩) 0 0).ownBlock = some k) => show w24.heap.size ≤ k from by cases hk; exact hz))
                have HM107 := Lib.hid hM
                have H5107 := Lib.hid (And.intro h5 (fun (k : Nat) (hk : (Value.slice (some ⟨g107, 0, none⟩) 0 0).ownBlock = some k) => show k ≠ g106 from by cases hk; exact h5n))
                clear h5 h5n
                clear hA hM hz
                refine wpAnyH_ready (rs := [3]) (by kernel_rfl) (by simp) ?_
                refine AllReadyH.cons (o := { dst := some 104, op := Op.call { callee := Callee.builtin Builtin.append, args := #[Operand.tmp 101, Operand.tmp 103], argTypes := #[28, 28] }, type := 28, pos := "outright.go:74", after := #[{ on := 0, ground := Ground.data }, { on := 2, ground := Ground.data }], guard := none }) rfl (fun K hK => ?_) AllReadyH.nil
                obtain ⟨v108, w108, hrun, ho, hg, hat⟩ := append_ents (w0 := w) (m := es.length) 28 HO107.out.1 HHL.out HEN.out.1 HLL.out.2.2 ((HPS.out _ ((Mod.refl (fun q => q = b14) w24).trans HM107.out (fun q e _ => e.elim))).mod) (by have := HS1.out.2; omega)
                have hM : Mod (fun _ => False) w24 w108 := (HM107.out).grown hg (fun q hq hl => by have := HO107.out.2 q hq; omega)
                have hz : ∀ q, v108.ownBlock = some q → w24.heap.size ≤ q := fun q hq => by
                  rcases hat q hq with e | e
                  · exact HO107.out.2 q e
                  · have := (HM107.out).size; omega
                refine step_execW rfl (exec_append28 (s := .tmp 101) (x := .tmp 103) (v := (.slice (some ⟨g107, 0, none⟩) 0 0)) (rv := .slice sa es.length sc) _ _ rfl rfl rfl hrun) ?_
                refine hK.out _ _ ((Mod.refl (fun q => q = b14) w24).trans hM (fun q e _ => e.elim)) (fun hH => ?_)
                clear hK K
                (try simp only [Act.put, List.setIfInBounds_toArray, List.set_cons_zero, List.set_cons_succ])
                have HO108 := Lib.hid (And.intro ho hz)
                have HM108 := Lib.hid hM
                have hmo : Mod (fun q => ((.slice (some ⟨g107, 0, none⟩) 0 0) : Value).ownBlock = some q) w107 w108 := (Mod.refl (fun q => ((.slice (some ⟨g107, 0, none⟩) 0 0) : Value).ownBlock = some q) w107).grown hg (fun q hq _ => hq)
                have H5108 := Lib.hid (And.intro ((hmo.block _ (ltB H5107.out.1) (fun q => H5107.out.2 _ q rfl)).trans H5107.out.1) trivial)
                clear hmo
                clear hrun ho hg hat hM hz
                refine wpAnyH_ready (rs := [6]) (by kernel_rfl) (by simp) ?_
                refine AllReadyH.cons (o := { dst := some 107, op := Op.call { callee := Callee.builtin Builtin.append, args := #[Operand.tmp 104, Operand.tmp 106], argTypes := #[28, 28] }, type := 28, pos := "outright.go:74", after := #[{ on := 3, ground := Ground.data }, { on := 5, ground := Ground.data }, { on := 3, ground := Ground.chain }], guard := none }) rfl (fun K hK => ?_) AllReadyH.nil
                obtain ⟨i51, hi, hi0, hi1, hi2⟩ := info_parts info51
                refine step_append_at _ rfl (.tmp 104) (.tmp 106) 28 rfl 51 i51 _ 102 176 Try.underlying28 hi hi0 hi1 hi2 (by simpa [Value.cells] using z51_size) (by decide) v108 (0 + es.length) ([] ++ entsCells l) rfl HO108.out.1 ⟨g106, 0, none⟩ 1 1 (entCells x xa xc) rfl (by rw [entCells_length]) (row_cells H5108.out.1) (by have := entCells_one x xa xc; rw [List.all_toArray, List.all_eq_true] at this; exact this) (by have h1 := HHL.out; have h2 := HS1.out.2; simp only [maxLen]; omega) (by have h1 := HHL.out; have h2 := HS1.out.2; omega) ?_
                intro v7n w7n ho7 hg7 hat7
                have hm7 : Mod (fun _ => False) w24 w7n := (HM108.out).grown hg7 (fun q hq hl => by have := HO108.out.2 q hq; omega)
                have hw7 : ∀ q, v7n.ownBlock = some q → w24.heap.size ≤ q := fun q hq => by
                  rcases hat7 q hq with e | e
                  · exact HO108.out.2 q e
                  · have := (HM108.out).size; omega
                obtain ⟨qa, qc, rfl⟩ := owns_shape ho7
                have hb7 := (hm7.block _ HLT.out (fun q => q)).trans HB14.out.1
                have H7 := Lib.hid (And.intro ho7 (And.intro hm7 (And.intro hw7 hb7)))
                refine hK.out _ _ ((Mod.refl (fun q => q = b14) w24).trans hm7 (fun q e _ => e.elim)) (fun hH => ?_)
                clear hK K
                (try simp only [Act.put, List.setIfInBounds_toArray, List.set_cons_zero, List.set_cons_succ])
                clear ho7 hg7 hat7 hm7 hw7 hb7 hi hi0 hi1 hi2
                refine wpAnyH_take (i := 7) (oi := { dst := some 108, op := Op.fieldAddr 36 (Operand.tmp 14) 2, type := 0, pos := "outright.go:74", after := #[{ on := 0, ground := Ground.phase }, { on := 1, ground := Ground.phase }, { on := 2, ground := Ground.phase }, { on := 3, ground := Ground.phase }, { on := 4, ground := Ground.phase }, { on := 5, ground := Ground.phase }, { on := 6, ground := Ground.phase }], guard := none }) (v := .pointer (some ⟨b14, 44, none⟩)) rfl (by kernel_rfl) (by kernel_rfl) (by kernel_rfl) (fun _ _ _ h => h) (Or.inl ⟨by rfl, ?_⟩) hH ?_
                · intro w' hSw
                  go_simp
                  try with_reducible rfl
                (try simp only [Act.put, List.setIfInBounds_toArray, List.set_cons_zero, List.set_cons_succ])
                refine wpAnyH_ready (rs := [8]) (by kernel_rfl) (by simp) ?_
                refine AllReadyH.cons (o := { dst := none, op := Op.store 28 (Operand.tmp 108) (Operand.tmp 107), type := 0, pos := "outright.go:74", after := #[{ on := 7, ground := Ground.data }, { on := 6, ground := Ground.data }, { on := 6, ground := Ground.chain }, { on := 0, ground := Ground.phase }, { on := 1, ground := Ground.phase }, { on := 2, ground := Ground.phase }, { on := 3, ground := Ground.phase }, { on := 4, ground := Ground.phase }, { on := 5, ground := Ground.phase }, { on := 6, ground := Ground.phase }], guard := none }) rfl (fun K hK => ?_) AllReadyH.nil
                have hc44 : w7n.cell? ⟨b14, 44, none⟩ = some (.slice sa es.length sc) := (cellB H7.out.2.2.2 44).trans (by rw [List.getElem?_toArray]; exact HC.out.1.ents)
                refine step_execS rfl (exec_storec _ _ rfl rfl rfl hc44 (frozB H7.out.2.2.2 44)) ?_
                have hb8 := setB H7.out.2.2.2 44 (.slice qa ((0 + es.length) + 1) qc)
                have hm8 : Mod (fun q => q = b14) w7n (w7n.setCell ⟨b14, 44, none⟩ (.slice qa ((0 + es.length) + 1) qc)) := (Mod.refl (fun q => q = b14) w7n).setCell (p := ⟨b14, 44, none⟩) (fun _ => rfl) _
                generalize w7n.setCell ⟨b14, 44, none⟩ (.slice qa ((0 + es.length) + 1) qc) = w8n at hb8 hm8
                have hm8' : Mod (fun q => q = b14) w24 w8n := (((Mod.refl (fun q => q = b14) w24).trans H7.out.2.1 (fun q e _ => e.elim))).trans hm8 (fun q e _ => e)
                refine hK.out _ _ hm8' (fun hH => ?_)
                clear hK K
                (try simp only [Act.put])
                refine wpAnyH_done (by kernel_rfl) ?_ _
                have H8 := Lib.hid (And.intro hb8 (And.intro hm8 hm8'))
                clear hc44 hb8 hm8 hm8'
                go_wp2_with fail
                go_meet
                case rel =>
                  have hmw : Mod (fun _ => False) wr w8n := HB14.out.2.2.trans H8.out.2.2 (fun q e hl => by have := HB14.out.2.1; omega)
                  refine ⟨hmw, _, by simpa using H8.out.1, ?_⟩
                  have hro : RowE w w8n (.slice qa ((0 + es.length) + 1) qc) (l ++ [(x, xa, xc)]) := by
                    refine ⟨fun y hy => ?_, ?_, fun q hq => ?_⟩
                    · rcases List.mem_append.1 hy with e | e
                      · exact HLL.out.2.1 y e
                      · simp at e; subst e
                        exact HXA.out
                    · have h1 := ownsRow_block H7.out.1 (fun q hq => H8.out.2.1.block q (ownsRow_lt H7.out.1 hq) (fun e => by have h2 := H7.out.2.2.1 q hq; have h3 := HLT.out; omega))
                      have h2 := HHL.out
                      simpa [entsCells, h2] using h1
                    · have h2 := H7.out.2.2.1 q hq; have h3 := HLT.out; have h4 := HB2.out; omega
                  have := hro.ents ((HL1.out.tr hmw).pb.mod) (by have h1 := HHL.out; have h2 := HS1.out.2; simp; omega)
                  simpa [HLL.out.1] using this
            case rest =>
              obtain ⟨hmc, vt, hbt, het⟩ := hcut
              have hlc := HL1.out.tr hmc
              obtain ⟨va5, vc5, rfl⟩ := owns_shape HL1.out.seen
              have HC2 := Lib.hid (HC.out.1.set (v := vt))
              have HMC := Lib.hid hmc
              have HBT := Lib.hid (And.intro hbt het)
              have HLC := Lib.hid hlc
              have HLD := Lib.hid (ent_load43 hlc.pb.hx)
              have HVA := Lib.hid (vals_one HXA.out.1 (HXA.out.2.tr hlc.pb.mod))
              have hmv : Mod (fun _ => False) wc (wc.alloc (.cells #[.int .i64 x.val.coin, .slice xa x.val.assets.length xc] 43)) := (Mod.refl _ wc).alloc _
              have HMV := Lib.hid hmv
              clear hlc hmc hbt het hmv
              go_upto_region 26 with fail
              refine wp_region_lit ?_
              refine wpList_exec (v := .pointer (some ⟨w.heap.size + 1, 33, none⟩)) rfl (by go_simp) ?_
              (try simp only [Act.put, List.setIfInBounds_toArray, List.set_cons_zero, List.set_cons_succ])
              refine wpList_exec (v := .pointer (some ⟨w.heap.size + 1, 66, none⟩)) rfl (by go_simp) ?_
              (try simp only [Act.put, List.setIfInBounds_toArray, List.set_cons_zero, List.set_cons_succ])
              refine wpList_exec rfl (exec_load_at _ _ 43 _ rfl ⟨w.heap.size + 1, 66, none⟩ rfl HLD.out) ?_
              (try simp only [Act.put, List.setIfInBounds_toArray, List.set_cons_zero, List.set_cons_succ])
              refine wpList_execW rfl (exec_val1 _ _ rfl _ _ rfl) ?_
              (try simp only [Act.put, List.setIfInBounds_toArray, List.set_cons_zero, List.set_cons_succ])
              generalize wc.alloc (.cells #[.int .i64 x.val.coin, .slice xa x.val.assets.length xc] 43) = wv at HVA HMV ⊢
              have HSU := Lib.hid (sums_calls wv _ [x.val] HVA.out (by simp) (by have h1 := bookV_one x; have := HBD.out.2; omega))
              go_wp2_with fail
              refine HSU.out.mono ?_
              rintro e w25 ⟨ux, dx, rfl, p1, p2, p3, p4, p5⟩
              rename_i hK
              refine hK _ _ ?_
              clear hK
              (try simp only [Act.put, List.setIfInBounds_toArray, List.set_cons_zero, List.set_cons_succ])
              have ht := tots_at p3 (by have h1 := perm_le p1; have h2 := bookV_one x; have h3 := HBD.out.2; omega)
              have hm25 := HMV.out.tr p5
              have HD1 := Lib.hid (And.intro p1 p2)
              have hst := store57 (w25.alloc (.cells #[.int .i64 0, .int .u64 0] 57)) w25.heap.size (coins [x.val]) (newB w25 _)
              have hc26 := setRow_same (cs := #[.int .i64 (hiW (coins [x.val])), .int .u64 (loW (coins [x.val]))]) (newB w25 (.cells #[.int .i64 0, .int .u64 0] 57))
              have hm26 : Mod (fun _ => False) w25 ((w25.alloc (.cells #[.int .i64 0, .int .u64 0] 57)).setRow w25.heap.size #[.int .i64 (hiW (coins [x.val])), .int .u64 (loW (coins [x.val]))]) := Mod_setRow ((Mod.refl _ w25).alloc _) (fun q => by omega) _
              generalize (w25.alloc (.cells #[.int .i64 0, .int .u64 0] 57)).setRow w25.heap.size #[.int .i64 (hiW (coins [x.val])), .int .u64 (loW (coins [x.val]))] = w26 at hst hc26 hm26
              have HST := Lib.hid hst
              have ht26 := ht.tr hm26
              have hmc26 := hm25.tr hm26
              clear p1 p2 p3 p4 p5 ht hm25 hst hm26
              refine wpList_exec (v := .tuple #[wideV (coins [x.val]), ux]) rfl (by go_simp) ?_
              (try simp only [Act.put, List.setIfInBounds_toArray, List.set_cons_zero, List.set_cons_succ])
              refine wpList_exec (v := wideV (coins [x.val])) rfl (by go_simp) ?_
              (try simp only [Act.put, List.setIfInBounds_toArray, List.set_cons_zero, List.set_cons_succ])
              refine wpList_exec (v := ux) rfl (by go_simp) ?_
              (try simp only [Act.put, List.setIfInBounds_toArray, List.set_cons_zero, List.set_cons_succ])
              refine wpList_execW rfl (exec_alloc _ _ 57 #[.int .i64 0, .int .u64 0] rfl zv57) ?_
              (try simp only [Act.put, List.setIfInBounds_toArray, List.set_cons_zero, List.set_cons_succ])
              refine wpList_execS rfl (exec_store _ _ rfl rfl rfl HST.out) ?_
              (try simp only [Act.put])
              go_upto_region 27 with fail
              generalize w25.heap.size = b15 at hc26 ⊢
              have hb26 := (hmc26.block _ (ltB HBT.out.1) (fun q => q)).trans HBT.out.1
              have H26 := Lib.hid (And.intro hc26 (And.intro hb26 (And.intro (HBT.out.2.tr hmc26) (And.intro (HLC.out.tr hmc26) ht26))))
              have HM26 := Lib.hid (HMC.out.tr hmc26)
              clear hc26 hb26 ht26 hmc26
              have hz2 : coins ((es ++ [x]).map (·.val)) + (fees + forf) = [(coins (es.map (·.val)) + (fees + forf)), coins [x.val]].sum := by rw [more_coins]; simp; omega
              have hbk2 : (bookV ((es ++ [x]).map (·.val))).length ≤ 1000000 := by have h1 := book_more es x; have h2 := HBD.out; omega
              have hco := coins_calls w26.drew (cs.set 44 vt) vt fees forf HC2.out HC.out.2.1 HC.out.2.2 (es ++ [x]) (H26.out.2.2.1.tr (Mod.refl (fun _ => False) w26).drew) hbk2
              rw [hz2] at hco
              obtain ⟨zt, hzt⟩ : ∃ z, [(coins (es.map (·.val)) + (fees + forf)), coins [x.val]].sum = z := ⟨_, rfl⟩
              rw [hzt] at hco
              have HZT := Lib.hid hzt
              have HCO := Lib.hid hco
              have HBK2 := Lib.hid hbk2
              clear hco hz2 hbk2 hzt
              refine wp_region_held_drew (S := fun W => Mod (fun _ => False) w26 W) (by kernel_rfl) (Mod.refl _ w26).drew (fun hH => ?_)
              refine wpAnyH_take (i := 0) (oi := { dst := some 117, op := Op.load 36 (Operand.tmp 14), type := 36, pos := "outright.go:76", after := #[], guard := none }) (v := .agg (cs.set 44 vt).toArray) rfl (by kernel_rfl) (by kernel_rfl) (by kernel_rfl) (fun _ _ _ h => h) (Or.inl ⟨by rfl, ?_⟩) hH ?_
              · intro w' hSw
                exact exec_load_at _ _ 36 _ rfl ⟨b14, 0, none⟩ rfl (load36_box HC2.out.len ((hSw.block _ (ltB H26.out.2.1) (fun q => q)).trans H26.out.2.1))
              (try simp only [Act.put, List.setIfInBounds_toArray, List.set_cons_zero, List.set_cons_succ])
              refine wpAnyH_take (i := 2) (oi := { dst := some 119, op := Op.load 36 (Operand.tmp 2), type := 36, pos := "outright.go:76", after := #[], guard := none }) (v := .agg cs.toArray) rfl (by kernel_rfl) (by kernel_rfl) (by kernel_rfl) (fun _ _ _ h => h) (Or.inl ⟨by rfl, ?_⟩) hH ?_
              · intro w' hSw
                exact exec_load_at _ _ 36 _ rfl ⟨w.heap.size, 0, none⟩ rfl (load36_box HC.out.1.len (H26.out.2.2.2.1.tr hSw).pb.hs)
              (try simp only [Act.put, List.setIfInBounds_toArray, List.set_cons_zero, List.set_cons_succ])
              refine wpAnyH_take (i := 4) (oi := { dst := some 121, op := Op.load 57 (Operand.tmp 15), type := 57, pos := "outright.go:76", after := #[], guard := none }) (v := wideV (coins [x.val])) rfl (by kernel_rfl) (by kernel_rfl) (by kernel_rfl) (fun _ _ _ h => h) (Or.inl ⟨by rfl, ?_⟩) hH ?_
              · intro w' hSw
                exact exec_load_at _ _ 57 _ rfl ⟨b15, 0, none⟩ rfl (load57_box ((hSw.block _ (ltB H26.out.1) (fun q => q)).trans H26.out.1))
              (try simp only [Act.put, List.setIfInBounds_toArray, List.set_cons_zero, List.set_cons_succ])
              refine wpAnyH_ready (rs := [1]) (by kernel_rfl) (by simp) ?_
              refine AllReadyH.cons (o := { dst := some 118, op := Op.call { callee := Callee.value (Operand.func 10), args := #[Operand.tmp 117], argTypes := #[36] }, type := 57, pos := "outright.go:76", after := #[{ on := 0, ground := Ground.data }], guard := none }) rfl (fun K hK => ?_) AllReadyH.nil
              go_simp
              refine HCO.out.mono ?_
              rintro e v1 ⟨rfl, hm1⟩
              have HM1 := Lib.hid (((Mod.refl (fun _ => False) w26).drew).tr hm1)
              clear hm1
              refine hK.out _ _ HM1.out (fun hH => ?_)
              clear hK K
              (try simp only [Act.put, List.setIfInBounds_toArray, List.set_cons_zero, List.set_cons_succ])
              refine wpAnyH_ready (rs := [3]) (by kernel_rfl) (by simp) ?_
              refine AllReadyH.cons (o := { dst := some 120, op := Op.call { callee := Callee.value (Operand.func 10), args := #[Operand.tmp 119], argTypes := #[36] }, type := 57, pos := "outright.go:76", after := #[{ on := 2, ground := Ground.data }, { on := 1, ground := Ground.chain }], guard := none }) rfl (fun K hK => ?_) AllReadyH.nil
              go_simp
              refine (coins_calls v1 cs _ fees forf HC.out.1 HC.out.2.1 HC.out.2.2 es (HE.out.tr (H26.out.2.2.2.1.tr HM1.out).pb.mod) HRW.out.2.2).mono ?_
              rintro e v2 ⟨rfl, hm2⟩
              have HM2 := Lib.hid (HM1.out.tr hm2)
              clear hm2
              refine hK.out _ _ HM2.out (fun hH => ?_)
              clear hK K
              (try simp only [Act.put, List.setIfInBounds_toArray, List.set_cons_zero, List.set_cons_succ])
              refine wpAnyH_ready (rs := [5]) (by kernel_rfl) (by simp) ?_
              refine AllReadyH.cons (o := { dst := some 122, op := Op.buildSlice 77 2 #[(0, Operand.tmp 120), (1, Operand.tmp 121)], type := 77, pos := "outright.go:76", after := #[{ on := 3, ground := Ground.data }, { on := 4, ground := Ground.data }], guard := none }) rfl (fun K hK => ?_) AllReadyH.nil
              have hW := wides_two v2 (coins (es.map (·.val)) + (fees + forf)) (coins [x.val])
              have hM : Mod (fun _ => False) w26 (v2.alloc (.cells #[.int .i64 (hiW (coins (es.map (·.val)) + (fees + forf))), .int .u64 (loW (coins (es.map (·.val)) + (fees + forf))), .int .i64 (hiW (coins [x.val])), .int .u64 (loW (coins [x.val]))] 57)) := (HM2.out).alloc _
              refine step_execW rfl (exec_wides2 _ _ rfl (coins (es.map (·.val)) + (fees + forf)) (coins [x.val]) rfl rfl) ?_
              refine hK.out _ _ hM (fun hH => ?_)
              clear hK K
              (try simp only [Act.put, List.setIfInBounds_toArray, List.set_cons_zero, List.set_cons_succ])
              clear hH
              have hH : (fun W => Mod (fun _ => False) w26 W) (v2.alloc (.cells #[.int .i64 (hiW (coins (es.map (·.val)) + (fees + forf))), .int .u64 (loW (coins (es.map (·.val)) + (fees + forf))), .int .i64 (hiW (coins [x.val])), .int .u64 (loW (coins [x.val]))] 57)) := hM
              generalize v2.alloc (.cells #[.int .i64 (hiW (coins (es.map (·.val)) + (fees + forf))), .int .u64 (loW (coins (es.map (·.val)) + (fees + forf))), .int .i64 (hiW (coins [x.val])), .int .u64 (loW (coins [x.val]))] 57) = v3 at hW hM hH ⊢
              generalize v2.heap.size = g3 at hW ⊢
              have HW3 := Lib.hid hW
              have HM3 := Lib.hid hM
              clear hW hM
              refine wpAnyH_ready (rs := [6]) (by kernel_rfl) (by simp) ?_
              refine AllReadyH.cons (o := { dst := some 123, op := Op.call { callee := Callee.value (Operand.func 7), args := #[Operand.tmp 122], argTypes := #[77] }, type := 57, pos := "outright.go:76", after := #[{ on := 5, ground := Ground.data }, { on := 3, ground := Ground.chain }], guard := none }) rfl (fun K hK => ?_) AllReadyH.nil
              have hpl := plus_calls v3 _ [(coins (es.map (·.val)) + (fees + forf)), coins [x.val]] HW3.out (by simp)
              rw [HZT.out] at hpl
              have HPL := Lib.hid hpl
              clear hpl
              go_simp
              refine HPL.out.mono ?_
              rintro e v4 ⟨rfl, hm4⟩
              have HM4 := Lib.hid (HM3.out.tr hm4)
              clear hm4
              refine hK.out _ _ HM4.out (fun hH => ?_)
              clear hK K
              (try simp only [Act.put, List.setIfInBounds_toArray, List.set_cons_zero, List.set_cons_succ])
              refine wpAnyH_take (i := 7) (oi := { dst := some 124, op := Op.binOp BinOp.neq 57 (Operand.tmp 118) (Operand.tmp 123) 57, type := 4, pos := "outright.go:76", after := #[{ on := 1, ground := Ground.data }, { on := 6, ground := Ground.data }], guard := none }) (v := .bool false) rfl (by kernel_rfl) (by kernel_rfl) (by kernel_rfl) (fun _ _ _ h => h) (Or.inl ⟨by rfl, ?_⟩) hH ?_
              · intro w' hSw
                exact exec_neqW _ _ rfl zt rfl rfl
              (try simp only [Act.put, List.setIfInBounds_toArray, List.set_cons_zero, List.set_cons_succ])
              refine wpAnyH_take (i := 8) (oi := { dst := some 125, op := Op.move (Operand.tmp 124), type := 4, pos := "outright.go:76", after := #[{ on := 7, ground := Ground.data }, { on := 6, ground := Ground.chain }], guard := none }) (v := .bool false) rfl (by kernel_rfl) (by kernel_rfl) (by kernel_rfl) (fun _ _ _ h => h) (Or.inl ⟨by rfl, ?_⟩) hH ?_
              · intro w' hSw
                go_simp
                try with_reducible rfl
              (try simp only [Act.put, List.setIfInBounds_toArray, List.set_cons_zero, List.set_cons_succ])
              refine wpAnyH_take (i := 9) (oi := { dst := some 126, op := Op.load 36 (Operand.tmp 14), type := 36, pos := "outright.go:76", after := #[{ on := 8, ground := Ground.guard }], guard := some (8, false) }) (v := .agg (cs.set 44 vt).toArray) rfl (by kernel_rfl) (by kernel_rfl) (by kernel_rfl) (fun _ _ _ h => h) (Or.inl ⟨by rfl, ?_⟩) hH ?_
              · intro w' hSw
                exact exec_load_at _ _ 36 _ rfl ⟨b14, 0, none⟩ rfl (load36_box HC2.out.len ((hSw.block _ (ltB H26.out.2.1) (fun q => q)).trans H26.out.2.1))
              (try simp only [Act.put, List.setIfInBounds_toArray, List.set_cons_zero, List.set_cons_succ])
              refine wpAnyH_take (i := 11) (oi := { dst := some 128, op := Op.load 36 (Operand.tmp 2), type := 36, pos := "outright.go:76", after := #[{ on := 8, ground := Ground.guard }], guard := some (8, false) }) (v := .agg cs.toArray) rfl (by kernel_rfl) (by kernel_rfl) (by kernel_rfl) (fun _ _ _ h => h) (Or.inl ⟨by rfl, ?_⟩) hH ?_
              · intro w' hSw
                exact exec_load_at _ _ 36 _ rfl ⟨w.heap.size, 0, none⟩ rfl (load36_box HC.out.1.len (H26.out.2.2.2.1.tr hSw).pb.hs)
              (try simp only [Act.put, List.setIfInBounds_toArray, List.set_cons_zero, List.set_cons_succ])
              refine wpAnyH_take (i := 13) (oi := { dst := some 130, op := Op.move (Operand.tmp 16), type := 33, pos := "outright.go:76", after := #[{ on := 8, ground := Ground.guard }], guard := some (8, false) }) (v := ux) rfl (by kernel_rfl) (by kernel_rfl) (by kernel_rfl) (fun _ _ _ h => h) (Or.inl ⟨by rfl, ?_⟩) hH ?_
              · intro w' hSw
                go_simp
                try with_reducible rfl
              (try simp only [Act.put, List.setIfInBounds_toArray, List.set_cons_zero, List.set_cons_succ])
              refine wpAnyH_ready (rs := [10]) (by kernel_rfl) (by simp) ?_
              refine AllReadyH.cons (o := { dst := some 127, op := Op.call { callee := Callee.value (Operand.func 13), args := #[Operand.tmp 126], argTypes := #[36] }, type := 33, pos := "outright.go:76", after := #[{ on := 9, ground := Ground.data }, { on := 8, ground := Ground.chain }, { on := 8, ground := Ground.guard }], guard := some (8, false) }) rfl (fun K hK => ?_) AllReadyH.nil
              go_simp
              refine (assets_calls v4 (cs.set 44 vt) vt fees forf HC2.out (es ++ [x]) (H26.out.2.2.1.tr HM4.out) HBK2.out).mono ?_
              rintro e v5x ⟨ut, dt, rfl, p1, p2, p3, p4, p5⟩
              have HM5 := Lib.hid (HM4.out.tr p5)
              have HDT := Lib.hid (And.intro p1 (And.intro p2 (tots_at p3 (by have h1 := perm_le p1; have := HBK2.out; omega))))
              clear p1 p2 p3 p4 p5
              refine hK.out _ _ HM5.out (fun hH => ?_)
              clear hK K
              (try simp only [Act.put, List.setIfInBounds_toArray, List.set_cons_zero, List.set_cons_succ])
              refine wpAnyH_ready (rs := [12]) (by kernel_rfl) (by simp) ?_
              refine AllReadyH.cons (o := { dst := some 129, op := Op.call { callee := Callee.value (Operand.func 13), args := #[Operand.tmp 128], argTypes := #[36] }, type := 33, pos := "outright.go:76", after := #[{ on := 11, ground := Ground.data }, { on := 10, ground := Ground.chain }, { on := 8, ground := Ground.guard }], guard := some (8, false) }) rfl (fun K hK => ?_) AllReadyH.nil
              go_simp
              refine (assets_calls v5x cs _ fees forf HC.out.1 es (HE.out.tr (H26.out.2.2.2.1.tr HM5.out).pb.mod) HRW.out.2.2).mono ?_
              rintro e v6 ⟨us, ds, rfl, p1, p2, p3, p4, p5⟩
              have HM6 := Lib.hid (HM5.out.tr p5)
              have HDT6 := Lib.hid (HDT.out.2.2.tr p5)
              have hts := tots_at p3 (by have h1 := perm_le p1; have := HRW.out.2.2; omega)
              have HDS := Lib.hid (And.intro p1 p2)
              have htx := H26.out.2.2.2.2.tr HM6.out
              obtain ⟨sua, sun, suc, rfl⟩ := ownsRow_slice p3
              obtain ⟨xua, xuc, rfl, _⟩ := id htx
              have hrw := rows_two hts htx
              have hM : Mod (fun _ => False) w26 (v6.alloc (.cells #[.slice sua sun suc, .slice xua dx.length xuc] 33)) := HM6.out.alloc _
              have hDT7 := HDT6.out.tr ((Mod.refl (fun _ => False) v6).alloc (.cells #[.slice sua sun suc, .slice xua dx.length xuc] 33))
              clear p1 p2 p3 p4 p5 hts htx
              refine hK.out _ _ HM6.out (fun hH => ?_)
              clear hK K
              (try simp only [Act.put, List.setIfInBounds_toArray, List.set_cons_zero, List.set_cons_succ])
              refine wpAnyH_ready (rs := [14]) (by kernel_rfl) (by simp) ?_
              refine AllReadyH.cons (o := { dst := some 131, op := Op.buildSlice 60 2 #[(0, Operand.tmp 129), (1, Operand.tmp 130)], type := 60, pos := "outright.go:76", after := #[{ on := 12, ground := Ground.data }, { on := 13, ground := Ground.data }, { on := 8, ground := Ground.guard }], guard := some (8, false) }) rfl (fun K hK => ?_) AllReadyH.nil
              refine step_execW rfl (exec_rows2 _ _ rfl (.slice sua sun suc) (.slice xua dx.length xuc) rfl rfl rfl rfl) ?_
              refine hK.out _ _ hM (fun hH => ?_)
              clear hK K
              (try simp only [Act.put, List.setIfInBounds_toArray, List.set_cons_zero, List.set_cons_succ])
              clear hH
              have hH : (fun W => Mod (fun _ => False) w26 W) (v6.alloc (.cells #[.slice sua sun suc, .slice xua dx.length xuc] 33)) := hM
              generalize v6.alloc (.cells #[.slice sua sun suc, .slice xua dx.length xuc] 33) = v7x at hrw hM hH hDT7 ⊢
              generalize v6.heap.size = g7 at hrw ⊢
              have HRW7 := Lib.hid (And.intro hrw (And.intro hM hDT7))
              clear hrw hM hDT7
              have hln : ds.length + dx.length ≤ 1000000 := by
                have h1 := perm_le HDS.out.1
                have h2 := perm_le HD1.out.1
                have h3 := bookV_one x
                have h4 := bookV_le es
                have h5 := HBD.out
                omega
              refine wpAnyH_ready (rs := [15]) (by kernel_rfl) (by simp) ?_
              refine AllReadyH.cons (o := { dst := some 132, op := Op.call { callee := Callee.value (Operand.func 12), args := #[Operand.tmp 131], argTypes := #[60] }, type := 33, pos := "outright.go:76", after := #[{ on := 14, ground := Ground.data }, { on := 12, ground := Ground.chain }, { on := 8, ground := Ground.guard }], guard := some (8, false) }) rfl (fun K hK => ?_) AllReadyH.nil
              go_simp
              refine (merge_calls v7x _ [ds, dx] HRW7.out.1 (by simpa using hln) (by have h1 := bookA_le [ds, dx].flatten; simp only [List.flatten_cons, List.flatten_nil, List.append_nil, List.length_append] at h1 ⊢; omega)).mono ?_
              rintro e v8 ⟨um2, dm2, rfl, p1, p2, p3, p4, p5⟩
              have HM8 := Lib.hid (HRW7.out.2.1.tr p5)
              have HSC2 := Lib.hid (same_calls v8 ut um2 dt dm2 (HRW7.out.2.2.tr p5) (tots_at p3 (by have h1 := perm_le' p1; simp only [List.flatten_cons, List.flatten_nil, List.append_nil, List.length_append] at h1; omega)))
              have hsame := more_same HDT.out.1 HDT.out.2.1 HDS.out.1 HDS.out.2 HD1.out.1 HD1.out.2 p1 p2
              rw [decide_eq_true hsame] at HSC2
              clear p1 p2 p3 p4 p5 hsame hln
              refine hK.out _ _ HM8.out (fun hH => ?_)
              clear hK K
              (try simp only [Act.put, List.setIfInBounds_toArray, List.set_cons_zero, List.set_cons_succ])
              refine wpAnyH_ready (rs := [16]) (by kernel_rfl) (by simp) ?_
              refine AllReadyH.cons (o := { dst := some 133, op := Op.call { callee := Callee.value (Operand.func 11), args := #[Operand.tmp 127, Operand.tmp 132], argTypes := #[33, 33] }, type := 4, pos := "outright.go:76", after := #[{ on := 10, ground := Ground.data }, { on := 15, ground := Ground.data }, { on := 15, ground := Ground.chain }, { on := 8, ground := Ground.guard }], guard := some (8, false) }) rfl (fun K hK => ?_) AllReadyH.nil
              go_simp
              refine HSC2.out.mono ?_
              rintro e v9 ⟨rfl, hm9⟩
              have HM9 := Lib.hid (HM8.out.tr hm9)
              clear hm9
              refine hK.out _ _ HM9.out (fun hH => ?_)
              clear hK K
              (try simp only [Act.put, List.setIfInBounds_toArray, List.set_cons_zero, List.set_cons_succ])
              refine wpAnyH_take (i := 17) (oi := { dst := some 134, op := Op.unOp UnOp.not 4 (Operand.tmp 133), type := 4, pos := "outright.go:76", after := #[{ on := 16, ground := Ground.data }, { on := 8, ground := Ground.guard }], guard := some (8, false) }) (v := .bool false) rfl (by kernel_rfl) (by kernel_rfl) (by kernel_rfl) (fun _ _ _ h => h) (Or.inl ⟨by rfl, ?_⟩) hH ?_
              · intro w' hSw
                go_simp
                try with_reducible rfl
              (try simp only [Act.put, List.setIfInBounds_toArray, List.set_cons_zero, List.set_cons_succ])
              refine wpAnyH_take (i := 18) (oi := { dst := some 135, op := Op.pick (Operand.tmp 125) (Operand.const (Value.bool true)) (Operand.tmp 134), type := 4, pos := "outright.go:76", after := #[{ on := 8, ground := Ground.data }, { on := 17, ground := Ground.data }], guard := none }) (v := .bool false) rfl (by kernel_rfl) (by kernel_rfl) (by kernel_rfl) (fun _ _ _ h => h) (Or.inl ⟨by rfl, ?_⟩) hH ?_
              · intro w' hSw
                go_simp
                try with_reducible rfl
              (try simp only [Act.put, List.setIfInBounds_toArray, List.set_cons_zero, List.set_cons_succ])
              refine wpAnyH_done (by kernel_rfl) ?_ _
              have hl9 := H26.out.2.2.2.1.tr HM9.out
              have hb9 := (HM9.out.block _ (ltB H26.out.2.1) (fun q => q)).trans H26.out.2.1
              have H9 := Lib.hid (And.intro hl9 (And.intro hb9 (H26.out.2.2.1.tr HM9.out)))
              clear hl9 hb9
              rw [hSe] at H9 HS1
              have HBA := Lib.hid (fun (a : Adr) => (show (bookV ((ofA es a).map (·.val))).length ≤ 1000000 from by have h1 := bookV_le (ofA es a); have h2 := assets_ofA a es; have h3 := HBD.out; omega))
              have HBB := Lib.hid (fun (a : Adr) => (show (bookV ((ofA (es ++ [x]) a).map (·.val))).length ≤ 1000000 from by
                have h1 := bookV_le (ofA (es ++ [x]) a)
                have h2 := assets_ofA a (es ++ [x])
                have h3 := HBD.out
                have h4 : (assetsOf (es ++ [x])).length = (assetsOf es).length + x.val.assets.length := by simp [assetsOf]
                omega))
              go_wp2_with fail
              go_loopw [17] (fun i wi => ∃ k : Nat, k ≤ S.length ∧ i = .int .i64 k ∧ Mod (fun _ => False) v9 wi) (fun i _ => S.length - (intOf i).toNat)
              case atStart => exact ⟨0, by omega, rfl, Mod.refl _ v9⟩
              case round =>
                obtain ⟨k, hk, rfl, hmi⟩ := hrel
                have HMI := Lib.hid hmi
                have hS6 : S.length ≤ 6000 := by have := HS1.out; omega
                clear hmi
                by_cases hlt : k < S.length
                · obtain ⟨a, ha⟩ : ∃ a, S[k]? = some a := ⟨_, List.getElem?_eq_getElem hlt⟩
                  obtain ⟨g, c5, hv5, _⟩ := seen_load H9.out.1.seen ha
                  have HSL := Lib.hid (fun (W : World) (hW : Mod (fun _ => False) v9 W) => (show (loadVar 40 ⟨g, k * 33, none⟩).run Try.prog W = .ok (.agg (adrCells a).toArray) W from by
                    obtain ⟨g', c', e', h'⟩ := seen_load (H9.out.1.tr hW).seen ha
                    rw [hv5] at e'
                    simp only [Value.slice.injEq, Option.some.injEq, Addr.mk.injEq] at e'
                    rw [e'.1.1]
                    exact h'))
                  simp only [Value.slice.injEq] at hv5
                  obtain ⟨rfl, _, rfl⟩ := hv5
                  clear ha
                  go_upto_region 32 with fail
                  go_cut [18, 19] from 142 to 178 (fun p u wx => ∃ (bq : Nat) (d : List (Nm × Int)), p = .pointer (some ⟨bq, 0, none⟩) ∧ wx.heap[bq]? = some (.cells #[.int .i64 (hiW (coins ((ofA es a).map (·.val)))), .int .u64 (loW (coins ((ofA es a).map (·.val))))] 57 (0, 0)) ∧ d.Perm ((bookV ((ofA es a).map (·.val))).filter (nzW ·.2)) ∧ srtT d ∧ TotsAt wx u d ∧ Mod (fun _ => False) wr wx)
                  case first =>
                    refine wp_region_held_drew (S := fun W => Mod (fun _ => False) wr W) (by kernel_rfl) (Mod.refl _ wr).drew (fun hH => ?_)
                    refine wpAnyH_take (i := 0) (oi := { dst := some 143, op := Op.load 36 (Operand.tmp 2), type := 36, pos := "outright.go:80", after := #[], guard := none }) (v := .agg cs.toArray) rfl (by kernel_rfl) (by kernel_rfl) (by kernel_rfl) (fun _ _ _ h => h) (Or.inl ⟨by rfl, ?_⟩) hH ?_
                    · intro w' hSw
                      exact exec_load_at _ _ 36 _ rfl ⟨w.heap.size, 0, none⟩ rfl (load36_box HC.out.1.len (H9.out.1.tr (HMI.out.tr hSw)).pb.hs)
                    (try simp only [Act.put, List.setIfInBounds_toArray, List.set_cons_zero, List.set_cons_succ])
                    refine wpAnyH_take (i := 1) (oi := { dst := some 144, op := Op.move (Operand.tmp 5), type := 55, pos := "outright.go:80", after := #[], guard := none }) (v := .slice (some ⟨g, 0, none⟩) S.length vc5) rfl (by kernel_rfl) (by kernel_rfl) (by kernel_rfl) (fun _ _ _ h => h) (Or.inl ⟨by rfl, ?_⟩) hH ?_
                    · intro w' hSw
                      go_simp
                      try with_reducible rfl
                    (try simp only [Act.put, List.setIfInBounds_toArray, List.set_cons_zero, List.set_cons_succ])
                    refine wpAnyH_take (i := 2) (oi := { dst := some 145, op := Op.move (Operand.tmp 17), type := 3, pos := "outright.go:80", after := #[], guard := none }) (v := .int .i64 k) rfl (by kernel_rfl) (by kernel_rfl) (by kernel_rfl) (fun _ _ _ h => h) (Or.inl ⟨by rfl, ?_⟩) hH ?_
                    · intro w' hSw
                      go_simp
                      try with_reducible rfl
                    (try simp only [Act.put, List.setIfInBounds_toArray, List.set_cons_zero, List.set_cons_succ])
                    refine wpAnyH_take (i := 3) (oi := { dst := some 146, op := Op.indexAddr 55 (Operand.tmp 144) (Operand.tmp 145), type := 0, pos := "outright.go:80", after := #[{ on := 1, ground := Ground.data }, { on := 2, ground := Ground.data }], guard := none }) (v := .pointer (some ⟨g, k * 33, none⟩)) rfl (by kernel_rfl) (by kernel_rfl) (by kernel_rfl) (fun _ _ _ h => h) (Or.inl ⟨by rfl, ?_⟩) hH ?_
                    · intro w' hSw
                      go_simp
                      try with_reducible rfl
                    (try simp only [Act.put, List.setIfInBounds_toArray, List.set_cons_zero, List.set_cons_succ])
                    refine wpAnyH_take (i := 4) (oi := { dst := some 147, op := Op.load 40 (Operand.tmp 146), type := 40, pos := "outright.go:80", after := #[{ on := 3, ground := Ground.data }], guard := none }) (v := .agg (adrCells a).toArray) rfl (by kernel_rfl) (by kernel_rfl) (by kernel_rfl) (fun _ _ _ h => h) (Or.inl ⟨by rfl, ?_⟩) hH ?_
                    · intro w' hSw
                      exact exec_load_at _ _ 40 _ rfl ⟨g, k * 33, none⟩ rfl (HSL.out _ (HMI.out.tr hSw))
                    (try simp only [Act.put, List.setIfInBounds_toArray, List.set_cons_zero, List.set_cons_succ])
                    refine wpAnyH_ready (rs := [5, 9]) (by kernel_rfl) (by simp) ?_
                    refine AllReadyH.cons (o := { dst := some 148, op := Op.call { callee := Callee.value (Operand.func 9), args := #[Operand.tmp 143, Operand.tmp 147], argTypes := #[36, 40] }, type := 61, pos := "outright.go:80", after := #[{ on := 0, ground := Ground.data }, { on := 4, ground := Ground.data }], guard := none }) rfl (fun K hK => ?_) (AllReadyH.cons (o := { dst := some 18, op := Op.alloc 57, type := 0, pos := "outright.go:80", after := #[], guard := none }) rfl (fun K hK => ?_) AllReadyH.nil)
                    · skip
                      go_simp
                      refine (show Calls Try.prog 9 #[.agg cs.toArray, .agg (adrCells a).toArray] wr.drew (fun e w' => SumsPost wr.drew ((ofA es a).map (·.val)) e w') from balance_calls wr.drew cs _ fees forf HC.out.1 a es (HE.out.tr (H9.out.1.tr (HMI.out.tr (Mod.refl (fun _ => False) wr).drew)).pb.mod) (HBA.out a)).mono ?_
                      rintro e w32 ⟨u32, d32, rfl, p1, p2, p3, p4, p5⟩
                      have HM32 := Lib.hid (((Mod.refl (fun _ => False) wr).drew).tr p5)
                      have HD32 := Lib.hid (And.intro p1 (And.intro p2 (tots_at p3 (by have h1 := perm_le p1; have h2 := HBA.out a; omega))))
                      clear p1 p2 p3 p4 p5
                      refine hK.out _ _ HM32.out (fun hH => ?_)
                      clear hK K
                      (try simp only [Act.put, List.setIfInBounds_toArray, List.set_cons_zero, List.set_cons_succ])
                      refine wpAnyH_take (i := 6) (oi := { dst := some 142, op := Op.move (Operand.tmp 148), type := 61, pos := "outright.go:80", after := #[{ on := 5, ground := Ground.data }], guard := none }) (v := .tuple #[wideV (coins ((ofA es a).map (·.val))), u32]) rfl (by kernel_rfl) (by kernel_rfl) (by kernel_rfl) (fun _ _ _ h => h) (Or.inl ⟨by rfl, ?_⟩) hH ?_
                      · intro w' hSw
                        go_simp
                        try rfl
                      (try simp only [Act.put, List.setIfInBounds_toArray, List.set_cons_zero, List.set_cons_succ])
                      refine wpAnyH_take (i := 7) (oi := { dst := some 149, op := Op.extract (Operand.tmp 142) 0, type := 57, pos := "outright.go:80", after := #[{ on := 6, ground := Ground.data }], guard := none }) (v := wideV (coins ((ofA es a).map (·.val)))) rfl (by kernel_rfl) (by kernel_rfl) (by kernel_rfl) (fun _ _ _ h => h) (Or.inl ⟨by rfl, ?_⟩) hH ?_
                      · intro w' hSw
                        go_simp
                        try with_reducible rfl
                      (try simp only [Act.put, List.setIfInBounds_toArray, List.set_cons_zero, List.set_cons_succ])
                      refine wpAnyH_take (i := 8) (oi := { dst := some 150, op := Op.extract (Operand.tmp 142) 1, type := 33, pos := "outright.go:80", after := #[{ on := 6, ground := Ground.data }, { on := 10, ground := Ground.gcOnly Departure.lateStores }], guard := none }) (v := u32) rfl (by kernel_rfl) (by kernel_rfl) (by kernel_rfl) (fun _ _ _ h => h) (Or.inl ⟨by rfl, ?_⟩) hH ?_
                      · intro w' hSw
                        go_simp
                        try with_reducible rfl
                      (try simp only [Act.put, List.setIfInBounds_toArray, List.set_cons_zero, List.set_cons_succ])
                      refine wpAnyH_ready (rs := [9]) (by kernel_rfl) (by simp) ?_
                      refine AllReadyH.cons (o := { dst := some 18, op := Op.alloc 57, type := 0, pos := "outright.go:80", after := #[], guard := none }) rfl (fun K hK => ?_) AllReadyH.nil
                      have hA := newB w32 (.cells #[.int .i64 0, .int .u64 0] 57)
                      have hM : Mod (fun _ => False) wr (w32.alloc (.cells #[.int .i64 0, .int .u64 0] 57)) := (HM32.out).alloc _
                      have hT := tots_fresh HD32.out.2.2 (.cells #[.int .i64 0, .int .u64 0] 57)
                      have hz : wr.heap.size ≤ w32.heap.size := HM32.out.size
                      refine step_execW rfl (exec_alloc _ _ 57 #[.int .i64 0, .int .u64 0] rfl zv57) ?_
                      refine hK.out _ _ hM (fun hH => ?_)
                      clear hK K
                      (try simp only [Act.put, List.setIfInBounds_toArray, List.set_cons_zero, List.set_cons_succ])
                      have HM := Lib.hid hM
                      have HA := Lib.hid (And.intro hA hz)
                      have HT := Lib.hid hT
                      clear hA hM hT hz
                      refine wpAnyH_ready (rs := [10]) (by kernel_rfl) (by simp) ?_
                      refine AllReadyH.cons (o := { dst := none, op := Op.store 57 (Operand.tmp 18) (Operand.tmp 149), type := 0, pos := "outright.go:80", after := #[{ on := 9, ground := Ground.data }, { on := 7, ground := Ground.data }, { on := 5, ground := Ground.chain }, { on := 0, ground := Ground.phase }, { on := 1, ground := Ground.phase }, { on := 2, ground := Ground.phase }, { on := 3, ground := Ground.phase }, { on := 4, ground := Ground.phase }, { on := 5, ground := Ground.phase }, { on := 6, ground := Ground.phase }, { on := 7, ground := Ground.phase }, { on := 8, ground := Ground.textOnly Departure.lateStores }, { on := 9, ground := Ground.phase }], guard := none }) rfl (fun K hK => ?_) AllReadyH.nil
                      have hst := store57 (w32.alloc (.cells #[.int .i64 0, .int .u64 0] 57)) w32.heap.size (coins ((ofA es a).map (·.val))) HA.out.1
                      have hc := setRow_same (cs := #[.int .i64 (hiW (coins ((ofA es a).map (·.val)))), .int .u64 (loW (coins ((ofA es a).map (·.val))))]) HA.out.1
                      have hmz : Mod (fun q => q = w32.heap.size) (w32.alloc (.cells #[.int .i64 0, .int .u64 0] 57)) ((w32.alloc (.cells #[.int .i64 0, .int .u64 0] 57)).setRow w32.heap.size #[.int .i64 (hiW (coins ((ofA es a).map (·.val)))), .int .u64 (loW (coins ((ofA es a).map (·.val))))]) := Mod_setRow (Mod.refl (fun q => q = w32.heap.size) (w32.alloc (.cells #[.int .i64 0, .int .u64 0] 57))) (fun _ => rfl) _
                      generalize (w32.alloc (.cells #[.int .i64 0, .int .u64 0] 57)).setRow w32.heap.size #[.int .i64 (hiW (coins ((ofA es a).map (·.val)))), .int .u64 (loW (coins ((ofA es a).map (·.val))))] = wz at hst hc hmz
                      have hmf : Mod (fun _ => False) wr wz := (HM.out).trans hmz (fun q e hl => by have h9 := HA.out.2; omega)
                      have htz := tots_keep HT.out hmz
                      refine step_execS rfl (exec_store _ _ rfl rfl rfl hst) ?_
                      refine hK.out _ _ hmf (fun hH => ?_)
                      clear hK K
                      (try simp only [Act.put])
                      refine wpAnyH_take (i := 11) (oi := { dst := some 19, op := Op.assign (Operand.tmp 150), type := 33, pos := "outright.go:80", after := #[{ on := 8, ground := Ground.data }, { on := 10, ground := Ground.chain }, { on := 0, ground := Ground.phase }, { on := 1, ground := Ground.phase }, { on := 2, ground := Ground.phase }, { on := 3, ground := Ground.phase }, { on := 4, ground := Ground.phase }, { on := 5, ground := Ground.phase }, { on := 6, ground := Ground.phase }, { on := 7, ground := Ground.phase }, { on := 8, ground := Ground.phase }, { on := 9, ground := Ground.phase }, { on := 10, ground := Ground.phase }], guard := none }) (v := u32) rfl (by kernel_rfl) (by kernel_rfl) (by kernel_rfl) (fun _ _ _ h => h) (Or.inl ⟨by rfl, ?_⟩) hH ?_
                      · intro w' hSw
                        go_simp
                        try with_reducible rfl
                      (try simp only [Act.put, List.setIfInBounds_toArray, List.set_cons_zero, List.set_cons_succ])
                      refine wpAnyH_done (by kernel_rfl) ?_ _
                      have HF := Lib.hid (And.intro hc (And.intro htz hmf))
                      clear hst hc hmz hmf htz
                      go_wp2_with fail
                      go_meet
                      case rel => exact ⟨_, d32, rfl, HF.out.1, HD32.out.1, HD32.out.2.1, HF.out.2.1, HF.out.2.2⟩
                    · skip
                      have hA := newB wr.drew (.cells #[.int .i64 0, .int .u64 0] 57)
                      have hM : Mod (fun _ => False) wr (wr.drew.alloc (.cells #[.int .i64 0, .int .u64 0] 57)) := ((Mod.refl (fun _ => False) wr).drew).alloc _
                      have hz : wr.heap.size ≤ wr.drew.heap.size := (Mod.refl (fun _ => False) wr).drew.size
                      refine step_execW rfl (exec_alloc _ _ 57 #[.int .i64 0, .int .u64 0] rfl zv57) ?_
                      refine hK.out _ _ hM (fun hH => ?_)
                      clear hK K
                      (try simp only [Act.put, List.setIfInBounds_toArray, List.set_cons_zero, List.set_cons_succ])
                      clear hH
                      have hH : (fun W => Mod (fun _ => False) wr W) (wr.drew.alloc (.cells #[.int .i64 0, .int .u64 0] 57)) := hM
                      generalize wr.drew.alloc (.cells #[.int .i64 0, .int .u64 0] 57) = w31 at hA hM hH ⊢
                      generalize wr.drew.heap.size = b31 at hA hz ⊢
                      have HM := Lib.hid hM
                      have HA := Lib.hid (And.intro hA hz)
                      clear hA hM hz
                      refine wpAnyH_ready (rs := [5]) (by kernel_rfl) (by simp) ?_
                      refine AllReadyH.cons (o := { dst := some 148, op := Op.call { callee := Callee.value (Operand.func 9), args := #[Operand.tmp 143, Operand.tmp 147], argTypes := #[36, 40] }, type := 61, pos := "outright.go:80", after := #[{ on := 0, ground := Ground.data }, { on := 4, ground := Ground.data }], guard := none }) rfl (fun K hK => ?_) AllReadyH.nil
                      go_simp
                      refine (show Calls Try.prog 9 #[.agg cs.toArray, .agg (adrCells a).toArray] w31 (fun e w' => SumsPost w31 ((ofA es a).map (·.val)) e w') from balance_calls w31 cs _ fees forf HC.out.1 a es (HE.out.tr (H9.out.1.tr (HMI.out.tr HM.out)).pb.mod) (HBA.out a)).mono ?_
                      rintro e w32 ⟨u32, d32, rfl, p1, p2, p3, p4, p5⟩
                      have HM32 := Lib.hid ((HM.out).tr p5)
                      have HOF := Lib.hid (tots_new p3 (by have h1 := perm_le p1; have h2 := HBA.out a; omega) (fun q hq => show q ≠ b31 from by have h1 := p4 q hq; have h2 := ltB HA.out.1; omega))
                      have HD32 := Lib.hid (And.intro p1 (And.intro p2 (tots_at p3 (by have h1 := perm_le p1; have h2 := HBA.out a; omega))))
                      have HA32 := Lib.hid ((p5.block _ (ltB HA.out.1) (fun q => q)).trans HA.out.1)
                      clear p1 p2 p3 p4 p5
                      refine hK.out _ _ HM32.out (fun hH => ?_)
                      clear hK K
                      (try simp only [Act.put, List.setIfInBounds_toArray, List.set_cons_zero, List.set_cons_succ])
                      refine wpAnyH_take (i := 6) (oi := { dst := some 142, op := Op.move (Operand.tmp 148), type := 61, pos := "outright.go:80", after := #[{ on := 5, ground := Ground.data }], guard := none }) (v := .tuple #[wideV (coins ((ofA es a).map (·.val))), u32]) rfl (by kernel_rfl) (by kernel_rfl) (by kernel_rfl) (fun _ _ _ h => h) (Or.inl ⟨by rfl, ?_⟩) hH ?_
                      · intro w' hSw
                        go_simp
                        try rfl
                      (try simp only [Act.put, List.setIfInBounds_toArray, List.set_cons_zero, List.set_cons_succ])
                      refine wpAnyH_take (i := 7) (oi := { dst := some 149, op := Op.extract (Operand.tmp 142) 0, type := 57, pos := "outright.go:80", after := #[{ on := 6, ground := Ground.data }], guard := none }) (v := wideV (coins ((ofA es a).map (·.val)))) rfl (by kernel_rfl) (by kernel_rfl) (by kernel_rfl) (fun _ _ _ h => h) (Or.inl ⟨by rfl, ?_⟩) hH ?_
                      · intro w' hSw
                        go_simp
                        try with_reducible rfl
                      (try simp only [Act.put, List.setIfInBounds_toArray, List.set_cons_zero, List.set_cons_succ])
                      refine wpAnyH_take (i := 8) (oi := { dst := some 150, op := Op.extract (Operand.tmp 142) 1, type := 33, pos := "outright.go:80", after := #[{ on := 6, ground := Ground.data }, { on := 10, ground := Ground.gcOnly Departure.lateStores }], guard := none }) (v := u32) rfl (by kernel_rfl) (by kernel_rfl) (by kernel_rfl) (fun _ _ _ h => h) (Or.inl ⟨by rfl, ?_⟩) hH ?_
                      · intro w' hSw
                        go_simp
                        try with_reducible rfl
                      (try simp only [Act.put, List.setIfInBounds_toArray, List.set_cons_zero, List.set_cons_succ])
                      refine wpAnyH_ready (rs := [10]) (by kernel_rfl) (by simp) ?_
                      refine AllReadyH.cons (o := { dst := none, op := Op.store 57 (Operand.tmp 18) (Operand.tmp 149), type := 0, pos := "outright.go:80", after := #[{ on := 9, ground := Ground.data }, { on := 7, ground := Ground.data }, { on := 5, ground := Ground.chain }, { on := 0, ground := Ground.phase }, { on := 1, ground := Ground.phase }, { on := 2, ground := Ground.phase }, { on := 3, ground := Ground.phase }, { on := 4, ground := Ground.phase }, { on := 5, ground := Ground.phase }, { on := 6, ground := Ground.phase }, { on := 7, ground := Ground.phase }, { on := 8, ground := Ground.textOnly Departure.lateStores }, { on := 9, ground := Ground.phase }], guard := none }) rfl (fun K hK => ?_) AllReadyH.nil
                      have hst := store57 w32 b31 (coins ((ofA es a).map (·.val))) HA32.out
                      have hc := setRow_same (cs := #[.int .i64 (hiW (coins ((ofA es a).map (·.val)))), .int .u64 (loW (coins ((ofA es a).map (·.val))))]) HA32.out
                      have hmz : Mod (fun q => q = b31) w32 (w32.setRow b31 #[.int .i64 (hiW (coins ((ofA es a).map (·.val)))), .int .u64 (loW (coins ((ofA es a).map (·.val))))]) := Mod_setRow (Mod.refl (fun q => q = b31) w32) (fun _ => rfl) _
                      generalize w32.setRow b31 #[.int .i64 (hiW (coins ((ofA es a).map (·.val)))), .int .u64 (loW (coins ((ofA es a).map (·.val))))] = wz at hst hc hmz
                      have hmf : Mod (fun _ => False) wr wz := (HM32.out).trans hmz (fun q e hl => by have h9 := HA.out.2; omega)
                      have htz := tots_keep HOF.out hmz
                      refine step_execS rfl (exec_store _ _ rfl rfl rfl hst) ?_
                      refine hK.out _ _ hmf (fun hH => ?_)
                      clear hK K
                      (try simp only [Act.put])
                      refine wpAnyH_take (i := 11) (oi := { dst := some 19, op := Op.assign (Operand.tmp 150), type := 33, pos := "outright.go:80", after := #[{ on := 8, ground := Ground.data }, { on := 10, ground := Ground.chain }, { on := 0, ground := Ground.phase }, { on := 1, ground := Ground.phase }, { on := 2, ground := Ground.phase }, { on := 3, ground := Ground.phase }, { on := 4, ground := Ground.phase }, { on := 5, ground := Ground.phase }, { on := 6, ground := Ground.phase }, { on := 7, ground := Ground.phase }, { on := 8, ground := Ground.phase }, { on := 9, ground := Ground.phase }, { on := 10, ground := Ground.phase }], guard := none }) (v := u32) rfl (by kernel_rfl) (by kernel_rfl) (by kernel_rfl) (fun _ _ _ h => h) (Or.inl ⟨by rfl, ?_⟩) hH ?_
                      · intro w' hSw
                        go_simp
                        try with_reducible rfl
                      (try simp only [Act.put, List.setIfInBounds_toArray, List.set_cons_zero, List.set_cons_succ])
                      refine wpAnyH_done (by kernel_rfl) ?_ _
                      have HF := Lib.hid (And.intro hc (And.intro htz hmf))
                      clear hst hc hmz hmf htz
                      go_wp2_with fail
                      go_meet
                      case rel => exact ⟨_, d32, rfl, HF.out.1, HD32.out.1, HD32.out.2.1, HF.out.2.1, HF.out.2.2⟩
                  case rest =>
                    obtain ⟨b18, d18, rfl, hb18, hp18, hs18, ht18, hm18⟩ := hcut
                    have HM18 := Lib.hid (HMI.out.tr hm18)
                    have H18 := Lib.hid (And.intro hb18 (And.intro hp18 (And.intro hs18 ht18)))
                    clear hb18 hp18 hs18 ht18 hm18
                    go_upto_region 33 with fail
                    go_cut [20, 21] from 142 to 178 (fun p u wx => ∃ (bq : Nat) (d : List (Nm × Int)), p = .pointer (some ⟨bq, 0, none⟩) ∧ wx.heap[bq]? = some (.cells #[.int .i64 (hiW (coins ((ofA (es ++ [x]) a).map (·.val)))), .int .u64 (loW (coins ((ofA (es ++ [x]) a).map (·.val))))] 57 (0, 0)) ∧ d.Perm ((bookV ((ofA (es ++ [x]) a).map (·.val))).filter (nzW ·.2)) ∧ srtT d ∧ TotsAt wx u d ∧ Mod (fun _ => False) wc wx)
                    case first =>
                      refine wp_region_held_drew (S := fun W => Mod (fun _ => False) wc W) (by kernel_rfl) (Mod.refl _ wc).drew (fun hH => ?_)
                      refine wpAnyH_take (i := 0) (oi := { dst := some 152, op := Op.load 36 (Operand.tmp 14), type := 36, pos := "outright.go:81", after := #[], guard := none }) (v := .agg (cs.set 44 vt).toArray) rfl (by kernel_rfl) (by kernel_rfl) (by kernel_rfl) (fun _ _ _ h => h) (Or.inl ⟨by rfl, ?_⟩) hH ?_
                      · intro w' hSw
                        exact exec_load_at _ _ 36 _ rfl ⟨b14, 0, none⟩ rfl (load36_box HC2.out.len (((HM18.out.tr hSw).block _ (ltB H9.out.2.1) (fun q => q)).trans H9.out.2.1))
                      (try simp only [Act.put, List.setIfInBounds_toArray, List.set_cons_zero, List.set_cons_succ])
                      refine wpAnyH_take (i := 1) (oi := { dst := some 153, op := Op.move (Operand.tmp 5), type := 55, pos := "outright.go:81", after := #[], guard := none }) (v := .slice (some ⟨g, 0, none⟩) S.length vc5) rfl (by kernel_rfl) (by kernel_rfl) (by kernel_rfl) (fun _ _ _ h => h) (Or.inl ⟨by rfl, ?_⟩) hH ?_
                      · intro w' hSw
                        go_simp
                        try with_reducible rfl
                      (try simp only [Act.put, List.setIfInBounds_toArray, List.set_cons_zero, List.set_cons_succ])
                      refine wpAnyH_take (i := 2) (oi := { dst := some 154, op := Op.move (Operand.tmp 17), type := 3, pos := "outright.go:81", after := #[], guard := none }) (v := .int .i64 k) rfl (by kernel_rfl) (by kernel_rfl) (by kernel_rfl) (fun _ _ _ h => h) (Or.inl ⟨by rfl, ?_⟩) hH ?_
                      · intro w' hSw
                        go_simp
                        try with_reducible rfl
                      (try simp only [Act.put, List.setIfInBounds_toArray, List.set_cons_zero, List.set_cons_succ])
                      refine wpAnyH_take (i := 3) (oi := { dst := some 155, op := Op.indexAddr 55 (Operand.tmp 153) (Operand.tmp 154), type := 0, pos := "outright.go:81", after := #[{ on := 1, ground := Ground.data }, { on := 2, ground := Ground.data }], guard := none }) (v := .pointer (some ⟨g, k * 33, none⟩)) rfl (by kernel_rfl) (by kernel_rfl) (by kernel_rfl) (fun _ _ _ h => h) (Or.inl ⟨by rfl, ?_⟩) hH ?_
                      · intro w' hSw
                        go_simp
                        try with_reducible rfl
                      (try simp only [Act.put, List.setIfInBounds_toArray, List.set_cons_zero, List.set_cons_succ])
                      refine wpAnyH_take (i := 4) (oi := { dst := some 156, op := Op.load 40 (Operand.tmp 155), type := 40, pos := "outright.go:81", after := #[{ on := 3, ground := Ground.data }], guard := none }) (v := .agg (adrCells a).toArray) rfl (by kernel_rfl) (by kernel_rfl) (by kernel_rfl) (fun _ _ _ h => h) (Or.inl ⟨by rfl, ?_⟩) hH ?_
                      · intro w' hSw
                        exact exec_load_at _ _ 40 _ rfl ⟨g, k * 33, none⟩ rfl (HSL.out _ (HM18.out.tr hSw))
                      (try simp only [Act.put, List.setIfInBounds_toArray, List.set_cons_zero, List.set_cons_succ])
                      refine wpAnyH_ready (rs := [5, 9]) (by kernel_rfl) (by simp) ?_
                      refine AllReadyH.cons (o := { dst := some 157, op := Op.call { callee := Callee.value (Operand.func 9), args := #[Operand.tmp 152, Operand.tmp 156], argTypes := #[36, 40] }, type := 61, pos := "outright.go:81", after := #[{ on := 0, ground := Ground.data }, { on := 4, ground := Ground.data }], guard := none }) rfl (fun K hK => ?_) (AllReadyH.cons (o := { dst := some 20, op := Op.alloc 57, type := 0, pos := "outright.go:81", after := #[], guard := none }) rfl (fun K hK => ?_) AllReadyH.nil)
                      · skip
                        go_simp
                        refine (show Calls Try.prog 9 #[.agg (cs.set 44 vt).toArray, .agg (adrCells a).toArray] wc.drew (fun e w' => SumsPost wc.drew ((ofA (es ++ [x]) a).map (·.val)) e w') from balance_calls wc.drew (cs.set 44 vt) vt fees forf HC2.out a (es ++ [x]) (H9.out.2.2.tr (HM18.out.tr (Mod.refl (fun _ => False) wc).drew)) (HBB.out a)).mono ?_
                        rintro e w32 ⟨u32, d32, rfl, p1, p2, p3, p4, p5⟩
                        have HM32 := Lib.hid (((Mod.refl (fun _ => False) wc).drew).tr p5)
                        have HD32 := Lib.hid (And.intro p1 (And.intro p2 (tots_at p3 (by have h1 := perm_le p1; have h2 := HBB.out a; omega))))
                        clear p1 p2 p3 p4 p5
                        refine hK.out _ _ HM32.out (fun hH => ?_)
                        clear hK K
                        (try simp only [Act.put, List.setIfInBounds_toArray, List.set_cons_zero, List.set_cons_succ])
                        refine wpAnyH_take (i := 6) (oi := { dst := some 151, op := Op.move (Operand.tmp 157), type := 61, pos := "outright.go:81", after := #[{ on := 5, ground := Ground.data }], guard := none }) (v := .tuple #[wideV (coins ((ofA (es ++ [x]) a).map (·.val))), u32]) rfl (by kernel_rfl) (by kernel_rfl) (by kernel_rfl) (fun _ _ _ h => h) (Or.inl ⟨by rfl, ?_⟩) hH ?_
                        · intro w' hSw
                          go_simp
                          try rfl
                        (try simp only [Act.put, List.setIfInBounds_toArray, List.set_cons_zero, List.set_cons_succ])
                        refine wpAnyH_take (i := 7) (oi := { dst := some 158, op := Op.extract (Operand.tmp 151) 0, type := 57, pos := "outright.go:81", after := #[{ on := 6, ground := Ground.data }], guard := none }) (v := wideV (coins ((ofA (es ++ [x]) a).map (·.val)))) rfl (by kernel_rfl) (by kernel_rfl) (by kernel_rfl) (fun _ _ _ h => h) (Or.inl ⟨by rfl, ?_⟩) hH ?_
                        · intro w' hSw
                          go_simp
                          try with_reducible rfl
                        (try simp only [Act.put, List.setIfInBounds_toArray, List.set_cons_zero, List.set_cons_succ])
                        refine wpAnyH_take (i := 8) (oi := { dst := some 159, op := Op.extract (Operand.tmp 151) 1, type := 33, pos := "outright.go:81", after := #[{ on := 6, ground := Ground.data }, { on := 10, ground := Ground.gcOnly Departure.lateStores }], guard := none }) (v := u32) rfl (by kernel_rfl) (by kernel_rfl) (by kernel_rfl) (fun _ _ _ h => h) (Or.inl ⟨by rfl, ?_⟩) hH ?_
                        · intro w' hSw
                          go_simp
                          try with_reducible rfl
                        (try simp only [Act.put, List.setIfInBounds_toArray, List.set_cons_zero, List.set_cons_succ])
                        refine wpAnyH_ready (rs := [9]) (by kernel_rfl) (by simp) ?_
                        refine AllReadyH.cons (o := { dst := some 20, op := Op.alloc 57, type := 0, pos := "outright.go:81", after := #[], guard := none }) rfl (fun K hK => ?_) AllReadyH.nil
                        have hA := newB w32 (.cells #[.int .i64 0, .int .u64 0] 57)
                        have hM : Mod (fun _ => False) wc (w32.alloc (.cells #[.int .i64 0, .int .u64 0] 57)) := (HM32.out).alloc _
                        have hT := tots_fresh HD32.out.2.2 (.cells #[.int .i64 0, .int .u64 0] 57)
                        have hz : wc.heap.size ≤ w32.heap.size := HM32.out.size
                        refine step_execW rfl (exec_alloc _ _ 57 #[.int .i64 0, .int .u64 0] rfl zv57) ?_
                        refine hK.out _ _ hM (fun hH => ?_)
                        clear hK K
                        (try simp only [Act.put, List.setIfInBounds_toArray, List.set_cons_zero, List.set_cons_succ])
                        have HM := Lib.hid hM
                        have HA := Lib.hid (And.intro hA hz)
                        have HT := Lib.hid hT
                        clear hA hM hT hz
                        refine wpAnyH_ready (rs := [10]) (by kernel_rfl) (by simp) ?_
                        refine AllReadyH.cons (o := { dst := none, op := Op.store 57 (Operand.tmp 20) (Operand.tmp 158), type := 0, pos := "outright.go:81", after := #[{ on := 9, ground := Ground.data }, { on := 7, ground := Ground.data }, { on := 5, ground := Ground.chain }, { on := 0, ground := Ground.phase }, { on := 1, ground := Ground.phase }, { on := 2, ground := Ground.phase }, { on := 3, ground := Ground.phase }, { on := 4, ground := Ground.phase }, { on := 5, ground := Ground.phase }, { on := 6, ground := Ground.phase }, { on := 7, ground := Ground.phase }, { on := 8, ground := Ground.textOnly Departure.lateStores }, { on := 9, ground := Ground.phase }], guard := none }) rfl (fun K hK => ?_) AllReadyH.nil
                        have hst := store57 (w32.alloc (.cells #[.int .i64 0, .int .u64 0] 57)) w32.heap.size (coins ((ofA (es ++ [x]) a).map (·.val))) HA.out.1
                        have hc := setRow_same (cs := #[.int .i64 (hiW (coins ((ofA (es ++ [x]) a).map (·.val)))), .int .u64 (loW (coins ((ofA (es ++ [x]) a).map (·.val))))]) HA.out.1
                        have hmz : Mod (fun q => q = w32.heap.size) (w32.alloc (.cells #[.int .i64 0, .int .u64 0] 57)) ((w32.alloc (.cells #[.int .i64 0, .int .u64 0] 57)).setRow w32.heap.size #[.int .i64 (hiW (coins ((ofA (es ++ [x]) a).map (·.val)))), .int .u64 (loW (coins ((ofA (es ++ [x]) a).map (·.val))))]) := Mod_setRow (Mod.refl (fun q => q = w32.heap.size) (w32.alloc (.cells #[.int .i64 0, .int .u64 0] 57))) (fun _ => rfl) _
                        generalize (w32.alloc (.cells #[.int .i64 0, .int .u64 0] 57)).setRow w32.heap.size #[.int .i64 (hiW (coins ((ofA (es ++ [x]) a).map (·.val)))), .int .u64 (loW (coins ((ofA (es ++ [x]) a).map (·.val))))] = wz at hst hc hmz
                        have hmf : Mod (fun _ => False) wc wz := (HM.out).trans hmz (fun q e hl => by have h9 := HA.out.2; omega)
                        have htz := tots_keep HT.out hmz
                        refine step_execS rfl (exec_store _ _ rfl rfl rfl hst) ?_
                        refine hK.out _ _ hmf (fun hH => ?_)
                        clear hK K
                        (try simp only [Act.put])
                        refine wpAnyH_take (i := 11) (oi := { dst := some 21, op := Op.assign (Operand.tmp 159), type := 33, pos := "outright.go:81", after := #[{ on := 8, ground := Ground.data }, { on := 10, ground := Ground.chain }, { on := 0, ground := Ground.phase }, { on := 1, ground := Ground.phase }, { on := 2, ground := Ground.phase }, { on := 3, ground := Ground.phase }, { on := 4, ground := Ground.phase }, { on := 5, ground := Ground.phase }, { on := 6, ground := Ground.phase }, { on := 7, ground := Ground.phase }, { on := 8, ground := Ground.phase }, { on := 9, ground := Ground.phase }, { on := 10, ground := Ground.phase }], guard := none }) (v := u32) rfl (by kernel_rfl) (by kernel_rfl) (by kernel_rfl) (fun _ _ _ h => h) (Or.inl ⟨by rfl, ?_⟩) hH ?_
                        · intro w' hSw
                          go_simp
                          try with_reducible rfl
                        (try simp only [Act.put, List.setIfInBounds_toArray, List.set_cons_zero, List.set_cons_succ])
                        refine wpAnyH_done (by kernel_rfl) ?_ _
                        have HF := Lib.hid (And.intro hc (And.intro htz hmf))
                        clear hst hc hmz hmf htz
                        go_wp2_with fail
                        go_meet
                        case rel => exact ⟨_, d32, rfl, HF.out.1, HD32.out.1, HD32.out.2.1, HF.out.2.1, HF.out.2.2⟩
                      · skip
                        have hA := newB wc.drew (.cells #[.int .i64 0, .int .u64 0] 57)
                        have hM : Mod (fun _ => False) wc (wc.drew.alloc (.cells #[.int .i64 0, .int .u64 0] 57)) := ((Mod.refl (fun _ => False) wc).drew).alloc _
                        have hz : wc.heap.size ≤ wc.drew.heap.size := (Mod.refl (fun _ => False) wc).drew.size
                        refine step_execW rfl (exec_alloc _ _ 57 #[.int .i64 0, .int .u64 0] rfl zv57) ?_
                        refine hK.out _ _ hM (fun hH => ?_)
                        clear hK K
                        (try simp only [Act.put, List.setIfInBounds_toArray, List.set_cons_zero, List.set_cons_succ])
                        clear hH
                        have hH : (fun W => Mod (fun _ => False) wc W) (wc.drew.alloc (.cells #[.int .i64 0, .int .u64 0] 57)) := hM
                        generalize wc.drew.alloc (.cells #[.int .i64 0, .int .u64 0] 57) = w31 at hA hM hH ⊢
                        generalize wc.drew.heap.size = b31 at hA hz ⊢
                        have HM := Lib.hid hM
                        have HA := Lib.hid (And.intro hA hz)
                        clear hA hM hz
                        refine wpAnyH_ready (rs := [5]) (by kernel_rfl) (by simp) ?_
                        refine AllReadyH.cons (o := { dst := some 157, op := Op.call { callee := Callee.value (Operand.func 9), args := #[Operand.tmp 152, Operand.tmp 156], argTypes := #[36, 40] }, type := 61, pos := "outright.go:81", after := #[{ on := 0, ground := Ground.data }, { on := 4, ground := Ground.data }], guard := none }) rfl (fun K hK => ?_) AllReadyH.nil
                        go_simp
                        refine (show Calls Try.prog 9 #[.agg (cs.set 44 vt).toArray, .agg (adrCells a).toArray] w31 (fun e w' => SumsPost w31 ((ofA (es ++ [x]) a).map (·.val)) e w') from balance_calls w31 (cs.set 44 vt) vt fees forf HC2.out a (es ++ [x]) (H9.out.2.2.tr (HM18.out.tr HM.out)) (HBB.out a)).mono ?_
                        rintro e w32 ⟨u32, d32, rfl, p1, p2, p3, p4, p5⟩
                        have HM32 := Lib.hid ((HM.out).tr p5)
                        have HOF := Lib.hid (tots_new p3 (by have h1 := perm_le p1; have h2 := HBB.out a; omega) (fun q hq => show q ≠ b31 from by have h1 := p4 q hq; have h2 := ltB HA.out.1; omega))
                        have HD32 := Lib.hid (And.intro p1 (And.intro p2 (tots_at p3 (by have h1 := perm_le p1; have h2 := HBB.out a; omega))))
                        have HA32 := Lib.hid ((p5.block _ (ltB HA.out.1) (fun q => q)).trans HA.out.1)
                        clear p1 p2 p3 p4 p5
                        refine hK.out _ _ HM32.out (fun hH => ?_)
                        clear hK K
                        (try simp only [Act.put, List.setIfInBounds_toArray, List.set_cons_zero, List.set_cons_succ])
                        refine wpAnyH_take (i := 6) (oi := { dst := some 151, op := Op.move (Operand.tmp 157), type := 61, pos := "outright.go:81", after := #[{ on := 5, ground := Ground.data }], guard := none }) (v := .tuple #[wideV (coins ((ofA (es ++ [x]) a).map (·.val))), u32]) rfl (by kernel_rfl) (by kernel_rfl) (by kernel_rfl) (fun _ _ _ h => h) (Or.inl ⟨by rfl, ?_⟩) hH ?_
                        · intro w' hSw
                          go_simp
                          try rfl
                        (try simp only [Act.put, List.setIfInBounds_toArray, List.set_cons_zero, List.set_cons_succ])
                        refine wpAnyH_take (i := 7) (oi := { dst := some 158, op := Op.extract (Operand.tmp 151) 0, type := 57, pos := "outright.go:81", after := #[{ on := 6, ground := Ground.data }], guard := none }) (v := wideV (coins ((ofA (es ++ [x]) a).map (·.val)))) rfl (by kernel_rfl) (by kernel_rfl) (by kernel_rfl) (fun _ _ _ h => h) (Or.inl ⟨by rfl, ?_⟩) hH ?_
                        · intro w' hSw
                          go_simp
                          try with_reducible rfl
                        (try simp only [Act.put, List.setIfInBounds_toArray, List.set_cons_zero, List.set_cons_succ])
                        refine wpAnyH_take (i := 8) (oi := { dst := some 159, op := Op.extract (Operand.tmp 151) 1, type := 33, pos := "outright.go:81", after := #[{ on := 6, ground := Ground.data }, { on := 10, ground := Ground.gcOnly Departure.lateStores }], guard := none }) (v := u32) rfl (by kernel_rfl) (by kernel_rfl) (by kernel_rfl) (fun _ _ _ h => h) (Or.inl ⟨by rfl, ?_⟩) hH ?_
                        · intro w' hSw
                          go_simp
                          try with_reducible rfl
                        (try simp only [Act.put, List.setIfInBounds_toArray, List.set_cons_zero, List.set_cons_succ])
                        refine wpAnyH_ready (rs := [10]) (by kernel_rfl) (by simp) ?_
                        refine AllReadyH.cons (o := { dst := none, op := Op.store 57 (Operand.tmp 20) (Operand.tmp 158), type := 0, pos := "outright.go:81", after := #[{ on := 9, ground := Ground.data }, { on := 7, ground := Ground.data }, { on := 5, ground := Ground.chain }, { on := 0, ground := Ground.phase }, { on := 1, ground := Ground.phase }, { on := 2, ground := Ground.phase }, { on := 3, ground := Ground.phase }, { on := 4, ground := Ground.phase }, { on := 5, ground := Ground.phase }, { on := 6, ground := Ground.phase }, { on := 7, ground := Ground.phase }, { on := 8, ground := Ground.textOnly Departure.lateStores }, { on := 9, ground := Ground.phase }], guard := none }) rfl (fun K hK => ?_) AllReadyH.nil
                        have hst := store57 w32 b31 (coins ((ofA (es ++ [x]) a).map (·.val))) HA32.out
                        have hc := setRow_same (cs := #[.int .i64 (hiW (coins ((ofA (es ++ [x]) a).map (·.val)))), .int .u64 (loW (coins ((ofA (es ++ [x]) a).map (·.val))))]) HA32.out
                        have hmz : Mod (fun q => q = b31) w32 (w32.setRow b31 #[.int .i64 (hiW (coins ((ofA (es ++ [x]) a).map (·.val)))), .int .u64 (loW (coins ((ofA (es ++ [x]) a).map (·.val))))]) := Mod_setRow (Mod.refl (fun q => q = b31) w32) (fun _ => rfl) _
                        generalize w32.setRow b31 #[.int .i64 (hiW (coins ((ofA (es ++ [x]) a).map (·.val)))), .int .u64 (loW (coins ((ofA (es ++ [x]) a).map (·.val))))] = wz at hst hc hmz
                        have hmf : Mod (fun _ => False) wc wz := (HM32.out).trans hmz (fun q e hl => by have h9 := HA.out.2; omega)
                        have htz := tots_keep HOF.out hmz
                        refine step_execS rfl (exec_store _ _ rfl rfl rfl hst) ?_
                        refine hK.out _ _ hmf (fun hH => ?_)
                        clear hK K
                        (try simp only [Act.put])
                        refine wpAnyH_take (i := 11) (oi := { dst := some 21, op := Op.assign (Operand.tmp 159), type := 33, pos := "outright.go:81", after := #[{ on := 8, ground := Ground.data }, { on := 10, ground := Ground.chain }, { on := 0, ground := Ground.phase }, { on := 1, ground := Ground.phase }, { on := 2, ground := Ground.phase }, { on := 3, ground := Ground.phase }, { on := 4, ground := Ground.phase }, { on := 5, ground := Ground.phase }, { on := 6, ground := Ground.phase }, { on := 7, ground := Ground.phase }, { on := 8, ground := Ground.phase }, { on := 9, ground := Ground.phase }, { on := 10, ground := Ground.phase }], guard := none }) (v := u32) rfl (by kernel_rfl) (by kernel_rfl) (by kernel_rfl) (fun _ _ _ h => h) (Or.inl ⟨by rfl, ?_⟩) hH ?_
                        · intro w' hSw
                          go_simp
                          try with_reducible rfl
                        (try simp only [Act.put, List.setIfInBounds_toArray, List.set_cons_zero, List.set_cons_succ])
                        refine wpAnyH_done (by kernel_rfl) ?_ _
                        have HF := Lib.hid (And.intro hc (And.intro htz hmf))
                        clear hst hc hmz hmf htz
                        go_wp2_with fail
                        go_meet
                        case rel => exact ⟨_, d32, rfl, HF.out.1, HD32.out.1, HD32.out.2.1, HF.out.2.1, HF.out.2.2⟩
                    case rest =>
                      obtain ⟨b20, d20, rfl, hb20, hp20, hs20, ht20, hm20⟩ := hcut
                      have HM20 := Lib.hid (HM18.out.tr hm20)
                      have H20 := Lib.hid (And.intro ((hm20.block _ (ltB H18.out.1) (fun q => q)).trans H18.out.1) (And.intro (H18.out.2.2.2.tr hm20) (And.intro hb20 (And.intro hp20 (And.intro hs20 ht20)))))
                      clear hb20 hp20 hs20 ht20 hm20
                      go_upto_region 34 with fail
                      by_cases hax : a = x.addr
                      · have hd : (!decide (a = x.addr)) = false := by simp [hax]
                        have HAX := Lib.hid hd
                        clear hd hax
                        refine wp_region_held_drew (S := fun W => Mod (fun _ => False) wc W) (by kernel_rfl) (Mod.refl _ wc).drew (fun hH => ?_)
                        refine wpAnyH_take (i := 0) (oi := { dst := some 160, op := Op.move (Operand.tmp 5), type := 55, pos := "outright.go:82", after := #[], guard := none }) (v := .slice (some ⟨g, 0, none⟩) S.length vc5) rfl (by kernel_rfl) (by kernel_rfl) (by kernel_rfl) (fun _ _ _ h => h) (Or.inl ⟨by rfl, ?_⟩) hH ?_
                        · intro w' hSw
                          go_simp
                          try with_reducible rfl
                        (try simp only [Act.put, List.setIfInBounds_toArray, List.set_cons_zero, List.set_cons_succ])
                        refine wpAnyH_take (i := 1) (oi := { dst := some 161, op := Op.move (Operand.tmp 17), type := 3, pos := "outright.go:82", after := #[], guard := none }) (v := .int .i64 k) rfl (by kernel_rfl) (by kernel_rfl) (by kernel_rfl) (fun _ _ _ h => h) (Or.inl ⟨by rfl, ?_⟩) hH ?_
                        · intro w' hSw
                          go_simp
                          try with_reducible rfl
                        (try simp only [Act.put, List.setIfInBounds_toArray, List.set_cons_zero, List.set_cons_succ])
                        refine wpAnyH_take (i := 2) (oi := { dst := some 162, op := Op.indexAddr 55 (Operand.tmp 160) (Operand.tmp 161), type := 0, pos := "outright.go:82", after := #[{ on := 0, ground := Ground.data }, { on := 1, ground := Ground.data }], guard := none }) (v := .pointer (some ⟨g, k * 33, none⟩)) rfl (by kernel_rfl) (by kernel_rfl) (by kernel_rfl) (fun _ _ _ h => h) (Or.inl ⟨by rfl, ?_⟩) hH ?_
                        · intro w' hSw
                          go_simp
                          try with_reducible rfl
                        (try simp only [Act.put, List.setIfInBounds_toArray, List.set_cons_zero, List.set_cons_succ])
                        refine wpAnyH_take (i := 3) (oi := { dst := some 163, op := Op.load 40 (Operand.tmp 162), type := 40, pos := "outright.go:82", after := #[{ on := 2, ground := Ground.data }], guard := none }) (v := .agg (adrCells a).toArray) rfl (by kernel_rfl) (by kernel_rfl) (by kernel_rfl) (fun _ _ _ h => h) (Or.inl ⟨by rfl, ?_⟩) hH ?_
                        · intro w' hSw
                          exact exec_load_at _ _ 40 _ rfl ⟨g, k * 33, none⟩ rfl (HSL.out _ (HM20.out.tr hSw))
                        (try simp only [Act.put, List.setIfInBounds_toArray, List.set_cons_zero, List.set_cons_succ])
                        refine wpAnyH_take (i := 4) (oi := { dst := some 164, op := Op.fieldAddr 51 (Operand.tmp 3) 1, type := 0, pos := "outright.go:82", after := #[], guard := none }) (v := .pointer (some ⟨w.heap.size + 1, 33, none⟩)) rfl (by kernel_rfl) (by kernel_rfl) (by kernel_rfl) (fun _ _ _ h => h) (Or.inl ⟨by rfl, ?_⟩) hH ?_
                        · intro w' hSw
                          go_simp
                          try with_reducible rfl
                        (try simp only [Act.put, List.setIfInBounds_toArray, List.set_cons_zero, List.set_cons_succ])
                        refine wpAnyH_take (i := 5) (oi := { dst := some 165, op := Op.fieldAddr 49 (Operand.tmp 164) 0, type := 0, pos := "outright.go:82", after := #[{ on := 4, ground := Ground.data }], guard := none }) (v := .pointer (some ⟨w.heap.size + 1, 33, none⟩)) rfl (by kernel_rfl) (by kernel_rfl) (by kernel_rfl) (fun _ _ _ h => h) (Or.inl ⟨by rfl, ?_⟩) hH ?_
                        · intro w' hSw
                          go_simp
                          try with_reducible rfl
                        (try simp only [Act.put, List.setIfInBounds_toArray, List.set_cons_zero, List.set_cons_succ])
                        refine wpAnyH_take (i := 6) (oi := { dst := some 166, op := Op.load 40 (Operand.tmp 165), type := 40, pos := "outright.go:82", after := #[{ on := 5, ground := Ground.data }], guard := none }) (v := .agg (adrCells x.addr).toArray) rfl (by kernel_rfl) (by kernel_rfl) (by kernel_rfl) (fun _ _ _ h => h) (Or.inl ⟨by rfl, ?_⟩) hH ?_
                        · intro w' hSw
                          exact exec_load_at _ _ 40 _ rfl ⟨w.heap.size + 1, 33, none⟩ rfl (ent_load40 (H9.out.1.tr (HM20.out.tr hSw)).pb.hx)
                        (try simp only [Act.put, List.setIfInBounds_toArray, List.set_cons_zero, List.set_cons_succ])
                        refine wpAnyH_take (i := 7) (oi := { dst := some 167, op := Op.binOp BinOp.neq 40 (Operand.tmp 163) (Operand.tmp 166) 40, type := 4, pos := "outright.go:82", after := #[{ on := 3, ground := Ground.data }, { on := 6, ground := Ground.data }], guard := none }) (v := .bool false) rfl (by kernel_rfl) (by kernel_rfl) (by kernel_rfl) (fun _ _ _ h => h) (Or.inl ⟨by rfl, ?_⟩) hH ?_
                        · intro w' hSw
                          exact exec_neq40v _ _ rfl a x.addr rfl rfl HAX.out
                        (try simp only [Act.put, List.setIfInBounds_toArray, List.set_cons_zero, List.set_cons_succ])
                        refine wpAnyH_take (i := 8) (oi := { dst := some 168, op := Op.move (Operand.tmp 167), type := 4, pos := "outright.go:82", after := #[{ on := 7, ground := Ground.data }], guard := none }) (v := .bool false) rfl (by kernel_rfl) (by kernel_rfl) (by kernel_rfl) (fun _ _ _ h => h) (Or.inl ⟨by rfl, ?_⟩) hH ?_
                        · intro w' hSw
                          go_simp
                          try with_reducible rfl
                        (try simp only [Act.put, List.setIfInBounds_toArray, List.set_cons_zero, List.set_cons_succ])
                        refine wpAnyH_take (i := 9) (oi := { dst := some 169, op := Op.load 57 (Operand.tmp 18), type := 57, pos := "outright.go:82", after := #[{ on := 8, ground := Ground.guard }], guard := some (8, true) }) (v := undef) rfl (by kernel_rfl) (by kernel_rfl) (by kernel_rfl) (fun _ _ _ h => h) (Or.inr ⟨by rfl, rfl⟩) hH ?_
                        (try simp only [Act.put, List.setIfInBounds_toArray, List.set_cons_zero, List.set_cons_succ])
                        refine wpAnyH_take (i := 10) (oi := { dst := some 170, op := Op.load 57 (Operand.tmp 20), type := 57, pos := "outright.go:82", after := #[{ on := 8, ground := Ground.guard }], guard := some (8, true) }) (v := undef) rfl (by kernel_rfl) (by kernel_rfl) (by kernel_rfl) (fun _ _ _ h => h) (Or.inr ⟨by rfl, rfl⟩) hH ?_
                        (try simp only [Act.put, List.setIfInBounds_toArray, List.set_cons_zero, List.set_cons_succ])
                        refine wpAnyH_take (i := 11) (oi := { dst := some 171, op := Op.binOp BinOp.neq 57 (Operand.tmp 169) (Operand.tmp 170) 57, type := 4, pos := "outright.go:82", after := #[{ on := 9, ground := Ground.data }, { on := 10, ground := Ground.data }, { on := 8, ground := Ground.guard }], guard := some (8, true) }) (v := undef) rfl (by kernel_rfl) (by kernel_rfl) (by kernel_rfl) (fun _ _ _ h => h) (Or.inr ⟨by rfl, rfl⟩) hH ?_
                        (try simp only [Act.put, List.setIfInBounds_toArray, List.set_cons_zero, List.set_cons_succ])
                        refine wpAnyH_take (i := 12) (oi := { dst := some 172, op := Op.move (Operand.tmp 171), type := 4, pos := "outright.go:82", after := #[{ on := 11, ground := Ground.data }, { on := 8, ground := Ground.chain }, { on := 8, ground := Ground.guard }], guard := some (8, true) }) (v := undef) rfl (by kernel_rfl) (by kernel_rfl) (by kernel_rfl) (fun _ _ _ h => h) (Or.inr ⟨by rfl, rfl⟩) hH ?_
                        (try simp only [Act.put, List.setIfInBounds_toArray, List.set_cons_zero, List.set_cons_succ])
                        refine wpAnyH_take (i := 13) (oi := { dst := some 173, op := Op.move (Operand.tmp 19), type := 33, pos := "outright.go:82", after := #[{ on := 12, ground := Ground.guard }], guard := some (12, false) }) (v := undef) rfl (by kernel_rfl) (by kernel_rfl) (by kernel_rfl) (fun _ _ _ h => h) (Or.inr ⟨by rfl, rfl⟩) hH ?_
                        (try simp only [Act.put, List.setIfInBounds_toArray, List.set_cons_zero, List.set_cons_succ])
                        refine wpAnyH_take (i := 14) (oi := { dst := some 174, op := Op.move (Operand.tmp 21), type := 33, pos := "outright.go:82", after := #[{ on := 12, ground := Ground.guard }], guard := some (12, false) }) (v := undef) rfl (by kernel_rfl) (by kernel_rfl) (by kernel_rfl) (fun _ _ _ h => h) (Or.inr ⟨by rfl, rfl⟩) hH ?_
                        (try simp only [Act.put, List.setIfInBounds_toArray, List.set_cons_zero, List.set_cons_succ])
                        refine wpAnyH_take (i := 15) (oi := { dst := some 175, op := Op.call { callee := Callee.value (Operand.func 11), args := #[Operand.tmp 173, Operand.tmp 174], argTypes := #[33, 33] }, type := 4, pos := "outright.go:82", after := #[{ on := 13, ground := Ground.data }, { on := 14, ground := Ground.data }, { on := 12, ground := Ground.chain }, { on := 12, ground := Ground.guard }], guard := some (12, false) }) (v := undef) rfl (by kernel_rfl) (by kernel_rfl) (by kernel_rfl) (fun _ _ _ h => h) (Or.inr ⟨by rfl, rfl⟩) hH ?_
                        (try simp only [Act.put, List.setIfInBounds_toArray, List.set_cons_zero, List.set_cons_succ])
                        refine wpAnyH_take (i := 16) (oi := { dst := some 176, op := Op.unOp UnOp.not 4 (Operand.tmp 175), type := 4, pos := "outright.go:82", after := #[{ on := 15, ground := Ground.data }, { on := 12, ground := Ground.guard }], guard := some (12, false) }) (v := undef) rfl (by kernel_rfl) (by kernel_rfl) (by kernel_rfl) (fun _ _ _ h => h) (Or.inr ⟨by rfl, rfl⟩) hH ?_
                        (try simp only [Act.put, List.setIfInBounds_toArray, List.set_cons_zero, List.set_cons_succ])
                        refine wpAnyH_take (i := 17) (oi := { dst := some 177, op := Op.pick (Operand.tmp 172) (Operand.const (Value.bool true)) (Operand.tmp 176), type := 4, pos := "outright.go:82", after := #[{ on := 12, ground := Ground.data }, { on := 16, ground := Ground.data }, { on := 8, ground := Ground.guard }], guard := some (8, true) }) (v := undef) rfl (by kernel_rfl) (by kernel_rfl) (by kernel_rfl) (fun _ _ _ h => h) (Or.inr ⟨by rfl, rfl⟩) hH ?_
                        (try simp only [Act.put, List.setIfInBounds_toArray, List.set_cons_zero, List.set_cons_succ])
                        refine wpAnyH_take (i := 18) (oi := { dst := some 178, op := Op.pick (Operand.tmp 168) (Operand.tmp 177) (Operand.const (Value.bool false)), type := 4, pos := "outright.go:82", after := #[{ on := 8, ground := Ground.data }, { on := 17, ground := Ground.data }], guard := none }) (v := .bool false) rfl (by kernel_rfl) (by kernel_rfl) (by kernel_rfl) (fun _ _ _ h => h) (Or.inl ⟨by rfl, ?_⟩) hH ?_
                        · intro w' hSw
                          go_simp
                          try with_reducible rfl
                        (try simp only [Act.put, List.setIfInBounds_toArray, List.set_cons_zero, List.set_cons_succ])
                        refine wpAnyH_done (by kernel_rfl) ?_ _
                        go_wp2_with fail
                        go_roundw
                        case rel => exact ⟨k + 1, by omega, rfl, HM20.out.drew⟩
                        case measure => simp [intOf]; omega
                      · have hd : (!decide (a = x.addr)) = true := by simp [hax]
                        have HAX := Lib.hid hd
                        have hof := ofA_more (es := es) (x := x) hax
                        have h20 := H20.out
                        rw [hof] at h20
                        have hsc := same_calls wc.drew _ _ d18 d20 (h20.2.1.tr (Mod.refl (fun _ => False) wc).drew) (h20.2.2.2.2.2.tr (Mod.refl (fun _ => False) wc).drew)
                        rw [decide_eq_true (two_same H18.out.2.1 H18.out.2.2.1 h20.2.2.2.1 h20.2.2.2.2.1)] at hsc
                        have HSC := Lib.hid hsc
                        have HL57 := Lib.hid (And.intro h20.1 h20.2.2.1)
                        clear hd hax hof h20 hsc
                        refine wp_region_held_drew (S := fun W => Mod (fun _ => False) wc W) (by kernel_rfl) (Mod.refl _ wc).drew (fun hH => ?_)
                        refine wpAnyH_take (i := 0) (oi := { dst := some 160, op := Op.move (Operand.tmp 5), type := 55, pos := "outright.go:82", after := #[], guard := none }) (v := .slice (some ⟨g, 0, none⟩) S.length vc5) rfl (by kernel_rfl) (by kernel_rfl) (by kernel_rfl) (fun _ _ _ h => h) (Or.inl ⟨by rfl, ?_⟩) hH ?_
                        · intro w' hSw
                          go_simp
                          try with_reducible rfl
                        (try simp only [Act.put, List.setIfInBounds_toArray, List.set_cons_zero, List.set_cons_succ])
                        refine wpAnyH_take (i := 1) (oi := { dst := some 161, op := Op.move (Operand.tmp 17), type := 3, pos := "outright.go:82", after := #[], guard := none }) (v := .int .i64 k) rfl (by kernel_rfl) (by kernel_rfl) (by kernel_rfl) (fun _ _ _ h => h) (Or.inl ⟨by rfl, ?_⟩) hH ?_
                        · intro w' hSw
                          go_simp
                          try with_reducible rfl
                        (try simp only [Act.put, List.setIfInBounds_toArray, List.set_cons_zero, List.set_cons_succ])
                        refine wpAnyH_take (i := 2) (oi := { dst := some 162, op := Op.indexAddr 55 (Operand.tmp 160) (Operand.tmp 161), type := 0, pos := "outright.go:82", after := #[{ on := 0, ground := Ground.data }, { on := 1, ground := Ground.data }], guard := none }) (v := .pointer (some ⟨g, k * 33, none⟩)) rfl (by kernel_rfl) (by kernel_rfl) (by kernel_rfl) (fun _ _ _ h => h) (Or.inl ⟨by rfl, ?_⟩) hH ?_
                        · intro w' hSw
                          go_simp
                          try with_reducible rfl
                        (try simp only [Act.put, List.setIfInBounds_toArray, List.set_cons_zero, List.set_cons_succ])
                        refine wpAnyH_take (i := 3) (oi := { dst := some 163, op := Op.load 40 (Operand.tmp 162), type := 40, pos := "outright.go:82", after := #[{ on := 2, ground := Ground.data }], guard := none }) (v := .agg (adrCells a).toArray) rfl (by kernel_rfl) (by kernel_rfl) (by kernel_rfl) (fun _ _ _ h => h) (Or.inl ⟨by rfl, ?_⟩) hH ?_
                        · intro w' hSw
                          exact exec_load_at _ _ 40 _ rfl ⟨g, k * 33, none⟩ rfl (HSL.out _ (HM20.out.tr hSw))
                        (try simp only [Act.put, List.setIfInBounds_toArray, List.set_cons_zero, List.set_cons_succ])
                        refine wpAnyH_take (i := 4) (oi := { dst := some 164, op := Op.fieldAddr 51 (Operand.tmp 3) 1, type := 0, pos := "outright.go:82", after := #[], guard := none }) (v := .pointer (some ⟨w.heap.size + 1, 33, none⟩)) rfl (by kernel_rfl) (by kernel_rfl) (by kernel_rfl) (fun _ _ _ h => h) (Or.inl ⟨by rfl, ?_⟩) hH ?_
                        · intro w' hSw
                          go_simp
                          try with_reducible rfl
                        (try simp only [Act.put, List.setIfInBounds_toArray, List.set_cons_zero, List.set_cons_succ])
                        refine wpAnyH_take (i := 5) (oi := { dst := some 165, op := Op.fieldAddr 49 (Operand.tmp 164) 0, type := 0, pos := "outright.go:82", after := #[{ on := 4, ground := Ground.data }], guard := none }) (v := .pointer (some ⟨w.heap.size + 1, 33, none⟩)) rfl (by kernel_rfl) (by kernel_rfl) (by kernel_rfl) (fun _ _ _ h => h) (Or.inl ⟨by rfl, ?_⟩) hH ?_
                        · intro w' hSw
                          go_simp
                          try with_reducible rfl
                        (try simp only [Act.put, List.setIfInBounds_toArray, List.set_cons_zero, List.set_cons_succ])
                        refine wpAnyH_take (i := 6) (oi := { dst := some 166, op := Op.load 40 (Operand.tmp 165), type := 40, pos := "outright.go:82", after := #[{ on := 5, ground := Ground.data }], guard := none }) (v := .agg (adrCells x.addr).toArray) rfl (by kernel_rfl) (by kernel_rfl) (by kernel_rfl) (fun _ _ _ h => h) (Or.inl ⟨by rfl, ?_⟩) hH ?_
                        · intro w' hSw
                          exact exec_load_at _ _ 40 _ rfl ⟨w.heap.size + 1, 33, none⟩ rfl (ent_load40 (H9.out.1.tr (HM20.out.tr hSw)).pb.hx)
                        (try simp only [Act.put, List.setIfInBounds_toArray, List.set_cons_zero, List.set_cons_succ])
                        refine wpAnyH_take (i := 7) (oi := { dst := some 167, op := Op.binOp BinOp.neq 40 (Operand.tmp 163) (Operand.tmp 166) 40, type := 4, pos := "outright.go:82", after := #[{ on := 3, ground := Ground.data }, { on := 6, ground := Ground.data }], guard := none }) (v := .bool true) rfl (by kernel_rfl) (by kernel_rfl) (by kernel_rfl) (fun _ _ _ h => h) (Or.inl ⟨by rfl, ?_⟩) hH ?_
                        · intro w' hSw
                          exact exec_neq40v _ _ rfl a x.addr rfl rfl HAX.out
                        (try simp only [Act.put, List.setIfInBounds_toArray, List.set_cons_zero, List.set_cons_succ])
                        refine wpAnyH_take (i := 8) (oi := { dst := some 168, op := Op.move (Operand.tmp 167), type := 4, pos := "outright.go:82", after := #[{ on := 7, ground := Ground.data }], guard := none }) (v := .bool true) rfl (by kernel_rfl) (by kernel_rfl) (by kernel_rfl) (fun _ _ _ h => h) (Or.inl ⟨by rfl, ?_⟩) hH ?_
                        · intro w' hSw
                          go_simp
                          try with_reducible rfl
                        (try simp only [Act.put, List.setIfInBounds_toArray, List.set_cons_zero, List.set_cons_succ])
                        refine wpAnyH_take (i := 9) (oi := { dst := some 169, op := Op.load 57 (Operand.tmp 18), type := 57, pos := "outright.go:82", after := #[{ on := 8, ground := Ground.guard }], guard := some (8, true) }) (v := wideV (coins ((ofA es a).map (·.val)))) rfl (by kernel_rfl) (by kernel_rfl) (by kernel_rfl) (fun _ _ _ h => h) (Or.inl ⟨by rfl, ?_⟩) hH ?_
                        · intro w' hSw
                          exact exec_load_at _ _ 57 _ rfl ⟨b18, 0, none⟩ rfl (load57_box ((hSw.block _ (ltB HL57.out.1) (fun q => q)).trans HL57.out.1))
                        (try simp only [Act.put, List.setIfInBounds_toArray, List.set_cons_zero, List.set_cons_succ])
                        refine wpAnyH_take (i := 10) (oi := { dst := some 170, op := Op.load 57 (Operand.tmp 20), type := 57, pos := "outright.go:82", after := #[{ on := 8, ground := Ground.guard }], guard := some (8, true) }) (v := wideV (coins ((ofA es a).map (·.val)))) rfl (by kernel_rfl) (by kernel_rfl) (by kernel_rfl) (fun _ _ _ h => h) (Or.inl ⟨by rfl, ?_⟩) hH ?_
                        · intro w' hSw
                          exact exec_load_at _ _ 57 _ rfl ⟨b20, 0, none⟩ rfl (load57_box ((hSw.block _ (ltB HL57.out.2) (fun q => q)).trans HL57.out.2))
                        (try simp only [Act.put, List.setIfInBounds_toArray, List.set_cons_zero, List.set_cons_succ])
                        refine wpAnyH_take (i := 11) (oi := { dst := some 171, op := Op.binOp BinOp.neq 57 (Operand.tmp 169) (Operand.tmp 170) 57, type := 4, pos := "outright.go:82", after := #[{ on := 9, ground := Ground.data }, { on := 10, ground := Ground.data }, { on := 8, ground := Ground.guard }], guard := some (8, true) }) (v := .bool false) rfl (by kernel_rfl) (by kernel_rfl) (by kernel_rfl) (fun _ _ _ h => h) (Or.inl ⟨by rfl, ?_⟩) hH ?_
                        · intro w' hSw
                          exact exec_neqW _ _ rfl (coins ((ofA es a).map (·.val))) rfl rfl
                        (try simp only [Act.put, List.setIfInBounds_toArray, List.set_cons_zero, List.set_cons_succ])
                        refine wpAnyH_take (i := 12) (oi := { dst := some 172, op := Op.move (Operand.tmp 171), type := 4, pos := "outright.go:82", after := #[{ on := 11, ground := Ground.data }, { on := 8, ground := Ground.chain }, { on := 8, ground := Ground.guard }], guard := some (8, true) }) (v := .bool false) rfl (by kernel_rfl) (by kernel_rfl) (by kernel_rfl) (fun _ _ _ h => h) (Or.inl ⟨by rfl, ?_⟩) hH ?_
                        · intro w' hSw
                          go_simp
                          try with_reducible rfl
                        (try simp only [Act.put, List.setIfInBounds_toArray, List.set_cons_zero, List.set_cons_succ])
                        refine wpAnyH_take (i := 13) (oi := { dst := some 173, op := Op.move (Operand.tmp 19), type := 33, pos := "outright.go:82", after := #[{ on := 12, ground := Ground.guard }], guard := some (12, false) }) (v := u19) rfl (by kernel_rfl) (by kernel_rfl) (by kernel_rfl) (fun _ _ _ h => h) (Or.inl ⟨by rfl, ?_⟩) hH ?_
                        · intro w' hSw
                          go_simp
                          try with_reducible rfl
                        (try simp only [Act.put, List.setIfInBounds_toArray, List.set_cons_zero, List.set_cons_succ])
                        refine wpAnyH_take (i := 14) (oi := { dst := some 174, op := Op.move (Operand.tmp 21), type := 33, pos := "outright.go:82", after := #[{ on := 12, ground := Ground.guard }], guard := some (12, false) }) (v := u21) rfl (by kernel_rfl) (by kernel_rfl) (by kernel_rfl) (fun _ _ _ h => h) (Or.inl ⟨by rfl, ?_⟩) hH ?_
                        · intro w' hSw
                          go_simp
                          try with_reducible rfl
                        (try simp only [Act.put, List.setIfInBounds_toArray, List.set_cons_zero, List.set_cons_succ])
                        refine wpAnyH_ready (rs := [15]) (by kernel_rfl) (by simp) ?_
                        refine AllReadyH.cons (o := { dst := some 175, op := Op.call { callee := Callee.value (Operand.func 11), args := #[Operand.tmp 173, Operand.tmp 174], argTypes := #[33, 33] }, type := 4, pos := "outright.go:82", after := #[{ on := 13, ground := Ground.data }, { on := 14, ground := Ground.data }, { on := 12, ground := Ground.chain }, { on := 12, ground := Ground.guard }], guard := some (12, false) }) rfl (fun K hK => ?_) AllReadyH.nil
                        go_simp
                        refine HSC.out.mono ?_
                        rintro e w40 ⟨rfl, hm40⟩
                        have HM40 := Lib.hid (((Mod.refl (fun _ => False) wc).drew).tr hm40)
                        clear hm40
                        refine hK.out _ _ HM40.out (fun hH => ?_)
                        clear hK K
                        (try simp only [Act.put, List.setIfInBounds_toArray, List.set_cons_zero, List.set_cons_succ])
                        refine wpAnyH_take (i := 16) (oi := { dst := some 176, op := Op.unOp UnOp.not 4 (Operand.tmp 175), type := 4, pos := "outright.go:82", after := #[{ on := 15, ground := Ground.data }, { on := 12, ground := Ground.guard }], guard := some (12, false) }) (v := .bool false) rfl (by kernel_rfl) (by kernel_rfl) (by kernel_rfl) (fun _ _ _ h => h) (Or.inl ⟨by rfl, ?_⟩) hH ?_
                        · intro w' hSw
                          go_simp
                          try with_reducible rfl
                        (try simp only [Act.put, List.setIfInBounds_toArray, List.set_cons_zero, List.set_cons_succ])
                        refine wpAnyH_take (i := 17) (oi := { dst := some 177, op := Op.pick (Operand.tmp 172) (Operand.const (Value.bool true)) (Operand.tmp 176), type := 4, pos := "outright.go:82", after := #[{ on := 12, ground := Ground.data }, { on := 16, ground := Ground.data }, { on := 8, ground := Ground.guard }], guard := some (8, true) }) (v := .bool false) rfl (by kernel_rfl) (by kernel_rfl) (by kernel_rfl) (fun _ _ _ h => h) (Or.inl ⟨by rfl, ?_⟩) hH ?_
                        · intro w' hSw
                          go_simp
                          try with_reducible rfl
                        (try simp only [Act.put, List.setIfInBounds_toArray, List.set_cons_zero, List.set_cons_succ])
                        refine wpAnyH_take (i := 18) (oi := { dst := some 178, op := Op.pick (Operand.tmp 168) (Operand.tmp 177) (Operand.const (Value.bool false)), type := 4, pos := "outright.go:82", after := #[{ on := 8, ground := Ground.data }, { on := 17, ground := Ground.data }], guard := none }) (v := .bool false) rfl (by kernel_rfl) (by kernel_rfl) (by kernel_rfl) (fun _ _ _ h => h) (Or.inl ⟨by rfl, ?_⟩) hH ?_
                        · intro w' hSw
                          go_simp
                          try with_reducible rfl
                        (try simp only [Act.put, List.setIfInBounds_toArray, List.set_cons_zero, List.set_cons_succ])
                        refine wpAnyH_done (by kernel_rfl) ?_ _
                        go_wp2_with fail
                        go_roundw
                        case rel => exact ⟨k + 1, by omega, rfl, HM20.out.tr HM40.out⟩
                        case measure => simp [intOf]; omega
                · have e : k = S.length := by omega
                  subst e
                  go_wp2_with fail
                  go_ret
                  exact ⟨rfl, (H9.out.1.tr HMI.out).pb.mod⟩
    · have hnd : decide (n > 6000) = true := by simp; omega
      refine wpList_execG (v := .bool true) (w' := w4) (by rfl) (by go_simp) ?_
      (try simp only [Act.put, List.setIfInBounds_toArray, List.set_cons_zero, List.set_cons_succ])
      refine wpList_exec (v := .bool true) rfl (by go_simp) ?_
      (try simp only [Act.put, List.setIfInBounds_toArray, List.set_cons_zero, List.set_cons_succ])
      go_wp2_with fail
      go_ret
      exact ⟨rfl, HP4.out.mod⟩
end Go.Proofs.Ytckcamlicgdklaa
