/- ValueOf, OutputOf: counts. PRINTED BY A PROGRAM OF MY OWN. -/
import Derived.Test.YtckcamlicgdklaaCnA
namespace Go.Proofs.Ytckcamlicgdklaa
open Go.RowKit Go.Mo

theorem valueOf_calls (w0 : World) (cs : List Value) (h : Rd w0 43 cs) (w : World) (hm : Mod (fun _ => False) w0 w) : Calls Try.prog 18 #[.agg cs.toArray, .int .i64 6000] w fun e w' => Cnt w 20000000000000 (fun n => n ≤ 6000 → ∀ (a : Option Addr) (len c : Nat), cs[1]? = some (.slice a len c) → len ≤ n) e w' := by
  obtain ⟨v, hv, hr⟩ := h.cellAt Try.underlying43 1 rfl 41 1 rfl rfl cc41 cc43 (by omega)
  obtain ⟨w1, hw1⟩ : ∃ w1, w.alloc (.cells cs.toArray 43) = w1 := ⟨_, rfl⟩
  have hb : w1.heap[w.heap.size]? = some (.cells cs.toArray 43 (0, 0)) := by rw [← hw1]; exact newB w _
  have hm1 : Mod (fun _ => False) w w1 := by rw [← hw1]; exact (Mod.refl _ w).alloc _
  have s1 : w1.cell? ⟨w.heap.size, 1, none⟩ = some v := by rw [cellB hb, List.getElem?_toArray]; exact hv
  have HC := Lib.hid (assetsOf_calls w0 v hr w1 (hm.tr hm1))
  have HM := Lib.hid hm1
  have HV := Lib.hid hv
  obtain ⟨a, len, cap, rfl, _⟩ := hr.slice Try.underlying41 Try.c97 (by omega)
  clear hb hm1 hm h hv
  go_enter Try.func18, Try.ntmps18
  go_wp2_with fail
  refine HC.out.mono ?_
  rintro e w2 ⟨n, rfl, h0, h1, hR, hm2⟩
  have HM2 := Lib.hid (HM.out.tr hm2)
  have HR := Lib.hid hR
  clear hm2 hR
  go_wp2_with fail
  go_ret
  refine ⟨1 + n, rfl, by omega, by omega, fun q a' l' c' e => ?_, HM2.out⟩
  rw [HV.out] at e
  have := HR.out (by omega) a' l' c' (by simpa using e)
  omega

set_option maxRecDepth 100000 in
theorem outputOf_calls (w0 : World) (cs : List Value) (h : Rd w0 49 cs) (w : World) (hm : Mod (fun _ => False) w0 w) : Calls Try.prog 6 #[.agg cs.toArray, .int .i64 6000] w fun e w' => Cnt w 40000000000000 (fun n => n ≤ 6000 → ∀ (a : Option Addr) (len c : Nat), cs[34]? = some (.slice a len c) → len ≤ n) e w' := by
  have hl := h.len Try.underlying49
  rw [cc49] at hl
  have hr1 := h.fieldAt Try.underlying49 1 rfl 43 33 2 rfl rfl cc43
  have hr4 := h.fieldAt Try.underlying49 4 rfl 47 68 1 rfl rfl cc47
  obtain ⟨w1, hw1⟩ : ∃ w1, w.alloc (.cells cs.toArray 49) = w1 := ⟨_, rfl⟩
  have hb : w1.heap[w.heap.size]? = some (.cells cs.toArray 49 (0, 0)) := by rw [← hw1]; exact newB w _
  have hm1 : Mod (fun _ => False) w w1 := by rw [← hw1]; exact (Mod.refl _ w).alloc _
  have HB := Lib.hid (fun (W : World) (hW : Mod (fun _ => False) w1 W) => (hW.block _ (ltB hb) (fun q => q)).trans hb)
  have HL := Lib.hid hl
  have HM := Lib.hid hm1
  have HM0 := Lib.hid (hm.tr hm1)
  have HR1 := Lib.hid hr1
  have HR4 := Lib.hid hr4
  clear hb hm1 hm h hr1 hr4 hl
  go_enter Try.func6, Try.ntmps6
  go_upto_region 1 with fail
  refine wp_region_held_drew (S := fun W => Mod (fun _ => False) w1 W) (by kernel_rfl) ((Mod.refl _ w1).drew) (fun hH => ?_)
  refine wpAnyH_take (i := 0) (oi := { dst := some 5, op := Op.fieldAddr 49 (Operand.tmp 2) 1, type := 0, pos := "count.go:53", after := #[], guard := none }) (v := .pointer (some ⟨w.heap.size, 33, none⟩)) rfl (by kernel_rfl) (by kernel_rfl) (by kernel_rfl) (fun _ _ _ h => h) (Or.inl ⟨by rfl, ?_⟩) hH ?_
  · intro w' hSw
    go_simp
    try with_reducible rfl
  (try simp only [Act.put, List.setIfInBounds_toArray, List.set_cons_zero, List.set_cons_succ])
  refine wpAnyH_take (i := 1) (oi := { dst := some 6, op := Op.load 43 (Operand.tmp 5), type := 43, pos := "count.go:53", after := #[{ on := 0, ground := Ground.data }], guard := none }) (v := .agg ((cs.drop 33).take 2).toArray) rfl (by kernel_rfl) (by kernel_rfl) (by kernel_rfl) (fun _ _ _ h => h) (Or.inl ⟨by rfl, ?_⟩) hH ?_
  · intro w' hSw
    exact exec_load_pt _ _ 43 _ rfl ⟨w.heap.size, 33, none⟩ rfl (load_box (HB.out _ hSw) 43 33 2 _ Try.underlying43 rfl ss43 (by rw [HL.out]; omega))
  (try simp only [Act.put, List.setIfInBounds_toArray, List.set_cons_zero, List.set_cons_succ])
  refine wpAnyH_take (i := 2) (oi := { dst := some 7, op := Op.move (Operand.tmp 1), type := 3, pos := "count.go:53", after := #[], guard := none }) (v := .int .i64 6000) rfl (by kernel_rfl) (by kernel_rfl) (by kernel_rfl) (fun _ _ _ h => h) (Or.inl ⟨by rfl, ?_⟩) hH ?_
  · intro w' hSw
    go_simp
    try with_reducible rfl
  (try simp only [Act.put, List.setIfInBounds_toArray, List.set_cons_zero, List.set_cons_succ])
  refine wpAnyH_take (i := 4) (oi := { dst := some 9, op := Op.fieldAddr 49 (Operand.tmp 2) 4, type := 0, pos := "count.go:53", after := #[], guard := none }) (v := .pointer (some ⟨w.heap.size, 68, none⟩)) rfl (by kernel_rfl) (by kernel_rfl) (by kernel_rfl) (fun _ _ _ h => h) (Or.inl ⟨by rfl, ?_⟩) hH ?_
  · intro w' hSw
    go_simp
    try with_reducible rfl
  (try simp only [Act.put, List.setIfInBounds_toArray, List.set_cons_zero, List.set_cons_succ])
  refine wpAnyH_take (i := 5) (oi := { dst := some 10, op := Op.load 47 (Operand.tmp 9), type := 47, pos := "count.go:53", after := #[{ on := 4, ground := Ground.data }], guard := none }) (v := .agg ((cs.drop 68).take 1).toArray) rfl (by kernel_rfl) (by kernel_rfl) (by kernel_rfl) (fun _ _ _ h => h) (Or.inl ⟨by rfl, ?_⟩) hH ?_
  · intro w' hSw
    exact exec_load_pt _ _ 47 _ rfl ⟨w.heap.size, 68, none⟩ rfl (load_box (HB.out _ hSw) 47 68 1 _ Try.underlying47 rfl ss47 (by rw [HL.out]; omega))
  (try simp only [Act.put, List.setIfInBounds_toArray, List.set_cons_zero, List.set_cons_succ])
  refine wpAnyH_take (i := 6) (oi := { dst := some 11, op := Op.move (Operand.tmp 1), type := 3, pos := "count.go:53", after := #[], guard := none }) (v := .int .i64 6000) rfl (by kernel_rfl) (by kernel_rfl) (by kernel_rfl) (fun _ _ _ h => h) (Or.inl ⟨by rfl, ?_⟩) hH ?_
  · intro w' hSw
    go_simp
    try with_reducible rfl
  (try simp only [Act.put, List.setIfInBounds_toArray, List.set_cons_zero, List.set_cons_succ])
  refine wpAnyH_ready (rs := [3]) (by kernel_rfl) (by simp) ?_
  refine AllReadyH.cons (o := { dst := some 8, op := Op.call { callee := Callee.value (Operand.func 18), args := #[Operand.tmp 6, Operand.tmp 7], argTypes := #[43, 3] }, type := 3, pos := "count.go:53", after := #[{ on := 1, ground := Ground.data }, { on := 2, ground := Ground.data }], guard := none }) rfl (fun K hK => ?_) AllReadyH.nil
  go_simp
  refine (valueOf_calls w0 _ HR1.out _ (HM0.out.tr ((Mod.refl _ w1).drew))).mono ?_
  rintro e v1 ⟨n1, rfl, n1lo, n1hi, n1R, hm⟩
  have HM1 := Lib.hid (((Mod.refl _ w1).drew).tr hm)
  have HQ1 := Lib.hid n1R; clear n1R
  clear hm
  refine hK.out _ _ HM1.out (fun hH => ?_)
  clear hK K
  (try simp only [Act.put, List.setIfInBounds_toArray, List.set_cons_zero, List.set_cons_succ])
  refine wpAnyH_ready (rs := [7]) (by kernel_rfl) (by simp) ?_
  refine AllReadyH.cons (o := { dst := some 12, op := Op.call { callee := Callee.value (Operand.func 19), args := #[Operand.tmp 10, Operand.tmp 11], argTypes := #[47, 3] }, type := 3, pos := "count.go:53", after := #[{ on := 5, ground := Ground.data }, { on := 6, ground := Ground.data }, { on := 3, ground := Ground.chain }], guard := none }) rfl (fun K hK => ?_) AllReadyH.nil
  go_simp
  refine (termOf_calls w0 _ HR4.out _ (HM0.out.tr HM1.out)).mono ?_
  rintro e v2 ⟨n2, rfl, n2lo, n2hi, n2R, hm⟩
  have HM2 := Lib.hid (HM1.out.tr hm)
  clear n2R
  clear hm
  refine hK.out _ _ HM2.out (fun hH => ?_)
  clear hK K
  (try simp only [Act.put, List.setIfInBounds_toArray, List.set_cons_zero, List.set_cons_succ])
  refine wpAnyH_take (i := 8) (oi := { dst := some 13, op := Op.binOp BinOp.add 3 (Operand.tmp 8) (Operand.tmp 12) 3, type := 3, pos := "count.go:53", after := #[{ on := 3, ground := Ground.data }, { on := 7, ground := Ground.data }], guard := none }) (v := .int .i64 (n1 + n2)) rfl (by kernel_rfl) (by kernel_rfl) (by kernel_rfl) (fun _ _ _ h => h) (Or.inl ⟨by rfl, ?_⟩) hH ?_
  · intro w' hSw
    go_simp
    first | exact wrap_i64 (by omega) (by omega) | with_reducible rfl
  (try simp only [Act.put, List.setIfInBounds_toArray, List.set_cons_zero, List.set_cons_succ])
  refine wpAnyH_take (i := 9) (oi := { dst := some 4, op := Op.assign (Operand.tmp 13), type := 3, pos := "count.go:53", after := #[{ on := 8, ground := Ground.data }, { on := 7, ground := Ground.chain }, { on := 0, ground := Ground.phase }, { on := 1, ground := Ground.phase }, { on := 2, ground := Ground.phase }, { on := 3, ground := Ground.phase }, { on := 4, ground := Ground.phase }, { on := 5, ground := Ground.phase }, { on := 6, ground := Ground.phase }, { on := 7, ground := Ground.phase }, { on := 8, ground := Ground.phase }], guard := none }) (v := .int .i64 (n1 + n2)) rfl (by kernel_rfl) (by kernel_rfl) (by kernel_rfl) (fun _ _ _ h => h) (Or.inl ⟨by rfl, ?_⟩) hH ?_
  · intro w' hSw
    go_simp
    try with_reducible rfl
  (try simp only [Act.put, List.setIfInBounds_toArray, List.set_cons_zero, List.set_cons_succ])
  refine wpAnyH_done (by kernel_rfl) ?_ _
  go_wp2_with fail
  go_ret
  refine ⟨n1 + n2, rfl, by omega, by omega, fun q a' l' c' e => ?_, HM.out.tr HM2.out⟩
  have := HQ1.out (by omega) a' l' c' (by rw [List.getElem?_take, if_pos (by omega), List.getElem?_drop]; exact e)
  omega
end Go.Proofs.Ytckcamlicgdklaa
