/- EntriesOf, BodyOf, DiffOf: counts. PRINTED BY A PROGRAM OF MY OWN. -/
import Derived.Test.YtckcamlicgdklaaCnC
namespace Go.Proofs.Ytckcamlicgdklaa
open Go.RowKit Go.Mo

/-- The lengths of some entries' assets, one by one. -/
def LensOf (w : World) (a : Option Addr) (len : Nat) (ms : List Nat) : Prop := ms.length = len ∧ ∀ i m, ms[i]? = some m → ∀ L off, a = some ⟨L, off, none⟩ → ∃ a2 c2, w.cell? ⟨L, off + i * 102 + 67, none⟩ = some (.slice a2 m c2)
set_option maxRecDepth 100000 in
theorem entriesOf_calls (w0 : World) (v : Value) (h : Rd w0 28 [v]) (w : World) (hm : Mod (fun _ => False) w0 w) : Calls Try.prog 30 #[v, .int .i64 6000] w fun e w' => Cnt w 50000000000000 (fun n => n ≤ 6000 → ∀ (a : Option Addr) (len c : Nat), v = .slice a len c → (len : Int) ≤ n ∧ ∀ ms, LensOf w0 a len ms → ((ms.sum : Nat) : Int) ≤ n) e w' := by
  obtain ⟨a, len, cap, rfl, hb, _, hel⟩ := h.slice Try.underlying28 cc51 (by omega)
  have hlen := len_of_bytes hb bb51
  have HE := Lib.hid hel
  have HM := Lib.hid hm
  clear hel hm hb h
  go_enter Try.func30, Try.ntmps30
  go_wp2_with fail
  go_loopw [5, 6] (fun n i wr => ∃ (k : Nat) (z : Int), k ≤ len ∧ i = .int .i64 k ∧ n = .int .i64 z ∧ k ≤ z ∧ z ≤ 50000000000000 ∧ (z ≤ 6000 → ∀ ms, LensOf w0 a len ms → (((ms.take k).sum : Nat) : Int) ≤ z) ∧ Mod (fun _ => False) w wr) (fun _ i _ => len - (intOf i).toNat)
  case atStart => exact ⟨0, 0, by omega, rfl, rfl, by omega, by omega, fun _ ms _ => by simp, Mod.refl _ w⟩
  case round =>
    obtain ⟨k, z, hk, rfl, rfl, hz0, hz1, hms, hmr⟩ := hrel
    have HS := Lib.hid hms
    clear hms
    by_cases hlt : k < len
    · by_cases hz : z ≤ 6000
      · obtain ⟨L, off, ds, rfl, hL, hcl, hrd, hcs⟩ := HE.out k hlt
        have hld := load_mid (p := off + k * 102) (fun j u hu => (hmr.cell (p := ⟨L, _, none⟩) (Nat.lt_of_lt_of_le hL HM.out.size) (fun q => q)).trans ((HM.out.cell (p := ⟨L, _, none⟩) hL (fun q => q)).trans (hcs j u hu))) 49 33 69 _ Try.underlying49 rfl ss49 (by omega)
        have HCC := Lib.hid (outputOf_calls w0 _ (hrd.fieldAt Try.underlying51 1 rfl 49 33 69 rfl rfl cc49) wr (HM.out.tr hmr))
        obtain ⟨u, hu, hru⟩ := (hrd.fieldAt Try.underlying51 1 rfl 49 33 69 rfl rfl cc49).fieldAt Try.underlying49 1 rfl 43 33 2 rfl rfl cc43 |>.cellAt Try.underlying43 1 rfl 41 1 rfl rfl cc41 cc43 (by omega)
        have hu2 := sub_get hu
        have HU := Lib.hid (And.intro hu2 (hcs 67 u (sub_get hu2)))
        have HLD := Lib.hid hld
        have hMR := Lib.hid hmr
        clear hmr hcs hrd hld hu hru hu2
        go_wp2_with (refine wpList_exec rfl (exec_load_pt _ _ 49 _ rfl ⟨L, off + k * 102 + 33, none⟩ rfl HLD.out) ?_)
        refine HCC.out.mono ?_
        rintro e w9 ⟨m, rfl, hm0, hm1, hmR, hmw⟩
        have hM9 := Lib.hid (hMR.out.tr hmw)
        have HR := Lib.hid hmR
        clear hmw hmR
        go_wp2_with fail
        go_roundw
        case rel =>
          refine ⟨k + 1, z + 1 + m, by omega, rfl, rfl, by omega, by omega, fun q ms hl => ?_, hM9.out⟩
          have h1 := HS.out hz ms hl
          have hki : k < ms.length := by rw [hl.1]; exact hlt
          obtain ⟨a2, c2, h2⟩ := hl.2 k ms[k] (List.getElem?_eq_getElem hki) L off rfl
          rw [h2] at HU
          have h3 := HU.out.2
          simp only [Option.some.injEq] at h3
          have h4 := HU.out.1
          rw [← h3] at h4
          have h5 := HR.out (by omega) a2 ms[k] c2 h4
          rw [List.take_add_one, List.getElem?_eq_getElem hki]
          simp only [Option.toList_some, List.sum_append, List.sum_cons, List.sum_nil]
          omega
        case measure => simp [intOf]; omega
      · have hMR := Lib.hid hmr
        clear hmr
        go_wp2_with fail
        go_ret
        exact ⟨z, rfl, by omega, by omega, fun q => by omega, hMR.out⟩
    · have e : k = len := by omega
      subst e
      have hMR := Lib.hid hmr
      clear hmr
      go_wp2_with fail
      go_ret
      refine ⟨z, rfl, by omega, by omega, fun q a' l' c' e => ?_, hMR.out⟩
      simp only [Value.slice.injEq] at e
      obtain ⟨rfl, rfl, rfl⟩ := e
      refine ⟨hz0, fun ms hl => ?_⟩
      have h1 := HS.out q ms hl
      rw [List.take_of_length_le (by rw [hl.1]; exact Nat.le_refl _)] at h1
      exact h1
set_option maxRecDepth 100000 in
theorem bodyOf_calls (w0 : World) (cs : List Value) (h : Rd w0 121 cs) (w : World) (hm : Mod (fun _ => False) w0 w) : Calls Try.prog 46 #[.agg cs.toArray, .int .i64 6000] w fun e w' => Cnt w 500000000000000 (fun _ => True) e w' := by
  have hl := h.len Try.underlying121
  rw [cc121] at hl
  obtain ⟨v0, hv0, hr0⟩ := h.cellAt Try.underlying121 0 rfl 119 0 rfl rfl cc119 cc121 (by omega)
  obtain ⟨a0, l0, c0, rfl, hb0, _, hel0⟩ := id (hr0.slice Try.underlying119 cc38 (by omega))
  have hl0 := len_of_bytes hb0 bb38
  have HR0 := Lib.hid hr0
  have HC0 := Lib.hid hv0
  have HE0 := Lib.hid hel0
  clear hv0 hr0 hb0 hel0
  obtain ⟨v1, hv1, hr1⟩ := h.cellAt Try.underlying121 1 rfl 119 1 rfl rfl cc119 cc121 (by omega)
  obtain ⟨a1, l1, c1, rfl, hb1, _, hel1⟩ := id (hr1.slice Try.underlying119 cc38 (by omega))
  have hl1 := len_of_bytes hb1 bb38
  have HR1 := Lib.hid hr1
  have HC1 := Lib.hid hv1
  have HE1 := Lib.hid hel1
  clear hv1 hr1 hb1 hel1
  obtain ⟨v2, hv2, hr2⟩ := h.cellAt Try.underlying121 2 rfl 70 2 rfl rfl cc70 cc121 (by omega)
  obtain ⟨a2, l2, c2, rfl, hb2, _, hel2⟩ := id (hr2.slice Try.underlying70 cc49 (by omega))
  have hl2 := len_of_bytes hb2 bb49
  have HR2 := Lib.hid hr2
  have HC2 := Lib.hid hv2
  have HE2 := Lib.hid hel2
  clear hv2 hr2 hb2 hel2
  obtain ⟨v3, hv3, hr3⟩ := h.cellAt Try.underlying121 3 rfl 70 3 rfl rfl cc70 cc121 (by omega)
  obtain ⟨a3, l3, c3, rfl, hb3, _, hel3⟩ := id (hr3.slice Try.underlying70 cc49 (by omega))
  have hl3 := len_of_bytes hb3 bb49
  have HR3 := Lib.hid hr3
  have HC3 := Lib.hid hv3
  have HE3 := Lib.hid hel3
  clear hv3 hr3 hb3 hel3
  obtain ⟨v7, hv7, hr7⟩ := h.cellAt Try.underlying121 7 rfl 41 7 rfl rfl cc41 cc121 (by omega)
  obtain ⟨a7, l7, c7, rfl, hb7, _, hel7⟩ := id (hr7.slice Try.underlying41 Try.c97 (by omega))
  have hl7 := len_of_bytes hb7 Try.b97
  have HR7 := Lib.hid hr7
  have HC7 := Lib.hid hv7
  have HE7 := Lib.hid hel7
  clear hv7 hr7 hb7 hel7
  obtain ⟨w1, hw1⟩ : ∃ w1, w.alloc (.cells cs.toArray 121) = w1 := ⟨_, rfl⟩
  have hb : w1.heap[w.heap.size]? = some (.cells cs.toArray 121 (0, 0)) := by rw [← hw1]; exact newB w _
  have hm1 : Mod (fun _ => False) w w1 := by rw [← hw1]; exact (Mod.refl _ w).alloc _
  have HB := Lib.hid (fun (W : World) (hW : Mod (fun _ => False) w1 W) => (hW.block _ (ltB hb) (fun q => q)).trans hb)
  have HM := Lib.hid hm1
  have HM0 := Lib.hid (hm.tr hm1)
  have HL := Lib.hid hl
  clear hb h hm1 hm hl
  go_enter Try.func46, Try.ntmps46
  go_upto_region 1 with fail
  refine wp_region_held_drew (S := fun W => Mod (fun _ => False) w1 W) (by kernel_rfl) ((Mod.refl _ w1).drew) (fun hH => ?_)
  refine wpAnyH_take (i := 0) (oi := { dst := some 5, op := Op.fieldAddr 121 (Operand.tmp 2) 0, type := 0, pos := "count.go:90", after := #[], guard := none }) (v := .pointer (some ⟨w.heap.size, 0, none⟩)) rfl (by kernel_rfl) (by kernel_rfl) (by kernel_rfl) (fun _ _ _ h => h) (Or.inl ⟨by rfl, ?_⟩) hH ?_
  · intro w' hSw
    go_simp
    try with_reducible rfl
  (try simp only [Act.put, List.setIfInBounds_toArray, List.set_cons_zero, List.set_cons_succ])
  refine wpAnyH_take (i := 1) (oi := { dst := some 6, op := Op.load 119 (Operand.tmp 5), type := 119, pos := "count.go:90", after := #[{ on := 0, ground := Ground.data }], guard := none }) (v := .slice a0 l0 c0) rfl (by kernel_rfl) (by kernel_rfl) (by kernel_rfl) (fun _ _ _ h => h) (Or.inl ⟨by rfl, ?_⟩) hH ?_
  · intro w' hSw
    have s : w'.cell? ⟨w.heap.size, 0, none⟩ = some (.slice a0 l0 c0) := (cellB (HB.out _ hSw) 0).trans (by rw [List.getElem?_toArray]; exact HC0.out)
    go_simp
    try with_reducible rfl
  (try simp only [Act.put, List.setIfInBounds_toArray, List.set_cons_zero, List.set_cons_succ])
  refine wpAnyH_take (i := 2) (oi := { dst := some 7, op := Op.call { callee := Callee.builtin Builtin.len, args := #[Operand.tmp 6], argTypes := #[119] }, type := 3, pos := "count.go:90", after := #[{ on := 1, ground := Ground.data }], guard := none }) (v := .int .i64 l0) rfl (by kernel_rfl) (by kernel_rfl) (by kernel_rfl) (fun _ _ _ h => h) (Or.inl ⟨by rfl, ?_⟩) hH ?_
  · intro w' hSw
    go_simp
    try with_reducible rfl
  (try simp only [Act.put, List.setIfInBounds_toArray, List.set_cons_zero, List.set_cons_succ])
  refine wpAnyH_take (i := 3) (oi := { dst := some 8, op := Op.binOp BinOp.add 3 (Operand.const (Value.int IntKind.i64 1)) (Operand.tmp 7) 3, type := 3, pos := "count.go:90", after := #[{ on := 2, ground := Ground.data }], guard := none }) (v := .int .i64 (1 + l0)) rfl (by kernel_rfl) (by kernel_rfl) (by kernel_rfl) (fun _ _ _ h => h) (Or.inl ⟨by rfl, ?_⟩) hH ?_
  · intro w' hSw
    go_simp
    first | exact wrap_i64 (by omega) (by omega) | with_reducible rfl
  (try simp only [Act.put, List.setIfInBounds_toArray, List.set_cons_zero, List.set_cons_succ])
  refine wpAnyH_take (i := 4) (oi := { dst := some 9, op := Op.fieldAddr 121 (Operand.tmp 2) 1, type := 0, pos := "count.go:90", after := #[], guard := none }) (v := .pointer (some ⟨w.heap.size, 1, none⟩)) rfl (by kernel_rfl) (by kernel_rfl) (by kernel_rfl) (fun _ _ _ h => h) (Or.inl ⟨by rfl, ?_⟩) hH ?_
  · intro w' hSw
    go_simp
    try with_reducible rfl
  (try simp only [Act.put, List.setIfInBounds_toArray, List.set_cons_zero, List.set_cons_succ])
  refine wpAnyH_take (i := 5) (oi := { dst := some 10, op := Op.load 119 (Operand.tmp 9), type := 119, pos := "count.go:90", after := #[{ on := 4, ground := Ground.data }], guard := none }) (v := .slice a1 l1 c1) rfl (by kernel_rfl) (by kernel_rfl) (by kernel_rfl) (fun _ _ _ h => h) (Or.inl ⟨by rfl, ?_⟩) hH ?_
  · intro w' hSw
    have s : w'.cell? ⟨w.heap.size, 1, none⟩ = some (.slice a1 l1 c1) := (cellB (HB.out _ hSw) 1).trans (by rw [List.getElem?_toArray]; exact HC1.out)
    go_simp
    try with_reducible rfl
  (try simp only [Act.put, List.setIfInBounds_toArray, List.set_cons_zero, List.set_cons_succ])
  refine wpAnyH_take (i := 6) (oi := { dst := some 11, op := Op.call { callee := Callee.builtin Builtin.len, args := #[Operand.tmp 10], argTypes := #[119] }, type := 3, pos := "count.go:90", after := #[{ on := 5, ground := Ground.data }], guard := none }) (v := .int .i64 l1) rfl (by kernel_rfl) (by kernel_rfl) (by kernel_rfl) (fun _ _ _ h => h) (Or.inl ⟨by rfl, ?_⟩) hH ?_
  · intro w' hSw
    go_simp
    try with_reducible rfl
  (try simp only [Act.put, List.setIfInBounds_toArray, List.set_cons_zero, List.set_cons_succ])
  refine wpAnyH_take (i := 7) (oi := { dst := some 12, op := Op.binOp BinOp.add 3 (Operand.tmp 8) (Operand.tmp 11) 3, type := 3, pos := "count.go:90", after := #[{ on := 3, ground := Ground.data }, { on := 6, ground := Ground.data }], guard := none }) (v := .int .i64 ((1 + l0) + l1)) rfl (by kernel_rfl) (by kernel_rfl) (by kernel_rfl) (fun _ _ _ h => h) (Or.inl ⟨by rfl, ?_⟩) hH ?_
  · intro w' hSw
    go_simp
    first | exact wrap_i64 (by omega) (by omega) | with_reducible rfl
  (try simp only [Act.put, List.setIfInBounds_toArray, List.set_cons_zero, List.set_cons_succ])
  refine wpAnyH_take (i := 8) (oi := { dst := some 13, op := Op.fieldAddr 121 (Operand.tmp 2) 2, type := 0, pos := "count.go:90", after := #[], guard := none }) (v := .pointer (some ⟨w.heap.size, 2, none⟩)) rfl (by kernel_rfl) (by kernel_rfl) (by kernel_rfl) (fun _ _ _ h => h) (Or.inl ⟨by rfl, ?_⟩) hH ?_
  · intro w' hSw
    go_simp
    try with_reducible rfl
  (try simp only [Act.put, List.setIfInBounds_toArray, List.set_cons_zero, List.set_cons_succ])
  refine wpAnyH_take (i := 9) (oi := { dst := some 14, op := Op.load 70 (Operand.tmp 13), type := 70, pos := "count.go:90", after := #[{ on := 8, ground := Ground.data }], guard := none }) (v := .slice a2 l2 c2) rfl (by kernel_rfl) (by kernel_rfl) (by kernel_rfl) (fun _ _ _ h => h) (Or.inl ⟨by rfl, ?_⟩) hH ?_
  · intro w' hSw
    have s : w'.cell? ⟨w.heap.size, 2, none⟩ = some (.slice a2 l2 c2) := (cellB (HB.out _ hSw) 2).trans (by rw [List.getElem?_toArray]; exact HC2.out)
    go_simp
    try with_reducible rfl
  (try simp only [Act.put, List.setIfInBounds_toArray, List.set_cons_zero, List.set_cons_succ])
  refine wpAnyH_take (i := 10) (oi := { dst := some 15, op := Op.move (Operand.tmp 1), type := 3, pos := "count.go:90", after := #[], guard := none }) (v := .int .i64 6000) rfl (by kernel_rfl) (by kernel_rfl) (by kernel_rfl) (fun _ _ _ h => h) (Or.inl ⟨by rfl, ?_⟩) hH ?_
  · intro w' hSw
    go_simp
    try with_reducible rfl
  (try simp only [Act.put, List.setIfInBounds_toArray, List.set_cons_zero, List.set_cons_succ])
  refine wpAnyH_take (i := 13) (oi := { dst := some 18, op := Op.fieldAddr 121 (Operand.tmp 2) 3, type := 0, pos := "count.go:90", after := #[], guard := none }) (v := .pointer (some ⟨w.heap.size, 3, none⟩)) rfl (by kernel_rfl) (by kernel_rfl) (by kernel_rfl) (fun _ _ _ h => h) (Or.inl ⟨by rfl, ?_⟩) hH ?_
  · intro w' hSw
    go_simp
    try with_reducible rfl
  (try simp only [Act.put, List.setIfInBounds_toArray, List.set_cons_zero, List.set_cons_succ])
  refine wpAnyH_take (i := 14) (oi := { dst := some 19, op := Op.load 70 (Operand.tmp 18), type := 70, pos := "count.go:90", after := #[{ on := 13, ground := Ground.data }], guard := none }) (v := .slice a3 l3 c3) rfl (by kernel_rfl) (by kernel_rfl) (by kernel_rfl) (fun _ _ _ h => h) (Or.inl ⟨by rfl, ?_⟩) hH ?_
  · intro w' hSw
    have s : w'.cell? ⟨w.heap.size, 3, none⟩ = some (.slice a3 l3 c3) := (cellB (HB.out _ hSw) 3).trans (by rw [List.getElem?_toArray]; exact HC3.out)
    go_simp
    try with_reducible rfl
  (try simp only [Act.put, List.setIfInBounds_toArray, List.set_cons_zero, List.set_cons_succ])
  refine wpAnyH_take (i := 15) (oi := { dst := some 20, op := Op.move (Operand.tmp 1), type := 3, pos := "count.go:90", after := #[], guard := none }) (v := .int .i64 6000) rfl (by kernel_rfl) (by kernel_rfl) (by kernel_rfl) (fun _ _ _ h => h) (Or.inl ⟨by rfl, ?_⟩) hH ?_
  · intro w' hSw
    go_simp
    try with_reducible rfl
  (try simp only [Act.put, List.setIfInBounds_toArray, List.set_cons_zero, List.set_cons_succ])
  refine wpAnyH_take (i := 18) (oi := { dst := some 23, op := Op.fieldAddr 121 (Operand.tmp 2) 7, type := 0, pos := "count.go:90", after := #[], guard := none }) (v := .pointer (some ⟨w.heap.size, 7, none⟩)) rfl (by kernel_rfl) (by kernel_rfl) (by kernel_rfl) (fun _ _ _ h => h) (Or.inl ⟨by rfl, ?_⟩) hH ?_
  · intro w' hSw
    go_simp
    try with_reducible rfl
  (try simp only [Act.put, List.setIfInBounds_toArray, List.set_cons_zero, List.set_cons_succ])
  refine wpAnyH_take (i := 19) (oi := { dst := some 24, op := Op.load 41 (Operand.tmp 23), type := 41, pos := "count.go:90", after := #[{ on := 18, ground := Ground.data }], guard := none }) (v := .slice a7 l7 c7) rfl (by kernel_rfl) (by kernel_rfl) (by kernel_rfl) (fun _ _ _ h => h) (Or.inl ⟨by rfl, ?_⟩) hH ?_
  · intro w' hSw
    have s : w'.cell? ⟨w.heap.size, 7, none⟩ = some (.slice a7 l7 c7) := (cellB (HB.out _ hSw) 7).trans (by rw [List.getElem?_toArray]; exact HC7.out)
    go_simp
    try with_reducible rfl
  (try simp only [Act.put, List.setIfInBounds_toArray, List.set_cons_zero, List.set_cons_succ])
  refine wpAnyH_take (i := 20) (oi := { dst := some 25, op := Op.move (Operand.tmp 1), type := 3, pos := "count.go:90", after := #[], guard := none }) (v := .int .i64 6000) rfl (by kernel_rfl) (by kernel_rfl) (by kernel_rfl) (fun _ _ _ h => h) (Or.inl ⟨by rfl, ?_⟩) hH ?_
  · intro w' hSw
    go_simp
    try with_reducible rfl
  (try simp only [Act.put, List.setIfInBounds_toArray, List.set_cons_zero, List.set_cons_succ])
  refine wpAnyH_ready (rs := [11]) (by kernel_rfl) (by simp) ?_
  refine AllReadyH.cons (o := { dst := some 16, op := Op.call { callee := Callee.value (Operand.func 61), args := #[Operand.tmp 14, Operand.tmp 15], argTypes := #[70, 3] }, type := 3, pos := "count.go:90", after := #[{ on := 9, ground := Ground.data }, { on := 10, ground := Ground.data }], guard := none }) rfl (fun K hK => ?_) AllReadyH.nil
  go_simp
  refine (outputsOf_calls w0 _ HR2.out _ (HM0.out.tr ((Mod.refl _ w1).drew))).mono ?_
  rintro e v1 ⟨n1, rfl, n1lo, n1hi, n1R, hm⟩
  have HM1 := Lib.hid (((Mod.refl _ w1).drew).tr hm)
  clear n1R
  clear hm
  refine hK.out _ _ HM1.out (fun hH => ?_)
  clear hK K
  (try simp only [Act.put, List.setIfInBounds_toArray, List.set_cons_zero, List.set_cons_succ])
  refine wpAnyH_take (i := 12) (oi := { dst := some 17, op := Op.binOp BinOp.add 3 (Operand.tmp 12) (Operand.tmp 16) 3, type := 3, pos := "count.go:90", after := #[{ on := 7, ground := Ground.data }, { on := 11, ground := Ground.data }], guard := none }) (v := .int .i64 (((1 + l0) + l1) + n1)) rfl (by kernel_rfl) (by kernel_rfl) (by kernel_rfl) (fun _ _ _ h => h) (Or.inl ⟨by rfl, ?_⟩) hH ?_
  · intro w' hSw
    go_simp
    first | exact wrap_i64 (by omega) (by omega) | with_reducible rfl
  (try simp only [Act.put, List.setIfInBounds_toArray, List.set_cons_zero, List.set_cons_succ])
  refine wpAnyH_ready (rs := [16]) (by kernel_rfl) (by simp) ?_
  refine AllReadyH.cons (o := { dst := some 21, op := Op.call { callee := Callee.value (Operand.func 61), args := #[Operand.tmp 19, Operand.tmp 20], argTypes := #[70, 3] }, type := 3, pos := "count.go:90", after := #[{ on := 14, ground := Ground.data }, { on := 15, ground := Ground.data }, { on := 11, ground := Ground.chain }], guard := none }) rfl (fun K hK => ?_) AllReadyH.nil
  go_simp
  refine (outputsOf_calls w0 _ HR3.out _ (HM0.out.tr HM1.out)).mono ?_
  rintro e v2 ⟨n2, rfl, n2lo, n2hi, n2R, hm⟩
  have HM2 := Lib.hid (HM1.out.tr hm)
  clear n2R
  clear hm
  refine hK.out _ _ HM2.out (fun hH => ?_)
  clear hK K
  (try simp only [Act.put, List.setIfInBounds_toArray, List.set_cons_zero, List.set_cons_succ])
  refine wpAnyH_take (i := 17) (oi := { dst := some 22, op := Op.binOp BinOp.add 3 (Operand.tmp 17) (Operand.tmp 21) 3, type := 3, pos := "count.go:90", after := #[{ on := 12, ground := Ground.data }, { on := 16, ground := Ground.data }], guard := none }) (v := .int .i64 ((((1 + l0) + l1) + n1) + n2)) rfl (by kernel_rfl) (by kernel_rfl) (by kernel_rfl) (fun _ _ _ h => h) (Or.inl ⟨by rfl, ?_⟩) hH ?_
  · intro w' hSw
    go_simp
    first | exact wrap_i64 (by omega) (by omega) | with_reducible rfl
  (try simp only [Act.put, List.setIfInBounds_toArray, List.set_cons_zero, List.set_cons_succ])
  refine wpAnyH_ready (rs := [21]) (by kernel_rfl) (by simp) ?_
  refine AllReadyH.cons (o := { dst := some 26, op := Op.call { callee := Callee.value (Operand.func 33), args := #[Operand.tmp 24, Operand.tmp 25], argTypes := #[41, 3] }, type := 3, pos := "count.go:90", after := #[{ on := 19, ground := Ground.data }, { on := 20, ground := Ground.data }, { on := 16, ground := Ground.chain }], guard := none }) rfl (fun K hK => ?_) AllReadyH.nil
  go_simp
  refine (assetsOf_calls w0 _ HR7.out _ (HM0.out.tr HM2.out)).mono ?_
  rintro e v3 ⟨n3, rfl, n3lo, n3hi, n3R, hm⟩
  have HM3 := Lib.hid (HM2.out.tr hm)
  clear n3R
  clear hm
  refine hK.out _ _ HM3.out (fun hH => ?_)
  clear hK K
  (try simp only [Act.put, List.setIfInBounds_toArray, List.set_cons_zero, List.set_cons_succ])
  refine wpAnyH_take (i := 22) (oi := { dst := some 27, op := Op.binOp BinOp.add 3 (Operand.tmp 22) (Operand.tmp 26) 3, type := 3, pos := "count.go:90", after := #[{ on := 17, ground := Ground.data }, { on := 21, ground := Ground.data }], guard := none }) (v := .int .i64 (((((1 + l0) + l1) + n1) + n2) + n3)) rfl (by kernel_rfl) (by kernel_rfl) (by kernel_rfl) (fun _ _ _ h => h) (Or.inl ⟨by rfl, ?_⟩) hH ?_
  · intro w' hSw
    go_simp
    first | exact wrap_i64 (by omega) (by omega) | with_reducible rfl
  (try simp only [Act.put, List.setIfInBounds_toArray, List.set_cons_zero, List.set_cons_succ])
  refine wpAnyH_take (i := 23) (oi := { dst := some 4, op := Op.assign (Operand.tmp 27), type := 3, pos := "count.go:90", after := #[{ on := 22, ground := Ground.data }, { on := 21, ground := Ground.chain }, { on := 0, ground := Ground.phase }, { on := 1, ground := Ground.phase }, { on := 2, ground := Ground.phase }, { on := 3, ground := Ground.phase }, { on := 4, ground := Ground.phase }, { on := 5, ground := Ground.phase }, { on := 6, ground := Ground.phase }, { on := 7, ground := Ground.phase }, { on := 8, ground := Ground.phase }, { on := 9, ground := Ground.phase }, { on := 10, ground := Ground.phase }, { on := 11, ground := Ground.phase }, { on := 12, ground := Ground.phase }, { on := 13, ground := Ground.phase }, { on := 14, ground := Ground.phase }, { on := 15, ground := Ground.phase }, { on := 16, ground := Ground.phase }, { on := 17, ground := Ground.phase }, { on := 18, ground := Ground.phase }, { on := 19, ground := Ground.phase }, { on := 20, ground := Ground.phase }, { on := 21, ground := Ground.phase }, { on := 22, ground := Ground.phase }], guard := none }) (v := .int .i64 (((((1 + l0) + l1) + n1) + n2) + n3)) rfl (by kernel_rfl) (by kernel_rfl) (by kernel_rfl) (fun _ _ _ h => h) (Or.inl ⟨by rfl, ?_⟩) hH ?_
  · intro w' hSw
    go_simp
    try with_reducible rfl
  (try simp only [Act.put, List.setIfInBounds_toArray, List.set_cons_zero, List.set_cons_succ])
  refine wpAnyH_done (by kernel_rfl) ?_ _
  go_wp2_with fail
  go_ret
  exact ⟨_, rfl, by omega, by omega, trivial, HM.out.tr HM3.out⟩
set_option maxRecDepth 100000 in
theorem diffOf_calls (w0 : World) (cs : List Value) (h : Rd w0 106 cs) (w : World) (hm : Mod (fun _ => False) w0 w) : Calls Try.prog 40 #[.agg cs.toArray, .int .i64 6000] w fun e w' => Cnt w 300000000000000 (fun _ => True) e w' := by
  have hl := h.len Try.underlying106
  rw [cc106] at hl
  obtain ⟨v0, hv0, hr0⟩ := h.cellAt Try.underlying106 0 rfl 28 0 rfl rfl cc28 cc106 (by omega)
  obtain ⟨a0, l0, c0, rfl, hb0, _, hel0⟩ := id (hr0.slice Try.underlying28 cc51 (by omega))
  have hl0 := len_of_bytes hb0 bb51
  have HR0 := Lib.hid hr0
  have HC0 := Lib.hid hv0
  have HE0 := Lib.hid hel0
  clear hv0 hr0 hb0 hel0
  obtain ⟨v1, hv1, hr1⟩ := h.cellAt Try.underlying106 1 rfl 28 1 rfl rfl cc28 cc106 (by omega)
  obtain ⟨a1, l1, c1, rfl, hb1, _, hel1⟩ := id (hr1.slice Try.underlying28 cc51 (by omega))
  have hl1 := len_of_bytes hb1 bb51
  have HR1 := Lib.hid hr1
  have HC1 := Lib.hid hv1
  have HE1 := Lib.hid hel1
  clear hv1 hr1 hb1 hel1
  obtain ⟨v4, hv4, hr4⟩ := h.cellAt Try.underlying106 4 rfl 33 4 rfl rfl cc33 cc106 (by omega)
  obtain ⟨a4, l4, c4, rfl, hb4, _, hel4⟩ := id (hr4.slice Try.underlying33 cc88 (by omega))
  have hl4 := len_of_bytes hb4 bb88
  have HR4 := Lib.hid hr4
  have HC4 := Lib.hid hv4
  have HE4 := Lib.hid hel4
  clear hv4 hr4 hb4 hel4
  obtain ⟨w1, hw1⟩ : ∃ w1, w.alloc (.cells cs.toArray 106) = w1 := ⟨_, rfl⟩
  have hb : w1.heap[w.heap.size]? = some (.cells cs.toArray 106 (0, 0)) := by rw [← hw1]; exact newB w _
  have hm1 : Mod (fun _ => False) w w1 := by rw [← hw1]; exact (Mod.refl _ w).alloc _
  have HB := Lib.hid (fun (W : World) (hW : Mod (fun _ => False) w1 W) => (hW.block _ (ltB hb) (fun q => q)).trans hb)
  have HM := Lib.hid hm1
  have HM0 := Lib.hid (hm.tr hm1)
  have HL := Lib.hid hl
  clear hb h hm1 hm hl
  go_enter Try.func40, Try.ntmps40
  go_upto_region 1 with fail
  refine wp_region_held_drew (S := fun W => Mod (fun _ => False) w1 W) (by kernel_rfl) ((Mod.refl _ w1).drew) (fun hH => ?_)
  refine wpAnyH_take (i := 0) (oi := { dst := some 5, op := Op.fieldAddr 106 (Operand.tmp 2) 0, type := 0, pos := "count.go:124", after := #[], guard := none }) (v := .pointer (some ⟨w.heap.size, 0, none⟩)) rfl (by kernel_rfl) (by kernel_rfl) (by kernel_rfl) (fun _ _ _ h => h) (Or.inl ⟨by rfl, ?_⟩) hH ?_
  · intro w' hSw
    go_simp
    try with_reducible rfl
  (try simp only [Act.put, List.setIfInBounds_toArray, List.set_cons_zero, List.set_cons_succ])
  refine wpAnyH_take (i := 1) (oi := { dst := some 6, op := Op.load 28 (Operand.tmp 5), type := 28, pos := "count.go:124", after := #[{ on := 0, ground := Ground.data }], guard := none }) (v := .slice a0 l0 c0) rfl (by kernel_rfl) (by kernel_rfl) (by kernel_rfl) (fun _ _ _ h => h) (Or.inl ⟨by rfl, ?_⟩) hH ?_
  · intro w' hSw
    have s : w'.cell? ⟨w.heap.size, 0, none⟩ = some (.slice a0 l0 c0) := (cellB (HB.out _ hSw) 0).trans (by rw [List.getElem?_toArray]; exact HC0.out)
    go_simp
    try with_reducible rfl
  (try simp only [Act.put, List.setIfInBounds_toArray, List.set_cons_zero, List.set_cons_succ])
  refine wpAnyH_take (i := 2) (oi := { dst := some 7, op := Op.move (Operand.tmp 1), type := 3, pos := "count.go:124", after := #[], guard := none }) (v := .int .i64 6000) rfl (by kernel_rfl) (by kernel_rfl) (by kernel_rfl) (fun _ _ _ h => h) (Or.inl ⟨by rfl, ?_⟩) hH ?_
  · intro w' hSw
    go_simp
    try with_reducible rfl
  (try simp only [Act.put, List.setIfInBounds_toArray, List.set_cons_zero, List.set_cons_succ])
  refine wpAnyH_take (i := 5) (oi := { dst := some 10, op := Op.fieldAddr 106 (Operand.tmp 2) 1, type := 0, pos := "count.go:124", after := #[], guard := none }) (v := .pointer (some ⟨w.heap.size, 1, none⟩)) rfl (by kernel_rfl) (by kernel_rfl) (by kernel_rfl) (fun _ _ _ h => h) (Or.inl ⟨by rfl, ?_⟩) hH ?_
  · intro w' hSw
    go_simp
    try with_reducible rfl
  (try simp only [Act.put, List.setIfInBounds_toArray, List.set_cons_zero, List.set_cons_succ])
  refine wpAnyH_take (i := 6) (oi := { dst := some 11, op := Op.load 28 (Operand.tmp 10), type := 28, pos := "count.go:124", after := #[{ on := 5, ground := Ground.data }], guard := none }) (v := .slice a1 l1 c1) rfl (by kernel_rfl) (by kernel_rfl) (by kernel_rfl) (fun _ _ _ h => h) (Or.inl ⟨by rfl, ?_⟩) hH ?_
  · intro w' hSw
    have s : w'.cell? ⟨w.heap.size, 1, none⟩ = some (.slice a1 l1 c1) := (cellB (HB.out _ hSw) 1).trans (by rw [List.getElem?_toArray]; exact HC1.out)
    go_simp
    try with_reducible rfl
  (try simp only [Act.put, List.setIfInBounds_toArray, List.set_cons_zero, List.set_cons_succ])
  refine wpAnyH_take (i := 7) (oi := { dst := some 12, op := Op.move (Operand.tmp 1), type := 3, pos := "count.go:124", after := #[], guard := none }) (v := .int .i64 6000) rfl (by kernel_rfl) (by kernel_rfl) (by kernel_rfl) (fun _ _ _ h => h) (Or.inl ⟨by rfl, ?_⟩) hH ?_
  · intro w' hSw
    go_simp
    try with_reducible rfl
  (try simp only [Act.put, List.setIfInBounds_toArray, List.set_cons_zero, List.set_cons_succ])
  refine wpAnyH_take (i := 10) (oi := { dst := some 15, op := Op.fieldAddr 106 (Operand.tmp 2) 4, type := 0, pos := "count.go:124", after := #[], guard := none }) (v := .pointer (some ⟨w.heap.size, 4, none⟩)) rfl (by kernel_rfl) (by kernel_rfl) (by kernel_rfl) (fun _ _ _ h => h) (Or.inl ⟨by rfl, ?_⟩) hH ?_
  · intro w' hSw
    go_simp
    try with_reducible rfl
  (try simp only [Act.put, List.setIfInBounds_toArray, List.set_cons_zero, List.set_cons_succ])
  refine wpAnyH_take (i := 11) (oi := { dst := some 16, op := Op.load 33 (Operand.tmp 15), type := 33, pos := "count.go:124", after := #[{ on := 10, ground := Ground.data }], guard := none }) (v := .slice a4 l4 c4) rfl (by kernel_rfl) (by kernel_rfl) (by kernel_rfl) (fun _ _ _ h => h) (Or.inl ⟨by rfl, ?_⟩) hH ?_
  · intro w' hSw
    have s : w'.cell? ⟨w.heap.size, 4, none⟩ = some (.slice a4 l4 c4) := (cellB (HB.out _ hSw) 4).trans (by rw [List.getElem?_toArray]; exact HC4.out)
    go_simp
    try with_reducible rfl
  (try simp only [Act.put, List.setIfInBounds_toArray, List.set_cons_zero, List.set_cons_succ])
  refine wpAnyH_take (i := 12) (oi := { dst := some 17, op := Op.call { callee := Callee.builtin Builtin.len, args := #[Operand.tmp 16], argTypes := #[33] }, type := 3, pos := "count.go:124", after := #[{ on := 11, ground := Ground.data }], guard := none }) (v := .int .i64 l4) rfl (by kernel_rfl) (by kernel_rfl) (by kernel_rfl) (fun _ _ _ h => h) (Or.inl ⟨by rfl, ?_⟩) hH ?_
  · intro w' hSw
    go_simp
    try with_reducible rfl
  (try simp only [Act.put, List.setIfInBounds_toArray, List.set_cons_zero, List.set_cons_succ])
  refine wpAnyH_ready (rs := [3]) (by kernel_rfl) (by simp) ?_
  refine AllReadyH.cons (o := { dst := some 8, op := Op.call { callee := Callee.value (Operand.func 30), args := #[Operand.tmp 6, Operand.tmp 7], argTypes := #[28, 3] }, type := 3, pos := "count.go:124", after := #[{ on := 1, ground := Ground.data }, { on := 2, ground := Ground.data }], guard := none }) rfl (fun K hK => ?_) AllReadyH.nil
  go_simp
  refine (entriesOf_calls w0 _ HR0.out _ (HM0.out.tr ((Mod.refl _ w1).drew))).mono ?_
  rintro e v1 ⟨n1, rfl, n1lo, n1hi, n1R, hm⟩
  have HM1 := Lib.hid (((Mod.refl _ w1).drew).tr hm)
  clear n1R
  clear hm
  refine hK.out _ _ HM1.out (fun hH => ?_)
  clear hK K
  (try simp only [Act.put, List.setIfInBounds_toArray, List.set_cons_zero, List.set_cons_succ])
  refine wpAnyH_take (i := 4) (oi := { dst := some 9, op := Op.binOp BinOp.add 3 (Operand.const (Value.int IntKind.i64 1)) (Operand.tmp 8) 3, type := 3, pos := "count.go:124", after := #[{ on := 3, ground := Ground.data }], guard := none }) (v := .int .i64 (1 + n1)) rfl (by kernel_rfl) (by kernel_rfl) (by kernel_rfl) (fun _ _ _ h => h) (Or.inl ⟨by rfl, ?_⟩) hH ?_
  · intro w' hSw
    go_simp
    first | exact wrap_i64 (by omega) (by omega) | with_reducible rfl
  (try simp only [Act.put, List.setIfInBounds_toArray, List.set_cons_zero, List.set_cons_succ])
  refine wpAnyH_ready (rs := [8]) (by kernel_rfl) (by simp) ?_
  refine AllReadyH.cons (o := { dst := some 13, op := Op.call { callee := Callee.value (Operand.func 30), args := #[Operand.tmp 11, Operand.tmp 12], argTypes := #[28, 3] }, type := 3, pos := "count.go:124", after := #[{ on := 6, ground := Ground.data }, { on := 7, ground := Ground.data }, { on := 3, ground := Ground.chain }], guard := none }) rfl (fun K hK => ?_) AllReadyH.nil
  go_simp
  refine (entriesOf_calls w0 _ HR1.out _ (HM0.out.tr HM1.out)).mono ?_
  rintro e v2 ⟨n2, rfl, n2lo, n2hi, n2R, hm⟩
  have HM2 := Lib.hid (HM1.out.tr hm)
  clear n2R
  clear hm
  refine hK.out _ _ HM2.out (fun hH => ?_)
  clear hK K
  (try simp only [Act.put, List.setIfInBounds_toArray, List.set_cons_zero, List.set_cons_succ])
  refine wpAnyH_take (i := 9) (oi := { dst := some 14, op := Op.binOp BinOp.add 3 (Operand.tmp 9) (Operand.tmp 13) 3, type := 3, pos := "count.go:124", after := #[{ on := 4, ground := Ground.data }, { on := 8, ground := Ground.data }], guard := none }) (v := .int .i64 ((1 + n1) + n2)) rfl (by kernel_rfl) (by kernel_rfl) (by kernel_rfl) (fun _ _ _ h => h) (Or.inl ⟨by rfl, ?_⟩) hH ?_
  · intro w' hSw
    go_simp
    first | exact wrap_i64 (by omega) (by omega) | with_reducible rfl
  (try simp only [Act.put, List.setIfInBounds_toArray, List.set_cons_zero, List.set_cons_succ])
  refine wpAnyH_take (i := 13) (oi := { dst := some 18, op := Op.binOp BinOp.add 3 (Operand.tmp 14) (Operand.tmp 17) 3, type := 3, pos := "count.go:124", after := #[{ on := 9, ground := Ground.data }, { on := 12, ground := Ground.data }], guard := none }) (v := .int .i64 (((1 + n1) + n2) + l4)) rfl (by kernel_rfl) (by kernel_rfl) (by kernel_rfl) (fun _ _ _ h => h) (Or.inl ⟨by rfl, ?_⟩) hH ?_
  · intro w' hSw
    go_simp
    first | exact wrap_i64 (by omega) (by omega) | with_reducible rfl
  (try simp only [Act.put, List.setIfInBounds_toArray, List.set_cons_zero, List.set_cons_succ])
  refine wpAnyH_take (i := 14) (oi := { dst := some 4, op := Op.assign (Operand.tmp 18), type := 3, pos := "count.go:124", after := #[{ on := 13, ground := Ground.data }, { on := 8, ground := Ground.chain }, { on := 0, ground := Ground.phase }, { on := 1, ground := Ground.phase }, { on := 2, ground := Ground.phase }, { on := 3, ground := Ground.phase }, { on := 4, ground := Ground.phase }, { on := 5, ground := Ground.phase }, { on := 6, ground := Ground.phase }, { on := 7, ground := Ground.phase }, { on := 8, ground := Ground.phase }, { on := 9, ground := Ground.phase }, { on := 10, ground := Ground.phase }, { on := 11, ground := Ground.phase }, { on := 12, ground := Ground.phase }, { on := 13, ground := Ground.phase }], guard := none }) (v := .int .i64 (((1 + n1) + n2) + l4)) rfl (by kernel_rfl) (by kernel_rfl) (by kernel_rfl) (fun _ _ _ h => h) (Or.inl ⟨by rfl, ?_⟩) hH ?_
  · intro w' hSw
    go_simp
    try with_reducible rfl
  (try simp only [Act.put, List.setIfInBounds_toArray, List.set_cons_zero, List.set_cons_succ])
  refine wpAnyH_done (by kernel_rfl) ?_ _
  go_wp2_with fail
  go_ret
  exact ⟨_, rfl, by omega, by omega, trivial, HM.out.tr HM2.out⟩
end Go.Proofs.Ytckcamlicgdklaa
