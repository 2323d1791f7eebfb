/- slices.Equal at totals. PRINTED BY A PROGRAM OF MY OWN. -/
import Derived.Test.YtckcamlicgdklaaTpU
namespace Go.Proofs.Ytckcamlicgdklaa
open Go.RowKit Go.Mo Go.Sort

set_option maxRecDepth 100000 in
set_option maxHeartbeats 4000000 in
theorem equal_calls (w : World) (v1 v2 : Value) (d1 d2 : List (Nm × Int)) (h1 : TotsAt w v1 d1) (h2 : TotsAt w v2 d2) :
    Calls Try.prog 29 #[v1, v2] w fun e w' => e = .returned (.bool (decide (d1.map tN = d2.map tN))) ∧ Mod (fun _ => False) w w' := by
  obtain ⟨a1, c1, rfl, _, hl1, h1⟩ := h1
  obtain ⟨a2, c2, rfl, _, hl2, h2⟩ := h2
  have HE := Lib.hid (And.intro h1 h2)
  clear h1 h2
  by_cases hlen : d1.length = d2.length
  · have hb : ((d1.length : Int) != (d2.length : Int)) = false := by simp [hlen]
    have HLEN := Lib.hid hlen
    clear hlen
    go_enter Try.func29, Try.ntmps29
    go_wp2_with fail
    go_loopw [13] (fun i wr => ∃ k : Nat, k ≤ d1.length ∧ i = .int .i64 k ∧ (d1.take k).map tN = (d2.take k).map tN ∧ Mod (fun _ => False) w wr) (fun i _ => d1.length - (intOf i).toNat)
    case atStart => exact ⟨0, by omega, rfl, rfl, Mod.refl _ w⟩
    case round =>
      obtain ⟨k, hk, rfl, heq, hm⟩ := hrel
      by_cases hlt : k < d1.length
      · obtain ⟨x, hx⟩ : ∃ x, d1[k]? = some x := ⟨_, List.getElem?_eq_getElem hlt⟩
        have hlt2 : k < d2.length := by have := HLEN.out; omega
        obtain ⟨y, hy⟩ : ∃ y, d2[k]? = some y := ⟨_, List.getElem?_eq_getElem hlt2⟩
        obtain ⟨L1, o1, rfl, hL1, hc1⟩ := HE.out.1 k x hx
        obtain ⟨L2, o2, rfl, hL2, hc2⟩ := HE.out.2 k y hy
        have HC := Lib.hid (And.intro (fun (W : World) (hW : Mod (fun _ => False) w W) => load88_at (fun j u hu => (hW.cell (p := ⟨L1, _, none⟩) hL1 (fun q => q)).trans (hc1 j u hu))) (fun (W : World) (hW : Mod (fun _ => False) w W) => load88_at (fun j u hu => (hW.cell (p := ⟨L2, _, none⟩) hL2 (fun q => q)).trans (hc2 j u hu))))
        have HX := Lib.hid (And.intro hx (And.intro hy heq))
        have HM := Lib.hid hm
        clear hc1 hc2 hx hy heq hm
        go_upto_region 6 with fail
        refine wp_region_held_drew (S := fun W => Mod (fun _ => False) w W) (by kernel_rfl) HM.out.drew (fun hH => ?_)
        refine wpAnyH_take (i := 0) (oi := { dst := some 16, op := Op.move (Operand.tmp 0), type := 33, pos := "slices.go:25", after := #[], guard := none }) (v := .slice (some ⟨L1, o1, none⟩) d1.length c1) rfl (by kernel_rfl) (by kernel_rfl) (by kernel_rfl) (fun _ _ _ h => h) (Or.inl ⟨by rfl, ?_⟩) hH ?_
        · intro w' hSw
          go_simp
          try with_reducible rfl
        (try simp only [Act.put, List.setIfInBounds_toArray, List.set_cons_zero, List.set_cons_succ])
        refine wpAnyH_take (i := 1) (oi := { dst := some 17, op := Op.move (Operand.tmp 5), type := 3, pos := "slices.go:25", after := #[], guard := none }) (v := .int .i64 k) rfl (by kernel_rfl) (by kernel_rfl) (by kernel_rfl) (fun _ _ _ h => h) (Or.inl ⟨by rfl, ?_⟩) hH ?_
        · intro w' hSw
          go_simp
          try with_reducible rfl
        (try simp only [Act.put, List.setIfInBounds_toArray, List.set_cons_zero, List.set_cons_succ])
        refine wpAnyH_take (i := 2) (oi := { dst := some 18, op := Op.indexAddr 33 (Operand.tmp 16) (Operand.tmp 17), type := 0, pos := "slices.go:25", after := #[{ on := 0, ground := Ground.data }, { on := 1, ground := Ground.data }], guard := none }) (v := .pointer (some ⟨L1, o1 + k * 35, none⟩)) rfl (by kernel_rfl) (by kernel_rfl) (by kernel_rfl) (fun _ _ _ h => h) (Or.inl ⟨by rfl, ?_⟩) hH ?_
        · intro w' hSw
          go_simp
          try with_reducible rfl
        (try simp only [Act.put, List.setIfInBounds_toArray, List.set_cons_zero, List.set_cons_succ])
        refine wpAnyH_take (i := 3) (oi := { dst := some 19, op := Op.load 88 (Operand.tmp 18), type := 88, pos := "slices.go:25", after := #[{ on := 2, ground := Ground.data }], guard := none }) (v := .agg (totCells x).toArray) rfl (by kernel_rfl) (by kernel_rfl) (by kernel_rfl) (fun _ _ _ h => h) (Or.inl ⟨by rfl, ?_⟩) hH ?_
        · intro w' hSw
          exact exec_load_at _ _ 88 _ rfl ⟨L1, o1 + k * 35, none⟩ rfl (HC.out.1 _ hSw)
        (try simp only [Act.put, List.setIfInBounds_toArray, List.set_cons_zero, List.set_cons_succ])
        refine wpAnyH_take (i := 4) (oi := { dst := some 20, op := Op.move (Operand.tmp 1), type := 33, pos := "slices.go:25", after := #[], guard := none }) (v := .slice (some ⟨L2, o2, none⟩) d2.length c2) rfl (by kernel_rfl) (by kernel_rfl) (by kernel_rfl) (fun _ _ _ h => h) (Or.inl ⟨by rfl, ?_⟩) hH ?_
        · intro w' hSw
          go_simp
          try with_reducible rfl
        (try simp only [Act.put, List.setIfInBounds_toArray, List.set_cons_zero, List.set_cons_succ])
        refine wpAnyH_take (i := 5) (oi := { dst := some 21, op := Op.move (Operand.tmp 5), type := 3, pos := "slices.go:25", after := #[], guard := none }) (v := .int .i64 k) rfl (by kernel_rfl) (by kernel_rfl) (by kernel_rfl) (fun _ _ _ h => h) (Or.inl ⟨by rfl, ?_⟩) hH ?_
        · intro w' hSw
          go_simp
          try with_reducible rfl
        (try simp only [Act.put, List.setIfInBounds_toArray, List.set_cons_zero, List.set_cons_succ])
        refine wpAnyH_take (i := 6) (oi := { dst := some 22, op := Op.indexAddr 33 (Operand.tmp 20) (Operand.tmp 21), type := 0, pos := "slices.go:25", after := #[{ on := 4, ground := Ground.data }, { on := 5, ground := Ground.data }], guard := none }) (v := .pointer (some ⟨L2, o2 + k * 35, none⟩)) rfl (by kernel_rfl) (by kernel_rfl) (by kernel_rfl) (fun _ _ _ h => h) (Or.inl ⟨by rfl, ?_⟩) hH ?_
        · intro w' hSw
          go_simp
          try with_reducible rfl
        (try simp only [Act.put, List.setIfInBounds_toArray, List.set_cons_zero, List.set_cons_succ])
        refine wpAnyH_take (i := 7) (oi := { dst := some 23, op := Op.load 88 (Operand.tmp 22), type := 88, pos := "slices.go:25", after := #[{ on := 6, ground := Ground.data }], guard := none }) (v := .agg (totCells y).toArray) rfl (by kernel_rfl) (by kernel_rfl) (by kernel_rfl) (fun _ _ _ h => h) (Or.inl ⟨by rfl, ?_⟩) hH ?_
        · intro w' hSw
          exact exec_load_at _ _ 88 _ rfl ⟨L2, o2 + k * 35, none⟩ rfl (HC.out.2 _ hSw)
        (try simp only [Act.put, List.setIfInBounds_toArray, List.set_cons_zero, List.set_cons_succ])
        refine wpAnyH_take (i := 8) (oi := { dst := some 24, op := Op.binOp BinOp.neq 88 (Operand.tmp 19) (Operand.tmp 23) 88, type := 4, pos := "slices.go:25", after := #[{ on := 3, ground := Ground.data }, { on := 7, ground := Ground.data }], guard := none }) (v := .bool (!decide (tN x = tN y))) rfl (by kernel_rfl) (by kernel_rfl) (by kernel_rfl) (fun _ _ _ h => h) (Or.inl ⟨by rfl, ?_⟩) hH ?_
        · intro w' hSw
          exact exec_neq88 _ _ rfl x y rfl rfl
        (try simp only [Act.put, List.setIfInBounds_toArray, List.set_cons_zero, List.set_cons_succ])
        refine wpAnyH_done (by kernel_rfl) ?_ _
        by_cases hxy : tN x = tN y
        · have e : (!decide (tN x = tN y)) = false := by simp [hxy]
          rw [e]
          have HXY := Lib.hid hxy
          clear e hxy
          go_wp2_with fail
          go_roundw
          case rel => exact ⟨k + 1, by omega, by simp, map_take_succ HX.out.1 HX.out.2.1 HX.out.2.2 HXY.out, HM.out.drew⟩
          case measure => simp [intOf]; omega
        · have e : (!decide (tN x = tN y)) = true := by simp [hxy]
          rw [e]
          have HXY := Lib.hid (map_ne HX.out.1 HX.out.2.1 hxy)
          clear e hxy
          go_wp2_with fail
          go_ret
          exact ⟨by rw [decide_eq_false HXY.out]; rfl, HM.out.drew⟩
      · have e : k = d1.length := by omega
        subst e
        rw [List.take_length, HLEN.out, List.take_length] at heq
        have HQ := Lib.hid heq
        have HM := Lib.hid hm
        clear heq hm
        go_wp2_with fail
        go_ret
        exact ⟨by rw [decide_eq_true HQ.out]; rfl, HM.out⟩
  · have hb : ((d1.length : Int) != (d2.length : Int)) = true := by simp; omega
    have hne : ¬ d1.map tN = d2.map tN := fun h => by
      have := congrArg List.length h
      simp at this
      exact hlen this
    have HN := Lib.hid hne
    clear hne hlen
    go_enter Try.func29, Try.ntmps29
    go_wp2_with fail
    go_ret
    exact ⟨by rw [decide_eq_false HN.out]; rfl, Mod.refl _ w⟩
end Go.Proofs.Ytckcamlicgdklaa
