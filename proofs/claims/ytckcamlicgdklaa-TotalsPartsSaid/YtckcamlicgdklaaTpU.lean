/- SameTotals. PRINTED BY A PROGRAM OF MY OWN. -/
import Derived.Test.YtckcamlicgdklaaTpT
namespace Go.Proofs.Ytckcamlicgdklaa
open Go.RowKit Go.Mo Go.Sort

/-- v is a slice of the totals ds. -/
def TotsAt (w : World) (v : Value) (ds : List (Nm × Int)) : Prop :=
  ∃ a c, v = .slice a ds.length c ∧ (a = none → c = 0) ∧ ds.length ≤ 1000000 ∧ ∀ i x, ds[i]? = some x → ∃ L off, a = some ⟨L, off, none⟩ ∧ L < w.heap.size ∧ ∀ j u, (totCells x)[j]? = some u → w.cell? ⟨L, off + i * 35 + j, none⟩ = some u
theorem TotsAt.tr {w w' : World} {v : Value} {ds : List (Nm × Int)} (h : TotsAt w v ds) (hm : Mod (fun _ => False) w w') : TotsAt w' v ds := by
  obtain ⟨a, c, rfl, hac, hl, h⟩ := h
  refine ⟨a, c, rfl, hac, hl, fun i x hx => ?_⟩
  obtain ⟨L, off, rfl, hL, h2⟩ := h i x hx
  exact ⟨L, off, rfl, Nat.lt_of_lt_of_le hL hm.size, fun j u hu => (hm.cell (p := ⟨L, _, none⟩) hL (fun q => q)).trans (h2 j u hu)⟩
theorem tots_at {w : World} {v : Value} {ds : List (Nm × Int)} (h : w.ownsRow 0 88 35 v ds.length (totsCells ds)) (hl : ds.length ≤ 1000000) : TotsAt w v ds := by
  obtain ⟨_, ⟨rfl, h0⟩ | ⟨g, cap, cur, rfl, _, hg, hc, _, hcs, ht⟩⟩ := h
  · have : ds = [] := List.eq_nil_of_length_eq_zero h0
    subst this
    exact ⟨none, 0, rfl, fun _ => rfl, hl, fun i x hx => by simp at hx⟩
  · refine ⟨some ⟨g, 0, none⟩, cap, rfl, (fun q => by cases q), hl, fun i x hx => ⟨g, 0, rfl, ltB hg, fun j u hu => ?_⟩⟩
    have hi : i < ds.length := (List.getElem?_eq_some_iff.1 hx).1
    have hj : j < 35 := by have := (List.getElem?_eq_some_iff.1 hu).1; rwa [totCells_length] at this
    have hlt : i * 35 + j < ds.length * 35 := by omega
    rw [Nat.zero_add, cellB hg]
    have e := tots_get ds (i * 35 + j) hlt
    rw [← ht, List.getElem?_take, if_pos hlt, Array.getElem?_toList] at e
    rw [e]
    have e1 : (i * 35 + j) / 35 = i := by omega
    have e2 : (i * 35 + j) % 35 = j := by omega
    rw [e1, e2]
    have hx' : ds[i]! = x := by rw [getElem!_pos ds i hi]; exact (List.getElem?_eq_some_iff.1 hx).2
    rw [hx']
    have hjl : j < (totCells x).length := by rw [totCells_length]; exact hj
    rw [getElem!_pos _ j hjl, ← hu, List.getElem?_eq_getElem hjl]
theorem load88_at {w : World} {L o : Nat} {x : Nm × Int} (h : ∀ j u, (totCells x)[j]? = some u → w.cell? ⟨L, o + j, none⟩ = some u) : (loadVar 88 ⟨L, o, none⟩).run Try.prog w = .ok (.agg (totCells x).toArray) w :=
  run_loadVar_mid w L o 88 (totCells x) _ h Try.underlying88 rfl (by obtain ⟨i, hi, _, hs, _⟩ := info_parts info88; rw [hi, totCells_length]; simp [hs])
theorem map_take_succ {d1 d2 : List (Nm × Int)} {k : Nat} {x y : Nm × Int} (hx : d1[k]? = some x) (hy : d2[k]? = some y) (h : (d1.take k).map tN = (d2.take k).map tN) (e : tN x = tN y) : (d1.take (k + 1)).map tN = (d2.take (k + 1)).map tN := by
  rw [List.take_add_one, List.take_add_one, hx, hy, List.map_append, List.map_append, h]
  simp [e]
theorem map_ne {d1 d2 : List (Nm × Int)} {k : Nat} {x y : Nm × Int} (hx : d1[k]? = some x) (hy : d2[k]? = some y) (e : ¬ tN x = tN y) : ¬ d1.map tN = d2.map tN := fun h => by
  have h1 : (d1.map tN)[k]? = some (tN x) := by rw [List.getElem?_map, hx]; rfl
  have h2 : (d2.map tN)[k]? = some (tN y) := by rw [List.getElem?_map, hy]; rfl
  rw [h, h2] at h1
  exact e (Option.some.inj h1).symm
set_option maxRecDepth 100000 in
set_option maxHeartbeats 4000000 in
theorem same_calls (w : World) (v1 v2 : Value) (d1 d2 : List (Nm × Int)) (h1 : TotsAt w v1 d1) (h2 : TotsAt w v2 d2) :
    Calls Try.prog 11 #[v1, v2] w fun e w' => e = .returned (.bool (decide (d1.map tN = d2.map tN))) ∧ Mod (fun _ => False) w w' := by
  obtain ⟨a1, c1, rfl, _, hl1, h1⟩ := h1
  obtain ⟨a2, c2, rfl, _, hl2, h2⟩ := h2
  have HE := Lib.hid (And.intro h1 h2)
  clear h1 h2
  by_cases hlen : d1.length = d2.length
  · have hb : ((d1.length : Int) != (d2.length : Int)) = false := by simp [hlen]
    have HLEN := Lib.hid hlen
    clear hlen
    go_enter Try.func11, Try.ntmps11
    go_wp2_with fail
    go_loopw [5] (fun i wr => ∃ k : Nat, k ≤ d1.length ∧ i = .int .i64 k ∧ (d1.take k).map tN = (d2.take k).map tN ∧ Mod (fun _ => False) w wr) (fun i _ => d1.length - (intOf i).toNat)
    case atStart => exact ⟨0, by omega, rfl, rfl, Mod.refl _ w⟩
    case round =>
      obtain ⟨k, hk, rfl, heq, hm⟩ := hrel
      by_cases hlt : k < d1.length
      · obtain ⟨x, hx⟩ : ∃ x, d1[k]? = some x := ⟨_, List.getElem?_eq_getElem hlt⟩
        have hlt2 : k < d2.length := by have := HLEN.out; omega
        obtain ⟨y, hy⟩ : ∃ y, d2[k]? = some y := ⟨_, List.getElem?_eq_getElem hlt2⟩
        obtain ⟨L1, o1, rfl, hL1, hc1⟩ := HE.out.1 k x hx
        obtain ⟨L2, o2, rfl, hL2, hc2⟩ := HE.out.2 k y hy
        have HC := Lib.hid (And.intro (fun (W : World) (hW : Mod (fun _ => False) w W) => load88_at (fun j u hu => (hW.cell (p := ⟨L1, _, none⟩) hL1 (fun q => q)).trans (hc1 j u hu))) (fun (W : World) (hW : Mod (fun _ => False) w W) => load88_at (fun j u hu => (hW.cell (p := ⟨L2, _, none⟩) hL2 (fun q => q)).trans (hc2 j u hu))))
        have HX := Lib.hid (And.intro hx (And.intro hy heq))
        have HM := Lib.hid hm
        clear hc1 hc2 hx hy heq hm
        go_upto_region 6 with fail
        refine wp_region_held_drew (S := fun W => Mod (fun _ => False) w W) (by kernel_rfl) HM.out.drew (fun hH => ?_)
        refine wpAnyH_take (i := 0) (oi := { dst := some 17, op := Op.move (Operand.tmp 0), type := 33, pos := "same.go:706", after := #[], guard := none }) (v := .slice (some ⟨L1, o1, none⟩) d1.length c1) rfl (by kernel_rfl) (by kernel_rfl) (by kernel_rfl) (fun _ _ _ h => h) (Or.inl ⟨by rfl, ?_⟩) hH ?_
        · intro w' hSw
          go_simp
          try with_reducible rfl
        (try simp only [Act.put, List.setIfInBounds_toArray, List.set_cons_zero, List.set_cons_succ])
        refine wpAnyH_take (i := 1) (oi := { dst := some 18, op := Op.move (Operand.tmp 5), type := 3, pos := "same.go:706", after := #[], guard := none }) (v := .int .i64 k) rfl (by kernel_rfl) (by kernel_rfl) (by kernel_rfl) (fun _ _ _ h => h) (Or.inl ⟨by rfl, ?_⟩) hH ?_
        · intro w' hSw
          go_simp
          try with_reducible rfl
        (try simp only [Act.put, List.setIfInBounds_toArray, List.set_cons_zero, List.set_cons_succ])
        refine wpAnyH_take (i := 2) (oi := { dst := some 19, op := Op.indexAddr 33 (Operand.tmp 17) (Operand.tmp 18), type := 0, pos := "same.go:706", after := #[{ on := 0, ground := Ground.data }, { on := 1, ground := Ground.data }], guard := none }) (v := .pointer (some ⟨L1, o1 + k * 35, none⟩)) rfl (by kernel_rfl) (by kernel_rfl) (by kernel_rfl) (fun _ _ _ h => h) (Or.inl ⟨by rfl, ?_⟩) hH ?_
        · intro w' hSw
          go_simp
          try with_reducible rfl
        (try simp only [Act.put, List.setIfInBounds_toArray, List.set_cons_zero, List.set_cons_succ])
        refine wpAnyH_take (i := 3) (oi := { dst := some 20, op := Op.load 88 (Operand.tmp 19), type := 88, pos := "same.go:706", after := #[{ on := 2, ground := Ground.data }], guard := none }) (v := .agg (totCells x).toArray) rfl (by kernel_rfl) (by kernel_rfl) (by kernel_rfl) (fun _ _ _ h => h) (Or.inl ⟨by rfl, ?_⟩) hH ?_
        · intro w' hSw
          exact exec_load_at _ _ 88 _ rfl ⟨L1, o1 + k * 35, none⟩ rfl (HC.out.1 _ hSw)
        (try simp only [Act.put, List.setIfInBounds_toArray, List.set_cons_zero, List.set_cons_succ])
        refine wpAnyH_take (i := 4) (oi := { dst := some 21, op := Op.move (Operand.tmp 1), type := 33, pos := "same.go:706", after := #[], guard := none }) (v := .slice (some ⟨L2, o2, none⟩) d2.length c2) rfl (by kernel_rfl) (by kernel_rfl) (by kernel_rfl) (fun _ _ _ h => h) (Or.inl ⟨by rfl, ?_⟩) hH ?_
        · intro w' hSw
          go_simp
          try with_reducible rfl
        (try simp only [Act.put, List.setIfInBounds_toArray, List.set_cons_zero, List.set_cons_succ])
        refine wpAnyH_take (i := 5) (oi := { dst := some 22, op := Op.move (Operand.tmp 5), type := 3, pos := "same.go:706", after := #[], guard := none }) (v := .int .i64 k) rfl (by kernel_rfl) (by kernel_rfl) (by kernel_rfl) (fun _ _ _ h => h) (Or.inl ⟨by rfl, ?_⟩) hH ?_
        · intro w' hSw
          go_simp
          try with_reducible rfl
        (try simp only [Act.put, List.setIfInBounds_toArray, List.set_cons_zero, List.set_cons_succ])
        refine wpAnyH_take (i := 6) (oi := { dst := some 23, op := Op.indexAddr 33 (Operand.tmp 21) (Operand.tmp 22), type := 0, pos := "same.go:706", after := #[{ on := 4, ground := Ground.data }, { on := 5, ground := Ground.data }], guard := none }) (v := .pointer (some ⟨L2, o2 + k * 35, none⟩)) rfl (by kernel_rfl) (by kernel_rfl) (by kernel_rfl) (fun _ _ _ h => h) (Or.inl ⟨by rfl, ?_⟩) hH ?_
        · intro w' hSw
          go_simp
          try with_reducible rfl
        (try simp only [Act.put, List.setIfInBounds_toArray, List.set_cons_zero, List.set_cons_succ])
        refine wpAnyH_take (i := 7) (oi := { dst := some 24, op := Op.load 88 (Operand.tmp 23), type := 88, pos := "same.go:706", after := #[{ on := 6, ground := Ground.data }], guard := none }) (v := .agg (totCells y).toArray) rfl (by kernel_rfl) (by kernel_rfl) (by kernel_rfl) (fun _ _ _ h => h) (Or.inl ⟨by rfl, ?_⟩) hH ?_
        · intro w' hSw
          exact exec_load_at _ _ 88 _ rfl ⟨L2, o2 + k * 35, none⟩ rfl (HC.out.2 _ hSw)
        (try simp only [Act.put, List.setIfInBounds_toArray, List.set_cons_zero, List.set_cons_succ])
        refine wpAnyH_take (i := 8) (oi := { dst := some 25, op := Op.binOp BinOp.neq 88 (Operand.tmp 20) (Operand.tmp 24) 88, type := 4, pos := "same.go:706", after := #[{ on := 3, ground := Ground.data }, { on := 7, ground := Ground.data }], guard := none }) (v := .bool (!decide (tN x = tN y))) rfl (by kernel_rfl) (by kernel_rfl) (by kernel_rfl) (fun _ _ _ h => h) (Or.inl ⟨by rfl, ?_⟩) hH ?_
        · intro w' hSw
          exact exec_neq88 _ _ rfl x y rfl rfl
        (try simp only [Act.put, List.setIfInBounds_toArray, List.set_cons_zero, List.set_cons_succ])
        refine wpAnyH_done (by kernel_rfl) ?_ _
        by_cases hxy : tN x = tN y
        · have e : (!decide (tN x = tN y)) = false := by simp [hxy]
          rw [e]
          have HXY := Lib.hid hxy
          clear e hxy
          go_wp2_with fail
          go_roundw
          case rel => exact ⟨k + 1, by omega, by simp, map_take_succ HX.out.1 HX.out.2.1 HX.out.2.2 HXY.out, HM.out.drew⟩
          case measure => simp [intOf]; omega
        · have e : (!decide (tN x = tN y)) = true := by simp [hxy]
          rw [e]
          have HXY := Lib.hid (map_ne HX.out.1 HX.out.2.1 hxy)
          clear e hxy
          go_wp2_with fail
          go_ret
          exact ⟨by rw [decide_eq_false HXY.out]; rfl, HM.out.drew⟩
      · have e : k = d1.length := by omega
        subst e
        rw [List.take_length, HLEN.out, List.take_length] at heq
        have HQ := Lib.hid heq
        have HM := Lib.hid hm
        clear heq hm
        go_wp2_with fail
        go_ret
        exact ⟨by rw [decide_eq_true HQ.out]; rfl, HM.out⟩
  · have hb : ((d1.length : Int) != (d2.length : Int)) = true := by simp; omega
    have hne : ¬ d1.map tN = d2.map tN := fun h => by
      have := congrArg List.length h
      simp at this
      exact hlen this
    have HN := Lib.hid hne
    clear hne hlen
    go_enter Try.func11, Try.ntmps11
    go_wp2_with fail
    go_ret
    exact ⟨by rw [decide_eq_false HN.out]; rfl, Mod.refl _ w⟩
end Go.Proofs.Ytckcamlicgdklaa
