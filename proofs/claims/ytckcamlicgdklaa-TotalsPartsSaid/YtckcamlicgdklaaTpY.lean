/- value.Merge. -/
import Derived.Test.YtckcamlicgdklaaTpX
namespace Go.Proofs.Ytckcamlicgdklaa
open Go.RowKit Go.Mo Go.Sort

theorem zv88 : ∃ z : Array Value, (∀ w, (zeroValue 88).run Try.prog w = .ok (.agg z) w) ∧ z.size = 35 := ⟨_, Try.zeroValue88, rfl⟩
theorem size88 : (Try.prog.info? 88).map (·.size) = some 35 := by kernel_rfl
theorem totCells_all (x : Nm × Int) : (totCells x).toArray.all (·.oneCell') = true := by
  rw [List.all_toArray, List.all_eq_true]
  exact totCells_one x
theorem tot_wide {w : World} {g : Nat} {x : Nm × Int} {T : TypeId} (h : w.heap[g]? = some (.cells (totCells x).toArray T (0, 0))) : (loadVar 57 ⟨g, 33, none⟩).run Try.prog w = .ok (.agg #[.int .i64 (hiW x.2), .int .u64 (loW x.2)]) w :=
  run_loadVar_mid w g 33 57 [.int .i64 (hiW x.2), .int .u64 (loW x.2)] _ (fun j v hv => by
    rw [cellB h, List.getElem?_toArray]
    have hl := x.1.len
    simp only [totCells]
    rw [List.getElem?_append_right (by simp [nmCells, hl]), show 33 + j - (nmCells x.1).length = j by simp [nmCells, hl]]
    exact hv) Try.underlying57 rfl (by rw [size57]; rfl)
set_option maxRecDepth 100000 in
set_option maxHeartbeats 4000000 in
theorem merge_calls (w : World) (v : Value) (rows : List (List (Nm × Int))) (h : RowsAt w v rows) (hn : rows.flatten.length ≤ 1000000) (hbk : (bookA [] rows.flatten).length ≤ 1000000) : Calls Try.prog 12 #[v] w fun e w' => TotsPost w (bookA [] rows.flatten) e w' := by
  have hm1 : Mod (fun _ => False) w (w.alloc (.map #[] 0)) := (Mod.refl _ w).alloc _
  have hb1 := newB w (.map #[] 0)
  have hr1 : RowsAt (w.alloc (.map #[] 0)) v rows := by
    obtain ⟨a, c, rfl, hl, h⟩ := h
    refine ⟨a, c, rfl, hl, fun i r hr => ?_⟩
    obtain ⟨L, off, rv, rfl, hL, hc, hT⟩ := h i r hr
    exact ⟨L, off, rv, rfl, Nat.lt_of_lt_of_le hL hm1.size, (hm1.cell (p := ⟨L, _, none⟩) hL (fun q => q)).trans hc, hT.tr hm1⟩
  have HCC := Lib.hid (concat_calls _ v rows hr1 hn)
  have H1 := Lib.hid (And.intro hm1 hb1)
  have HB := Lib.hid hbk
  obtain ⟨z88, hz88, hs88⟩ := zv88
  have HZ := Lib.hid (And.intro hz88 hs88)
  obtain ⟨va, vc, rfl, _⟩ := h
  have hmk : ∀ W : World, (Instr.makeMap 90 none).run Try.prog W = .ok (.map (some W.heap.size)) (W.alloc (.map #[] 0)) := fun W => by kernel_rfl
  clear hm1 hb1 hr1 hbk hz88 hs88
  generalize rows.flatten = ds at hn HCC HB ⊢
  go_enter Try.func12, Try.ntmps12
  go_wp2_with fail
  refine HCC.out.mono ?_
  rintro e w2 ⟨u, rfl, ho, hub, hm2⟩
  have hT := tots_at ho hn
  obtain ⟨ua, uc, rfl, _, _, hel⟩ := hT
  have HE := Lib.hid hel
  have H2 := Lib.hid (And.intro ((hm2.block _ (ltB H1.out.2) (fun q => q)).trans H1.out.2) (H1.out.1.tr hm2))
  have HUB := Lib.hid hub
  clear ho hub hm2 hel
  go_wp2_with fail
  go_loopw [10] (fun i wr => ∃ k : Nat, k ≤ ds.length ∧ i = .int .i64 k ∧ wr.heap[w.heap.size]? = some (nmap (wv (bookA [] (ds.take k)))) ∧ Mod (fun _ => False) w wr ∧ Mod (fun q => q = w.heap.size) w2 wr) (fun i _ => ds.length - (intOf i).toNat)
  case atStart => exact ⟨0, by omega, rfl, by simpa [bookA, wv, nmap, entsN] using H2.out.1, H2.out.2, Mod.refl _ w2⟩
  case round =>
    obtain ⟨k, hk, rfl, hB, hm, hm2⟩ := hrel
    by_cases hlt : k < ds.length
    · obtain ⟨x, hx⟩ : ∃ x, ds[k]? = some x := ⟨_, List.getElem?_eq_getElem hlt⟩
      obtain ⟨L, off, rfl, hL, hcs⟩ := HE.out k x hx
      have hLne : L ≠ w.heap.size := by have := HUB.out L rfl; simp at this; omega
      have hl88 : (loadVar 88 ⟨L, off + k * 35, none⟩).run Try.prog wr = .ok (.agg (totCells x).toArray) wr :=
        load88_at (fun j u hu => (hm2.cell (p := ⟨L, _, none⟩) hL hLne).trans (hcs j u hu))
      have hZ := newB wr (.cells z88 88)
      have hst : (storeVar 88 ⟨wr.heap.size, 0, none⟩ (.agg (totCells x).toArray)).run Try.prog (wr.alloc (.cells z88 88)) = .ok () ((wr.alloc (.cells z88 88)).setRow wr.heap.size (totCells x).toArray) :=
        run_storeVar_row (P := Try.prog) _ wr.heap.size 88 88 z88 (totCells x).toArray hZ (by rw [size88]; simp [totCells_length]) (by rw [HZ.out.2]; simp [totCells_length]) (totCells_all x)
      have hR := setRow_same (cs := (totCells x).toArray) hZ
      have hmr : Mod (fun _ => False) wr ((wr.alloc (.cells z88 88)).setRow wr.heap.size (totCells x).toArray) := Mod_setRow ((Mod.refl _ wr).alloc (.cells z88 88)) (b := wr.heap.size) (fun q => by omega) _
      generalize (wr.alloc (.cells z88 88)).setRow wr.heap.size (totCells x).toArray = w3 at hst hR hmr
      have hB3 := (hmr.block _ (ltB hB) (fun q => q)).trans hB
      have HLD := Lib.hid (And.intro hl88 (And.intro (tot_policy hR) (tot_wide hR)))
      have HST := Lib.hid hst
      have s32 := tot_name hR
      have HAD := Lib.hid (add_calls w3 w.heap.size _ hB3 x.1 x.2)
      have HM := Lib.hid (And.intro (hm.tr hmr) (hm2.tr (hmr.any (S := fun q => q = w.heap.size))))
      have HX := Lib.hid hx
      have hsz := hm.size
      clear hl88 hst hR hmr hB3 hcs hZ hB hm hm2 hx
      unfold wideV at HAD
      go_upto_region 4 with fail
      refine wp_region_lit ?_
      refine wpList_exec (v := .pointer (some ⟨L, off + k * 35, none⟩)) rfl (by go_simp) ?_
      (try simp only [Act.put, List.setIfInBounds_toArray, List.set_cons_zero, List.set_cons_succ])
      refine wpList_exec rfl (exec_load_at _ _ 88 _ rfl ⟨L, off + k * 35, none⟩ rfl HLD.out.1) ?_
      (try simp only [Act.put, List.setIfInBounds_toArray, List.set_cons_zero, List.set_cons_succ])
      refine wpList_execW rfl (exec_alloc _ _ 88 z88 rfl HZ.out.1) ?_
      (try simp only [Act.put, List.setIfInBounds_toArray, List.set_cons_zero, List.set_cons_succ])
      refine wpList_execS rfl (exec_store _ _ rfl rfl rfl HST.out) ?_
      (try simp only [Act.put])
      go_upto_region 5 with fail
      refine wp_region_lit ?_
      refine wpList_exec (v := .map (some w.heap.size)) rfl (by go_simp) ?_
      (try simp only [Act.put, List.setIfInBounds_toArray, List.set_cons_zero, List.set_cons_succ])
      refine wpList_exec (v := .pointer (some ⟨wr.heap.size, 0, none⟩)) rfl (by go_simp) ?_
      (try simp only [Act.put, List.setIfInBounds_toArray, List.set_cons_zero, List.set_cons_succ])
      refine wpList_exec rfl (exec_load_row _ _ 27 _ rfl wr.heap.size rfl _ HLD.out.2.1) ?_
      (try simp only [Act.put, List.setIfInBounds_toArray, List.set_cons_zero, List.set_cons_succ])
      refine wpList_exec (v := .pointer (some ⟨wr.heap.size, 32, none⟩)) rfl (by go_simp) ?_
      (try simp only [Act.put, List.setIfInBounds_toArray, List.set_cons_zero, List.set_cons_succ])
      refine wpList_exec (v := .string ⟨x.1.name.toArray⟩) rfl (by go_simp) ?_
      (try simp only [Act.put, List.setIfInBounds_toArray, List.set_cons_zero, List.set_cons_succ])
      refine wpList_exec rfl (exec_build93 _ _ rfl x.1 rfl rfl) ?_
      (try simp only [Act.put, List.setIfInBounds_toArray, List.set_cons_zero, List.set_cons_succ])
      refine wpList_exec (v := .pointer (some ⟨wr.heap.size, 33, none⟩)) rfl (by go_simp) ?_
      (try simp only [Act.put, List.setIfInBounds_toArray, List.set_cons_zero, List.set_cons_succ])
      refine wpList_exec rfl (exec_load_at _ _ 57 _ rfl ⟨wr.heap.size, 33, none⟩ rfl HLD.out.2.2) ?_
      (try simp only [Act.put, List.setIfInBounds_toArray, List.set_cons_zero, List.set_cons_succ])
      go_wp2_with fail
      refine HAD.out.mono ?_
      rintro e w5 ⟨rfl, hB5, hm5⟩
      rw [← bookA_snoc HX.out] at hB5
      have H5 := Lib.hid (And.intro hB5 (And.intro (HM.out.1.trans hm5 (fun q e hl => by omega)) (HM.out.2.trans hm5 (fun q e hl => e))))
      clear hB5 hm5
      go_wp2_with fail
      go_roundw
      case rel => exact ⟨k + 1, by omega, by simp, H5.out.1, H5.out.2.1, H5.out.2.2⟩
      case measure => simp [intOf]; omega
    · have e : k = ds.length := by omega
      subst e
      rw [List.take_length] at hB
      have HT := Lib.hid (totals_ok wr w.heap.size _ hB HB.out)
      have HM := Lib.hid hm
      clear hB hm hm2
      go_wp2_with fail
      refine HT.out.mono ?_
      rintro e w6 ⟨u, d, rfl, h1, h2, h3, h4, h5⟩
      have H6 := Lib.hid (And.intro h1 (And.intro h2 (And.intro h3 (And.intro h4 h5))))
      clear h1 h2 h3 h4 h5
      go_wp2_with fail
      go_ret
      exact ⟨u, d, rfl, H6.out.1, H6.out.2.1, H6.out.2.2.1, fun k hk => Nat.lt_of_le_of_lt HM.out.size (H6.out.2.2.2.1 k hk), HM.out.tr H6.out.2.2.2.2⟩
end Go.Proofs.Ytckcamlicgdklaa
