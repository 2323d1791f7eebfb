/- totals.Whole, where the coins are the genesis'. PRINTED BY A PROGRAM OF MY OWN. -/
import Derived.Test.YtckcamlicgdklaaAwB
import Derived.Test.YtckcamlicgdklaaPlP
namespace Go.Proofs.Ytckcamlicgdklaa
open Go.RowKit Go.Mo Go.Sort

theorem ss36' : (Try.prog.info? 36).map (·.size) = some 182 := by kernel_rfl
theorem load36_box {w : World} {b : Nat} {cs : List Value} (hl : cs.length = 182) (h : w.heap[b]? = some (.cells cs.toArray 36 (0, 0))) : (loadVar 36 ⟨b, 0, none⟩).run Try.prog w = .ok (.agg cs.toArray) w :=
  run_loadVar_mid w b 0 36 cs _ (fun j v hv => by rw [Nat.zero_add, cellB h, List.getElem?_toArray]; exact hv) Try.underlying36 rfl (by rw [ss36', hl])
/-- What Whole tells where the coins are the same: the assets' lists. -/
def WholePost (w : World) (es os : List Ent) (mint : List (Nm × Int)) (e : Ending) (w' : World) : Prop :=
  ∃ d d2 m, e = .returned (.bool (decide (d.map tN = m.map tN))) ∧ d.Perm ((bookV (es.map (·.val))).filter (nzW ·.2)) ∧ srtT d ∧ d2.Perm ((bookV (os.map (·.val))).filter (nzW ·.2)) ∧ srtT d2 ∧ m.Perm ((bookA [] (d2 ++ mint)).filter (nzW ·.2)) ∧ srtT m ∧ Mod (fun _ => False) w w'
theorem perm_le {vs : List Val} {d : List (Nm × Int)} (h : d.Perm ((bookV vs).filter (nzW ·.2))) : d.length ≤ (bookV vs).length := by
  rw [h.length_eq]; exact List.length_filter_le _ _
/-- Two rows of totals, laid side by side in a new block. -/
theorem rows_two {w : World} {u v : Value} {d e : List (Nm × Int)} (h1 : TotsAt w u d) (h2 : TotsAt w v e) : RowsAt (w.alloc (.cells #[u, v] 33)) (.slice (some ⟨w.heap.size, 0, none⟩) 2 2) [d, e] := by
  have hB := newB w (.cells #[u, v] 33)
  have hm : Mod (fun _ => False) w (w.alloc (.cells #[u, v] 33)) := (Mod.refl _ w).alloc _
  refine ⟨_, _, rfl, by simp, fun i r hr => ?_⟩
  have hi : i < 2 := by have := (List.getElem?_eq_some_iff.1 hr).1; simpa using this
  have : i = 0 ∨ i = 1 := by omega
  rcases this with rfl | rfl
  · simp at hr; subst hr
    exact ⟨_, 0, u, rfl, ltB hB, by rw [cellB hB]; rfl, h1.tr hm⟩
  · simp at hr; subst hr
    exact ⟨_, 0, v, rfl, ltB hB, by rw [cellB hB]; rfl, h2.tr hm⟩
theorem info33 : (Try.prog.info? 33).map (fun i => (i.zero, i.size, i.bytes)) = some (some (.slice none 0 0), 1, 24) := by kernel_rfl
theorem exec_rows2 (act : Act) (o : Oper) {w : World} {a b : Operand} (ho : o.op = .buildSlice 60 2 #[(0, a), (1, b)]) (u v : Value) (ha : act.eval a = u) (hb : act.eval b = v) (hu : u.cells = #[u]) (hv : v.cells = #[v]) : (execOp act.eval o).run Try.prog w = .ok (.value (.slice (some ⟨w.heap.size, 0, none⟩) 2 2)) (w.alloc (.cells #[u, v] 33)) := by
  obtain ⟨i33, hi, hz0, hz1, hz2⟩ := info_parts info33
  have := exec_slicesL act o (w := w) [(0, a), (1, b)] ho [u, v] (by simp [ha, hb]) (E := 33) (s := 1) Try.underlying60 hi hz0 hz1 (by omega) rfl (by omega) (by omega) (by intro x hx; simp at hx; rcases hx with rfl | rfl; rw [hu]; rfl; rw [hv]; rfl)
  simpa [hu, hv] using this

theorem step_execW {ops : Array Oper} {o : Oper} {a : Act} {w w' : World} {K : Act → World → Prop} {Q : Exit → Act → World → Prop} {E : Prop} (hgd : Region.wanted o (yielded ops a.tmps) = true) {v : Value} (hv : (execOp a.eval o).run Try.prog w = .ok (.value v) w') (h : K (a.put o.dst v) w') : if Region.wanted o (yielded ops a.tmps) = true then Oper.wp Try.prog o a w K Q else E := by
  rw [if_pos hgd]
  unfold Oper.wp
  rw [hv]
  exact h
theorem rows_tr {w w' : World} {v : Value} {rows : List (List (Nm × Int))} (h : RowsAt w v rows) (hm : Mod (fun _ => False) w w') : RowsAt w' v rows := by
  obtain ⟨a, c, rfl, hl, h⟩ := h
  refine ⟨a, c, rfl, hl, fun i r hr => ?_⟩
  obtain ⟨L, off, rv, rfl, hL, hc, hT⟩ := h i r hr
  exact ⟨L, off, rv, rfl, Nat.lt_of_lt_of_le hL hm.size, (hm.cell (p := ⟨L, _, none⟩) hL (fun q => q)).trans hc, hT.tr hm⟩
theorem bookA_len (xs : List (Nm × Int)) : (bookA [] xs).length ≤ xs.length := by
  have := bookA_length xs []; simpa using this
theorem perm_le' {xs d : List (Nm × Int)} (h : d.Perm ((bookA [] xs).filter (nzW ·.2))) : d.length ≤ xs.length := tots_length h
set_option maxRecDepth 100000 in
set_option maxHeartbeats 4000000 in
theorem whole_calls (w : World) (cs gs : List Value) (sv ov mv : Value) (fees forf : Int) (hc : StC cs sv fees forf) (hmv : cs[179]? = some mv) (hov : gs[13]? = some ov) (hf : In64 fees) (hg : In64 forf)
    (es os : List Ent) (mint : List (Nm × Int)) (hes : EntsAt w sv es) (hos : OutsAt w ov os) (hol : os.length ≤ 1000000) (hmt : TotsAt w mv mint) (hz : coins (os.map (·.val)) = coins (es.map (·.val)) + (fees + forf))
    (hb1 : (bookV (es.map (·.val))).length ≤ 1000000) (hb2 : (bookV (os.map (·.val))).length + mint.length ≤ 1000000) :
    Calls Try.prog 16 #[.agg cs.toArray, .agg gs.toArray] w fun e w' => WholePost w es os mint e w' := by
  obtain ⟨w1, hw1⟩ : ∃ w1, (w.alloc (.cells cs.toArray 36)).alloc (.cells gs.toArray 72) = w1 := ⟨_, rfl⟩
  have hA : w1.heap[w.heap.size]? = some (.cells cs.toArray 36 (0, 0)) := by rw [← hw1]; exact allocB (newB w _) _
  have hG : w1.heap[w.heap.size + 1]? = some (.cells gs.toArray 72 (0, 0)) := by
    rw [← hw1]; have := newB (w.alloc (.cells cs.toArray 36)) (.cells gs.toArray 72); rwa [World.size_alloc] at this
  have hm1 : Mod (fun _ => False) w w1 := by rw [← hw1]; exact ((Mod.refl _ w).alloc _).alloc _
  have s13 : w1.cell? ⟨w.heap.size + 1, 13, none⟩ = some ov := by rw [cellB hG, List.getElem?_toArray]; exact hov
  have HA := Lib.hid (fun (W : World) (hW : Mod (fun _ => False) w1 W) => (hW.block _ (ltB hA) (fun q => q)).trans hA)
  have HX := Lib.hid (And.intro hc (And.intro hmv (And.intro hf (And.intro hg (And.intro hz (And.intro hb1 hb2))))))
  have HE := Lib.hid (hes.tr hm1)
  have HT := Lib.hid (hmt.tr hm1)
  have HM := Lib.hid hm1
  obtain ⟨oa, oc, rfl, hoel⟩ := id (hos.tr hm1)
  have HO := Lib.hid hoel
  obtain ⟨ma, mc, rfl, _⟩ := id hmt
  have hsa := HE.out
  obtain ⟨sa, sc, rfl, _⟩ := id hes
  obtain ⟨z49, hz49, hs49⟩ := zv49
  have HZ := Lib.hid (And.intro hz49 hs49)
  clear hA hG hm1 hov hc hmv hf hg hz hb1 hb2 hes hos hmt hoel hsa hz49 hs49
  go_enter Try.func16, Try.ntmps16
  go_wp2_with fail
  go_loopw [5, 13] (fun v5 i wr => ∃ (k : Nat) (v' : Value) (l : EntL), k ≤ os.length ∧ v' = v5 ∧ i = .int .i64 k ∧ l.map (·.1) = (os.take k).map zEnt ∧ RowE w1 wr v' l ∧ Mod (fun _ => False) w1 wr) (fun _ i _ => os.length - (intOf i).toNat)
  case atStart => exact ⟨0, _, [], by omega, rfl, rfl, rfl, ⟨fun x hx => by simp at hx, ⟨rfl, .inl ⟨rfl, rfl⟩⟩, fun k hk => by cases hk⟩, Mod.refl _ w1⟩
  case round =>
    obtain ⟨k, v5, l, hk, rfl, rfl, hl, hr, hm⟩ := hrel
    by_cases hlt : k < os.length
    · obtain ⟨x, hx⟩ : ∃ x, os[k]? = some x := ⟨_, List.getElem?_eq_getElem hlt⟩
      obtain ⟨hco, L, off, a2, c2, rfl, hL, hAs, hcs⟩ := HO.out k x hx
      have hl49 : (loadVar 49 ⟨L, off + k * 69, none⟩).run Try.prog wr = .ok (.agg (outCells x a2 c2).toArray) wr :=
        run_loadVar_mid wr L (off + k * 69) 49 (outCells x a2 c2) _ (fun q u hu => (hm.cell (p := ⟨L, _, none⟩) hL (fun q => q)).trans (hcs q u hu)) Try.underlying49 rfl (by rw [size49, outCells_length])
      have hZ := newB wr (.cells z49 49)
      have hone : (outCells x a2 c2).toArray.all (·.oneCell') = true := by
        have := entCells_one x a2 c2
        rw [List.all_toArray, List.all_eq_true] at this ⊢
        exact fun u hu => this u (List.mem_append_right _ hu)
      have hst : (storeVar 49 ⟨wr.heap.size, 0, none⟩ (.agg (outCells x a2 c2).toArray)).run Try.prog (wr.alloc (.cells z49 49)) = .ok () ((wr.alloc (.cells z49 49)).setRow wr.heap.size (outCells x a2 c2).toArray) :=
        run_storeVar_row (P := Try.prog) _ wr.heap.size 49 49 z49 (outCells x a2 c2).toArray hZ (by rw [size49]; simp [outCells_length]) (by rw [HZ.out.2]; simp [outCells_length]) hone
      have hR := setRow_same (cs := (outCells x a2 c2).toArray) hZ
      have hmr : Mod (fun _ => False) wr ((wr.alloc (.cells z49 49)).setRow wr.heap.size (outCells x a2 c2).toArray) := Mod_setRow ((Mod.refl _ wr).alloc (.cells z49 49)) (b := wr.heap.size) (fun q => by omega) _
      generalize (wr.alloc (.cells z49 49)).setRow wr.heap.size (outCells x a2 c2).toArray = w2 at hst hR hmr
      have hld2 : (loadVar 49 ⟨wr.heap.size, 0, none⟩).run Try.prog w2 = .ok (.agg (outCells x a2 c2).toArray) w2 :=
        run_loadVar_mid w2 wr.heap.size 0 49 (outCells x a2 c2) _ (fun j v hv => by rw [Nat.zero_add, cellB hR, List.getElem?_toArray]; exact hv) Try.underlying49 rfl (by rw [size49, outCells_length])
      have HLD := Lib.hid (And.intro hl49 (And.intro hst hld2))
      have HF := Lib.hid (And.intro hco (And.intro hAs (And.intro hx hl)))
      have HR := Lib.hid (And.intro (hr.tr hmr) (hm.tr hmr))
      have hlk : l.length ≤ k := by
        have h1 := congrArg List.length hl
        simp only [List.length_map, List.length_take] at h1
        omega
      clear hl49 hst hR hmr hco hAs hx hl hcs hZ hr hm hone hld2
      obtain ⟨i51, hi, hi0, hi1, hi2⟩ := info_parts info51
      go_upto_region 4 with fail
      refine wp_region_lit ?_
      refine wpList_exec (v := .pointer (some ⟨L, off + k * 69, none⟩)) rfl (by go_simp) ?_
      (try simp only [Act.put, List.setIfInBounds_toArray, List.set_cons_zero, List.set_cons_succ])
      refine wpList_exec rfl (exec_load_at _ _ 49 _ rfl ⟨L, off + k * 69, none⟩ rfl HLD.out.1) ?_
      (try simp only [Act.put, List.setIfInBounds_toArray, List.set_cons_zero, List.set_cons_succ])
      refine wpList_execW rfl (exec_alloc _ _ 49 z49 rfl HZ.out.1) ?_
      (try simp only [Act.put, List.setIfInBounds_toArray, List.set_cons_zero, List.set_cons_succ])
      refine wpList_execS rfl (exec_store _ _ rfl rfl rfl HLD.out.2.1) ?_
      (try simp only [Act.put])
      go_upto_region 5 with fail
      refine wp_region_lit ?_
      refine wpList_exec (v := v5) rfl (by go_simp) ?_
      (try simp only [Act.put, List.setIfInBounds_toArray, List.set_cons_zero, List.set_cons_succ])
      refine wpList_exec rfl (exec_load_at _ _ 49 _ rfl ⟨wr.heap.size, 0, none⟩ rfl HLD.out.2.2) ?_
      (try simp only [Act.put, List.setIfInBounds_toArray, List.set_cons_zero, List.set_cons_succ])
      refine wpList_exec rfl (exec_buildL _ _ [(1, .tmp 18)] rfl [(1, .agg (outCells x a2 c2).toArray)] rfl (entCells (zEnt x) a2 c2).toArray (built51 x a2 c2)) ?_
      (try simp only [Act.put, List.setIfInBounds_toArray, List.set_cons_zero, List.set_cons_succ])
      have hsl : ∀ (act : Act) (o : Oper) (a : Operand), o.op = .buildSlice 28 1 #[(0, a)] → act.eval a = .agg (entCells (zEnt x) a2 c2).toArray → (execOp act.eval o).run Try.prog w2 = .ok (.value (.slice (some ⟨w2.heap.size, 0, none⟩) 1 1)) (w2.alloc (.cells (entCells (zEnt x) a2 c2).toArray 51)) := by
        intro act o a ho ha
        have := exec_slicesL act o (w := w2) [(0, a)] ho [.agg (entCells (zEnt x) a2 c2).toArray] (by simp [ha]) (E := 51) (s := 102) Try.underlying28 hi hi0 hi1 (by omega) rfl (by omega) (by omega) (by intro y hy; simp at hy; subst hy; simp [Value.cells, entCells_length])
        simpa [Value.cells] using this
      refine wpList_execW rfl (hsl _ _ _ rfl rfl) ?_
      clear hsl
      (try simp only [Act.put, List.setIfInBounds_toArray, List.set_cons_zero, List.set_cons_succ])
      have hmA : Mod (fun _ => False) w2 (w2.alloc (.cells (entCells (zEnt x) a2 c2).toArray 51)) := (Mod.refl _ w2).alloc _
      have HN := Lib.hid (row_cells (newB w2 (.cells (entCells (zEnt x) a2 c2).toArray 51)))
      have HRA := Lib.hid (And.intro (HR.out.1.tr hmA) (HR.out.2.tr hmA))
      clear hmA
      generalize w2.alloc (.cells (entCells (zEnt x) a2 c2).toArray 51) = w3 at HN HRA
      refine wpList_append_at _ rfl _ _ 28 rfl 51 i51 _ 102 176 Try.underlying28 hi hi0 hi1 hi2 (by simpa [Value.cells] using z51_size) (by decide) v5 l.length (entsCells l) rfl HRA.out.1.2.1 ⟨w2.heap.size, 0, none⟩ 1 1 (entCells (zEnt x) a2 c2) rfl (by rw [entCells_length]) HN.out (by have := entCells_one (zEnt x) a2 c2; rw [List.all_toArray, List.all_eq_true] at this; exact this) (by simp only [maxLen]; omega) (by omega) ?_
      intro v6 w6 ho6 hg6 hat6
      have H7 : RowE w1 w6 v6 (l ++ [(zEnt x, a2, c2)]) := by
        refine ⟨fun y hy => ?_, ?_, fun q hq => ?_⟩
        · rcases List.mem_append.1 hy with h1 | h1
          · exact HRA.out.1.1 y h1
          · simp at h1; subst h1
            exact ⟨HF.out.1, HF.out.2.1⟩
        · simpa [entsCells] using ho6
        · rcases hat6 q hq with h1 | h1
          · exact HRA.out.1.2.2 q h1
          · have := HRA.out.2.size
            omega
      have H8 : Mod (fun _ => False) w1 w6 := HRA.out.2.grown hg6 (fun q hq hl => by have := HRA.out.1.2.2 q hq; omega)
      have H9 := Lib.hid (And.intro H7 H8)
      clear H7 H8 ho6 hg6 hat6
      (try simp only [Act.put, List.setIfInBounds_toArray, List.set_cons_zero, List.set_cons_succ])
      go_wp2_with fail
      go_roundw
      case rel => exact ⟨k + 1, _, _, by omega, rfl, by simp, by rw [List.take_add_one, HF.out.2.2.1]; simp [HF.out.2.2.2], H9.out.1, H9.out.2⟩
      case measure => simp [intOf]; omega
    · have e : k = os.length := by omega
      subst e
      rw [List.take_length] at hl
      have hval : (l.map (·.1)).map (·.val) = os.map (·.val) := by rw [hl, List.map_map]; rfl
      have hll : l.length = os.length := by simpa using congrArg List.length hl
      have hEl := hr.ents hm (by omega)
      have HT2 := Lib.hid (tof_all wr v5 _ hEl (fun _ => true) (fun y _ a c W _ => each_calls y a c W) (by rw [filter_all, hval]; have := HX.out.2.2.2.2.2.2; omega))
      rw [filter_all, hval] at HT2
      have HMR := Lib.hid hm
      clear hr hEl hl hm hval hll
      go_wp2_with fail
      refine HT2.out.mono ?_
      rintro e w2 ⟨b, u, d2, rfl, hb2, hb, h1, h2, h3, h4, h5⟩
      obtain ⟨ua, un, uc, rfl⟩ := ownsRow_slice h3
      have hM2 := HMR.out.tr h5
      have HCC := Lib.hid (coins_calls w2 cs _ fees forf HX.out.1 HX.out.2.2.1 HX.out.2.2.2.1 es (HE.out.tr hM2) HX.out.2.2.2.2.2.1)
      have HD := Lib.hid (And.intro h1 (And.intro h2 (And.intro (tots_at h3 (by have := perm_le h1; have := HX.out.2.2.2.2.2.2; omega)) hb2)))
      have HM2 := Lib.hid hM2
      have HL36 := Lib.hid (load36_box HX.out.1.len (HA.out _ hM2))
      clear h1 h2 h3 h4 h5 hM2 hb2 hb
      go_wp2_with (refine wpList_exec rfl (exec_load_at _ _ 36 _ rfl ⟨w.heap.size, 0, none⟩ rfl HL36.out) ?_)
      refine HCC.out.mono ?_
      rintro e w3 ⟨rfl, hm3⟩
      rw [← HX.out.2.2.2.2.1]
      have hb3 := (hm3.block _ (ltB HD.out.2.2.2) (fun q => q)).trans HD.out.2.2.2
      have HD3 := Lib.hid (And.intro (HD.out.2.2.1.tr hm3) hb3)
      have HM3 := Lib.hid (HM2.out.tr hm3)
      have hb3s := ltB hb3
      clear hm3 hb3
      obtain ⟨zc, hzc⟩ : ∃ zc, coins (os.map (·.val)) = zc := ⟨_, rfl⟩
      rw [hzc] at HD3 ⊢
      have hst := store57 (w3.alloc (.cells #[.int .i64 0, .int .u64 0] 57)) w3.heap.size zc (newB w3 _)
      have hb4 := setRow_same (cs := #[.int .i64 (hiW zc), .int .u64 (loW zc)]) (newB w3 (.cells #[.int .i64 0, .int .u64 0] 57))
      have hm4 : Mod (fun _ => False) w3 ((w3.alloc (.cells #[.int .i64 0, .int .u64 0] 57)).setRow w3.heap.size #[.int .i64 (hiW zc), .int .u64 (loW zc)]) := Mod_setRow ((Mod.refl _ w3).alloc _) (fun q => by omega) _
      generalize (w3.alloc (.cells #[.int .i64 0, .int .u64 0] 57)).setRow w3.heap.size #[.int .i64 (hiW zc), .int .u64 (loW zc)] = w4 at hst hb4 hm4
      have HST := Lib.hid hst
      have HB4 := Lib.hid (And.intro hb4 (And.intro ((hm4.block _ (ltB HD3.out.2) (fun q => q)).trans HD3.out.2) (And.intro (HD3.out.1.tr hm4) (HM3.out.tr hm4))))
      clear hb4 hm4 hst
      go_upto_region 9 with (refine wpList_execS rfl (exec_store _ _ rfl rfl rfl HST.out) ?_)
      have HS := Lib.hid (fun (W : World) (hW : Mod (fun _ => False) w4 W) => And.intro ((hW.block _ (ltB HB4.out.1) (fun q => q)).trans HB4.out.1) ((hW.block _ (ltB HB4.out.2.1) (fun q => q)).trans HB4.out.2.1))
      refine wp_region_held_drew (S := fun W => Mod (fun _ => False) w4 W) (by kernel_rfl) (Mod.refl _ w4).drew (fun hH => ?_)
      refine wpAnyH_take (i := 0) (oi := { dst := some 27, op := Op.fieldAddr 57 (Operand.tmp 9) 0, type := 0, pos := "totals.go:64", after := #[], guard := none }) (v := .pointer (some ⟨w3.heap.size, 0, none⟩)) rfl (by kernel_rfl) (by kernel_rfl) (by kernel_rfl) (fun _ _ _ h => h) (Or.inl ⟨by rfl, ?_⟩) hH ?_
      · intro w' hSw
        go_simp
        try with_reducible rfl
      (try simp only [Act.put, List.setIfInBounds_toArray, List.set_cons_zero, List.set_cons_succ])
      refine wpAnyH_take (i := 1) (oi := { dst := some 28, op := Op.load 2 (Operand.tmp 27), type := 2, pos := "totals.go:64", after := #[{ on := 0, ground := Ground.data }], guard := none }) (v := .int .i64 (hiW zc)) rfl (by kernel_rfl) (by kernel_rfl) (by kernel_rfl) (fun _ _ _ h => h) (Or.inl ⟨by rfl, ?_⟩) hH ?_
      · intro w' hSw
        have s : w'.cell? ⟨w3.heap.size, 0, none⟩ = some (.int .i64 (hiW zc)) := (cellB (HS.out _ hSw).1 0).trans rfl
        go_simp
        try with_reducible rfl
      (try simp only [Act.put, List.setIfInBounds_toArray, List.set_cons_zero, List.set_cons_succ])
      refine wpAnyH_take (i := 2) (oi := { dst := some 29, op := Op.move (Operand.tmp 8), type := 81, pos := "totals.go:64", after := #[], guard := none }) (v := .pointer (some ⟨b, 0, none⟩)) rfl (by kernel_rfl) (by kernel_rfl) (by kernel_rfl) (fun _ _ _ h => h) (Or.inl ⟨by rfl, ?_⟩) hH ?_
      · intro w' hSw
        go_simp
        try with_reducible rfl
      (try simp only [Act.put, List.setIfInBounds_toArray, List.set_cons_zero, List.set_cons_succ])
      refine wpAnyH_take (i := 3) (oi := { dst := some 30, op := Op.nilCheck (Operand.tmp 29), type := 0, pos := "totals.go:64", after := #[{ on := 2, ground := Ground.data }], guard := none }) (v := .pointer (some ⟨b, 0, none⟩)) rfl (by kernel_rfl) (by kernel_rfl) (by kernel_rfl) (fun _ _ _ h => h) (Or.inl ⟨by rfl, ?_⟩) hH ?_
      · intro w' hSw
        go_simp
        try with_reducible rfl
      (try simp only [Act.put, List.setIfInBounds_toArray, List.set_cons_zero, List.set_cons_succ])
      refine wpAnyH_take (i := 4) (oi := { dst := some 31, op := Op.fieldAddr 85 (Operand.tmp 30) 0, type := 0, pos := "totals.go:64", after := #[{ on := 3, ground := Ground.data }], guard := none }) (v := .pointer (some ⟨b, 0, none⟩)) rfl (by kernel_rfl) (by kernel_rfl) (by kernel_rfl) (fun _ _ _ h => h) (Or.inl ⟨by rfl, ?_⟩) hH ?_
      · intro w' hSw
        go_simp
        try with_reducible rfl
      (try simp only [Act.put, List.setIfInBounds_toArray, List.set_cons_zero, List.set_cons_succ])
      refine wpAnyH_take (i := 5) (oi := { dst := some 32, op := Op.fieldAddr 57 (Operand.tmp 31) 0, type := 0, pos := "totals.go:64", after := #[{ on := 4, ground := Ground.data }], guard := none }) (v := .pointer (some ⟨b, 0, none⟩)) rfl (by kernel_rfl) (by kernel_rfl) (by kernel_rfl) (fun _ _ _ h => h) (Or.inl ⟨by rfl, ?_⟩) hH ?_
      · intro w' hSw
        go_simp
        try with_reducible rfl
      (try simp only [Act.put, List.setIfInBounds_toArray, List.set_cons_zero, List.set_cons_succ])
      refine wpAnyH_take (i := 6) (oi := { dst := some 33, op := Op.load 2 (Operand.tmp 32), type := 2, pos := "totals.go:64", after := #[{ on := 5, ground := Ground.data }], guard := none }) (v := .int .i64 (hiW zc)) rfl (by kernel_rfl) (by kernel_rfl) (by kernel_rfl) (fun _ _ _ h => h) (Or.inl ⟨by rfl, ?_⟩) hH ?_
      · intro w' hSw
        have s : w'.cell? ⟨b, 0, none⟩ = some (.int .i64 (hiW zc)) := (cellB (HS.out _ hSw).2 0).trans rfl
        go_simp
        try with_reducible rfl
      (try simp only [Act.put, List.setIfInBounds_toArray, List.set_cons_zero, List.set_cons_succ])
      refine wpAnyH_take (i := 7) (oi := { dst := some 34, op := Op.binOp BinOp.eql 2 (Operand.tmp 28) (Operand.tmp 33) 2, type := 4, pos := "totals.go:64", after := #[{ on := 1, ground := Ground.data }, { on := 6, ground := Ground.data }], guard := none }) (v := .bool true) rfl (by kernel_rfl) (by kernel_rfl) (by kernel_rfl) (fun _ _ _ h => h) (Or.inl ⟨by rfl, ?_⟩) hH ?_
      · intro w' hSw
        go_simp
        try with_reducible rfl
      (try simp only [Act.put, List.setIfInBounds_toArray, List.set_cons_zero, List.set_cons_succ])
      refine wpAnyH_take (i := 8) (oi := { dst := some 35, op := Op.move (Operand.tmp 34), type := 4, pos := "totals.go:64", after := #[{ on := 7, ground := Ground.data }], guard := none }) (v := .bool true) rfl (by kernel_rfl) (by kernel_rfl) (by kernel_rfl) (fun _ _ _ h => h) (Or.inl ⟨by rfl, ?_⟩) hH ?_
      · intro w' hSw
        go_simp
        try with_reducible rfl
      (try simp only [Act.put, List.setIfInBounds_toArray, List.set_cons_zero, List.set_cons_succ])
      refine wpAnyH_take (i := 9) (oi := { dst := some 36, op := Op.fieldAddr 57 (Operand.tmp 9) 1, type := 0, pos := "totals.go:64", after := #[{ on := 8, ground := Ground.guard }], guard := some (8, true) }) (v := .pointer (some ⟨w3.heap.size, 1, none⟩)) rfl (by kernel_rfl) (by kernel_rfl) (by kernel_rfl) (fun _ _ _ h => h) (Or.inl ⟨by rfl, ?_⟩) hH ?_
      · intro w' hSw
        go_simp
        try with_reducible rfl
      (try simp only [Act.put, List.setIfInBounds_toArray, List.set_cons_zero, List.set_cons_succ])
      refine wpAnyH_take (i := 10) (oi := { dst := some 37, op := Op.load 30 (Operand.tmp 36), type := 30, pos := "totals.go:64", after := #[{ on := 9, ground := Ground.data }, { on := 8, ground := Ground.guard }], guard := some (8, true) }) (v := .int .u64 (loW zc)) rfl (by kernel_rfl) (by kernel_rfl) (by kernel_rfl) (fun _ _ _ h => h) (Or.inl ⟨by rfl, ?_⟩) hH ?_
      · intro w' hSw
        have s : w'.cell? ⟨w3.heap.size, 1, none⟩ = some (.int .u64 (loW zc)) := (cellB (HS.out _ hSw).1 1).trans rfl
        go_simp
        try with_reducible rfl
      (try simp only [Act.put, List.setIfInBounds_toArray, List.set_cons_zero, List.set_cons_succ])
      refine wpAnyH_take (i := 11) (oi := { dst := some 38, op := Op.move (Operand.tmp 8), type := 81, pos := "totals.go:64", after := #[{ on := 8, ground := Ground.guard }], guard := some (8, true) }) (v := .pointer (some ⟨b, 0, none⟩)) rfl (by kernel_rfl) (by kernel_rfl) (by kernel_rfl) (fun _ _ _ h => h) (Or.inl ⟨by rfl, ?_⟩) hH ?_
      · intro w' hSw
        go_simp
        try with_reducible rfl
      (try simp only [Act.put, List.setIfInBounds_toArray, List.set_cons_zero, List.set_cons_succ])
      refine wpAnyH_take (i := 12) (oi := { dst := some 39, op := Op.nilCheck (Operand.tmp 38), type := 0, pos := "totals.go:64", after := #[{ on := 11, ground := Ground.data }, { on := 8, ground := Ground.guard }], guard := some (8, true) }) (v := .pointer (some ⟨b, 0, none⟩)) rfl (by kernel_rfl) (by kernel_rfl) (by kernel_rfl) (fun _ _ _ h => h) (Or.inl ⟨by rfl, ?_⟩) hH ?_
      · intro w' hSw
        go_simp
        try with_reducible rfl
      (try simp only [Act.put, List.setIfInBounds_toArray, List.set_cons_zero, List.set_cons_succ])
      refine wpAnyH_take (i := 13) (oi := { dst := some 40, op := Op.fieldAddr 85 (Operand.tmp 39) 0, type := 0, pos := "totals.go:64", after := #[{ on := 12, ground := Ground.data }, { on := 8, ground := Ground.guard }], guard := some (8, true) }) (v := .pointer (some ⟨b, 0, none⟩)) rfl (by kernel_rfl) (by kernel_rfl) (by kernel_rfl) (fun _ _ _ h => h) (Or.inl ⟨by rfl, ?_⟩) hH ?_
      · intro w' hSw
        go_simp
        try with_reducible rfl
      (try simp only [Act.put, List.setIfInBounds_toArray, List.set_cons_zero, List.set_cons_succ])
      refine wpAnyH_take (i := 14) (oi := { dst := some 41, op := Op.fieldAddr 57 (Operand.tmp 40) 1, type := 0, pos := "totals.go:64", after := #[{ on := 13, ground := Ground.data }, { on := 8, ground := Ground.guard }], guard := some (8, true) }) (v := .pointer (some ⟨b, 1, none⟩)) rfl (by kernel_rfl) (by kernel_rfl) (by kernel_rfl) (fun _ _ _ h => h) (Or.inl ⟨by rfl, ?_⟩) hH ?_
      · intro w' hSw
        go_simp
        try with_reducible rfl
      (try simp only [Act.put, List.setIfInBounds_toArray, List.set_cons_zero, List.set_cons_succ])
      refine wpAnyH_take (i := 15) (oi := { dst := some 42, op := Op.load 30 (Operand.tmp 41), type := 30, pos := "totals.go:64", after := #[{ on := 14, ground := Ground.data }, { on := 8, ground := Ground.guard }], guard := some (8, true) }) (v := .int .u64 (loW zc)) rfl (by kernel_rfl) (by kernel_rfl) (by kernel_rfl) (fun _ _ _ h => h) (Or.inl ⟨by rfl, ?_⟩) hH ?_
      · intro w' hSw
        have s : w'.cell? ⟨b, 1, none⟩ = some (.int .u64 (loW zc)) := (cellB (HS.out _ hSw).2 1).trans rfl
        go_simp
        try with_reducible rfl
      (try simp only [Act.put, List.setIfInBounds_toArray, List.set_cons_zero, List.set_cons_succ])
      refine wpAnyH_take (i := 16) (oi := { dst := some 43, op := Op.binOp BinOp.eql 30 (Operand.tmp 37) (Operand.tmp 42) 30, type := 4, pos := "totals.go:64", after := #[{ on := 10, ground := Ground.data }, { on := 15, ground := Ground.data }, { on := 8, ground := Ground.guard }], guard := some (8, true) }) (v := .bool true) rfl (by kernel_rfl) (by kernel_rfl) (by kernel_rfl) (fun _ _ _ h => h) (Or.inl ⟨by rfl, ?_⟩) hH ?_
      · intro w' hSw
        go_simp
        try with_reducible rfl
      (try simp only [Act.put, List.setIfInBounds_toArray, List.set_cons_zero, List.set_cons_succ])
      refine wpAnyH_take (i := 17) (oi := { dst := some 44, op := Op.pick (Operand.tmp 35) (Operand.tmp 43) (Operand.const (Value.bool false)), type := 4, pos := "totals.go:64", after := #[{ on := 8, ground := Ground.data }, { on := 16, ground := Ground.data }], guard := none }) (v := .bool true) rfl (by kernel_rfl) (by kernel_rfl) (by kernel_rfl) (fun _ _ _ h => h) (Or.inl ⟨by rfl, ?_⟩) hH ?_
      · intro w' hSw
        go_simp
        try with_reducible rfl
      (try simp only [Act.put, List.setIfInBounds_toArray, List.set_cons_zero, List.set_cons_succ])
      refine wpAnyH_take (i := 18) (oi := { dst := some 45, op := Op.move (Operand.tmp 44), type := 4, pos := "totals.go:64", after := #[{ on := 17, ground := Ground.data }, { on := 8, ground := Ground.chain }], guard := none }) (v := .bool true) rfl (by kernel_rfl) (by kernel_rfl) (by kernel_rfl) (fun _ _ _ h => h) (Or.inl ⟨by rfl, ?_⟩) hH ?_
      · intro w' hSw
        go_simp
        try with_reducible rfl
      (try simp only [Act.put, List.setIfInBounds_toArray, List.set_cons_zero, List.set_cons_succ])
      refine wpAnyH_take (i := 19) (oi := { dst := some 46, op := Op.load 36 (Operand.tmp 2), type := 36, pos := "totals.go:64", after := #[{ on := 18, ground := Ground.guard }], guard := some (18, true) }) (v := .agg cs.toArray) rfl (by kernel_rfl) (by kernel_rfl) (by kernel_rfl) (fun _ _ _ h => h) (Or.inl ⟨by rfl, ?_⟩) hH ?_
      · intro w' hSw
        exact exec_load_at _ _ 36 _ rfl ⟨w.heap.size, 0, none⟩ rfl (load36_box HX.out.1.len (HA.out _ (HB4.out.2.2.2.tr hSw)))
      (try simp only [Act.put, List.setIfInBounds_toArray, List.set_cons_zero, List.set_cons_succ])
      refine wpAnyH_take (i := 21) (oi := { dst := some 48, op := Op.move (Operand.tmp 8), type := 81, pos := "totals.go:64", after := #[{ on := 18, ground := Ground.guard }], guard := some (18, true) }) (v := .pointer (some ⟨b, 0, none⟩)) rfl (by kernel_rfl) (by kernel_rfl) (by kernel_rfl) (fun _ _ _ h => h) (Or.inl ⟨by rfl, ?_⟩) hH ?_
      · intro w' hSw
        go_simp
        try with_reducible rfl
      (try simp only [Act.put, List.setIfInBounds_toArray, List.set_cons_zero, List.set_cons_succ])
      refine wpAnyH_take (i := 22) (oi := { dst := some 49, op := Op.nilCheck (Operand.tmp 48), type := 0, pos := "totals.go:64", after := #[{ on := 21, ground := Ground.data }, { on := 18, ground := Ground.guard }], guard := some (18, true) }) (v := .pointer (some ⟨b, 0, none⟩)) rfl (by kernel_rfl) (by kernel_rfl) (by kernel_rfl) (fun _ _ _ h => h) (Or.inl ⟨by rfl, ?_⟩) hH ?_
      · intro w' hSw
        go_simp
        try with_reducible rfl
      (try simp only [Act.put, List.setIfInBounds_toArray, List.set_cons_zero, List.set_cons_succ])
      refine wpAnyH_take (i := 23) (oi := { dst := some 50, op := Op.fieldAddr 85 (Operand.tmp 49) 1, type := 0, pos := "totals.go:64", after := #[{ on := 22, ground := Ground.data }, { on := 18, ground := Ground.guard }], guard := some (18, true) }) (v := .pointer (some ⟨b, 2, none⟩)) rfl (by kernel_rfl) (by kernel_rfl) (by kernel_rfl) (fun _ _ _ h => h) (Or.inl ⟨by rfl, ?_⟩) hH ?_
      · intro w' hSw
        go_simp
        try with_reducible rfl
      (try simp only [Act.put, List.setIfInBounds_toArray, List.set_cons_zero, List.set_cons_succ])
      refine wpAnyH_take (i := 24) (oi := { dst := some 51, op := Op.load 33 (Operand.tmp 50), type := 33, pos := "totals.go:64", after := #[{ on := 23, ground := Ground.data }, { on := 18, ground := Ground.guard }], guard := some (18, true) }) (v := .slice ua un uc) rfl (by kernel_rfl) (by kernel_rfl) (by kernel_rfl) (fun _ _ _ h => h) (Or.inl ⟨by rfl, ?_⟩) hH ?_
      · intro w' hSw
        have s : w'.cell? ⟨b, 2, none⟩ = some (.slice ua un uc) := (cellB (HS.out _ hSw).2 2).trans rfl
        go_simp
        try with_reducible rfl
      (try simp only [Act.put, List.setIfInBounds_toArray, List.set_cons_zero, List.set_cons_succ])
      refine wpAnyH_take (i := 25) (oi := { dst := some 52, op := Op.fieldAddr 36 (Operand.tmp 2) 9, type := 0, pos := "totals.go:64", after := #[{ on := 18, ground := Ground.guard }], guard := some (18, true) }) (v := .pointer (some ⟨w.heap.size, 179, none⟩)) rfl (by kernel_rfl) (by kernel_rfl) (by kernel_rfl) (fun _ _ _ h => h) (Or.inl ⟨by rfl, ?_⟩) hH ?_
      · intro w' hSw
        go_simp
        try with_reducible rfl
      (try simp only [Act.put, List.setIfInBounds_toArray, List.set_cons_zero, List.set_cons_succ])
      refine wpAnyH_take (i := 26) (oi := { dst := some 53, op := Op.load 33 (Operand.tmp 52), type := 33, pos := "totals.go:64", after := #[{ on := 25, ground := Ground.data }, { on := 18, ground := Ground.guard }], guard := some (18, true) }) (v := .slice ma mint.length mc) rfl (by kernel_rfl) (by kernel_rfl) (by kernel_rfl) (fun _ _ _ h => h) (Or.inl ⟨by rfl, ?_⟩) hH ?_
      · intro w' hSw
        have s : w'.cell? ⟨w.heap.size, 179, none⟩ = some (.slice ma mint.length mc) := (cellB (HA.out _ (HB4.out.2.2.2.tr hSw)) 179).trans (by rw [List.getElem?_toArray]; exact HX.out.2.1)
        go_simp
        try with_reducible rfl
      (try simp only [Act.put, List.setIfInBounds_toArray, List.set_cons_zero, List.set_cons_succ])
      refine wpAnyH_ready (rs := [20, 27]) (by kernel_rfl) (by simp) ?_
      refine AllReadyH.cons (o := { dst := some 47, op := Op.call { callee := Callee.value (Operand.func 13), args := #[Operand.tmp 46], argTypes := #[36] }, type := 33, pos := "totals.go:64", after := #[{ on := 19, ground := Ground.data }, { on := 18, ground := Ground.chain }, { on := 18, ground := Ground.guard }], guard := some (18, true) }) rfl (fun K hK => ?_) (AllReadyH.cons (o := { dst := some 54, op := Op.buildSlice 60 2 #[(0, Operand.tmp 51), (1, Operand.tmp 53)], type := 60, pos := "totals.go:64", after := #[{ on := 24, ground := Ground.data }, { on := 26, ground := Ground.data }, { on := 18, ground := Ground.guard }], guard := some (18, true) }) rfl (fun K hK => ?_) AllReadyH.nil)
      · go_simp
        have hcM := (Mod.refl (fun _ => False) w4).drew
        refine (assets_calls _ cs _ fees forf HX.out.1 es (HE.out.tr (HB4.out.2.2.2.tr hcM)) HX.out.2.2.2.2.2.1).mono ?_
        rintro e w5 ⟨u5, d, rfl, g1, g2, g3, g4, g5⟩
        obtain ⟨va, vn, vc, rfl⟩ := ownsRow_slice g3
        have HG := Lib.hid (And.intro g1 (And.intro g2 (And.intro (tots_at g3 (by have := perm_le g1; have := HX.out.2.2.2.2.2.1; omega)) (hcM.tr g5))))
        have HG5 := Lib.hid g5
        clear g1 g2 g3 g4 g5
        refine hK.out _ _ HG.out.2.2.2 (fun hH => ?_)
        clear hK K
        (try simp only [Act.put, List.setIfInBounds_toArray, List.set_cons_zero, List.set_cons_succ])
        refine wpAnyH_ready (rs := [27]) (by kernel_rfl) (by simp) ?_
        refine AllReadyH.cons (o := { dst := some 54, op := Op.buildSlice 60 2 #[(0, Operand.tmp 51), (1, Operand.tmp 53)], type := 60, pos := "totals.go:64", after := #[{ on := 24, ground := Ground.data }, { on := 26, ground := Ground.data }, { on := 18, ground := Ground.guard }], guard := some (18, true) }) rfl (fun K hK => ?_) AllReadyH.nil
        have hal : Mod (fun _ => False) w5 (w5.alloc (.cells #[.slice ua un uc, .slice ma mint.length mc] 33)) := (Mod.refl _ w5).alloc _
        have HRW := Lib.hid (rows_two (HB4.out.2.2.1.tr HG.out.2.2.2) (HT.out.tr (HB4.out.2.2.2.tr HG.out.2.2.2)))
        have HN6 := Lib.hid (And.intro (HG.out.2.2.1.tr hal) (And.intro (HG.out.2.2.2.tr hal) trivial))
        refine step_execW rfl (exec_rows2 _ _ rfl _ _ rfl rfl rfl rfl) ?_
        refine hK.out _ _ HN6.out.2.1 (fun hH => ?_)
        clear hK K hal
        (try simp only [Act.put, List.setIfInBounds_toArray, List.set_cons_zero, List.set_cons_succ])
        have HMC := Lib.hid (merge_calls _ _ _ HRW.out (by have h := perm_le HD.out.1; have := HX.out.2.2.2.2.2.2; simp only [List.flatten_cons, List.flatten_nil, List.append_nil, List.length_append]; omega) (by have h := perm_le HD.out.1; have h9 := bookA_len (d2 ++ mint); have := HX.out.2.2.2.2.2.2; simp only [List.flatten_cons, List.flatten_nil, List.append_nil, List.length_append] at h9 ⊢; omega))
        simp only [List.flatten_cons, List.flatten_nil, List.append_nil] at HMC
        refine wpAnyH_ready (rs := [28]) (by kernel_rfl) (by simp) ?_
        refine AllReadyH.cons (o := { dst := some 55, op := Op.call { callee := Callee.value (Operand.func 12), args := #[Operand.tmp 54], argTypes := #[60] }, type := 33, pos := "totals.go:64", after := #[{ on := 27, ground := Ground.data }, { on := 20, ground := Ground.chain }, { on := 18, ground := Ground.guard }], guard := some (18, true) }) rfl (fun K hK => ?_) AllReadyH.nil
        go_simp
        refine HMC.out.mono ?_
        rintro e w7 ⟨u7, m, rfl, k1, k2, k3, k4, k5⟩
        obtain ⟨xa, xn, xc, rfl⟩ := ownsRow_slice k3
        have hM7 := HN6.out.2.1.tr k5
        have HEQ := Lib.hid (equal_calls w7 _ _ d m (HN6.out.1.tr k5) (tots_at k3 (by have h := perm_le' k1; have h2 := perm_le HD.out.1; have := HX.out.2.2.2.2.2.2; simp only [List.length_append] at h; omega)))
        have HK := Lib.hid (And.intro k1 k2)
        refine hK.out _ _ hM7 (fun hH => ?_)
        have HM7 := Lib.hid hM7
        clear hK K k1 k2 k3 k4 k5 hM7
        (try simp only [Act.put, List.setIfInBounds_toArray, List.set_cons_zero, List.set_cons_succ])
        refine wpAnyH_ready (rs := [29]) (by kernel_rfl) (by simp) ?_
        refine AllReadyH.cons (o := { dst := some 56, op := Op.call { callee := Callee.value (Operand.func 29), args := #[Operand.tmp 47, Operand.tmp 55], argTypes := #[33, 33] }, type := 4, pos := "totals.go:64", after := #[{ on := 20, ground := Ground.data }, { on := 28, ground := Ground.data }, { on := 28, ground := Ground.chain }, { on := 18, ground := Ground.guard }], guard := some (18, true) }) rfl (fun K hK => ?_) AllReadyH.nil
        go_simp
        refine HEQ.out.mono ?_
        rintro e w8 ⟨rfl, hm8⟩
        have HM8 := Lib.hid (HM7.out.tr hm8)
        refine hK.out _ _ HM8.out (fun hH => ?_)
        clear hK K hm8
        (try simp only [Act.put, List.setIfInBounds_toArray, List.set_cons_zero, List.set_cons_succ])
        refine wpAnyH_take (i := 30) (oi := { dst := some 57, op := Op.pick (Operand.tmp 45) (Operand.tmp 56) (Operand.const (Value.bool false)), type := 4, pos := "totals.go:64", after := #[{ on := 18, ground := Ground.data }, { on := 29, ground := Ground.data }], guard := none }) (v := .bool (decide (d.map tN = m.map tN))) rfl (by kernel_rfl) (by kernel_rfl) (by kernel_rfl) (fun _ _ _ h => h) (Or.inl ⟨by rfl, ?_⟩) hH ?_
        · intro w' hSw
          go_simp; try with_reducible rfl
        (try simp only [Act.put, List.setIfInBounds_toArray, List.set_cons_zero, List.set_cons_succ])
        refine wpAnyH_take (i := 31) (oi := { dst := some 4, op := Op.assign (Operand.tmp 57), type := 4, pos := "totals.go:64", after := #[{ on := 30, ground := Ground.data }, { on := 29, ground := Ground.chain }, { on := 0, ground := Ground.phase }, { on := 1, ground := Ground.phase }, { on := 2, ground := Ground.phase }, { on := 3, ground := Ground.phase }, { on := 4, ground := Ground.phase }, { on := 5, ground := Ground.phase }, { on := 6, ground := Ground.phase }, { on := 7, ground := Ground.phase }, { on := 8, ground := Ground.phase }, { on := 9, ground := Ground.phase }, { on := 10, ground := Ground.phase }, { on := 11, ground := Ground.phase }, { on := 12, ground := Ground.phase }, { on := 13, ground := Ground.phase }, { on := 14, ground := Ground.phase }, { on := 15, ground := Ground.phase }, { on := 16, ground := Ground.phase }, { on := 17, ground := Ground.phase }, { on := 18, ground := Ground.phase }, { on := 19, ground := Ground.phase }, { on := 20, ground := Ground.phase }, { on := 21, ground := Ground.phase }, { on := 22, ground := Ground.phase }, { on := 23, ground := Ground.phase }, { on := 24, ground := Ground.phase }, { on := 25, ground := Ground.phase }, { on := 26, ground := Ground.phase }, { on := 27, ground := Ground.phase }, { on := 28, ground := Ground.phase }, { on := 29, ground := Ground.phase }, { on := 30, ground := Ground.phase }], guard := none }) (v := .bool (decide (d.map tN = m.map tN))) rfl (by kernel_rfl) (by kernel_rfl) (by kernel_rfl) (fun _ _ _ h => h) (Or.inl ⟨by rfl, ?_⟩) hH ?_
        · intro w' hSw
          go_simp
          try with_reducible rfl
        (try simp only [Act.put, List.setIfInBounds_toArray, List.set_cons_zero, List.set_cons_succ])
        refine wpAnyH_done (by kernel_rfl) ?_ _
        go_wp2_with fail
        go_ret
        exact ⟨d, d2, m, rfl, HG.out.1, HG.out.2.1, HD.out.1, HD.out.2.1, HK.out.1, HK.out.2, HM.out.tr (HB4.out.2.2.2.tr HM8.out)⟩
      · have hal : Mod (fun _ => False) w4 (w4.drew.alloc (.cells #[.slice ua un uc, .slice ma mint.length mc] 33)) := ((Mod.refl _ w4).drew).alloc _
        have HRW0 := Lib.hid (rows_two (HB4.out.2.2.1.tr (Mod.refl (fun _ => False) w4).drew) (HT.out.tr (HB4.out.2.2.2.tr (Mod.refl (fun _ => False) w4).drew)))
        refine step_execW rfl (exec_rows2 _ _ rfl _ _ rfl rfl rfl rfl) ?_
        refine hK.out _ _ hal (fun hH => ?_)
        clear hK K
        (try simp only [Act.put, List.setIfInBounds_toArray, List.set_cons_zero, List.set_cons_succ])
        refine wpAnyH_ready (rs := [20]) (by kernel_rfl) (by simp) ?_
        refine AllReadyH.cons (o := { dst := some 47, op := Op.call { callee := Callee.value (Operand.func 13), args := #[Operand.tmp 46], argTypes := #[36] }, type := 33, pos := "totals.go:64", after := #[{ on := 19, ground := Ground.data }, { on := 18, ground := Ground.chain }, { on := 18, ground := Ground.guard }], guard := some (18, true) }) rfl (fun K hK => ?_) AllReadyH.nil
        go_simp
        have hcM := hal
        refine (assets_calls _ cs _ fees forf HX.out.1 es (HE.out.tr (HB4.out.2.2.2.tr hcM)) HX.out.2.2.2.2.2.1).mono ?_
        rintro e w5 ⟨u5, d, rfl, g1, g2, g3, g4, g5⟩
        obtain ⟨va, vn, vc, rfl⟩ := ownsRow_slice g3
        have HG := Lib.hid (And.intro g1 (And.intro g2 (And.intro (tots_at g3 (by have := perm_le g1; have := HX.out.2.2.2.2.2.1; omega)) (hcM.tr g5))))
        have HG5 := Lib.hid g5
        clear g1 g2 g3 g4 g5
        refine hK.out _ _ HG.out.2.2.2 (fun hH => ?_)
        clear hK K
        (try simp only [Act.put, List.setIfInBounds_toArray, List.set_cons_zero, List.set_cons_succ])
        have HRW := Lib.hid (rows_tr HRW0.out HG5.out)
        have HN6 := Lib.hid (And.intro HG.out.2.2.1 (And.intro HG.out.2.2.2 trivial))
        have HMC := Lib.hid (merge_calls _ _ _ HRW.out (by have h := perm_le HD.out.1; have := HX.out.2.2.2.2.2.2; simp only [List.flatten_cons, List.flatten_nil, List.append_nil, List.length_append]; omega) (by have h := perm_le HD.out.1; have h9 := bookA_len (d2 ++ mint); have := HX.out.2.2.2.2.2.2; simp only [List.flatten_cons, List.flatten_nil, List.append_nil, List.length_append] at h9 ⊢; omega))
        simp only [List.flatten_cons, List.flatten_nil, List.append_nil] at HMC
        refine wpAnyH_ready (rs := [28]) (by kernel_rfl) (by simp) ?_
        refine AllReadyH.cons (o := { dst := some 55, op := Op.call { callee := Callee.value (Operand.func 12), args := #[Operand.tmp 54], argTypes := #[60] }, type := 33, pos := "totals.go:64", after := #[{ on := 27, ground := Ground.data }, { on := 20, ground := Ground.chain }, { on := 18, ground := Ground.guard }], guard := some (18, true) }) rfl (fun K hK => ?_) AllReadyH.nil
        go_simp
        refine HMC.out.mono ?_
        rintro e w7 ⟨u7, m, rfl, k1, k2, k3, k4, k5⟩
        obtain ⟨xa, xn, xc, rfl⟩ := ownsRow_slice k3
        have hM7 := HN6.out.2.1.tr k5
        have HEQ := Lib.hid (equal_calls w7 _ _ d m (HN6.out.1.tr k5) (tots_at k3 (by have h := perm_le' k1; have h2 := perm_le HD.out.1; have := HX.out.2.2.2.2.2.2; simp only [List.length_append] at h; omega)))
        have HK := Lib.hid (And.intro k1 k2)
        refine hK.out _ _ hM7 (fun hH => ?_)
        have HM7 := Lib.hid hM7
        clear hK K k1 k2 k3 k4 k5 hM7
        (try simp only [Act.put, List.setIfInBounds_toArray, List.set_cons_zero, List.set_cons_succ])
        refine wpAnyH_ready (rs := [29]) (by kernel_rfl) (by simp) ?_
        refine AllReadyH.cons (o := { dst := some 56, op := Op.call { callee := Callee.value (Operand.func 29), args := #[Operand.tmp 47, Operand.tmp 55], argTypes := #[33, 33] }, type := 4, pos := "totals.go:64", after := #[{ on := 20, ground := Ground.data }, { on := 28, ground := Ground.data }, { on := 28, ground := Ground.chain }, { on := 18, ground := Ground.guard }], guard := some (18, true) }) rfl (fun K hK => ?_) AllReadyH.nil
        go_simp
        refine HEQ.out.mono ?_
        rintro e w8 ⟨rfl, hm8⟩
        have HM8 := Lib.hid (HM7.out.tr hm8)
        refine hK.out _ _ HM8.out (fun hH => ?_)
        clear hK K hm8
        (try simp only [Act.put, List.setIfInBounds_toArray, List.set_cons_zero, List.set_cons_succ])
        refine wpAnyH_take (i := 30) (oi := { dst := some 57, op := Op.pick (Operand.tmp 45) (Operand.tmp 56) (Operand.const (Value.bool false)), type := 4, pos := "totals.go:64", after := #[{ on := 18, ground := Ground.data }, { on := 29, ground := Ground.data }], guard := none }) (v := .bool (decide (d.map tN = m.map tN))) rfl (by kernel_rfl) (by kernel_rfl) (by kernel_rfl) (fun _ _ _ h => h) (Or.inl ⟨by rfl, ?_⟩) hH ?_
        · intro w' hSw
          go_simp; try with_reducible rfl
        (try simp only [Act.put, List.setIfInBounds_toArray, List.set_cons_zero, List.set_cons_succ])
        refine wpAnyH_take (i := 31) (oi := { dst := some 4, op := Op.assign (Operand.tmp 57), type := 4, pos := "totals.go:64", after := #[{ on := 30, ground := Ground.data }, { on := 29, ground := Ground.chain }, { on := 0, ground := Ground.phase }, { on := 1, ground := Ground.phase }, { on := 2, ground := Ground.phase }, { on := 3, ground := Ground.phase }, { on := 4, ground := Ground.phase }, { on := 5, ground := Ground.phase }, { on := 6, ground := Ground.phase }, { on := 7, ground := Ground.phase }, { on := 8, ground := Ground.phase }, { on := 9, ground := Ground.phase }, { on := 10, ground := Ground.phase }, { on := 11, ground := Ground.phase }, { on := 12, ground := Ground.phase }, { on := 13, ground := Ground.phase }, { on := 14, ground := Ground.phase }, { on := 15, ground := Ground.phase }, { on := 16, ground := Ground.phase }, { on := 17, ground := Ground.phase }, { on := 18, ground := Ground.phase }, { on := 19, ground := Ground.phase }, { on := 20, ground := Ground.phase }, { on := 21, ground := Ground.phase }, { on := 22, ground := Ground.phase }, { on := 23, ground := Ground.phase }, { on := 24, ground := Ground.phase }, { on := 25, ground := Ground.phase }, { on := 26, ground := Ground.phase }, { on := 27, ground := Ground.phase }, { on := 28, ground := Ground.phase }, { on := 29, ground := Ground.phase }, { on := 30, ground := Ground.phase }], guard := none }) (v := .bool (decide (d.map tN = m.map tN))) rfl (by kernel_rfl) (by kernel_rfl) (by kernel_rfl) (fun _ _ _ h => h) (Or.inl ⟨by rfl, ?_⟩) hH ?_
        · intro w' hSw
          go_simp
          try with_reducible rfl
        (try simp only [Act.put, List.setIfInBounds_toArray, List.set_cons_zero, List.set_cons_succ])
        refine wpAnyH_done (by kernel_rfl) ?_ _
        go_wp2_with fail
        go_ret
        exact ⟨d, d2, m, rfl, HG.out.1, HG.out.2.1, HD.out.1, HD.out.2.1, HK.out.1, HK.out.2, HM.out.tr (HB4.out.2.2.2.tr HM8.out)⟩
end Go.Proofs.Ytckcamlicgdklaa
