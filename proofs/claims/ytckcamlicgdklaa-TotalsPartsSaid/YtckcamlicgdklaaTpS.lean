/- totals.Balance. PRINTED BY A PROGRAM OF MY OWN. -/
import Derived.Test.YtckcamlicgdklaaTpR
namespace Go.Proofs.Ytckcamlicgdklaa
open Go.RowKit Go.Mo Go.Sort

theorem res9 {tmps : Array Value} {b : Nat} {W : World} {x y u : Value} (ht : tmps[4]?.getD undef = .pointer (some ⟨b, 0, none⟩)) (hu : tmps[5]?.getD undef = u) (h : W.heap[b]? = some (.cells #[x, y] 57 (0, 0))) : (results Try.f9 tmps).run Try.prog W = .ok (.tuple #[.agg #[x, y], u]) W := by
  have s0 := cellB h 0
  have s1 := cellB h 1
  simp only [List.getElem?_toArray, List.getElem?_cons_zero, List.getElem?_cons_succ] at s0 s1
  simp [results, Try.results9, go_sem, ht, hu, s0, s1]
set_option maxRecDepth 100000 in
set_option maxHeartbeats 4000000 in
theorem balance_calls (w : World) (cs : List Value) (sv : Value) (fees forf : Int) (hc : StC cs sv fees forf) (t : Adr) (es : List Ent) (h : EntsAt w sv es) (hbk : (bookV ((es.filter fun x => decide (x.addr = t)).map (·.val))).length ≤ 1000000) :
    Calls Try.prog 9 #[.agg cs.toArray, .agg (adrCells t).toArray] w fun e w' => SumsPost w ((es.filter fun x => decide (x.addr = t)).map (·.val)) e w' := by
  obtain ⟨w1, hw1⟩ : ∃ w1, ((w.alloc (.cells cs.toArray 36)).alloc (.cells (adrCells t).toArray 40)).alloc (.cells #[.int .i64 0, .int .u64 0] 57) = w1 := ⟨_, rfl⟩
  have hA : w1.heap[w.heap.size]? = some (.cells cs.toArray 36 (0, 0)) := by rw [← hw1]; exact allocB (allocB (newB w _) _) _
  have hQ : w1.heap[w.heap.size + 1]? = some (.cells (adrCells t).toArray 40 (0, 0)) := by
    rw [← hw1]; have := newB (w.alloc (.cells cs.toArray 36)) (.cells (adrCells t).toArray 40); rw [World.size_alloc] at this; exact allocB this _
  have hR : w1.heap[w.heap.size + 1 + 1]? = some (.cells #[.int .i64 0, .int .u64 0] 57 (0, 0)) := by
    rw [← hw1]; have := newB ((w.alloc (.cells cs.toArray 36)).alloc (.cells (adrCells t).toArray 40)) (.cells #[.int .i64 0, .int .u64 0] 57); rwa [World.size_alloc, World.size_alloc] at this
  have hm : Mod (fun _ => False) w w1 := by rw [← hw1]; exact (((Mod.refl _ w).alloc _).alloc _).alloc _
  have hs1 : w1.heap.size = w.heap.size + 3 := by rw [← hw1]; simp
  have s44 : w1.cell? ⟨w.heap.size, 44, none⟩ = some sv := by rw [cellB hA, List.getElem?_toArray]; exact hc.ents
  have HT := Lib.hid (tof_one w1 sv es (h.tr hm) (w.heap.size + 1) (fun x => decide (x.addr = t)) (fun x _ a c W hW => bal1_calls x a c (w.heap.size + 1) t W ((hW.block _ (ltB hQ) (fun q => q)).trans hQ)) hbk)
  have H1 := Lib.hid (And.intro hR (And.intro hm hs1))
  obtain ⟨sa, sc, rfl, _⟩ := h
  clear hA hQ hR hm hc hbk hs1
  generalize ((es.filter fun x => decide (x.addr = t)).map (·.val)) = vs at HT ⊢
  go_enter Try.func9, Try.ntmps9
  go_wp2_with fail
  refine HT.out.mono ?_
  rintro e w2 ⟨b, u, d, rfl, hb2, hb, h1, h2, h3, h4, h5⟩
  obtain ⟨ua, un, uc, rfl⟩ := ownsRow_slice h3
  have hR2 := (h5.block _ (ltB H1.out.1) (fun q => q)).trans H1.out.1
  have hsz := H1.out.2.2
  have H2 := Lib.hid (And.intro hR2 (And.intro hb2 (And.intro (H1.out.2.1.tr h5) (And.intro h1 (And.intro h2 (And.intro h3 h4))))))
  have HLT := Lib.hid (And.intro hb (ltB hb2))
  clear hR2 hb2 h1 h2 h3 h4 h5 hb
  go_upto_region 2 with fail
  refine wp_region_held_drew (S := fun W => W.heap[b]? = some (.cells #[.int .i64 (hiW (coins vs)), .int .u64 (loW (coins vs)), .slice ua un uc] 85 (0, 0))) (by kernel_rfl) H2.out.2.1 (fun hH => ?_)
  refine wpAnyH_take (i := 0) (oi := { dst := some 11, op := Op.move (Operand.tmp 6), type := 81, pos := "totals.go:53", after := #[], guard := none }) (v := .pointer (some ⟨b, 0, none⟩)) rfl (by kernel_rfl) (by kernel_rfl) (by kernel_rfl) (fun _ _ _ h => h) (Or.inl ⟨by rfl, ?_⟩) hH ?_
  · intro w' hSw
    go_simp
    try with_reducible rfl
  (try simp only [Act.put, List.setIfInBounds_toArray, List.set_cons_zero, List.set_cons_succ])
  refine wpAnyH_take (i := 1) (oi := { dst := some 12, op := Op.nilCheck (Operand.tmp 11), type := 0, pos := "totals.go:53", after := #[{ on := 0, ground := Ground.data }], guard := none }) (v := .pointer (some ⟨b, 0, none⟩)) rfl (by kernel_rfl) (by kernel_rfl) (by kernel_rfl) (fun _ _ _ h => h) (Or.inl ⟨by rfl, ?_⟩) hH ?_
  · intro w' hSw
    go_simp
    try with_reducible rfl
  (try simp only [Act.put, List.setIfInBounds_toArray, List.set_cons_zero, List.set_cons_succ])
  refine wpAnyH_take (i := 2) (oi := { dst := some 13, op := Op.fieldAddr 85 (Operand.tmp 12) 0, type := 0, pos := "totals.go:53", after := #[{ on := 1, ground := Ground.data }], guard := none }) (v := .pointer (some ⟨b, 0, none⟩)) rfl (by kernel_rfl) (by kernel_rfl) (by kernel_rfl) (fun _ _ _ h => h) (Or.inl ⟨by rfl, ?_⟩) hH ?_
  · intro w' hSw
    go_simp
    try with_reducible rfl
  (try simp only [Act.put, List.setIfInBounds_toArray, List.set_cons_zero, List.set_cons_succ])
  refine wpAnyH_take (i := 3) (oi := { dst := some 14, op := Op.load 57 (Operand.tmp 13), type := 57, pos := "totals.go:53", after := #[{ on := 2, ground := Ground.data }], guard := none }) (v := .agg #[.int .i64 (hiW (coins vs)), .int .u64 (loW (coins vs))]) rfl (by kernel_rfl) (by kernel_rfl) (by kernel_rfl) (fun _ _ _ h => h) (Or.inl ⟨by rfl, ?_⟩) hH ?_
  · intro w' hSw
    exact exec_load_at _ _ 57 _ rfl ⟨b, 0, none⟩ rfl (load57_85 hSw)
  (try simp only [Act.put, List.setIfInBounds_toArray, List.set_cons_zero, List.set_cons_succ])
  refine wpAnyH_take (i := 4) (oi := { dst := some 15, op := Op.move (Operand.tmp 6), type := 81, pos := "totals.go:53", after := #[{ on := 8, ground := Ground.gcOnly Departure.lateStores }], guard := none }) (v := .pointer (some ⟨b, 0, none⟩)) rfl (by kernel_rfl) (by kernel_rfl) (by kernel_rfl) (fun _ _ _ h => h) (Or.inl ⟨by rfl, ?_⟩) hH ?_
  · intro w' hSw
    go_simp
    try with_reducible rfl
  (try simp only [Act.put, List.setIfInBounds_toArray, List.set_cons_zero, List.set_cons_succ])
  refine wpAnyH_take (i := 5) (oi := { dst := some 16, op := Op.nilCheck (Operand.tmp 15), type := 0, pos := "totals.go:53", after := #[{ on := 4, ground := Ground.data }, { on := 8, ground := Ground.gcOnly Departure.lateStores }], guard := none }) (v := .pointer (some ⟨b, 0, none⟩)) rfl (by kernel_rfl) (by kernel_rfl) (by kernel_rfl) (fun _ _ _ h => h) (Or.inl ⟨by rfl, ?_⟩) hH ?_
  · intro w' hSw
    go_simp
    try with_reducible rfl
  (try simp only [Act.put, List.setIfInBounds_toArray, List.set_cons_zero, List.set_cons_succ])
  refine wpAnyH_take (i := 6) (oi := { dst := some 17, op := Op.fieldAddr 85 (Operand.tmp 16) 1, type := 0, pos := "totals.go:53", after := #[{ on := 5, ground := Ground.data }, { on := 8, ground := Ground.gcOnly Departure.lateStores }], guard := none }) (v := .pointer (some ⟨b, 2, none⟩)) rfl (by kernel_rfl) (by kernel_rfl) (by kernel_rfl) (fun _ _ _ h => h) (Or.inl ⟨by rfl, ?_⟩) hH ?_
  · intro w' hSw
    go_simp
    try with_reducible rfl
  (try simp only [Act.put, List.setIfInBounds_toArray, List.set_cons_zero, List.set_cons_succ])
  refine wpAnyH_take (i := 7) (oi := { dst := some 18, op := Op.load 33 (Operand.tmp 17), type := 33, pos := "totals.go:53", after := #[{ on := 6, ground := Ground.data }, { on := 8, ground := Ground.gcOnly Departure.lateStores }], guard := none }) (v := .slice ua un uc) rfl (by kernel_rfl) (by kernel_rfl) (by kernel_rfl) (fun _ _ _ h => h) (Or.inl ⟨by rfl, ?_⟩) hH ?_
  · intro w' hSw
    have s2 : w'.cell? ⟨b, 2, none⟩ = some (.slice ua un uc) := (cellB hSw 2).trans rfl
    go_simp
    try with_reducible rfl
  (try simp only [Act.put, List.setIfInBounds_toArray, List.set_cons_zero, List.set_cons_succ])
  refine wpAnyH_ready (rs := [8]) (by kernel_rfl) (by simp) ?_
  refine AllReadyH.cons (o := { dst := none, op := Op.store 57 (Operand.tmp 4) (Operand.tmp 14), type := 0, pos := "totals.go:53", after := #[{ on := 3, ground := Ground.data }, { on := 0, ground := Ground.phase }, { on := 1, ground := Ground.phase }, { on := 2, ground := Ground.phase }, { on := 3, ground := Ground.phase }, { on := 4, ground := Ground.textOnly Departure.lateStores }, { on := 5, ground := Ground.textOnly Departure.lateStores }, { on := 6, ground := Ground.textOnly Departure.lateStores }, { on := 7, ground := Ground.textOnly Departure.lateStores }], guard := none }) rfl (fun K hK => ?_) AllReadyH.nil
  have hb3 : (w2.drew.setRow (w.heap.size + 1 + 1) #[.int .i64 (hiW (coins vs)), .int .u64 (loW (coins vs))]).heap[b]? = some (.cells #[.int .i64 (hiW (coins vs)), .int .u64 (loW (coins vs)), .slice ua un uc] 85 (0, 0)) :=
    (setRow_other (by have := HLT.out.1; omega) _).trans (drewB H2.out.2.1)
  have hm3 : Mod (fun q => q = w.heap.size + 1 + 1) w2 (w2.drew.setRow (w.heap.size + 1 + 1) #[.int .i64 (hiW (coins vs)), .int .u64 (loW (coins vs))]) := Mod_setRow (Mod.refl (fun q => q = w.heap.size + 1 + 1) w2).drew (fun _ => rfl) _
  have hr3 := setRow_same (cs := #[.int .i64 (hiW (coins vs)), .int .u64 (loW (coins vs))]) (drewB H2.out.1)
  have hst := store57 w2.drew (w.heap.size + 1 + 1) (coins vs) (drewB H2.out.1)
  generalize w2.drew.setRow (w.heap.size + 1 + 1) #[.int .i64 (hiW (coins vs)), .int .u64 (loW (coins vs))] = w3 at hb3 hm3 hr3 hst
  refine step_execS rfl (exec_store _ _ rfl rfl rfl hst) ?_
  refine hK.out _ _ hb3 (fun hH => ?_)
  clear hK K
  (try simp only [Act.put])
  refine wpAnyH_take (i := 9) (oi := { dst := some 5, op := Op.assign (Operand.tmp 18), type := 33, pos := "totals.go:53", after := #[{ on := 7, ground := Ground.data }, { on := 8, ground := Ground.chain }, { on := 0, ground := Ground.phase }, { on := 1, ground := Ground.phase }, { on := 2, ground := Ground.phase }, { on := 3, ground := Ground.phase }, { on := 4, ground := Ground.phase }, { on := 5, ground := Ground.phase }, { on := 6, ground := Ground.phase }, { on := 7, ground := Ground.phase }, { on := 8, ground := Ground.phase }], guard := none }) (v := .slice ua un uc) rfl (by kernel_rfl) (by kernel_rfl) (by kernel_rfl) (fun _ _ _ h => h) (Or.inl ⟨by rfl, ?_⟩) hH ?_
  · intro w' hSw
    go_simp
    try with_reducible rfl
  (try simp only [Act.put, List.setIfInBounds_toArray, List.set_cons_zero, List.set_cons_succ])
  refine wpAnyH_done (by kernel_rfl) ?_ _
  go_wp2_with fail
  refine bodyPost_ret (v := .tuple #[wideV (coins vs), .slice ua un uc]) (res9 (x := .int .i64 (hiW (coins vs))) (y := .int .u64 (loW (coins vs))) rfl rfl ?_) rfl ⟨.slice ua un uc, d, rfl, H2.out.2.2.2.1, H2.out.2.2.2.2.1, ?_, fun k hk => ?_, ?_⟩
  · exact hr3
  · exact ownsRow_block H2.out.2.2.2.2.2.1 (fun q hq => hm3.block q (ownsRow_lt H2.out.2.2.2.2.2.1 hq) (fun e => by have := (H2.out.2.2.2.2.2.2 q hq).1; omega))
  · have := (H2.out.2.2.2.2.2.2 k hk).1
    omega
  · exact H2.out.2.2.1.trans hm3 (fun q e hl => by omega)
end Go.Proofs.Ytckcamlicgdklaa
