/- totals.each, the function of Balance, totals.Assets. -/
import Derived.Test.YtckcamlicgdklaaTpO
namespace Go.Proofs.Ytckcamlicgdklaa
open Go.RowKit Go.Mo Go.Sort

theorem each_calls (x : Ent) (a : Option Addr) (c : Nat) (w : World) : Calls Try.prog 23 #[.agg (outCells x a c).toArray] w fun e w' => e = .returned (.bool true) ∧ Mod (fun _ => False) w w' := by
  go_enter Try.func23, Try.ntmps23
  go_wp2_with fail
  go_ret
  exact ⟨rfl, (Mod.refl _ w).alloc _⟩
theorem out_adr {w : World} {g : Nat} {x : Ent} {a : Option Addr} {c : Nat} {T : TypeId} (h : w.heap[g]? = some (.cells (outCells x a c).toArray T (0, 0))) : (loadVar 40 ⟨g, 0, none⟩).run Try.prog w = .ok (.agg (adrCells x.addr).toArray) w :=
  run_loadVar_mid w g 0 40 (adrCells x.addr) _ (fun j v hv => by
    rw [Nat.zero_add, cellB h, List.getElem?_toArray]
    have hj : j < (adrCells x.addr).length := (List.getElem?_eq_some_iff.1 hv).1
    have hh := x.hadr
    unfold Ent.adr at hh
    simp only [outCells, Ent.adr]
    rw [List.getElem?_append_left (by omega)]
    exact hv) Try.underlying40 rfl (by rw [size40, adrCells_length])
theorem load40 {w : World} {g : Nat} {a : Adr} {T : TypeId} (h : w.heap[g]? = some (.cells (adrCells a).toArray T (0, 0))) : (loadVar 40 ⟨g, 0, none⟩).run Try.prog w = .ok (.agg (adrCells a).toArray) w :=
  run_loadVar_mid w g 0 40 (adrCells a) _ (fun j v hv => by rw [Nat.zero_add, cellB h, List.getElem?_toArray]; exact hv) Try.underlying40 rfl (by rw [size40, adrCells_length])
theorem exec_eql40 (act : Act) (o : Oper) {w : World} {x y : Operand} {R : TypeId} (ho : o.op = .binOp .eql 40 x y R) (a b : Adr) (hx : act.eval x = .agg (adrCells a).toArray) (hy : act.eval y = .agg (adrCells b).toArray) : (execOp act.eval o).run Try.prog w = .ok (.value (.bool (decide (a = b)))) w := by
  have h := adr_eq a b w
  unfold adrV at h
  unfold execOp
  simp only [ho, hx, hy, Sem.run_bind, Sem.run_pure]
  have hgt : Try.prog.eqGuardType Try.prog.depth 40 = false := by kernel_rfl
  have hg : (eqGuard .eql 40 x y (.agg (adrCells a).toArray) (.agg (adrCells b).toArray)).run Try.prog w = .ok () w := by
    unfold eqGuard
    simp [hgt]
  have hb : (binOp .eql 40 (.agg (adrCells a).toArray) (.agg (adrCells b).toArray)).run Try.prog w = .ok (.bool (decide (a = b))) w := by
    unfold binOp
    simp [h]
  rw [hg]
  simp only [Result.andThen_ok, hb]
set_option maxRecDepth 100000 in
theorem bal1_calls (x : Ent) (a : Option Addr) (c : Nat) (q : Nat) (t : Adr) (w : World) (h : w.heap[q]? = some (.cells (adrCells t).toArray 40 (0, 0))) : Calls Try.prog 22 #[.agg (outCells x a c).toArray, .pointer (some ⟨q, 0, none⟩)] w fun e w' => e = .returned (.bool (decide (x.addr = t))) ∧ Mod (fun _ => False) w w' := by
  obtain ⟨w1, hw1⟩ : ∃ w1, w.alloc (.cells (outCells x a c).toArray 49) = w1 := ⟨_, rfl⟩
  have hb : w1.heap[w.heap.size]? = some (.cells (outCells x a c).toArray 49 (0, 0)) := by rw [← hw1]; exact newB w _
  have hq : w1.heap[q]? = some (.cells (adrCells t).toArray 40 (0, 0)) := by rw [← hw1]; exact allocB h _
  have hm : Mod (fun _ => False) w w1 := by rw [← hw1]; exact (Mod.refl _ w).alloc _
  have HL := Lib.hid (And.intro (out_adr hb) (load40 hq))
  have HM := Lib.hid hm
  clear hb hq hm h
  go_enter Try.func22, Try.ntmps22
  go_wp2_with (first
    | (refine wpList_exec rfl (exec_load_row _ _ 40 _ rfl w.heap.size rfl _ HL.out.1) ?_)
    | (refine wpList_exec rfl (exec_load_row _ _ 40 _ rfl q rfl _ HL.out.2) ?_)
    | (refine wpList_exec rfl (exec_eql40 _ _ rfl x.addr t rfl rfl) ?_))
  go_ret
  exact ⟨rfl, HM.out⟩

/-- A state's cells: its entries, fees, forfeits. -/
structure StC (cs : List Value) (sv : Value) (fees forf : Int) : Prop where
  len : cs.length = 182
  ents : cs[44]? = some sv
  fees : cs[177]? = some (.int .i64 fees)
  forf : cs[178]? = some (.int .i64 forf)
def AssetsPost (w : World) (vs : List Val) (e : Ending) (w' : World) : Prop :=
  ∃ u d, e = .returned u ∧ d.Perm ((bookV vs).filter (nzW ·.2)) ∧ srtT d ∧ w'.ownsRow 0 88 35 u d.length (totsCells d) ∧ (∀ k, u.ownBlock = some k → w.heap.size ≤ k) ∧ Mod (fun _ => False) w w'
theorem EntsAt.tr {w w' : World} {v : Value} {es : List Ent} (h : EntsAt w v es) (hm : Mod (fun _ => False) w w') : EntsAt w' v es := by
  obtain ⟨a, c, rfl, hl, h⟩ := h
  refine ⟨a, c, rfl, hl, fun i x hx => ?_⟩
  obtain ⟨h1, L, off, a2, c2, rfl, hL, hA, h2⟩ := h i x hx
  exact ⟨h1, L, off, a2, c2, rfl, Nat.lt_of_lt_of_le hL hm.size, hA.tr hm, fun j u hu => (hm.cell (p := ⟨L, _, none⟩) hL (fun q => q)).trans (h2 j u hu)⟩
theorem filter_all (es : List Ent) : es.filter (fun _ => true) = es := by simp
set_option maxRecDepth 100000 in
set_option maxHeartbeats 1000000 in
theorem assets_calls (w : World) (cs : List Value) (sv : Value) (fees forf : Int) (hc : StC cs sv fees forf) (es : List Ent) (h : EntsAt w sv es) (hbk : (bookV (es.map (·.val))).length ≤ 1000000) :
    Calls Try.prog 13 #[.agg cs.toArray] w fun e w' => AssetsPost w (es.map (·.val)) e w' := by
  obtain ⟨w1, hw1⟩ : ∃ w1, w.alloc (.cells cs.toArray 36) = w1 := ⟨_, rfl⟩
  have hb : w1.heap[w.heap.size]? = some (.cells cs.toArray 36 (0, 0)) := by rw [← hw1]; exact newB w _
  have hm : Mod (fun _ => False) w w1 := by rw [← hw1]; exact (Mod.refl _ w).alloc _
  have s44 : w1.cell? ⟨w.heap.size, 44, none⟩ = some sv := by rw [cellB hb, List.getElem?_toArray]; exact hc.ents
  have HT := Lib.hid (tof_all w1 sv es (h.tr hm) (fun _ => true) (fun x _ a c W _ => each_calls x a c W) (by rw [filter_all]; exact hbk))
  rw [filter_all] at HT
  have HM := Lib.hid hm
  obtain ⟨sa, sc, rfl, _⟩ := h
  clear hb hm hc hbk
  go_enter Try.func13, Try.ntmps13
  go_wp2_with fail
  refine HT.out.mono ?_
  rintro e w2 ⟨b, u, d, rfl, hb2, hb, h1, h2, h3, h4, h5⟩
  obtain ⟨ua, un, uc, rfl⟩ := ownsRow_slice h3
  have s2 : w2.cell? ⟨b, 2, none⟩ = some (.slice ua un uc) := (cellB hb2 2).trans rfl
  have H := Lib.hid (And.intro h1 (And.intro h2 (And.intro h3 (And.intro h4 (HM.out.tr h5)))))
  have hs := HM.out.size
  clear hb2 h1 h2 h3 h4 h5
  go_wp2_with fail
  go_ret
  exact ⟨_, d, rfl, H.out.1, H.out.2.1, H.out.2.2.1, fun k hk => by have := H.out.2.2.2.1 k hk; omega, H.out.2.2.2.2⟩
end Go.Proofs.Ytckcamlicgdklaa
