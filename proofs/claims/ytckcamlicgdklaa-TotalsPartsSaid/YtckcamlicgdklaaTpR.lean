/- totals.Coins. -/
import Derived.Test.YtckcamlicgdklaaTpQ
namespace Go.Proofs.Ytckcamlicgdklaa
open Go.RowKit Go.Mo Go.Sort

theorem res10 {tmps : Array Value} {b : Nat} {W : World} {x y : Value} (ht : tmps[2]?.getD undef = .pointer (some ⟨b, 0, none⟩)) (h : W.heap[b]? = some (.cells #[x, y] 57 (0, 0))) : (results Try.f10 tmps).run Try.prog W = .ok (.agg #[x, y]) W := by
  have s0 := cellB h 0
  have s1 := cellB h 1
  simp only [List.getElem?_toArray, List.getElem?_cons_zero, List.getElem?_cons_succ] at s0 s1
  simp [results, Try.results10, go_sem, ht, s0, s1]
set_option maxRecDepth 100000 in
set_option maxHeartbeats 1000000 in
theorem coins_calls (w : World) (cs : List Value) (sv : Value) (fees forf : Int) (hc : StC cs sv fees forf) (hf : In64 fees) (hg : In64 forf) (es : List Ent) (h : EntsAt w sv es) (hbk : (bookV (es.map (·.val))).length ≤ 1000000) :
    Calls Try.prog 10 #[.agg cs.toArray] w fun e w' => e = .returned (wideV (coins (es.map (·.val)) + (fees + forf))) ∧ Mod (fun _ => False) w w' := by
  obtain ⟨w1, hw1⟩ : ∃ w1, (w.alloc (.cells cs.toArray 36)).alloc (.cells #[.int .i64 0, .int .u64 0] 57) = w1 := ⟨_, rfl⟩
  have hA : w1.heap[w.heap.size]? = some (.cells cs.toArray 36 (0, 0)) := by rw [← hw1]; exact allocB (newB w _) _
  have hR : w1.heap[w.heap.size + 1]? = some (.cells #[.int .i64 0, .int .u64 0] 57 (0, 0)) := by
    rw [← hw1]; have := newB (w.alloc (.cells cs.toArray 36)) (.cells #[.int .i64 0, .int .u64 0] 57); rwa [World.size_alloc] at this
  have hm : Mod (fun _ => False) w w1 := by rw [← hw1]; exact ((Mod.refl _ w).alloc _).alloc _
  have hs1 : w1.heap.size = w.heap.size + 2 := by rw [← hw1]; simp
  have s44 : w1.cell? ⟨w.heap.size, 44, none⟩ = some sv := by rw [cellB hA, List.getElem?_toArray]; exact hc.ents
  have HT := Lib.hid (tof_all w1 sv es (h.tr hm) (fun _ => true) (fun x _ a c W _ => each_calls x a c W) (by rw [filter_all]; exact hbk))
  rw [filter_all] at HT
  have H1 := Lib.hid (And.intro hA (And.intro hR (And.intro hm hs1)))
  have HC := Lib.hid (And.intro hc (And.intro hf hg))
  obtain ⟨sa, sc, rfl, _⟩ := h
  clear hA hR hm hc hbk hs1 hf hg
  go_enter Try.func10, Try.ntmps10
  go_wp2_with fail
  refine HT.out.mono ?_
  rintro e w2 ⟨b, u, d, rfl, hb2, hb, h1, h2, h3, h4, h5⟩
  obtain ⟨ua, un, uc, rfl⟩ := ownsRow_slice h3
  clear h1 h2 h3 h4
  have hA2 := (h5.block _ (ltB H1.out.1) (fun q => q)).trans H1.out.1
  have hR2 := (h5.block _ (ltB H1.out.2.1) (fun q => q)).trans H1.out.2.1
  have s177 : w2.cell? ⟨w.heap.size, 177, none⟩ = some (.int .i64 fees) := by rw [cellB hA2, List.getElem?_toArray]; exact HC.out.1.fees
  have s178 : w2.cell? ⟨w.heap.size, 178, none⟩ = some (.int .i64 forf) := by rw [cellB hA2, List.getElem?_toArray]; exact HC.out.1.forf
  have hlt := ltB hb2
  have HS := Lib.hid (sadd_calls (w2.alloc (.cells #[.int .i64 fees, .int .i64 forf] 2)) b (coins (es.map (·.val))) ua un uc (allocB hb2 _) w2.heap.size [fees, forf] (newB w2 _) (by omega) (by intro n hn; simp at hn; rcases hn with rfl | rfl; exact HC.out.2.1; exact HC.out.2.2) (by simp))
  have H2 := Lib.hid (And.intro hR2 (And.intro (H1.out.2.2.1.tr h5) hb))
  have hsz := H1.out.2.2.2
  clear hb2 h5 hA2 hR2
  go_wp2_with fail
  refine HS.out.mono ?_
  rintro e w3 ⟨rfl, hb3, hm3⟩
  have hR3 := (hm3.block (w.heap.size + 1) (ltB (allocB H2.out.1 _)) (by omega)).trans (allocB H2.out.1 _)
  have hm3' : Mod (fun _ => False) w w3 := (H2.out.2.1.alloc _).trans hm3 (fun q e hl => by omega)
  have e0 := cellB hb3 0
  have e1 := cellB hb3 1
  have g0 := cellB hR3 0
  have g1 := cellB hR3 1
  have f0 := frozB hR3 0
  have f1 := frozB hR3 1
  simp only [List.getElem?_toArray, List.getElem?_cons_zero, List.getElem?_cons_succ] at e0 e1 g0 g1
  have H3 := Lib.hid (And.intro hR3 hm3')
  clear hR3 hm3' hb3 hm3
  have hsum : coins (es.map (·.val)) + [fees, forf].sum = coins (es.map (·.val)) + (fees + forf) := by simp
  rw [hsum] at e0 e1
  go_wp2_with fail
  refine bodyPost_ret (v := wideV (coins (es.map (·.val)) + (fees + forf))) (res10 (x := .int .i64 (hiW (coins (es.map (·.val)) + (fees + forf)))) (y := .int .u64 (loW (coins (es.map (·.val)) + (fees + forf)))) rfl ?_) rfl ⟨rfl, ?_⟩
  · rw [setB (setB H3.out.1 0 _) 1 _]; rfl
  · exact (H3.out.2.setCell (p := ⟨w.heap.size + 1, 0, none⟩) (fun q => absurd q (by simp)) _).setCell (p := ⟨w.heap.size + 1, 1, none⟩) (fun q => absurd q (by simp)) _
end Go.Proofs.Ytckcamlicgdklaa
