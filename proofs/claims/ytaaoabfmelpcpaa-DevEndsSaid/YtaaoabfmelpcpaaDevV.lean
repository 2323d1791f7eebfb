/- A deed is done: Write. -/
import Derived.Test.YtaaoabfmelpcpaaDevU
namespace Go.Proofs.Ytaaoabfmelpcpaa
open Go.RowKit Go.Mo

theorem conv_off {w : World} {g cap : Nat} {ss : Bs} (ho : w.ownsRow 0 5 1 (.slice (some ⟨g, 0, none⟩) ss.length cap) ss.length (ss.map by8)) (off c m : Nat) (hm : m = ss.length - off) (hoff : off ≤ ss.length) : (convert 56 9 (.slice (some ⟨g, off, none⟩) m c)).run Try.prog w = .ok (.string ⟨(ss.drop off).toArray⟩) w := by
  subst hm
  have := run_convert_bytes_arg (P := Try.prog) w 56 5 Try.underlying56 Try.underlying5 g off (ss.length - off) c ((ss.drop off).map fun x => (x.toNat : Int)) (by simp) (fun i hi => by
    rw [ho.cellAt (off + i) (by omega), List.getElem?_map, List.getElem?_eq_getElem (by omega)]
    simp [by8, List.getD, List.getElem?_map, List.getElem?_eq_getElem (show off + i < ss.length by omega)]) 9 Try.underlying9
  rw [this, strOf_by8]

section
variable {w : World} {p : Value} {S : Nat → Prop} {o : Option Dv} {n : Nat}

set_option maxRecDepth 100000 in
set_option maxHeartbeats 1000000 in
theorem does_0_all (h : Hd w p S o) (hi : InvO o n) (hn : n < 1000000) (x : Deed) (a : Option Addr) (c : Nat) (hq : pickM x.what 8 = 0) (hat : -1 ≤ x.at_) :
    Calls Try.prog 11 #[p, .agg #[.int .i64 x.what, .int .i64 x.at_, .int .i64 x.n, .slice a x.bits.length c]] w (DoesPost w p S o x) := by
  have hb := begun w x (.slice a x.bits.length c)
  have hS := h.lt
  obtain ⟨w0, hw0⟩ : ∃ w0, ((w.alloc (.cells #[.int .i64 x.what, .int .i64 x.at_, .int .i64 x.n, .slice a x.bits.length c] 36)).alloc (.cells #[.string ⟨#[]⟩, .int .i64 0, .bool false] 32)).alloc (.cells #[.string ⟨#[]⟩, .int .i64 0, .bool false] 32) = w0 := ⟨_, rfl⟩
  rw [hw0] at hb
  have HM := Lib.hid (fun w1 (hm : Mod (fun _ => False) w0 w1) k v bs T hv => write_H (h.mod (hb.mod.tr0 hm)) hi hn k v bs T hv)
  have hpk := fun w => pick_calls x.what 8 w (by omega)
  rw [hq] at hpk
  have HK := Lib.hid hpk
  have HS := Lib.hid (sector_ok x.n w0)
  have e30 : w0.cell? ⟨w.heap.size, 0, none⟩ = some (.int .i64 x.what) := by rw [cellB hb.h3]; rfl
  have e31 : w0.cell? ⟨w.heap.size, 1, none⟩ = some (.int .i64 x.at_) := by rw [cellB hb.h3]; rfl
  have e32 : w0.cell? ⟨w.heap.size, 2, none⟩ = some (.int .i64 x.n) := by rw [cellB hb.h3]; rfl
  have HB := Lib.hid hb
  have hwr : wrB x = (sector x.n).drop 0 := by unfold wrB; split <;> first | omega | simp
  have hmx : max x.at_ (-1) = x.at_ := by omega
  have HP := Lib.hid (And.intro (show doesT o x = told [] (writeE' o x.at_ 256) true by rw [doesT, if_pos hq, hwr, hmx]; simp [sector_length]) (show doesD o x = o.map fun d => writeD d x.at_ ((sector x.n).drop 0) by rw [doesD, if_pos hq, hwr, hmx]))
  have HSS := Lib.hid hS
  have hbq : (x.at_ == -2) = false := by simp; omega
  have hge : -1 ≤ x.at_ := by omega
  clear hpk hq h hb hwr hS hat
  go_enter Try.func11, Try.ntmps11
  go_wp2_with (first | (go_at_call 15; refine (HK.out _).mono ?_; rintro e w' ⟨rfl, rfl⟩))
  refine HS.out.mono ?_
  rintro e w1 ⟨v, rfl, hv, hm⟩
  have hsz := HB.out.size
  have k3 : w1.heap[w.heap.size]? = some (.cells #[.int .i64 x.what, .int .i64 x.at_, .int .i64 x.n, .slice a x.bits.length c] 36 (0, 0)) := (hm.block _ (by omega) (fun q => q)).trans HB.out.h3
  have k4 : w1.heap[w.heap.size + 1]? = some (.cells #[.string ⟨#[]⟩, .int .i64 0, .bool false] 32 (0, 0)) := (hm.block _ (by omega) (fun q => q)).trans HB.out.h4
  have k5 : w1.heap[w.heap.size + 1 + 1]? = some (.cells #[.string ⟨#[]⟩, .int .i64 0, .bool false] 32 (0, 0)) := (hm.block _ (by omega) (fun q => q)).trans HB.out.h5
  have e31 : w1.cell? ⟨w.heap.size, 1, none⟩ = some (.int .i64 x.at_) := by rw [cellB k3]; rfl
  have hmw : Mod (fun _ => False) w w1 := HB.out.mod.tr0 hm
  have HMM := Lib.hid hm
  have HH := Lib.hid (And.intro hmw (And.intro k4 k5))
  have hsl := sector_length x.n
  have HV := Lib.hid hv
  generalize sector x.n = ss at hv hsl HV HP
  obtain ⟨ho, g, cap, rfl, hg1, hg2⟩ := hv
  have hcv := conv_off ho 0 cap 256 (by omega) (by omega)
  simp only [hsl] at hcv HV ⊢
  have HO := Lib.hid ho
  have hcap : 256 ≤ cap ∧ (cap : Int) ≤ 9223372036854775807 := by
    rcases ho.2 with ⟨h', _⟩ | ⟨_, _, _, e, _, _, h3, h4, _⟩
    · simp at h'
    · simp at e
      obtain ⟨_, rfl⟩ := e
      simp [maxLen] at h4
      omega
  clear hm k3 k4 k5 hmw ho
  go_wp2_with fail
  refine (HM.out w1 HMM.out x.at_ (.slice (some ⟨g, 0, none⟩) 256 cap) (ss.drop 0) (fun j => w0.heap.size ≤ j) ?_).mono ?_
  · exact ⟨⟨some ⟨g, 0, none⟩, cap, by simp [hsl]⟩, fun _ => by simpa using HV.out⟩
  have hlenn : (ss.drop 0).length = 256 := by simp [hsl]
  rw [hlenn]
  rintro e w2 ⟨rfl, ho1⟩
  obtain ⟨S', q1, q2, q3⟩ := id ho1
  have k4 := (q2.block _ (by omega) (fun q => by have := HSS.out _ q; omega)).trans HH.out.2.1
  have k5 := (q2.block _ (by omega) (fun q => by have := HSS.out _ q; omega)).trans HH.out.2.2
  have ho2 := own_same (w' := w2) HO.out (fun k hk => by simp [Value.ownBlock] at hk; subst hk; exact q2.block _ hg2 (fun q => by have := HSS.out _ q; omega))
  have hg3 : g < w2.heap.size := Nat.lt_of_lt_of_le hg2 q2.size
  have ho3 := own_same (w' := w2.setCell ⟨w.heap.size + 1 + 1, 1, none⟩ (.int .i64 (writeE' o x.at_ 256))) ho2 (fun k hk => by
    simp [Value.ownBlock] at hk; subst hk
    exact ((Mod.refl (fun j => j = w.heap.size + 1 + 1) w2).setCell (p := ⟨w.heap.size + 1 + 1, 1, none⟩) (fun _ => rfl) _).block _ hg3 (by omega))
  have hcv3 := conv_off ho3 0 cap 256 (by omega) (by omega)
  obtain ⟨y0, y1, y2, f0, f1, f2⟩ := cells3 k5
  have HQ := Lib.hid (And.intro k4 (And.intro k5 (And.intro ho1 ho3)))
  simp only [hsl] at HQ
  clear k4 k5 ho2 ho3 ho1 q1 q2 q3
  go_wp2
  obtain ⟨W3, hW3⟩ : ∃ W3, (w2.setCell ⟨w.heap.size + 1 + 1, 1, none⟩ (.int .i64 (writeE' o x.at_ 256))).setCell ⟨w.heap.size + 1 + 1, 2, none⟩ (.bool true) = W3 := ⟨_, rfl⟩
  have hm3 : Mod (fun j => j = w.heap.size + 1 + 1) w2 W3 := by
    rw [← hW3]; exact ((Mod.refl (fun j => j = w.heap.size + 1 + 1) w2).setCell (fun _ => rfl) _).setCell (fun _ => rfl) _
  have k4 : W3.heap[w.heap.size + 1]? = some (.cells #[.string ⟨#[]⟩, .int .i64 0, .bool false] 32 (0, 0)) := by
    rw [← hW3]; exact setB_other (setB_other HQ.out.1 (by simp) _) (by simp) _
  have k5 : W3.heap[w.heap.size + 1 + 1]? = some (.cells #[.string ⟨#[]⟩, .int .i64 (writeE' o x.at_ 256), .bool true] 32 (0, 0)) := by
    rw [← hW3, setB (setB HQ.out.2.1 1 _) 2 _]; rfl
  have kg : W3.ownsRow 0 5 1 (.slice (some ⟨g, 0, none⟩) 256 cap) 256 (ss.map by8) := by
    rw [← hW3]
    exact own_same HQ.out.2.2.2 (fun k hk => by
      simp [Value.ownBlock] at hk; subst hk
      exact ((Mod.refl (fun j => j = w.heap.size + 1 + 1) _).setCell (p := ⟨w.heap.size + 1 + 1, 2, none⟩) (fun _ => rfl) _).block _ (by simpa using hg3) (by omega))
  have hg4 : g < W3.heap.size := by rw [← hW3]; simpa using hg3
  rw [hW3]
  have HM3 := Lib.hid (And.intro hm3 (And.intro k4 k5))
  have hsz3 := hm3.size
  have hsz2 : w.heap.size + 3 ≤ W3.heap.size := by omega
  clear hW3 hm3 k4 k5 hcv3 y0 y1 y2 f0 f1 f2 hcv
  go_loopw [8] (fun i wr => ∃ (k : Nat) (xs : List Value), k ≤ 256 ∧ i = .int .i64 k ∧ wr.ownsRow 0 5 1 (.slice (some ⟨g, 0, none⟩) 256 cap) 256 xs ∧ Mod (fun j => j = g) W3 wr) (fun i _ => 256 - (intOf i).toNat)
  case atStart => exact ⟨0, _, by omega, rfl, kg, Mod.refl _ _⟩
  case round =>
    obtain ⟨k, xs, hk, rfl, ho, hm⟩ := hrel
    by_cases hlt : k < 256
    · have hc := ho.cellAt k (by omega)
      obtain ⟨y, hy⟩ : ∃ y, xs[k]? = some y := ⟨_, List.getElem?_eq_getElem (show k < xs.length by have := ho.1; omega)⟩
      rw [hy] at hc
      have hf := ho.frozenAt k
      obtain ⟨hst1, hst2⟩ := ho.stored k (.int .u8 77)
      have H1 := Lib.hid hst1
      have H2 := Lib.hid hst2
      clear hst1 hst2 ho hy
      go_wp2
      go_roundw
      case rel => exact ⟨k + 1, _, by omega, by go_num, H1.out, hm.tr (Mod.grown (Mod.refl _ _) H2.out (fun j hj hl => by cases hj; rfl))⟩
      case measure => simp [intOf]; omega
    · have e : k = 256 := by omega
      subst e
      have k4 := (hm.block _ (by omega) (fun q => by omega)).trans HM3.out.2.1
      have k5 := (hm.block _ (by omega) (fun q => by omega)).trans HM3.out.2.2
      obtain ⟨z0, z1, z2, g0, g1, g2⟩ := cells3 k4
      obtain ⟨y0, y1, y2, f0, f1, f2⟩ := cells3 k5
      have HK4 := Lib.hid k4
      clear k4 k5 ho
      go_wp2
      refine bodyPost_ret (v := told [] (writeE' o x.at_ 256) true) (res11 rfl (?_ : _ = some (Obj.cells #[.string ⟨#[]⟩, .int .i64 (writeE' o x.at_ 256), .bool true] 32 (0, 0)))) rfl ?_
      · rw [setB (setB (setB HK4.out 0 _) 1 _) 2 _]; rfl
      · refine ⟨by rw [HP.out.1], ?_⟩
        rw [HP.out.2]
        refine HQ.out.2.2.1.wrap HH.out.1 (fun j => w.heap.size ≤ j ∧ j < w1.heap.size) ?_ (fun j hj => hj) HSS.out
        have hl1 := HMM.out.size
        exact (((HM3.out.1.weaken (fun j q l => (by subst q; omega : w.heap.size ≤ j ∧ j < w1.heap.size))).trans hm (fun j q l => by subst q; omega)).setCell (by simp; omega) _).setCell (by simp; omega) _ |>.setCell (by simp; omega) _

set_option maxRecDepth 100000 in
set_option maxHeartbeats 1000000 in
theorem does_0_low (h : Hd w p S o) (hi : InvO o n) (hn : n < 1000000) (x : Deed) (a : Option Addr) (c : Nat) (hq : pickM x.what 8 = 0) (hat : x.at_ < -2) :
    Calls Try.prog 11 #[p, .agg #[.int .i64 x.what, .int .i64 x.at_, .int .i64 x.n, .slice a x.bits.length c]] w (DoesPost w p S o x) := by
  have hb := begun w x (.slice a x.bits.length c)
  have hS := h.lt
  obtain ⟨w0, hw0⟩ : ∃ w0, ((w.alloc (.cells #[.int .i64 x.what, .int .i64 x.at_, .int .i64 x.n, .slice a x.bits.length c] 36)).alloc (.cells #[.string ⟨#[]⟩, .int .i64 0, .bool false] 32)).alloc (.cells #[.string ⟨#[]⟩, .int .i64 0, .bool false] 32) = w0 := ⟨_, rfl⟩
  rw [hw0] at hb
  have HM := Lib.hid (fun w1 (hm : Mod (fun _ => False) w0 w1) k v bs T hv => write_H (h.mod (hb.mod.tr0 hm)) hi hn k v bs T hv)
  have hpk := fun w => pick_calls x.what 8 w (by omega)
  rw [hq] at hpk
  have HK := Lib.hid hpk
  have HS := Lib.hid (sector_ok x.n w0)
  have e30 : w0.cell? ⟨w.heap.size, 0, none⟩ = some (.int .i64 x.what) := by rw [cellB hb.h3]; rfl
  have e31 : w0.cell? ⟨w.heap.size, 1, none⟩ = some (.int .i64 x.at_) := by rw [cellB hb.h3]; rfl
  have e32 : w0.cell? ⟨w.heap.size, 2, none⟩ = some (.int .i64 x.n) := by rw [cellB hb.h3]; rfl
  have HB := Lib.hid hb
  have hwr : wrB x = (sector x.n).drop 0 := by unfold wrB; split <;> first | omega | simp
  have hmx : max x.at_ (-1) = (-1) := by omega
  have HP := Lib.hid (And.intro (show doesT o x = told [] (writeE' o (-1) 256) true by rw [doesT, if_pos hq, hwr, hmx]; simp [sector_length]) (show doesD o x = o.map fun d => writeD d (-1) ((sector x.n).drop 0) by rw [doesD, if_pos hq, hwr, hmx]))
  have HSS := Lib.hid hS
  have hbq : (x.at_ == -2) = false := by simp; omega
  have hge : ¬ -1 ≤ x.at_ := by omega
  clear hpk hq h hb hwr hS hat
  go_enter Try.func11, Try.ntmps11
  go_wp2_with (first | (go_at_call 15; refine (HK.out _).mono ?_; rintro e w' ⟨rfl, rfl⟩))
  refine HS.out.mono ?_
  rintro e w1 ⟨v, rfl, hv, hm⟩
  have hsz := HB.out.size
  have k3 : w1.heap[w.heap.size]? = some (.cells #[.int .i64 x.what, .int .i64 x.at_, .int .i64 x.n, .slice a x.bits.length c] 36 (0, 0)) := (hm.block _ (by omega) (fun q => q)).trans HB.out.h3
  have k4 : w1.heap[w.heap.size + 1]? = some (.cells #[.string ⟨#[]⟩, .int .i64 0, .bool false] 32 (0, 0)) := (hm.block _ (by omega) (fun q => q)).trans HB.out.h4
  have k5 : w1.heap[w.heap.size + 1 + 1]? = some (.cells #[.string ⟨#[]⟩, .int .i64 0, .bool false] 32 (0, 0)) := (hm.block _ (by omega) (fun q => q)).trans HB.out.h5
  have e31 : w1.cell? ⟨w.heap.size, 1, none⟩ = some (.int .i64 x.at_) := by rw [cellB k3]; rfl
  have hmw : Mod (fun _ => False) w w1 := HB.out.mod.tr0 hm
  have HMM := Lib.hid hm
  have HH := Lib.hid (And.intro hmw (And.intro k4 k5))
  have hsl := sector_length x.n
  have HV := Lib.hid hv
  generalize sector x.n = ss at hv hsl HV HP
  obtain ⟨ho, g, cap, rfl, hg1, hg2⟩ := hv
  have hcv := conv_off ho 0 cap 256 (by omega) (by omega)
  simp only [hsl] at hcv HV ⊢
  have HO := Lib.hid ho
  have hcap : 256 ≤ cap ∧ (cap : Int) ≤ 9223372036854775807 := by
    rcases ho.2 with ⟨h', _⟩ | ⟨_, _, _, e, _, _, h3, h4, _⟩
    · simp at h'
    · simp at e
      obtain ⟨_, rfl⟩ := e
      simp [maxLen] at h4
      omega
  clear hm k3 k4 k5 hmw ho
  go_wp2_with fail
  refine (HM.out w1 HMM.out (-1) (.slice (some ⟨g, 0, none⟩) 256 cap) (ss.drop 0) (fun j => w0.heap.size ≤ j) ?_).mono ?_
  · exact ⟨⟨some ⟨g, 0, none⟩, cap, by simp [hsl]⟩, fun _ => by simpa using HV.out⟩
  have hlenn : (ss.drop 0).length = 256 := by simp [hsl]
  rw [hlenn]
  rintro e w2 ⟨rfl, ho1⟩
  obtain ⟨S', q1, q2, q3⟩ := id ho1
  have k4 := (q2.block _ (by omega) (fun q => by have := HSS.out _ q; omega)).trans HH.out.2.1
  have k5 := (q2.block _ (by omega) (fun q => by have := HSS.out _ q; omega)).trans HH.out.2.2
  have ho2 := own_same (w' := w2) HO.out (fun k hk => by simp [Value.ownBlock] at hk; subst hk; exact q2.block _ hg2 (fun q => by have := HSS.out _ q; omega))
  have hg3 : g < w2.heap.size := Nat.lt_of_lt_of_le hg2 q2.size
  have ho3 := own_same (w' := w2.setCell ⟨w.heap.size + 1 + 1, 1, none⟩ (.int .i64 (writeE' o (-1) 256))) ho2 (fun k hk => by
    simp [Value.ownBlock] at hk; subst hk
    exact ((Mod.refl (fun j => j = w.heap.size + 1 + 1) w2).setCell (p := ⟨w.heap.size + 1 + 1, 1, none⟩) (fun _ => rfl) _).block _ hg3 (by omega))
  have hcv3 := conv_off ho3 0 cap 256 (by omega) (by omega)
  obtain ⟨y0, y1, y2, f0, f1, f2⟩ := cells3 k5
  have HQ := Lib.hid (And.intro k4 (And.intro k5 (And.intro ho1 ho3)))
  simp only [hsl] at HQ
  clear k4 k5 ho2 ho3 ho1 q1 q2 q3
  go_wp2
  obtain ⟨W3, hW3⟩ : ∃ W3, (w2.setCell ⟨w.heap.size + 1 + 1, 1, none⟩ (.int .i64 (writeE' o (-1) 256))).setCell ⟨w.heap.size + 1 + 1, 2, none⟩ (.bool true) = W3 := ⟨_, rfl⟩
  have hm3 : Mod (fun j => j = w.heap.size + 1 + 1) w2 W3 := by
    rw [← hW3]; exact ((Mod.refl (fun j => j = w.heap.size + 1 + 1) w2).setCell (fun _ => rfl) _).setCell (fun _ => rfl) _
  have k4 : W3.heap[w.heap.size + 1]? = some (.cells #[.string ⟨#[]⟩, .int .i64 0, .bool false] 32 (0, 0)) := by
    rw [← hW3]; exact setB_other (setB_other HQ.out.1 (by simp) _) (by simp) _
  have k5 : W3.heap[w.heap.size + 1 + 1]? = some (.cells #[.string ⟨#[]⟩, .int .i64 (writeE' o (-1) 256), .bool true] 32 (0, 0)) := by
    rw [← hW3, setB (setB HQ.out.2.1 1 _) 2 _]; rfl
  have kg : W3.ownsRow 0 5 1 (.slice (some ⟨g, 0, none⟩) 256 cap) 256 (ss.map by8) := by
    rw [← hW3]
    exact own_same HQ.out.2.2.2 (fun k hk => by
      simp [Value.ownBlock] at hk; subst hk
      exact ((Mod.refl (fun j => j = w.heap.size + 1 + 1) _).setCell (p := ⟨w.heap.size + 1 + 1, 2, none⟩) (fun _ => rfl) _).block _ (by simpa using hg3) (by omega))
  have hg4 : g < W3.heap.size := by rw [← hW3]; simpa using hg3
  rw [hW3]
  have HM3 := Lib.hid (And.intro hm3 (And.intro k4 k5))
  have hsz3 := hm3.size
  have hsz2 : w.heap.size + 3 ≤ W3.heap.size := by omega
  clear hW3 hm3 k4 k5 hcv3 y0 y1 y2 f0 f1 f2 hcv
  go_loopw [8] (fun i wr => ∃ (k : Nat) (xs : List Value), k ≤ 256 ∧ i = .int .i64 k ∧ wr.ownsRow 0 5 1 (.slice (some ⟨g, 0, none⟩) 256 cap) 256 xs ∧ Mod (fun j => j = g) W3 wr) (fun i _ => 256 - (intOf i).toNat)
  case atStart => exact ⟨0, _, by omega, rfl, kg, Mod.refl _ _⟩
  case round =>
    obtain ⟨k, xs, hk, rfl, ho, hm⟩ := hrel
    by_cases hlt : k < 256
    · have hc := ho.cellAt k (by omega)
      obtain ⟨y, hy⟩ : ∃ y, xs[k]? = some y := ⟨_, List.getElem?_eq_getElem (show k < xs.length by have := ho.1; omega)⟩
      rw [hy] at hc
      have hf := ho.frozenAt k
      obtain ⟨hst1, hst2⟩ := ho.stored k (.int .u8 77)
      have H1 := Lib.hid hst1
      have H2 := Lib.hid hst2
      clear hst1 hst2 ho hy
      go_wp2
      go_roundw
      case rel => exact ⟨k + 1, _, by omega, by go_num, H1.out, hm.tr (Mod.grown (Mod.refl _ _) H2.out (fun j hj hl => by cases hj; rfl))⟩
      case measure => simp [intOf]; omega
    · have e : k = 256 := by omega
      subst e
      have k4 := (hm.block _ (by omega) (fun q => by omega)).trans HM3.out.2.1
      have k5 := (hm.block _ (by omega) (fun q => by omega)).trans HM3.out.2.2
      obtain ⟨z0, z1, z2, g0, g1, g2⟩ := cells3 k4
      obtain ⟨y0, y1, y2, f0, f1, f2⟩ := cells3 k5
      have HK4 := Lib.hid k4
      clear k4 k5 ho
      go_wp2
      refine bodyPost_ret (v := told [] (writeE' o (-1) 256) true) (res11 rfl (?_ : _ = some (Obj.cells #[.string ⟨#[]⟩, .int .i64 (writeE' o (-1) 256), .bool true] 32 (0, 0)))) rfl ?_
      · rw [setB (setB (setB HK4.out 0 _) 1 _) 2 _]; rfl
      · refine ⟨by rw [HP.out.1], ?_⟩
        rw [HP.out.2]
        refine HQ.out.2.2.1.wrap HH.out.1 (fun j => w.heap.size ≤ j ∧ j < w1.heap.size) ?_ (fun j hj => hj) HSS.out
        have hl1 := HMM.out.size
        exact (((HM3.out.1.weaken (fun j q l => (by subst q; omega : w.heap.size ≤ j ∧ j < w1.heap.size))).trans hm (fun j q l => by subst q; omega)).setCell (by simp; omega) _).setCell (by simp; omega) _ |>.setCell (by simp; omega) _

set_option maxRecDepth 100000 in
set_option maxHeartbeats 1000000 in
theorem does_0_tail (h : Hd w p S o) (hi : InvO o n) (hn : n < 1000000) (x : Deed) (a : Option Addr) (c : Nat) (hq : pickM x.what 8 = 0) (hat : x.at_ = -2) :
    Calls Try.prog 11 #[p, .agg #[.int .i64 x.what, .int .i64 x.at_, .int .i64 x.n, .slice a x.bits.length c]] w (DoesPost w p S o x) := by
  have hb := begun w x (.slice a x.bits.length c)
  have hS := h.lt
  obtain ⟨w0, hw0⟩ : ∃ w0, ((w.alloc (.cells #[.int .i64 x.what, .int .i64 x.at_, .int .i64 x.n, .slice a x.bits.length c] 36)).alloc (.cells #[.string ⟨#[]⟩, .int .i64 0, .bool false] 32)).alloc (.cells #[.string ⟨#[]⟩, .int .i64 0, .bool false] 32) = w0 := ⟨_, rfl⟩
  rw [hw0] at hb
  have HM := Lib.hid (fun w1 (hm : Mod (fun _ => False) w0 w1) k v bs T hv => write_H (h.mod (hb.mod.tr0 hm)) hi hn k v bs T hv)
  have hpk := fun w => pick_calls x.what 8 w (by omega)
  rw [hq] at hpk
  have HK := Lib.hid hpk
  have HS := Lib.hid (sector_ok x.n w0)
  have e30 : w0.cell? ⟨w.heap.size, 0, none⟩ = some (.int .i64 x.what) := by rw [cellB hb.h3]; rfl
  have e31 : w0.cell? ⟨w.heap.size, 1, none⟩ = some (.int .i64 x.at_) := by rw [cellB hb.h3]; rfl
  have e32 : w0.cell? ⟨w.heap.size, 2, none⟩ = some (.int .i64 x.n) := by rw [cellB hb.h3]; rfl
  have HB := Lib.hid hb
  have hwr : wrB x = (sector x.n).drop 1 := by unfold wrB; split <;> first | omega | simp [List.drop_one]
  have hmx : max x.at_ (-1) = (-1) := by omega
  have HP := Lib.hid (And.intro (show doesT o x = told [] (writeE' o (-1) 255) true by rw [doesT, if_pos hq, hwr, hmx]; simp [sector_length]) (show doesD o x = o.map fun d => writeD d (-1) ((sector x.n).drop 1) by rw [doesD, if_pos hq, hwr, hmx]))
  have HSS := Lib.hid hS
  have hbq : (x.at_ == -2) = true := by simp; omega
  have hge : ¬ -1 ≤ x.at_ := by omega
  clear hpk hq h hb hwr hS hat
  go_enter Try.func11, Try.ntmps11
  go_wp2_with (first | (go_at_call 15; refine (HK.out _).mono ?_; rintro e w' ⟨rfl, rfl⟩))
  refine HS.out.mono ?_
  rintro e w1 ⟨v, rfl, hv, hm⟩
  have hsz := HB.out.size
  have k3 : w1.heap[w.heap.size]? = some (.cells #[.int .i64 x.what, .int .i64 x.at_, .int .i64 x.n, .slice a x.bits.length c] 36 (0, 0)) := (hm.block _ (by omega) (fun q => q)).trans HB.out.h3
  have k4 : w1.heap[w.heap.size + 1]? = some (.cells #[.string ⟨#[]⟩, .int .i64 0, .bool false] 32 (0, 0)) := (hm.block _ (by omega) (fun q => q)).trans HB.out.h4
  have k5 : w1.heap[w.heap.size + 1 + 1]? = some (.cells #[.string ⟨#[]⟩, .int .i64 0, .bool false] 32 (0, 0)) := (hm.block _ (by omega) (fun q => q)).trans HB.out.h5
  have e31 : w1.cell? ⟨w.heap.size, 1, none⟩ = some (.int .i64 x.at_) := by rw [cellB k3]; rfl
  have hmw : Mod (fun _ => False) w w1 := HB.out.mod.tr0 hm
  have HMM := Lib.hid hm
  have HH := Lib.hid (And.intro hmw (And.intro k4 k5))
  have hsl := sector_length x.n
  have HV := Lib.hid hv
  generalize sector x.n = ss at hv hsl HV HP
  obtain ⟨ho, g, cap, rfl, hg1, hg2⟩ := hv
  have hcv := conv_off ho 1 (cap - 1) 255 (by omega) (by omega)
  simp only [hsl] at hcv HV ⊢
  have HO := Lib.hid ho
  have hcap : 256 ≤ cap ∧ (cap : Int) ≤ 9223372036854775807 := by
    rcases ho.2 with ⟨h', _⟩ | ⟨_, _, _, e, _, _, h3, h4, _⟩
    · simp at h'
    · simp at e
      obtain ⟨_, rfl⟩ := e
      simp [maxLen] at h4
      omega
  clear hm k3 k4 k5 hmw ho
  go_wp2_with fail
  refine (HM.out w1 HMM.out (-1) (.slice (some ⟨g, 1, none⟩) 255 (cap - 1)) (ss.drop 1) (fun j => w0.heap.size ≤ j) ?_).mono ?_
  · exact ⟨⟨some ⟨g, 1, none⟩, cap - 1, by simp [hsl]⟩, fun q => by simp [hsl] at q⟩
  have hlenn : (ss.drop 1).length = 255 := by simp [hsl]
  rw [hlenn]
  rintro e w2 ⟨rfl, ho1⟩
  obtain ⟨S', q1, q2, q3⟩ := id ho1
  have k4 := (q2.block _ (by omega) (fun q => by have := HSS.out _ q; omega)).trans HH.out.2.1
  have k5 := (q2.block _ (by omega) (fun q => by have := HSS.out _ q; omega)).trans HH.out.2.2
  have ho2 := own_same (w' := w2) HO.out (fun k hk => by simp [Value.ownBlock] at hk; subst hk; exact q2.block _ hg2 (fun q => by have := HSS.out _ q; omega))
  have hg3 : g < w2.heap.size := Nat.lt_of_lt_of_le hg2 q2.size
  have ho3 := own_same (w' := w2.setCell ⟨w.heap.size + 1 + 1, 1, none⟩ (.int .i64 (writeE' o (-1) 255))) ho2 (fun k hk => by
    simp [Value.ownBlock] at hk; subst hk
    exact ((Mod.refl (fun j => j = w.heap.size + 1 + 1) w2).setCell (p := ⟨w.heap.size + 1 + 1, 1, none⟩) (fun _ => rfl) _).block _ hg3 (by omega))
  have hcv3 := conv_off ho3 1 (cap - 1) 255 (by omega) (by omega)
  obtain ⟨y0, y1, y2, f0, f1, f2⟩ := cells3 k5
  have HQ := Lib.hid (And.intro k4 (And.intro k5 (And.intro ho1 ho3)))
  simp only [hsl] at HQ
  clear k4 k5 ho2 ho3 ho1 q1 q2 q3
  go_wp2
  obtain ⟨W3, hW3⟩ : ∃ W3, (w2.setCell ⟨w.heap.size + 1 + 1, 1, none⟩ (.int .i64 (writeE' o (-1) 255))).setCell ⟨w.heap.size + 1 + 1, 2, none⟩ (.bool true) = W3 := ⟨_, rfl⟩
  have hm3 : Mod (fun j => j = w.heap.size + 1 + 1) w2 W3 := by
    rw [← hW3]; exact ((Mod.refl (fun j => j = w.heap.size + 1 + 1) w2).setCell (fun _ => rfl) _).setCell (fun _ => rfl) _
  have k4 : W3.heap[w.heap.size + 1]? = some (.cells #[.string ⟨#[]⟩, .int .i64 0, .bool false] 32 (0, 0)) := by
    rw [← hW3]; exact setB_other (setB_other HQ.out.1 (by simp) _) (by simp) _
  have k5 : W3.heap[w.heap.size + 1 + 1]? = some (.cells #[.string ⟨#[]⟩, .int .i64 (writeE' o (-1) 255), .bool true] 32 (0, 0)) := by
    rw [← hW3, setB (setB HQ.out.2.1 1 _) 2 _]; rfl
  have kg : W3.ownsRow 0 5 1 (.slice (some ⟨g, 0, none⟩) 256 cap) 256 (ss.map by8) := by
    rw [← hW3]
    exact own_same HQ.out.2.2.2 (fun k hk => by
      simp [Value.ownBlock] at hk; subst hk
      exact ((Mod.refl (fun j => j = w.heap.size + 1 + 1) _).setCell (p := ⟨w.heap.size + 1 + 1, 2, none⟩) (fun _ => rfl) _).block _ (by simpa using hg3) (by omega))
  have hg4 : g < W3.heap.size := by rw [← hW3]; simpa using hg3
  rw [hW3]
  have HM3 := Lib.hid (And.intro hm3 (And.intro k4 k5))
  have hsz3 := hm3.size
  have hsz2 : w.heap.size + 3 ≤ W3.heap.size := by omega
  clear hW3 hm3 k4 k5 hcv3 y0 y1 y2 f0 f1 f2 hcv
  go_loopw [8] (fun i wr => ∃ (k : Nat) (xs : List Value), k ≤ 255 ∧ i = .int .i64 k ∧ wr.ownsRow 0 5 1 (.slice (some ⟨g, 0, none⟩) 256 cap) 256 xs ∧ Mod (fun j => j = g) W3 wr) (fun i _ => 255 - (intOf i).toNat)
  case atStart => exact ⟨0, _, by omega, rfl, kg, Mod.refl _ _⟩
  case round =>
    obtain ⟨k, xs, hk, rfl, ho, hm⟩ := hrel
    by_cases hlt : k < 255
    · have hc := ho.cellAt (1 + k) (by omega)
      obtain ⟨y, hy⟩ : ∃ y, xs[(1 + k)]? = some y := ⟨_, List.getElem?_eq_getElem (show (1 + k) < xs.length by have := ho.1; omega)⟩
      rw [hy] at hc
      have hf := ho.frozenAt (1 + k)
      obtain ⟨hst1, hst2⟩ := ho.stored (1 + k) (.int .u8 77)
      have H1 := Lib.hid hst1
      have H2 := Lib.hid hst2
      clear hst1 hst2 ho hy
      go_wp2
      go_roundw
      case rel => exact ⟨k + 1, _, by omega, by go_num, H1.out, hm.tr (Mod.grown (Mod.refl _ _) H2.out (fun j hj hl => by cases hj; rfl))⟩
      case measure => simp [intOf]; omega
    · have e : k = 255 := by omega
      subst e
      have k4 := (hm.block _ (by omega) (fun q => by omega)).trans HM3.out.2.1
      have k5 := (hm.block _ (by omega) (fun q => by omega)).trans HM3.out.2.2
      obtain ⟨z0, z1, z2, g0, g1, g2⟩ := cells3 k4
      obtain ⟨y0, y1, y2, f0, f1, f2⟩ := cells3 k5
      have HK4 := Lib.hid k4
      clear k4 k5 ho
      go_wp2
      refine bodyPost_ret (v := told [] (writeE' o (-1) 255) true) (res11 rfl (?_ : _ = some (Obj.cells #[.string ⟨#[]⟩, .int .i64 (writeE' o (-1) 255), .bool true] 32 (0, 0)))) rfl ?_
      · rw [setB (setB (setB HK4.out 0 _) 1 _) 2 _]; rfl
      · refine ⟨by rw [HP.out.1], ?_⟩
        rw [HP.out.2]
        refine HQ.out.2.2.1.wrap HH.out.1 (fun j => w.heap.size ≤ j ∧ j < w1.heap.size) ?_ (fun j hj => hj) HSS.out
        have hl1 := HMM.out.size
        exact (((HM3.out.1.weaken (fun j q l => (by subst q; omega : w.heap.size ≤ j ∧ j < w1.heap.size))).trans hm (fun j q l => by subst q; omega)).setCell (by simp; omega) _).setCell (by simp; omega) _ |>.setCell (by simp; omega) _

theorem does_0 (h : Hd w p S o) (hi : InvO o n) (hn : n < 1000000) (x : Deed) (a : Option Addr) (c : Nat) (hq : pickM x.what 8 = 0) :
    Calls Try.prog 11 #[p, .agg #[.int .i64 x.what, .int .i64 x.at_, .int .i64 x.n, .slice a x.bits.length c]] w (DoesPost w p S o x) := by
  rcases Int.lt_trichotomy x.at_ (-2) with q | q | q
  · exact does_0_low h hi hn x a c hq q
  · exact does_0_tail h hi hn x a c hq q
  · exact does_0_all h hi hn x a c hq (by omega)
end
end Go.Proofs.Ytaaoabfmelpcpaa
