/- The document's device: what is wanted of a write; of any deed. -/
import Derived.Test.YtaaoabfmelpcpaaRfH
namespace Go.Proofs.Ytaaoabfmelpcpaa
open Go.RowKit Go.Mo

section
variable {w w' w0 w1 : World} {R : Nat} {S : Nat → Prop} {d : Dv} {n : Nat}

set_option maxRecDepth 100000 in
set_option maxHeartbeats 1000000 in
theorem wants_0_all (h : Ref w R S d n) (hn : n ≤ 16384) (hlen0 : d.waiting.length < 1000000) (x : Deed) (a : Option Addr) (c : Nat) (hq : pickM x.what 8 = 0) (hat : -1 ≤ x.at_) :
    Calls Try.prog 12 #[.pointer (some ⟨R, 0, none⟩), .agg #[.int .i64 x.what, .int .i64 x.at_, .int .i64 x.n, .slice a x.bits.length c]] w (WantsPost w R S d n x) := by
  have hb := begun w x (.slice a x.bits.length c)
  have hS := h.lt
  obtain ⟨w0, hw0⟩ : ∃ w0, ((w.alloc (.cells #[.int .i64 x.what, .int .i64 x.at_, .int .i64 x.n, .slice a x.bits.length c] 36)).alloc (.cells #[.string ⟨#[]⟩, .int .i64 0, .bool false] 32)).alloc (.cells #[.string ⟨#[]⟩, .int .i64 0, .bool false] 32) = w0 := ⟨_, rfl⟩
  rw [hw0] at hb
  have HM := Lib.hid (fun w1 (hm : Mod (fun _ => False) w0 w1) k v bs T hv => write_R (h.step (hb.mod.tr0 hm) (fun _ _ q => q)) hn k v bs T hv hlen0)
  have hpk := fun w => pick_calls x.what 8 w (by omega)
  rw [hq] at hpk
  have HK := Lib.hid hpk
  have HS := Lib.hid (sector_ok x.n w0)
  have e30 : w0.cell? ⟨w.heap.size, 0, none⟩ = some (.int .i64 x.what) := by rw [cellB hb.h3]; rfl
  have e31 : w0.cell? ⟨w.heap.size, 1, none⟩ = some (.int .i64 x.at_) := by rw [cellB hb.h3]; rfl
  have e32 : w0.cell? ⟨w.heap.size, 2, none⟩ = some (.int .i64 x.n) := by rw [cellB hb.h3]; rfl
  have HB := Lib.hid hb
  have hwr : wrB x = (sector x.n).drop 0 := by unfold wrB; split <;> first | omega | simp
  have hmx : max x.at_ (-1) = x.at_ := by omega
  have HP := Lib.hid (And.intro (show doesT (some d) x = told [] (writeE d x.at_ 256) true by rw [doesT, if_pos hq, hwr, hmx]; simp [sector_length, writeE']) (show dd d x = writeD d x.at_ ((sector x.n).drop 0) by rw [dd, if_pos hq, hwr, hmx]))
  have HSS := Lib.hid hS
  have hbq : (x.at_ == -2) = false := by simp; omega
  have hge : -1 ≤ x.at_ := by omega
  clear hpk hq h hb hwr hS hat hlen0
  go_enter Try.func12, Try.ntmps12
  go_wp2_with (first | (go_at_call 15; refine (HK.out _).mono ?_; rintro e w' ⟨rfl, rfl⟩))
  refine HS.out.mono ?_
  rintro e w1 ⟨v, rfl, hv, hm⟩
  have hsz := HB.out.size
  have k3 : w1.heap[w.heap.size]? = some (.cells #[.int .i64 x.what, .int .i64 x.at_, .int .i64 x.n, .slice a x.bits.length c] 36 (0, 0)) := (hm.block _ (by omega) (fun q => q)).trans HB.out.h3
  have k4 : w1.heap[w.heap.size + 1]? = some (.cells #[.string ⟨#[]⟩, .int .i64 0, .bool false] 32 (0, 0)) := (hm.block _ (by omega) (fun q => q)).trans HB.out.h4
  have k5 : w1.heap[w.heap.size + 1 + 1]? = some (.cells #[.string ⟨#[]⟩, .int .i64 0, .bool false] 32 (0, 0)) := (hm.block _ (by omega) (fun q => q)).trans HB.out.h5
  have e31 : w1.cell? ⟨w.heap.size, 1, none⟩ = some (.int .i64 x.at_) := by rw [cellB k3]; rfl
  have hmw : Mod (fun _ => False) w w1 := HB.out.mod.tr0 hm
  have HMM := Lib.hid hm
  have HH := Lib.hid (And.intro hmw (And.intro k4 k5))
  have hsl := sector_length x.n
  have HV := Lib.hid hv
  generalize sector x.n = ss at hv hsl HV HP
  obtain ⟨ho, g, cap, rfl, hg1, hg2⟩ := hv
  simp only [hsl] at HV ⊢
  have hcap : 256 ≤ cap ∧ (cap : Int) ≤ 9223372036854775807 := by
    rcases ho.2 with ⟨h', _⟩ | ⟨_, _, _, e, _, _, h3, h4, _⟩
    · simp at h'
    · simp at e
      obtain ⟨_, rfl⟩ := e
      simp [maxLen] at h4
      omega
  clear hm k3 k4 k5 hmw ho
  go_wp2_with fail
  refine (HM.out w1 HMM.out x.at_ (.slice (some ⟨g, 0, none⟩) 256 cap) (ss.drop 0) (fun j => w0.heap.size ≤ j) ?_).mono ?_
  · exact ⟨⟨some ⟨g, 0, none⟩, cap, by simp [hsl]⟩, fun _ => by simpa using HV.out⟩
  have hlenn : (ss.drop 0).length = 256 := by simp [hsl]
  rw [hlenn]
  rintro e w2 ⟨rfl, ho1⟩
  obtain ⟨S', q1, q2, q3⟩ := id ho1
  have k4 := (q2.block _ (by omega) (fun q => by have := HSS.out _ q; omega)).trans HH.out.2.1
  have k5 := (q2.block _ (by omega) (fun q => by have := HSS.out _ q; omega)).trans HH.out.2.2
  obtain ⟨z0, z1, z2, g0, g1, g2⟩ := cells3 k4
  obtain ⟨y0, y1, y2, f0, f1, f2⟩ := cells3 k5
  have HQ := Lib.hid (And.intro k4 (And.intro k5 ho1))
  clear k4 k5 ho1 q1 q2 q3
  go_wp2
  refine bodyPost_ret (v := told [] (writeE d x.at_ 256) true) (res12 rfl (?_ : _ = some (Obj.cells #[.string ⟨#[]⟩, .int .i64 (writeE d x.at_ 256), .bool true] 32 (0, 0)))) rfl ?_
  · rw [setB (setB (setB (setB_other (setB_other HQ.out.1 (by simp) _) (by simp) _) 0 _) 1 _) 2 _]; rfl
  · refine ⟨by rw [HP.out.1], ?_⟩
    rw [HP.out.2]
    have hl1 := HMM.out.size
    exact HQ.out.2.2.wrap HH.out.1 (fun j => w.heap.size ≤ j ∧ j < w1.heap.size) ((((((Mod.refl (fun j => w.heap.size ≤ j ∧ j < w1.heap.size) w2).setCell (fun _ => by constructor <;> simp <;> omega) _).setCell (fun _ => by constructor <;> simp <;> omega) _).setCell (fun _ => by constructor <;> simp <;> omega) _).setCell (fun _ => by constructor <;> simp <;> omega) _).setCell (fun _ => by constructor <;> simp <;> omega) _) (fun j hj => hj) HSS.out

set_option maxRecDepth 100000 in
set_option maxHeartbeats 1000000 in
theorem wants_0_low (h : Ref w R S d n) (hn : n ≤ 16384) (hlen0 : d.waiting.length < 1000000) (x : Deed) (a : Option Addr) (c : Nat) (hq : pickM x.what 8 = 0) (hat : x.at_ < -2) :
    Calls Try.prog 12 #[.pointer (some ⟨R, 0, none⟩), .agg #[.int .i64 x.what, .int .i64 x.at_, .int .i64 x.n, .slice a x.bits.length c]] w (WantsPost w R S d n x) := by
  have hb := begun w x (.slice a x.bits.length c)
  have hS := h.lt
  obtain ⟨w0, hw0⟩ : ∃ w0, ((w.alloc (.cells #[.int .i64 x.what, .int .i64 x.at_, .int .i64 x.n, .slice a x.bits.length c] 36)).alloc (.cells #[.string ⟨#[]⟩, .int .i64 0, .bool false] 32)).alloc (.cells #[.string ⟨#[]⟩, .int .i64 0, .bool false] 32) = w0 := ⟨_, rfl⟩
  rw [hw0] at hb
  have HM := Lib.hid (fun w1 (hm : Mod (fun _ => False) w0 w1) k v bs T hv => write_R (h.step (hb.mod.tr0 hm) (fun _ _ q => q)) hn k v bs T hv hlen0)
  have hpk := fun w => pick_calls x.what 8 w (by omega)
  rw [hq] at hpk
  have HK := Lib.hid hpk
  have HS := Lib.hid (sector_ok x.n w0)
  have e30 : w0.cell? ⟨w.heap.size, 0, none⟩ = some (.int .i64 x.what) := by rw [cellB hb.h3]; rfl
  have e31 : w0.cell? ⟨w.heap.size, 1, none⟩ = some (.int .i64 x.at_) := by rw [cellB hb.h3]; rfl
  have e32 : w0.cell? ⟨w.heap.size, 2, none⟩ = some (.int .i64 x.n) := by rw [cellB hb.h3]; rfl
  have HB := Lib.hid hb
  have hwr : wrB x = (sector x.n).drop 0 := by unfold wrB; split <;> first | omega | simp
  have hmx : max x.at_ (-1) = (-1) := by omega
  have HP := Lib.hid (And.intro (show doesT (some d) x = told [] (writeE d (-1) 256) true by rw [doesT, if_pos hq, hwr, hmx]; simp [sector_length, writeE']) (show dd d x = writeD d (-1) ((sector x.n).drop 0) by rw [dd, if_pos hq, hwr, hmx]))
  have HSS := Lib.hid hS
  have hbq : (x.at_ == -2) = false := by simp; omega
  have hge : ¬ -1 ≤ x.at_ := by omega
  clear hpk hq h hb hwr hS hat hlen0
  go_enter Try.func12, Try.ntmps12
  go_wp2_with (first | (go_at_call 15; refine (HK.out _).mono ?_; rintro e w' ⟨rfl, rfl⟩))
  refine HS.out.mono ?_
  rintro e w1 ⟨v, rfl, hv, hm⟩
  have hsz := HB.out.size
  have k3 : w1.heap[w.heap.size]? = some (.cells #[.int .i64 x.what, .int .i64 x.at_, .int .i64 x.n, .slice a x.bits.length c] 36 (0, 0)) := (hm.block _ (by omega) (fun q => q)).trans HB.out.h3
  have k4 : w1.heap[w.heap.size + 1]? = some (.cells #[.string ⟨#[]⟩, .int .i64 0, .bool false] 32 (0, 0)) := (hm.block _ (by omega) (fun q => q)).trans HB.out.h4
  have k5 : w1.heap[w.heap.size + 1 + 1]? = some (.cells #[.string ⟨#[]⟩, .int .i64 0, .bool false] 32 (0, 0)) := (hm.block _ (by omega) (fun q => q)).trans HB.out.h5
  have e31 : w1.cell? ⟨w.heap.size, 1, none⟩ = some (.int .i64 x.at_) := by rw [cellB k3]; rfl
  have hmw : Mod (fun _ => False) w w1 := HB.out.mod.tr0 hm
  have HMM := Lib.hid hm
  have HH := Lib.hid (And.intro hmw (And.intro k4 k5))
  have hsl := sector_length x.n
  have HV := Lib.hid hv
  generalize sector x.n = ss at hv hsl HV HP
  obtain ⟨ho, g, cap, rfl, hg1, hg2⟩ := hv
  simp only [hsl] at HV ⊢
  have hcap : 256 ≤ cap ∧ (cap : Int) ≤ 9223372036854775807 := by
    rcases ho.2 with ⟨h', _⟩ | ⟨_, _, _, e, _, _, h3, h4, _⟩
    · simp at h'
    · simp at e
      obtain ⟨_, rfl⟩ := e
      simp [maxLen] at h4
      omega
  clear hm k3 k4 k5 hmw ho
  go_wp2_with fail
  refine (HM.out w1 HMM.out (-1) (.slice (some ⟨g, 0, none⟩) 256 cap) (ss.drop 0) (fun j => w0.heap.size ≤ j) ?_).mono ?_
  · exact ⟨⟨some ⟨g, 0, none⟩, cap, by simp [hsl]⟩, fun _ => by simpa using HV.out⟩
  have hlenn : (ss.drop 0).length = 256 := by simp [hsl]
  rw [hlenn]
  rintro e w2 ⟨rfl, ho1⟩
  obtain ⟨S', q1, q2, q3⟩ := id ho1
  have k4 := (q2.block _ (by omega) (fun q => by have := HSS.out _ q; omega)).trans HH.out.2.1
  have k5 := (q2.block _ (by omega) (fun q => by have := HSS.out _ q; omega)).trans HH.out.2.2
  obtain ⟨z0, z1, z2, g0, g1, g2⟩ := cells3 k4
  obtain ⟨y0, y1, y2, f0, f1, f2⟩ := cells3 k5
  have HQ := Lib.hid (And.intro k4 (And.intro k5 ho1))
  clear k4 k5 ho1 q1 q2 q3
  go_wp2
  refine bodyPost_ret (v := told [] (writeE d (-1) 256) true) (res12 rfl (?_ : _ = some (Obj.cells #[.string ⟨#[]⟩, .int .i64 (writeE d (-1) 256), .bool true] 32 (0, 0)))) rfl ?_
  · rw [setB (setB (setB (setB_other (setB_other HQ.out.1 (by simp) _) (by simp) _) 0 _) 1 _) 2 _]; rfl
  · refine ⟨by rw [HP.out.1], ?_⟩
    rw [HP.out.2]
    have hl1 := HMM.out.size
    exact HQ.out.2.2.wrap HH.out.1 (fun j => w.heap.size ≤ j ∧ j < w1.heap.size) ((((((Mod.refl (fun j => w.heap.size ≤ j ∧ j < w1.heap.size) w2).setCell (fun _ => by constructor <;> simp <;> omega) _).setCell (fun _ => by constructor <;> simp <;> omega) _).setCell (fun _ => by constructor <;> simp <;> omega) _).setCell (fun _ => by constructor <;> simp <;> omega) _).setCell (fun _ => by constructor <;> simp <;> omega) _) (fun j hj => hj) HSS.out

set_option maxRecDepth 100000 in
set_option maxHeartbeats 1000000 in
theorem wants_0_tail (h : Ref w R S d n) (hn : n ≤ 16384) (hlen0 : d.waiting.length < 1000000) (x : Deed) (a : Option Addr) (c : Nat) (hq : pickM x.what 8 = 0) (hat : x.at_ = -2) :
    Calls Try.prog 12 #[.pointer (some ⟨R, 0, none⟩), .agg #[.int .i64 x.what, .int .i64 x.at_, .int .i64 x.n, .slice a x.bits.length c]] w (WantsPost w R S d n x) := by
  have hb := begun w x (.slice a x.bits.length c)
  have hS := h.lt
  obtain ⟨w0, hw0⟩ : ∃ w0, ((w.alloc (.cells #[.int .i64 x.what, .int .i64 x.at_, .int .i64 x.n, .slice a x.bits.length c] 36)).alloc (.cells #[.string ⟨#[]⟩, .int .i64 0, .bool false] 32)).alloc (.cells #[.string ⟨#[]⟩, .int .i64 0, .bool false] 32) = w0 := ⟨_, rfl⟩
  rw [hw0] at hb
  have HM := Lib.hid (fun w1 (hm : Mod (fun _ => False) w0 w1) k v bs T hv => write_R (h.step (hb.mod.tr0 hm) (fun _ _ q => q)) hn k v bs T hv hlen0)
  have hpk := fun w => pick_calls x.what 8 w (by omega)
  rw [hq] at hpk
  have HK := Lib.hid hpk
  have HS := Lib.hid (sector_ok x.n w0)
  have e30 : w0.cell? ⟨w.heap.size, 0, none⟩ = some (.int .i64 x.what) := by rw [cellB hb.h3]; rfl
  have e31 : w0.cell? ⟨w.heap.size, 1, none⟩ = some (.int .i64 x.at_) := by rw [cellB hb.h3]; rfl
  have e32 : w0.cell? ⟨w.heap.size, 2, none⟩ = some (.int .i64 x.n) := by rw [cellB hb.h3]; rfl
  have HB := Lib.hid hb
  have hwr : wrB x = (sector x.n).drop 1 := by unfold wrB; split <;> first | omega | simp [List.drop_one]
  have hmx : max x.at_ (-1) = (-1) := by omega
  have HP := Lib.hid (And.intro (show doesT (some d) x = told [] (writeE d (-1) 255) true by rw [doesT, if_pos hq, hwr, hmx]; simp [sector_length, writeE']) (show dd d x = writeD d (-1) ((sector x.n).drop 1) by rw [dd, if_pos hq, hwr, hmx]))
  have HSS := Lib.hid hS
  have hbq : (x.at_ == -2) = true := by simp; omega
  have hge : ¬ -1 ≤ x.at_ := by omega
  clear hpk hq h hb hwr hS hat hlen0
  go_enter Try.func12, Try.ntmps12
  go_wp2_with (first | (go_at_call 15; refine (HK.out _).mono ?_; rintro e w' ⟨rfl, rfl⟩))
  refine HS.out.mono ?_
  rintro e w1 ⟨v, rfl, hv, hm⟩
  have hsz := HB.out.size
  have k3 : w1.heap[w.heap.size]? = some (.cells #[.int .i64 x.what, .int .i64 x.at_, .int .i64 x.n, .slice a x.bits.length c] 36 (0, 0)) := (hm.block _ (by omega) (fun q => q)).trans HB.out.h3
  have k4 : w1.heap[w.heap.size + 1]? = some (.cells #[.string ⟨#[]⟩, .int .i64 0, .bool false] 32 (0, 0)) := (hm.block _ (by omega) (fun q => q)).trans HB.out.h4
  have k5 : w1.heap[w.heap.size + 1 + 1]? = some (.cells #[.string ⟨#[]⟩, .int .i64 0, .bool false] 32 (0, 0)) := (hm.block _ (by omega) (fun q => q)).trans HB.out.h5
  have e31 : w1.cell? ⟨w.heap.size, 1, none⟩ = some (.int .i64 x.at_) := by rw [cellB k3]; rfl
  have hmw : Mod (fun _ => False) w w1 := HB.out.mod.tr0 hm
  have HMM := Lib.hid hm
  have HH := Lib.hid (And.intro hmw (And.intro k4 k5))
  have hsl := sector_length x.n
  have HV := Lib.hid hv
  generalize sector x.n = ss at hv hsl HV HP
  obtain ⟨ho, g, cap, rfl, hg1, hg2⟩ := hv
  simp only [hsl] at HV ⊢
  have hcap : 256 ≤ cap ∧ (cap : Int) ≤ 9223372036854775807 := by
    rcases ho.2 with ⟨h', _⟩ | ⟨_, _, _, e, _, _, h3, h4, _⟩
    · simp at h'
    · simp at e
      obtain ⟨_, rfl⟩ := e
      simp [maxLen] at h4
      omega
  clear hm k3 k4 k5 hmw ho
  go_wp2_with fail
  refine (HM.out w1 HMM.out (-1) (.slice (some ⟨g, 1, none⟩) 255 (cap - 1)) (ss.drop 1) (fun j => w0.heap.size ≤ j) ?_).mono ?_
  · exact ⟨⟨some ⟨g, 1, none⟩, cap - 1, by simp [hsl]⟩, fun q => by simp [hsl] at q⟩
  have hlenn : (ss.drop 1).length = 255 := by simp [hsl]
  rw [hlenn]
  rintro e w2 ⟨rfl, ho1⟩
  obtain ⟨S', q1, q2, q3⟩ := id ho1
  have k4 := (q2.block _ (by omega) (fun q => by have := HSS.out _ q; omega)).trans HH.out.2.1
  have k5 := (q2.block _ (by omega) (fun q => by have := HSS.out _ q; omega)).trans HH.out.2.2
  obtain ⟨z0, z1, z2, g0, g1, g2⟩ := cells3 k4
  obtain ⟨y0, y1, y2, f0, f1, f2⟩ := cells3 k5
  have HQ := Lib.hid (And.intro k4 (And.intro k5 ho1))
  clear k4 k5 ho1 q1 q2 q3
  go_wp2
  refine bodyPost_ret (v := told [] (writeE d (-1) 255) true) (res12 rfl (?_ : _ = some (Obj.cells #[.string ⟨#[]⟩, .int .i64 (writeE d (-1) 255), .bool true] 32 (0, 0)))) rfl ?_
  · rw [setB (setB (setB (setB_other (setB_other HQ.out.1 (by simp) _) (by simp) _) 0 _) 1 _) 2 _]; rfl
  · refine ⟨by rw [HP.out.1], ?_⟩
    rw [HP.out.2]
    have hl1 := HMM.out.size
    exact HQ.out.2.2.wrap HH.out.1 (fun j => w.heap.size ≤ j ∧ j < w1.heap.size) ((((((Mod.refl (fun j => w.heap.size ≤ j ∧ j < w1.heap.size) w2).setCell (fun _ => by constructor <;> simp <;> omega) _).setCell (fun _ => by constructor <;> simp <;> omega) _).setCell (fun _ => by constructor <;> simp <;> omega) _).setCell (fun _ => by constructor <;> simp <;> omega) _).setCell (fun _ => by constructor <;> simp <;> omega) _) (fun j hj => hj) HSS.out

theorem wants_0 (h : Ref w R S d n) (hn : n ≤ 16384) (hlen0 : d.waiting.length < 1000000) (x : Deed) (a : Option Addr) (c : Nat) (hq : pickM x.what 8 = 0) :
    Calls Try.prog 12 #[.pointer (some ⟨R, 0, none⟩), .agg #[.int .i64 x.what, .int .i64 x.at_, .int .i64 x.n, .slice a x.bits.length c]] w (WantsPost w R S d n x) := by
  rcases Int.lt_trichotomy x.at_ (-2) with q | q | q
  · exact wants_0_low h hn hlen0 x a c hq q
  · exact wants_0_tail h hn hlen0 x a c hq q
  · exact wants_0_all h hn hlen0 x a c hq (by omega)

theorem wants_calls (h : Ref w R S d n) (hn : n ≤ 16384) (hlen0 : d.waiting.length < 1000000) (x : Deed) (hxn : x.n ≤ 9223372036854775807) (a : Option Addr) (c : Nat) (hbl : Bits w (.slice a x.bits.length c) x.bits) (hl : x.bits.length ≤ 140737488351232) (hbS : x.bits ≠ [] → ∀ j, (Value.slice a x.bits.length c).ownBlock = some j → ¬ S j) :
    Calls Try.prog 12 #[.pointer (some ⟨R, 0, none⟩), .agg #[.int .i64 x.what, .int .i64 x.at_, .int .i64 x.n, .slice a x.bits.length c]] w (WantsPost w R S d n x) := by
  rcases pickM_eight x.what with q | q | q | q | q | q | q | q
  · exact wants_0 h hn hlen0 x a c q
  · by_cases hr : readE d x.at_ = 0
    · exact wants_1ok h x hr a c q
    · exact wants_1no h x hr a c q
  · exact wants_2 h x a c q
  · exact wants_3 h x hxn a c q
  · exact wants_4 h x a c q
  · exact wants_5 h x a c hbl hl hbS q
  · exact wants_6 h x a c q
  · exact wants_7 h x a c q
end
end Go.Proofs.Ytaaoabfmelpcpaa
