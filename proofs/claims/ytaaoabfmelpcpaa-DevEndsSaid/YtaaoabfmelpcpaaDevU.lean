/- A deed is done: Read, Write. -/
import Derived.Test.YtaaoabfmelpcpaaDevT
namespace Go.Proofs.Ytaaoabfmelpcpaa
open Go.RowKit Go.Mo

theorem strOf_by8 (bs : Bs) : Go.strOfNums (bs.map fun x => (x.toNat : Int)) = ⟨bs.toArray⟩ := by
  unfold strOfNums
  congr 1
  rw [List.map_map]
  congr 1
  rw [show ((fun n : Int => UInt8.ofNat n.toNat) ∘ fun x : UInt8 => (x.toNat : Int)) = id from by funext x; simp]
  simp

theorem conv_byt {w : World} {S : Nat → Prop} {v : Value} {bs : Bs} (h : Byt w S v bs) : (convert 56 9 v).run Try.prog w = .ok (.string ⟨bs.toArray⟩) w := by
  obtain ⟨ho, g, cap, rfl, _, _⟩ := h
  have := run_convert_bytes_arg (P := Try.prog) w 56 5 Try.underlying56 Try.underlying5 g 0 bs.length cap (bs.map fun x => (x.toNat : Int)) (by simp) (fun i hi => by
    rw [Nat.zero_add, ho.cellAt i (by omega), List.getElem?_map, List.getElem?_eq_getElem hi]
    simp [by8, List.getD, List.getElem?_map, List.getElem?_eq_getElem hi]) 9 Try.underlying9
  rw [this, strOf_by8]
theorem conv_nil (w : World) : (convert 56 9 (.slice none 0 0)).run Try.prog w = .ok (.string ⟨#[]⟩) w := by
  have := run_convert_bytes_nil (P := Try.prog) w 56 5 Try.underlying56 Try.underlying5 0 0 9 Try.underlying9
  rw [this]; rfl

theorem byt_len {w : World} {S : Nat → Prop} {v : Value} {bs : Bs} (h : Byt w S v bs) : bs.length ≤ 9223372036854775807 := by
  obtain ⟨ho, g, cap, rfl, _, _⟩ := h
  rcases ho.2 with ⟨_, hl⟩ | ⟨_, _, _, e, _, _, h3, h4, _⟩
  · have : bs.length = 0 := by simpa using hl
    omega
  · simp [maxLen] at h4; omega
theorem byt_lt {w : World} {S : Nat → Prop} {g n cap : Nat} {bs : Bs} (h : Byt w S (.slice (.some ⟨g, 0, none⟩) n cap) bs) : g < w.heap.size := by
  obtain ⟨_, g', cap', e, _, hg⟩ := h
  cases e; exact hg

section
variable {w : World} {p : Value} {S : Nat → Prop} {o : Option Dv} {n : Nat}

set_option maxRecDepth 100000 in
set_option maxHeartbeats 1000000 in
theorem does_1 (h : Hd w p S o) (hi : InvO o n) (x : Deed) (a : Option Addr) (c : Nat) (hq : pickM x.what 8 = 1) :
    Calls Try.prog 11 #[p, .agg #[.int .i64 x.what, .int .i64 x.at_, .int .i64 x.n, .slice a x.bits.length c]] w (DoesPost w p S o x) := by
  have hb := begun w x (.slice a x.bits.length c)
  have hS := h.lt
  obtain ⟨w0, hw0⟩ : ∃ w0, ((w.alloc (.cells #[.int .i64 x.what, .int .i64 x.at_, .int .i64 x.n, .slice a x.bits.length c] 36)).alloc (.cells #[.string ⟨#[]⟩, .int .i64 0, .bool false] 32)).alloc (.cells #[.string ⟨#[]⟩, .int .i64 0, .bool false] 32) = w0 := ⟨_, rfl⟩
  rw [hw0] at hb
  have HM := Lib.hid (read_H (h.mod hb.mod) hi x.at_)
  have hpk := fun w => pick_calls x.what 8 w (by omega)
  rw [hq] at hpk
  have HK := Lib.hid hpk
  have HP := Lib.hid (fun W1 (hm : Mod (fun _ => False) w W1) => (⟨by simp [doesT, hq], by rw [show doesD o x = o by simp [doesD, hq]]; exact OpH.keep h hm⟩ : DoesPost w p S o x (.returned (told (readB' o x.at_) (readE' o x.at_) false)) W1))
  have e30 : w0.cell? ⟨w.heap.size, 0, none⟩ = some (.int .i64 x.what) := by rw [cellB hb.h3]; rfl
  have e31 : w0.cell? ⟨w.heap.size, 1, none⟩ = some (.int .i64 x.at_) := by rw [cellB hb.h3]; rfl
  have HB := Lib.hid hb
  clear hpk hq h hb hS
  go_enter Try.func11, Try.ntmps11
  go_wp2_with (first | (go_at_call 15; refine (HK.out _).mono ?_; rintro e w' ⟨rfl, rfl⟩))
  refine HM.out.mono ?_
  rintro e w1 ⟨v, rfl, hv, hm⟩
  have hsz := HB.out.size
  have k4 : w1.heap[w.heap.size + 1]? = some (.cells #[.string ⟨#[]⟩, .int .i64 0, .bool false] 32 (0, 0)) := (hm.block _ (by omega) (fun q => q)).trans HB.out.h4
  have k5 : w1.heap[w.heap.size + 1 + 1]? = some (.cells #[.string ⟨#[]⟩, .int .i64 0, .bool false] 32 (0, 0)) := (hm.block _ (by omega) (fun q => q)).trans HB.out.h5
  obtain ⟨z0, z1, z2, g0, g1, g2⟩ := cells3 k4
  obtain ⟨y0, y1, y2, f0, f1, f2⟩ := cells3 k5
  have hmw : Mod (fun _ => False) w w1 := HB.out.mod.tr0 hm
  have HH := Lib.hid (And.intro hmw (And.intro k4 k5))
  rcases hv with ⟨hnil, rfl⟩ | hv
  · rw [hnil] at HP
    have hcv := conv_nil
    clear hm k4 k5 hmw hsz hnil
    go_wp2
    go_loopw [11] (fun i wr => i = .int .i64 0 ∧ (w1.setCell ⟨w.heap.size + 1 + 1, 0, none⟩ (.string ⟨#[]⟩)).setCell ⟨w.heap.size + 1 + 1, 1, none⟩ (.int .i64 (readE' o x.at_)) = wr) (fun _ _ => 0)
    case atStart => exact ⟨rfl, rfl⟩
    case round =>
      obtain ⟨rfl, rfl⟩ := hrel
      go_wp2
      refine bodyPost_ret (v := told [] (readE' o x.at_) false) (res11 rfl (?_ : _ = some (Obj.cells #[.string ⟨#[]⟩, .int .i64 (readE' o x.at_), .bool false] 32 (0, 0)))) rfl (HP.out _ ?_)
      · rw [setB (setB (setB (setB_other (setB_other HH.out.2.1 (by simp) _) (by simp) _) 0 _) 1 _) 2 _]; rfl
      · exact ((((HH.out.1.setCell (by first | (simp; done) | (simp; omega)) _).setCell (by first | (simp; done) | (simp; omega)) _).setCell (by first | (simp; done) | (simp; omega)) _).setCell (by first | (simp; done) | (simp; omega)) _).setCell (by first | (simp; done) | (simp; omega)) _
  · generalize hbs : readB' o x.at_ = bs at hv
    rw [hbs] at HP
    have hcv := fun (W : World) (hm : Mod (fun j => j = w.heap.size + 1 + 1) w1 W) => conv_byt (hv.same (hm.same (fun j hj e => by have := hm.size; omega)) hm.size (T := fun j => w0.heap.size ≤ j) (fun _ q _ => q))
    have hcv1 := conv_byt hv
    obtain ⟨g, cap, rfl, hg1, hg2⟩ := hv.some
    have HV := Lib.hid hv
    have HMM := Lib.hid hm
    clear hm k4 k5 hmw hbs hv hcv
    go_wp2
    have hle : w0.heap.size ≤ w1.heap.size := HMM.out.size
    obtain ⟨W2, hW2⟩ : ∃ W2, (w1.setCell ⟨w.heap.size + 1 + 1, 0, none⟩ (.string ⟨bs.toArray⟩)).setCell ⟨w.heap.size + 1 + 1, 1, none⟩ (.int .i64 (readE' o x.at_)) = W2 := ⟨_, rfl⟩
    have hm2 : Mod (fun _ => False) w W2 := by
      rw [← hW2]
      exact (HH.out.1.setCell (by first | (simp; done) | (simp; omega)) _).setCell (by first | (simp; done) | (simp; omega)) _
    have k5 : W2.heap[w.heap.size + 1 + 1]? = some (.cells #[.string ⟨bs.toArray⟩, .int .i64 (readE' o x.at_), .bool false] 32 (0, 0)) := by
      rw [← hW2, setB (setB HH.out.2.2 0 _) 1 _]; rfl
    have k4 : W2.heap[w.heap.size + 1]? = some (.cells #[.string ⟨#[]⟩, .int .i64 0, .bool false] 32 (0, 0)) := by
      rw [← hW2]; exact setB_other (setB_other HH.out.2.1 (by simp) _) (by simp) _
    have kg : Byt W2 (fun j => w0.heap.size ≤ j) (.slice (some ⟨g, 0, none⟩) bs.length cap) bs := by
      have hms : Mod (fun j => j = w.heap.size + 1 + 1) w1 W2 := by
        rw [← hW2]; exact ((Mod.refl (fun j => j = w.heap.size + 1 + 1) w1).setCell (fun _ => rfl) _).setCell (fun _ => rfl) _
      exact HV.out.same (hms.same (fun j hj e => by omega)) hms.size (fun _ q _ => q)
    rw [hW2]
    have hcap : bs.length ≤ 9223372036854775807 := byt_len kg
    have HM2 := Lib.hid (And.intro hm2 (And.intro k4 k5))
    clear hW2 hm2 k4 k5 hcv1 z0 z1 z2 g0 g1 g2 y0 y1 y2 f0 f1 f2
    have hgs : g < W2.heap.size := byt_lt kg
    go_loopw [11] (fun i wr => ∃ (k : Nat) (xs : List Value), k ≤ bs.length ∧ i = .int .i64 k ∧ wr.ownsRow 0 5 1 (.slice (some ⟨g, 0, none⟩) bs.length cap) bs.length xs ∧ Mod (fun j => j = g) W2 wr) (fun i _ => bs.length - (intOf i).toNat)
    case atStart => exact ⟨0, _, by omega, rfl, kg.own, Mod.refl _ _⟩
    case round =>
      obtain ⟨k, xs, hk, rfl, ho, hm⟩ := hrel
      by_cases hlt : k < bs.length
      · have hc := ho.cellAt k (by omega)
        obtain ⟨y, hy⟩ : ∃ y, xs[k]? = some y := ⟨_, List.getElem?_eq_getElem (show k < xs.length by have := ho.1; omega)⟩
        rw [hy] at hc
        have hf := ho.frozenAt k
        obtain ⟨hst1, hst2⟩ := ho.stored k (.int .u8 78)
        have H1 := Lib.hid hst1
        have H2 := Lib.hid hst2
        clear hst1 hst2 ho hy
        go_wp2
        go_roundw
        case rel => exact ⟨k + 1, _, by omega, by go_num, H1.out, hm.tr (Mod.grown (Mod.refl _ _) H2.out (fun j hj hl => by cases hj; rfl))⟩
        case measure => simp [intOf]; omega
      · have e : k = bs.length := by omega
        subst e
        have k4 := (hm.block _ (by omega) (fun q => by omega)).trans HM2.out.2.1
        have k5 := (hm.block _ (by omega) (fun q => by omega)).trans HM2.out.2.2
        obtain ⟨z0, z1, z2, g0, g1, g2⟩ := cells3 k4
        obtain ⟨y0, y1, y2, f0, f1, f2⟩ := cells3 k5
        have HK4 := Lib.hid k4
        clear k4 k5 ho
        go_wp2
        refine bodyPost_ret (v := told bs (readE' o x.at_) false) (res11 rfl (?_ : _ = some (Obj.cells #[.string ⟨bs.toArray⟩, .int .i64 (readE' o x.at_), .bool false] 32 (0, 0)))) rfl (HP.out _ ?_)
        · rw [setB (setB (setB HK4.out 0 _) 1 _) 2 _]; rfl
        · exact (((HM2.out.1.trans hm (fun j q l => by omega)).setCell (by simp) _).setCell (by simp) _).setCell (by simp) _
end
end Go.Proofs.Ytaaoabfmelpcpaa
