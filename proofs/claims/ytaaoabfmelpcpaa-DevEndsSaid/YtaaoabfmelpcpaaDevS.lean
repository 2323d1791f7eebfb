/- A deed is done: the methods without bytes. -/
import Derived.Test.YtaaoabfmelpcpaaDevR
namespace Go.Proofs.Ytaaoabfmelpcpaa
open Go.RowKit Go.Mo

theorem cells3 {W : World} {b : Nat} {x y z : Value} {T : TypeId} (h : W.heap[b]? = some (.cells #[x, y, z] T (0, 0))) :
    W.cell? ⟨b, 0, none⟩ = some x ∧ W.cell? ⟨b, 1, none⟩ = some y ∧ W.cell? ⟨b, 2, none⟩ = some z ∧ W.frozen? ⟨b, 0, none⟩ = false ∧ W.frozen? ⟨b, 1, none⟩ = false ∧ W.frozen? ⟨b, 2, none⟩ = false :=
  ⟨by rw [cellB h]; rfl, by rw [cellB h]; rfl, by rw [cellB h]; rfl, frozB h 0, frozB h 1, frozB h 2⟩

/-- What lies ready when a deed begins: the deed's box, the two answers. -/
structure Begun (w w0 : World) (x : Deed) (v : Value) : Prop where
  mod : Mod (fun _ => False) w w0
  size : w0.heap.size = w.heap.size + 3
  h3 : w0.heap[w.heap.size]? = some (.cells #[.int .i64 x.what, .int .i64 x.at_, .int .i64 x.n, v] 36 (0, 0))
  h4 : w0.heap[w.heap.size + 1]? = some (.cells #[.string ⟨#[]⟩, .int .i64 0, .bool false] 32 (0, 0))
  h5 : w0.heap[w.heap.size + 1 + 1]? = some (.cells #[.string ⟨#[]⟩, .int .i64 0, .bool false] 32 (0, 0))

theorem begun (w : World) (x : Deed) (v : Value) : Begun w (((w.alloc (.cells #[.int .i64 x.what, .int .i64 x.at_, .int .i64 x.n, v] 36)).alloc (.cells #[.string ⟨#[]⟩, .int .i64 0, .bool false] 32)).alloc (.cells #[.string ⟨#[]⟩, .int .i64 0, .bool false] 32)) x v := by
  refine ⟨(((Mod.refl _ w).alloc _).alloc _).alloc _, by simp, allocB (allocB (newB w _) _) _, ?_, ?_⟩
  · have := newB (w.alloc (.cells #[.int .i64 x.what, .int .i64 x.at_, .int .i64 x.n, v] 36)) (.cells #[.string ⟨#[]⟩, .int .i64 0, .bool false] 32)
    rw [World.size_alloc] at this; exact allocB this _
  · have := newB ((w.alloc (.cells #[.int .i64 x.what, .int .i64 x.at_, .int .i64 x.n, v] 36)).alloc (.cells #[.string ⟨#[]⟩, .int .i64 0, .bool false] 32)) (.cells #[.string ⟨#[]⟩, .int .i64 0, .bool false] 32)
    rw [World.size_alloc, World.size_alloc] at this; exact this

/-- The answer laid, the last step of a deed. -/
theorem fin11 {w w0 W : World} {p : Value} {S : Nat → Prop} {o o' : Option Dv} {x : Deed} {v : Value} (hb : Begun w w0 x v) (hS : ∀ j, S j → j < w.heap.size) {t1 : Value} (ho : OpH w0 W p S o') {T : Nat → Prop} {W1 : World} (hm : Mod T W W1) (hT : ∀ j, T j → w.heap.size ≤ j ∧ j < w0.heap.size)
    (hP : doesT o x = t1) (hD : doesD o x = o') : DoesPost w p S o x (.returned t1) W1 :=
  ⟨by rw [hP], by rw [hD]; exact ho.wrap hb.mod T hm hT hS⟩

/-- The boxes of a deed stand behind a method. -/
theorem begun_keep {w w0 w1 : World} {p : Value} {S : Nat → Prop} {o : Option Dv} {x : Deed} {v : Value} (hb : Begun w w0 x v) (hS : ∀ j, S j → j < w.heap.size) (ho : OpH w0 w1 p S o) :
    w1.heap[w.heap.size + 1]? = some (.cells #[.string ⟨#[]⟩, .int .i64 0, .bool false] 32 (0, 0)) ∧ w1.heap[w.heap.size + 1 + 1]? = some (.cells #[.string ⟨#[]⟩, .int .i64 0, .bool false] 32 (0, 0)) := by
  obtain ⟨S', _, hm, _⟩ := ho
  have hs := hb.size
  exact ⟨(hm.block _ (by omega) (fun q => by have := hS _ q; omega)).trans hb.h4, (hm.block _ (by omega) (fun q => by have := hS _ q; omega)).trans hb.h5⟩

section
variable {w : World} {p : Value} {S : Nat → Prop} {o : Option Dv} {n : Nat}

set_option maxRecDepth 100000 in
set_option maxHeartbeats 1000000 in
theorem does_2 (h : Hd w p S o) (x : Deed) (a : Option Addr) (c : Nat) (hq : pickM x.what 8 = 2) :
    Calls Try.prog 11 #[p, .agg #[.int .i64 x.what, .int .i64 x.at_, .int .i64 x.n, .slice a x.bits.length c]] w (DoesPost w p S o x) := by
  have hb := begun w x (.slice a x.bits.length c)
  have hS := h.lt
  obtain ⟨w0, hw0⟩ : ∃ w0, ((w.alloc (.cells #[.int .i64 x.what, .int .i64 x.at_, .int .i64 x.n, .slice a x.bits.length c] 36)).alloc (.cells #[.string ⟨#[]⟩, .int .i64 0, .bool false] 32)).alloc (.cells #[.string ⟨#[]⟩, .int .i64 0, .bool false] 32) = w0 := ⟨_, rfl⟩
  rw [hw0] at hb
  have HM := Lib.hid (flush_H (h.mod hb.mod))
  have hpk := fun w => pick_calls x.what 8 w (by omega)
  rw [hq] at hpk
  have HK := Lib.hid hpk
  have HP := Lib.hid (fun (w1 : World) (ho : OpH w0 w1 p S (o.map flushD)) W1 (hm : Mod (fun j => j = w.heap.size + 1 ∨ j = w.heap.size + 1 + 1) w1 W1) => fin11 (o := o) hb hS ho hm (fun j hj => by have := hb.size; omega) (show doesT o x = told [] (flushE' o) false by simp [doesT, hq]) (by simp [doesD, hq]))
  have HB := Lib.hid (fun (w1 : World) (ho : OpH w0 w1 p S (o.map flushD)) => begun_keep hb hS ho)
  have e30 : w0.cell? ⟨w.heap.size, 0, none⟩ = some (.int .i64 x.what) := by rw [cellB hb.h3]; rfl
  have e31 : w0.cell? ⟨w.heap.size, 1, none⟩ = some (.int .i64 x.at_) := by rw [cellB hb.h3]; rfl
  have e32 : w0.cell? ⟨w.heap.size, 2, none⟩ = some (.int .i64 x.n) := by rw [cellB hb.h3]; rfl
  clear hpk hq
  clear h hb hS
  go_enter Try.func11, Try.ntmps11
  go_wp2_with (first | (go_at_call 15; refine (HK.out _).mono ?_; rintro e w' ⟨rfl, rfl⟩))
  refine HM.out.mono ?_
  rintro e w1 ⟨rfl, ho⟩
  have hk := HB.out _ ho
  obtain ⟨z0, z1, z2, g0, g1, g2⟩ := cells3 hk.1
  obtain ⟨y0, y1, y2, f0, f1, f2⟩ := cells3 hk.2
  have HH := Lib.hid (And.intro ho hk)
  clear ho hk
  go_wp2
  refine bodyPost_ret (v := told [] (flushE' o) false) (res11 rfl (?_ : _ = some (Obj.cells #[.string ⟨#[]⟩, .int .i64 (flushE' o), .bool false] 32 (0, 0)))) rfl (HP.out _ HH.out.1 _ (((((Mod.refl _ w1).setCell (fun _ => .inr rfl) _).setCell (fun _ => .inl rfl) _).setCell (fun _ => .inl rfl) _).setCell (fun _ => .inl rfl) _))
  rw [setB (setB (setB (setB_other HH.out.2.1 (by simp) _) 0 _) 1 _) 2 _]; rfl

set_option maxRecDepth 100000 in
set_option maxHeartbeats 1000000 in
theorem does_3 (h : Hd w p S o) (x : Deed) (hxn : x.n ≤ 9223372036854775807) (a : Option Addr) (c : Nat) (hq : pickM x.what 8 = 3) :
    Calls Try.prog 11 #[p, .agg #[.int .i64 x.what, .int .i64 x.at_, .int .i64 x.n, .slice a x.bits.length c]] w (DoesPost w p S o x) := by
  have hb := begun w x (.slice a x.bits.length c)
  have hS := h.lt
  obtain ⟨w0, hw0⟩ : ∃ w0, ((w.alloc (.cells #[.int .i64 x.what, .int .i64 x.at_, .int .i64 x.n, .slice a x.bits.length c] 36)).alloc (.cells #[.string ⟨#[]⟩, .int .i64 0, .bool false] 32)).alloc (.cells #[.string ⟨#[]⟩, .int .i64 0, .bool false] 32) = w0 := ⟨_, rfl⟩
  rw [hw0] at hb
  have HM := Lib.hid (arm_H (h.mod hb.mod) x.n hxn)
  have hpk := fun w => pick_calls x.what 8 w (by omega)
  rw [hq] at hpk
  have HK := Lib.hid hpk
  have HP := Lib.hid (fun (w1 : World) (ho : OpH w0 w1 p S (o.map fun d => armD d x.n)) W1 (hm : Mod (fun j => j = w.heap.size + 1 ∨ j = w.heap.size + 1 + 1) w1 W1) => fin11 (o := o) hb hS ho hm (fun j hj => by have := hb.size; omega) (show doesT o x = told [] 0 false by simp [doesT, hq]) (by simp [doesD, hq]))
  have HB := Lib.hid (fun (w1 : World) (ho : OpH w0 w1 p S (o.map fun d => armD d x.n)) => begun_keep hb hS ho)
  have e30 : w0.cell? ⟨w.heap.size, 0, none⟩ = some (.int .i64 x.what) := by rw [cellB hb.h3]; rfl
  have e31 : w0.cell? ⟨w.heap.size, 1, none⟩ = some (.int .i64 x.at_) := by rw [cellB hb.h3]; rfl
  have e32 : w0.cell? ⟨w.heap.size, 2, none⟩ = some (.int .i64 x.n) := by rw [cellB hb.h3]; rfl
  clear hpk hq
  clear h hb hS
  go_enter Try.func11, Try.ntmps11
  go_wp2_with (first | (go_at_call 15; refine (HK.out _).mono ?_; rintro e w' ⟨rfl, rfl⟩))
  refine HM.out.mono ?_
  rintro e w1 ⟨rfl, ho⟩
  have hk := HB.out _ ho
  obtain ⟨z0, z1, z2, g0, g1, g2⟩ := cells3 hk.1
  obtain ⟨y0, y1, y2, f0, f1, f2⟩ := cells3 hk.2
  have HH := Lib.hid (And.intro ho hk)
  clear ho hk
  go_wp2
  refine bodyPost_ret (v := told [] 0 false) (res11 rfl (?_ : _ = some (Obj.cells #[.string ⟨#[]⟩, .int .i64 0, .bool false] 32 (0, 0)))) rfl (HP.out _ HH.out.1 _ ((((Mod.refl _ w1).setCell (fun _ => .inl rfl) _).setCell (fun _ => .inl rfl) _).setCell (fun _ => .inl rfl) _))
  rw [setB (setB (setB HH.out.2.1 0 _) 1 _) 2 _]; rfl

set_option maxRecDepth 100000 in
set_option maxHeartbeats 1000000 in
theorem does_4 (h : Hd w p S o) (x : Deed) (a : Option Addr) (c : Nat) (hq : pickM x.what 8 = 4) :
    Calls Try.prog 11 #[p, .agg #[.int .i64 x.what, .int .i64 x.at_, .int .i64 x.n, .slice a x.bits.length c]] w (DoesPost w p S o x) := by
  have hb := begun w x (.slice a x.bits.length c)
  have hS := h.lt
  obtain ⟨w0, hw0⟩ : ∃ w0, ((w.alloc (.cells #[.int .i64 x.what, .int .i64 x.at_, .int .i64 x.n, .slice a x.bits.length c] 36)).alloc (.cells #[.string ⟨#[]⟩, .int .i64 0, .bool false] 32)).alloc (.cells #[.string ⟨#[]⟩, .int .i64 0, .bool false] 32) = w0 := ⟨_, rfl⟩
  rw [hw0] at hb
  have HM := Lib.hid (crash_H (h.mod hb.mod))
  have hpk := fun w => pick_calls x.what 8 w (by omega)
  rw [hq] at hpk
  have HK := Lib.hid hpk
  have HP := Lib.hid (fun (w1 : World) (ho : OpH w0 w1 p S (o.map fun d => { d with down := true })) W1 (hm : Mod (fun j => j = w.heap.size + 1 ∨ j = w.heap.size + 1 + 1) w1 W1) => fin11 (o := o) hb hS ho hm (fun j hj => by have := hb.size; omega) (show doesT o x = told [] 0 false by simp [doesT, hq]) (by simp [doesD, hq]))
  have HB := Lib.hid (fun (w1 : World) (ho : OpH w0 w1 p S (o.map fun d => { d with down := true })) => begun_keep hb hS ho)
  have e30 : w0.cell? ⟨w.heap.size, 0, none⟩ = some (.int .i64 x.what) := by rw [cellB hb.h3]; rfl
  have e31 : w0.cell? ⟨w.heap.size, 1, none⟩ = some (.int .i64 x.at_) := by rw [cellB hb.h3]; rfl
  have e32 : w0.cell? ⟨w.heap.size, 2, none⟩ = some (.int .i64 x.n) := by rw [cellB hb.h3]; rfl
  clear hpk hq
  clear h hb hS
  go_enter Try.func11, Try.ntmps11
  go_wp2_with (first | (go_at_call 15; refine (HK.out _).mono ?_; rintro e w' ⟨rfl, rfl⟩))
  refine HM.out.mono ?_
  rintro e w1 ⟨rfl, ho⟩
  have hk := HB.out _ ho
  obtain ⟨z0, z1, z2, g0, g1, g2⟩ := cells3 hk.1
  obtain ⟨y0, y1, y2, f0, f1, f2⟩ := cells3 hk.2
  have HH := Lib.hid (And.intro ho hk)
  clear ho hk
  go_wp2
  refine bodyPost_ret (v := told [] 0 false) (res11 rfl (?_ : _ = some (Obj.cells #[.string ⟨#[]⟩, .int .i64 0, .bool false] 32 (0, 0)))) rfl (HP.out _ HH.out.1 _ ((((Mod.refl _ w1).setCell (fun _ => .inl rfl) _).setCell (fun _ => .inl rfl) _).setCell (fun _ => .inl rfl) _))
  rw [setB (setB (setB HH.out.2.1 0 _) 1 _) 2 _]; rfl

set_option maxRecDepth 100000 in
set_option maxHeartbeats 1000000 in
theorem does_6 (h : Hd w p S o) (x : Deed) (a : Option Addr) (c : Nat) (hq : pickM x.what 8 = 6) :
    Calls Try.prog 11 #[p, .agg #[.int .i64 x.what, .int .i64 x.at_, .int .i64 x.n, .slice a x.bits.length c]] w (DoesPost w p S o x) := by
  have hb := begun w x (.slice a x.bits.length c)
  have hS := h.lt
  obtain ⟨w0, hw0⟩ : ∃ w0, ((w.alloc (.cells #[.int .i64 x.what, .int .i64 x.at_, .int .i64 x.n, .slice a x.bits.length c] 36)).alloc (.cells #[.string ⟨#[]⟩, .int .i64 0, .bool false] 32)).alloc (.cells #[.string ⟨#[]⟩, .int .i64 0, .bool false] 32) = w0 := ⟨_, rfl⟩
  rw [hw0] at hb
  have HM := Lib.hid (fresh_H (h.mod hb.mod) x.at_)
  have hpk := fun w => pick_calls x.what 8 w (by omega)
  rw [hq] at hpk
  have HK := Lib.hid hpk
  have HP := Lib.hid (fun (w1 : World) (ho : OpH w0 w1 p S (o)) W1 (hm : Mod (fun j => j = w.heap.size + 1 ∨ j = w.heap.size + 1 + 1) w1 W1) => fin11 (o := o) hb hS ho hm (fun j hj => by have := hb.size; omega) (show doesT o x = told [] 0 (freshO' o x.at_) by simp [doesT, hq]) (by simp [doesD, hq]))
  have HB := Lib.hid (fun (w1 : World) (ho : OpH w0 w1 p S (o)) => begun_keep hb hS ho)
  have e30 : w0.cell? ⟨w.heap.size, 0, none⟩ = some (.int .i64 x.what) := by rw [cellB hb.h3]; rfl
  have e31 : w0.cell? ⟨w.heap.size, 1, none⟩ = some (.int .i64 x.at_) := by rw [cellB hb.h3]; rfl
  have e32 : w0.cell? ⟨w.heap.size, 2, none⟩ = some (.int .i64 x.n) := by rw [cellB hb.h3]; rfl
  clear hpk hq
  have HO := Lib.hid (OpH.keep (h.mod hb.mod) (Mod.refl _ w0))
  clear h hb hS
  go_enter Try.func11, Try.ntmps11
  go_wp2_with (first | (go_at_call 15; refine (HK.out _).mono ?_; rintro e w' ⟨rfl, rfl⟩))
  refine HM.out.mono ?_
  rintro e w1 ⟨rfl, rfl⟩
  have ho := HO.out
  have hk := HB.out _ ho
  obtain ⟨z0, z1, z2, g0, g1, g2⟩ := cells3 hk.1
  obtain ⟨y0, y1, y2, f0, f1, f2⟩ := cells3 hk.2
  have HH := Lib.hid (And.intro ho hk)
  clear ho hk
  go_wp2
  refine bodyPost_ret (v := told [] 0 (freshO' o x.at_)) (res11 rfl (?_ : _ = some (Obj.cells #[.string ⟨#[]⟩, .int .i64 0, .bool (freshO' o x.at_)] 32 (0, 0)))) rfl (HP.out _ HH.out.1 _ (((((Mod.refl _ w0).setCell (fun _ => .inr rfl) _).setCell (fun _ => .inl rfl) _).setCell (fun _ => .inl rfl) _).setCell (fun _ => .inl rfl) _))
  rw [setB (setB (setB (setB_other HH.out.2.1 (by simp) _) 0 _) 1 _) 2 _]; rfl

end
end Go.Proofs.Ytaaoabfmelpcpaa
