/- The document's device: what is wanted of a deed. -/
import Derived.Test.YtaaoabfmelpcpaaRfG
namespace Go.Proofs.Ytaaoabfmelpcpaa
open Go.RowKit Go.Mo

theorem res12 {tmps : Array Value} {b : Nat} {W : World} {x y z : Value} (ht : tmps[4]?.getD undef = .pointer (some ⟨b, 0, none⟩)) (h : W.heap[b]? = some (.cells #[x, y, z] 32 (0, 0))) : (results Try.f12 tmps).run Try.prog W = .ok (.agg #[x, y, z]) W := by
  have s0 := cellB h 0
  have s1 := cellB h 1
  have s2 := cellB h 2
  simp only [List.getElem?_toArray, List.getElem?_cons_zero, List.getElem?_cons_succ] at s0 s1 s2
  simp [results, Try.results12, go_sem, ht, s0, s1, s2]

section
variable {w w' w0 w1 : World} {R : Nat} {S : Nat → Prop} {d : Dv} {n : Nat}

theorem flush_R (h : Ref w R S d n) : Calls Try.prog 26 #[.pointer (some ⟨R, 0, none⟩)] w fun e w' => e = .returned (.int .i64 (flushE d)) ∧ RefOp w w' R S (flushD d) n := by
  obtain ⟨_, _, _, _, h⟩ := h; exact rflush_calls h
theorem arm_R (h : Ref w R S d n) (a : Int) (ha : a ≤ 9223372036854775807) : Calls Try.prog 27 #[.pointer (some ⟨R, 0, none⟩), .int .i64 a] w fun e w' => e = ret0 ∧ RefOp w w' R S (armD d a) n := by
  obtain ⟨_, _, _, _, h⟩ := h; exact (rarm_calls h a ha).mono fun _ _ q => ⟨q.1, RefOp.of q.2⟩
theorem crash_R (h : Ref w R S d n) : Calls Try.prog 28 #[.pointer (some ⟨R, 0, none⟩)] w fun e w' => e = ret0 ∧ RefOp w w' R S { d with down := true } n := by
  obtain ⟨_, _, _, _, h⟩ := h; exact (rcrash_calls h).mono fun _ _ q => ⟨q.1, RefOp.of q.2⟩
theorem wake_R (h : Ref w R S d n) (vb : Value) (bits : List Bool) (hb : Bits w vb bits) (hbl : bits.length ≤ 140737488355328) (hbS : bits ≠ [] → ∀ j, vb.ownBlock = some j → ¬ S j) : Calls Try.prog 29 #[.pointer (some ⟨R, 0, none⟩), vb] w fun e w' => e = ret0 ∧ RefOp w w' R S (wakeD d bits) n := by
  obtain ⟨_, _, _, _, h⟩ := h; exact rwake_calls h vb bits hb hbl hbS
theorem fresh_R (h : Ref w R S d n) (k : Int) : Calls Try.prog 30 #[.pointer (some ⟨R, 0, none⟩), .int .i64 k] w fun e w' => e = .returned (.bool (freshO d k)) ∧ w = w' := by
  obtain ⟨_, _, _, _, h⟩ := h; exact rfresh_calls h k
theorem stat_R (h : Ref w R S d n) (hn : n ≤ 16384) : Calls Try.prog 14 #[.pointer (some ⟨R, 0, none⟩)] w fun e w' => e = .returned (.agg #[.int .i64 d.sectors, .int .i64 d.quota, .int .i64 (used d), .int .i64 d.waiting.length, .int .i64 d.armed, .int .i64 d.turns, .bool d.down]) ∧ Mod (fun _ => False) w w' := by
  obtain ⟨_, _, _, _, h⟩ := h; exact rstat_calls h hn
theorem read_R (h : Ref w R S d n) (k : Int) : Calls Try.prog 25 #[.pointer (some ⟨R, 0, none⟩), .int .i64 k] w fun e w' =>
    ∃ v, e = .returned (.tuple #[v, .int .i64 (readE d k)]) ∧ (if readE d k = 0 then Byt w' (fun j => w.heap.size ≤ j) v (last d k) else v = .slice none 0 0) ∧ Mod (fun _ => False) w w' := by
  obtain ⟨_, _, _, _, h⟩ := h; exact rread_calls h k
theorem write_R (h : Ref w R S d n) (hn : n ≤ 16384) (k : Int) (v : Value) (bs : Bs) (T : Nat → Prop) (hv : (∃ a c, v = .slice a bs.length c) ∧ (bs.length = 256 → Byt w T v bs)) (hlen0 : d.waiting.length < 1000000) :
    Calls Try.prog 24 #[.pointer (some ⟨R, 0, none⟩), .int .i64 k, v] w fun e w' => e = .returned (.int .i64 (writeE d k bs.length)) ∧ RefOp w w' R S (writeD d k bs) n := by
  obtain ⟨_, _, _, _, h⟩ := h; exact rwrite_calls h hn k v bs T hv hlen0

/-- Ahead of it and behind it blocks were made, and such were written. -/
theorem RefOp.wrap (h : RefOp w w' R S d n) (hm : Mod (fun _ => False) w0 w) (T : Nat → Prop) (hm1 : Mod T w' w1) (hT : ∀ j, T j → w0.heap.size ≤ j ∧ j < w.heap.size) (hS : ∀ j, S j → j < w0.heap.size) : RefOp w0 w1 R S d n := by
  obtain ⟨S', h1, h2, h3⟩ := h
  refine ⟨S', h1.step hm1 (fun j hj q => ?_), (hm.any.tr h2).trans hm1 (fun j q l => by have := (hT j q).1; omega), fun j hj => (h3 j hj).imp id (fun q => Nat.le_trans hm.size q)⟩
  have := hT j q
  rcases h3 j hj with q | q
  · have := hS j q; omega
  · omega
theorem RefOp.keep (h : Ref w R S d n) (hm : Mod (fun _ => False) w w') : RefOp w w' R S d n := ⟨S, h.step hm (fun _ _ q => q), hm.any, fun _ hj => .inl hj⟩

def WantsPost (w : World) (R : Nat) (S : Nat → Prop) (d : Dv) (n : Nat) (x : Deed) (e : Ending) (w' : World) : Prop := e = .returned (doesT (some d) x) ∧ RefOp w w' R S (dd d x) n

theorem fin12 {W W1 : World} {x : Deed} {v t1 : Value} {d' : Dv} (hb : Begun w w0 x v) (hS : ∀ j, S j → j < w.heap.size) (ho : RefOp w0 W R S d' n) {T : Nat → Prop} (hm : Mod T W W1) (hT : ∀ j, T j → w.heap.size ≤ j ∧ j < w0.heap.size)
    (hP : doesT (some d) x = t1) (hD : dd d x = d') : WantsPost w R S d n x (.returned t1) W1 :=
  ⟨by rw [hP], by rw [hD]; exact ho.wrap hb.mod T hm hT hS⟩

theorem begun_keep12 {x : Deed} {v : Value} {d' : Dv} (hb : Begun w w0 x v) (hS : ∀ j, S j → j < w.heap.size) (ho : RefOp w0 w1 R S d' n) :
    w1.heap[w.heap.size + 1]? = some (.cells #[.string ⟨#[]⟩, .int .i64 0, .bool false] 32 (0, 0)) ∧ w1.heap[w.heap.size + 1 + 1]? = some (.cells #[.string ⟨#[]⟩, .int .i64 0, .bool false] 32 (0, 0)) := by
  obtain ⟨S', _, hm, _⟩ := ho
  have hs := hb.size
  exact ⟨(hm.block _ (by omega) (fun q => by have := hS _ q; omega)).trans hb.h4, (hm.block _ (by omega) (fun q => by have := hS _ q; omega)).trans hb.h5⟩

set_option maxRecDepth 100000 in
set_option maxHeartbeats 1000000 in
theorem wants_2 (h : Ref w R S d n) (x : Deed) (a : Option Addr) (c : Nat) (hq : pickM x.what 8 = 2) :
    Calls Try.prog 12 #[.pointer (some ⟨R, 0, none⟩), .agg #[.int .i64 x.what, .int .i64 x.at_, .int .i64 x.n, .slice a x.bits.length c]] w (WantsPost w R S d n x) := by
  have hb := begun w x (.slice a x.bits.length c)
  have hS := h.lt
  obtain ⟨w0, hw0⟩ : ∃ w0, ((w.alloc (.cells #[.int .i64 x.what, .int .i64 x.at_, .int .i64 x.n, .slice a x.bits.length c] 36)).alloc (.cells #[.string ⟨#[]⟩, .int .i64 0, .bool false] 32)).alloc (.cells #[.string ⟨#[]⟩, .int .i64 0, .bool false] 32) = w0 := ⟨_, rfl⟩
  rw [hw0] at hb
  have h0 : Ref w0 R S d n := h.step hb.mod (fun _ _ q => q)
  have HM := Lib.hid (flush_R h0)
  have hpk := fun w => pick_calls x.what 8 w (by omega)
  rw [hq] at hpk
  have HK := Lib.hid hpk
  have HP := Lib.hid (fun (w1 : World) (ho : RefOp w0 w1 R S (flushD d) n) W1 (hm : Mod (fun j => j = w.heap.size + 1 ∨ j = w.heap.size + 1 + 1) w1 W1) => fin12 (d := d) hb hS ho hm (fun j hj => by have := hb.size; omega) (show doesT (some d) x = told [] (flushE d) false by simp [doesT, hq, flushE']) (by simp [dd, hq]))
  have HB := Lib.hid (fun (w1 : World) (ho : RefOp w0 w1 R S (flushD d) n) => begun_keep12 hb hS ho)
  have e30 : w0.cell? ⟨w.heap.size, 0, none⟩ = some (.int .i64 x.what) := by rw [cellB hb.h3]; rfl
  have e31 : w0.cell? ⟨w.heap.size, 1, none⟩ = some (.int .i64 x.at_) := by rw [cellB hb.h3]; rfl
  have e32 : w0.cell? ⟨w.heap.size, 2, none⟩ = some (.int .i64 x.n) := by rw [cellB hb.h3]; rfl
  have e33 : w0.cell? ⟨w.heap.size, 3, none⟩ = some (.slice a x.bits.length c) := by rw [cellB hb.h3]; rfl
  clear hpk hq h h0 hb hS
  go_enter Try.func12, Try.ntmps12
  go_wp2_with (first | (go_at_call 15; refine (HK.out _).mono ?_; rintro e w' ⟨rfl, rfl⟩))
  refine HM.out.mono ?_
  rintro e w1 ⟨rfl, ho⟩
  have hk := HB.out _ ho
  obtain ⟨z0, z1, z2, g0, g1, g2⟩ := cells3 hk.1
  obtain ⟨y0, y1, y2, f0, f1, f2⟩ := cells3 hk.2
  have HH := Lib.hid (And.intro ho hk)
  clear ho hk
  go_wp2
  refine bodyPost_ret (v := told [] (flushE d) false) (res12 rfl (?_ : _ = some (Obj.cells #[.string ⟨#[]⟩, .int .i64 (flushE d), .bool false] 32 (0, 0)))) rfl (HP.out _ HH.out.1 _ (((((Mod.refl _ w1).setCell (fun _ => .inr rfl) _).setCell (fun _ => .inl rfl) _).setCell (fun _ => .inl rfl) _).setCell (fun _ => .inl rfl) _))
  rw [setB (setB (setB (setB_other HH.out.2.1 (by simp) _) 0 _) 1 _) 2 _]; rfl

set_option maxRecDepth 100000 in
set_option maxHeartbeats 1000000 in
theorem wants_3 (h : Ref w R S d n) (x : Deed) (hxn : x.n ≤ 9223372036854775807) (a : Option Addr) (c : Nat) (hq : pickM x.what 8 = 3) :
    Calls Try.prog 12 #[.pointer (some ⟨R, 0, none⟩), .agg #[.int .i64 x.what, .int .i64 x.at_, .int .i64 x.n, .slice a x.bits.length c]] w (WantsPost w R S d n x) := by
  have hb := begun w x (.slice a x.bits.length c)
  have hS := h.lt
  obtain ⟨w0, hw0⟩ : ∃ w0, ((w.alloc (.cells #[.int .i64 x.what, .int .i64 x.at_, .int .i64 x.n, .slice a x.bits.length c] 36)).alloc (.cells #[.string ⟨#[]⟩, .int .i64 0, .bool false] 32)).alloc (.cells #[.string ⟨#[]⟩, .int .i64 0, .bool false] 32) = w0 := ⟨_, rfl⟩
  rw [hw0] at hb
  have h0 : Ref w0 R S d n := h.step hb.mod (fun _ _ q => q)
  have HM := Lib.hid (arm_R h0 x.n hxn)
  have hpk := fun w => pick_calls x.what 8 w (by omega)
  rw [hq] at hpk
  have HK := Lib.hid hpk
  have HP := Lib.hid (fun (w1 : World) (ho : RefOp w0 w1 R S (armD d x.n) n) W1 (hm : Mod (fun j => j = w.heap.size + 1 ∨ j = w.heap.size + 1 + 1) w1 W1) => fin12 (d := d) hb hS ho hm (fun j hj => by have := hb.size; omega) (show doesT (some d) x = told [] 0 false by simp [doesT, hq]) (by simp [dd, hq]))
  have HB := Lib.hid (fun (w1 : World) (ho : RefOp w0 w1 R S (armD d x.n) n) => begun_keep12 hb hS ho)
  have e30 : w0.cell? ⟨w.heap.size, 0, none⟩ = some (.int .i64 x.what) := by rw [cellB hb.h3]; rfl
  have e31 : w0.cell? ⟨w.heap.size, 1, none⟩ = some (.int .i64 x.at_) := by rw [cellB hb.h3]; rfl
  have e32 : w0.cell? ⟨w.heap.size, 2, none⟩ = some (.int .i64 x.n) := by rw [cellB hb.h3]; rfl
  have e33 : w0.cell? ⟨w.heap.size, 3, none⟩ = some (.slice a x.bits.length c) := by rw [cellB hb.h3]; rfl
  clear hpk hq h h0 hb hS
  go_enter Try.func12, Try.ntmps12
  go_wp2_with (first | (go_at_call 15; refine (HK.out _).mono ?_; rintro e w' ⟨rfl, rfl⟩))
  refine HM.out.mono ?_
  rintro e w1 ⟨rfl, ho⟩
  have hk := HB.out _ ho
  obtain ⟨z0, z1, z2, g0, g1, g2⟩ := cells3 hk.1
  obtain ⟨y0, y1, y2, f0, f1, f2⟩ := cells3 hk.2
  have HH := Lib.hid (And.intro ho hk)
  clear ho hk
  go_wp2
  refine bodyPost_ret (v := told [] 0 false) (res12 rfl (?_ : _ = some (Obj.cells #[.string ⟨#[]⟩, .int .i64 0, .bool false] 32 (0, 0)))) rfl (HP.out _ HH.out.1 _ ((((Mod.refl _ w1).setCell (fun _ => .inl rfl) _).setCell (fun _ => .inl rfl) _).setCell (fun _ => .inl rfl) _))
  rw [setB (setB (setB HH.out.2.1 0 _) 1 _) 2 _]; rfl

set_option maxRecDepth 100000 in
set_option maxHeartbeats 1000000 in
theorem wants_4 (h : Ref w R S d n) (x : Deed) (a : Option Addr) (c : Nat) (hq : pickM x.what 8 = 4) :
    Calls Try.prog 12 #[.pointer (some ⟨R, 0, none⟩), .agg #[.int .i64 x.what, .int .i64 x.at_, .int .i64 x.n, .slice a x.bits.length c]] w (WantsPost w R S d n x) := by
  have hb := begun w x (.slice a x.bits.length c)
  have hS := h.lt
  obtain ⟨w0, hw0⟩ : ∃ w0, ((w.alloc (.cells #[.int .i64 x.what, .int .i64 x.at_, .int .i64 x.n, .slice a x.bits.length c] 36)).alloc (.cells #[.string ⟨#[]⟩, .int .i64 0, .bool false] 32)).alloc (.cells #[.string ⟨#[]⟩, .int .i64 0, .bool false] 32) = w0 := ⟨_, rfl⟩
  rw [hw0] at hb
  have h0 : Ref w0 R S d n := h.step hb.mod (fun _ _ q => q)
  have HM := Lib.hid (crash_R h0)
  have hpk := fun w => pick_calls x.what 8 w (by omega)
  rw [hq] at hpk
  have HK := Lib.hid hpk
  have HP := Lib.hid (fun (w1 : World) (ho : RefOp w0 w1 R S ({ d with down := true }) n) W1 (hm : Mod (fun j => j = w.heap.size + 1 ∨ j = w.heap.size + 1 + 1) w1 W1) => fin12 (d := d) hb hS ho hm (fun j hj => by have := hb.size; omega) (show doesT (some d) x = told [] 0 false by simp [doesT, hq]) (by simp [dd, hq]))
  have HB := Lib.hid (fun (w1 : World) (ho : RefOp w0 w1 R S ({ d with down := true }) n) => begun_keep12 hb hS ho)
  have e30 : w0.cell? ⟨w.heap.size, 0, none⟩ = some (.int .i64 x.what) := by rw [cellB hb.h3]; rfl
  have e31 : w0.cell? ⟨w.heap.size, 1, none⟩ = some (.int .i64 x.at_) := by rw [cellB hb.h3]; rfl
  have e32 : w0.cell? ⟨w.heap.size, 2, none⟩ = some (.int .i64 x.n) := by rw [cellB hb.h3]; rfl
  have e33 : w0.cell? ⟨w.heap.size, 3, none⟩ = some (.slice a x.bits.length c) := by rw [cellB hb.h3]; rfl
  clear hpk hq h h0 hb hS
  go_enter Try.func12, Try.ntmps12
  go_wp2_with (first | (go_at_call 15; refine (HK.out _).mono ?_; rintro e w' ⟨rfl, rfl⟩))
  refine HM.out.mono ?_
  rintro e w1 ⟨rfl, ho⟩
  have hk := HB.out _ ho
  obtain ⟨z0, z1, z2, g0, g1, g2⟩ := cells3 hk.1
  obtain ⟨y0, y1, y2, f0, f1, f2⟩ := cells3 hk.2
  have HH := Lib.hid (And.intro ho hk)
  clear ho hk
  go_wp2
  refine bodyPost_ret (v := told [] 0 false) (res12 rfl (?_ : _ = some (Obj.cells #[.string ⟨#[]⟩, .int .i64 0, .bool false] 32 (0, 0)))) rfl (HP.out _ HH.out.1 _ ((((Mod.refl _ w1).setCell (fun _ => .inl rfl) _).setCell (fun _ => .inl rfl) _).setCell (fun _ => .inl rfl) _))
  rw [setB (setB (setB HH.out.2.1 0 _) 1 _) 2 _]; rfl

set_option maxRecDepth 100000 in
set_option maxHeartbeats 1000000 in
theorem wants_5 (h : Ref w R S d n) (x : Deed) (a : Option Addr) (c : Nat) (hbl : Bits w (.slice a x.bits.length c) x.bits) (hl : x.bits.length ≤ 140737488351232) (hbS : x.bits ≠ [] → ∀ j, (Value.slice a x.bits.length c).ownBlock = some j → ¬ S j) (hq : pickM x.what 8 = 5) :
    Calls Try.prog 12 #[.pointer (some ⟨R, 0, none⟩), .agg #[.int .i64 x.what, .int .i64 x.at_, .int .i64 x.n, .slice a x.bits.length c]] w (WantsPost w R S d n x) := by
  have hb := begun w x (.slice a x.bits.length c)
  have hS := h.lt
  obtain ⟨w0, hw0⟩ : ∃ w0, ((w.alloc (.cells #[.int .i64 x.what, .int .i64 x.at_, .int .i64 x.n, .slice a x.bits.length c] 36)).alloc (.cells #[.string ⟨#[]⟩, .int .i64 0, .bool false] 32)).alloc (.cells #[.string ⟨#[]⟩, .int .i64 0, .bool false] 32) = w0 := ⟨_, rfl⟩
  rw [hw0] at hb
  have h0 : Ref w0 R S d n := h.step hb.mod (fun _ _ q => q)
  have HM := Lib.hid (wake_R h0 _ x.bits (hbl.mod hb.mod) (by omega) hbS)
  have hpk := fun w => pick_calls x.what 8 w (by omega)
  rw [hq] at hpk
  have HK := Lib.hid hpk
  have HP := Lib.hid (fun (w1 : World) (ho : RefOp w0 w1 R S (wakeD d x.bits) n) W1 (hm : Mod (fun j => j = w.heap.size + 1 ∨ j = w.heap.size + 1 + 1) w1 W1) => fin12 (d := d) hb hS ho hm (fun j hj => by have := hb.size; omega) (show doesT (some d) x = told [] 0 false by simp [doesT, hq]) (by simp [dd, hq]))
  have HB := Lib.hid (fun (w1 : World) (ho : RefOp w0 w1 R S (wakeD d x.bits) n) => begun_keep12 hb hS ho)
  have e30 : w0.cell? ⟨w.heap.size, 0, none⟩ = some (.int .i64 x.what) := by rw [cellB hb.h3]; rfl
  have e31 : w0.cell? ⟨w.heap.size, 1, none⟩ = some (.int .i64 x.at_) := by rw [cellB hb.h3]; rfl
  have e32 : w0.cell? ⟨w.heap.size, 2, none⟩ = some (.int .i64 x.n) := by rw [cellB hb.h3]; rfl
  have e33 : w0.cell? ⟨w.heap.size, 3, none⟩ = some (.slice a x.bits.length c) := by rw [cellB hb.h3]; rfl
  clear hpk hq h h0 hb hS hbl hbS
  go_enter Try.func12, Try.ntmps12
  go_wp2_with (first | (go_at_call 15; refine (HK.out _).mono ?_; rintro e w' ⟨rfl, rfl⟩))
  refine HM.out.mono ?_
  rintro e w1 ⟨rfl, ho⟩
  have hk := HB.out _ ho
  obtain ⟨z0, z1, z2, g0, g1, g2⟩ := cells3 hk.1
  obtain ⟨y0, y1, y2, f0, f1, f2⟩ := cells3 hk.2
  have HH := Lib.hid (And.intro ho hk)
  clear ho hk
  go_wp2
  refine bodyPost_ret (v := told [] 0 false) (res12 rfl (?_ : _ = some (Obj.cells #[.string ⟨#[]⟩, .int .i64 0, .bool false] 32 (0, 0)))) rfl (HP.out _ HH.out.1 _ ((((Mod.refl _ w1).setCell (fun _ => .inl rfl) _).setCell (fun _ => .inl rfl) _).setCell (fun _ => .inl rfl) _))
  rw [setB (setB (setB HH.out.2.1 0 _) 1 _) 2 _]; rfl

set_option maxRecDepth 100000 in
set_option maxHeartbeats 1000000 in
theorem wants_6 (h : Ref w R S d n) (x : Deed) (a : Option Addr) (c : Nat) (hq : pickM x.what 8 = 6) :
    Calls Try.prog 12 #[.pointer (some ⟨R, 0, none⟩), .agg #[.int .i64 x.what, .int .i64 x.at_, .int .i64 x.n, .slice a x.bits.length c]] w (WantsPost w R S d n x) := by
  have hb := begun w x (.slice a x.bits.length c)
  have hS := h.lt
  obtain ⟨w0, hw0⟩ : ∃ w0, ((w.alloc (.cells #[.int .i64 x.what, .int .i64 x.at_, .int .i64 x.n, .slice a x.bits.length c] 36)).alloc (.cells #[.string ⟨#[]⟩, .int .i64 0, .bool false] 32)).alloc (.cells #[.string ⟨#[]⟩, .int .i64 0, .bool false] 32) = w0 := ⟨_, rfl⟩
  rw [hw0] at hb
  have h0 : Ref w0 R S d n := h.step hb.mod (fun _ _ q => q)
  have HM := Lib.hid (fresh_R h0 x.at_)
  have hpk := fun w => pick_calls x.what 8 w (by omega)
  rw [hq] at hpk
  have HK := Lib.hid hpk
  have HP := Lib.hid (fun (w1 : World) (ho : RefOp w0 w1 R S (d) n) W1 (hm : Mod (fun j => j = w.heap.size + 1 ∨ j = w.heap.size + 1 + 1) w1 W1) => fin12 (d := d) hb hS ho hm (fun j hj => by have := hb.size; omega) (show doesT (some d) x = told [] 0 (freshO d x.at_) by simp [doesT, hq, freshO']) (by simp [dd, hq]))
  have HB := Lib.hid (fun (w1 : World) (ho : RefOp w0 w1 R S (d) n) => begun_keep12 hb hS ho)
  have e30 : w0.cell? ⟨w.heap.size, 0, none⟩ = some (.int .i64 x.what) := by rw [cellB hb.h3]; rfl
  have e31 : w0.cell? ⟨w.heap.size, 1, none⟩ = some (.int .i64 x.at_) := by rw [cellB hb.h3]; rfl
  have e32 : w0.cell? ⟨w.heap.size, 2, none⟩ = some (.int .i64 x.n) := by rw [cellB hb.h3]; rfl
  have e33 : w0.cell? ⟨w.heap.size, 3, none⟩ = some (.slice a x.bits.length c) := by rw [cellB hb.h3]; rfl
  have HO := Lib.hid (RefOp.keep h0 (Mod.refl _ w0))
  clear hpk hq h h0 hb hS
  go_enter Try.func12, Try.ntmps12
  go_wp2_with (first | (go_at_call 15; refine (HK.out _).mono ?_; rintro e w' ⟨rfl, rfl⟩))
  refine HM.out.mono ?_
  rintro e w1 ⟨rfl, rfl⟩
  have ho := HO.out
  have hk := HB.out _ ho
  obtain ⟨z0, z1, z2, g0, g1, g2⟩ := cells3 hk.1
  obtain ⟨y0, y1, y2, f0, f1, f2⟩ := cells3 hk.2
  have HH := Lib.hid (And.intro ho hk)
  clear ho hk
  go_wp2
  refine bodyPost_ret (v := told [] 0 (freshO d x.at_)) (res12 rfl (?_ : _ = some (Obj.cells #[.string ⟨#[]⟩, .int .i64 0, .bool (freshO d x.at_)] 32 (0, 0)))) rfl (HP.out _ HH.out.1 _ (((((Mod.refl _ w0).setCell (fun _ => .inr rfl) _).setCell (fun _ => .inl rfl) _).setCell (fun _ => .inl rfl) _).setCell (fun _ => .inl rfl) _))
  rw [setB (setB (setB (setB_other HH.out.2.1 (by simp) _) 0 _) 1 _) 2 _]; rfl

set_option maxRecDepth 100000 in
set_option maxHeartbeats 1000000 in
theorem wants_7 (h : Ref w R S d n) (x : Deed) (a : Option Addr) (c : Nat) (hq : pickM x.what 8 = 7) :
    Calls Try.prog 12 #[.pointer (some ⟨R, 0, none⟩), .agg #[.int .i64 x.what, .int .i64 x.at_, .int .i64 x.n, .slice a x.bits.length c]] w (WantsPost w R S d n x) := by
  have hb := begun w x (.slice a x.bits.length c)
  have hS := h.lt
  obtain ⟨w0, hw0⟩ : ∃ w0, ((w.alloc (.cells #[.int .i64 x.what, .int .i64 x.at_, .int .i64 x.n, .slice a x.bits.length c] 36)).alloc (.cells #[.string ⟨#[]⟩, .int .i64 0, .bool false] 32)).alloc (.cells #[.string ⟨#[]⟩, .int .i64 0, .bool false] 32) = w0 := ⟨_, rfl⟩
  rw [hw0] at hb
  have h0 : Ref w0 R S d n := h.step hb.mod (fun _ _ q => q)
  have hpk := fun w => pick_calls x.what 8 w (by omega)
  rw [hq] at hpk
  have HK := Lib.hid hpk
  have HP := Lib.hid (fun (w1 : World) (ho : RefOp w0 w1 R S (d) n) W1 (hm : Mod (fun j => j = w.heap.size + 1 ∨ j = w.heap.size + 1 + 1) w1 W1) => fin12 (d := d) hb hS ho hm (fun j hj => by have := hb.size; omega) (show doesT (some d) x = told [] 0 false by simp [doesT, hq]) (by simp [dd, hq]))
  have HB := Lib.hid (fun (w1 : World) (ho : RefOp w0 w1 R S (d) n) => begun_keep12 hb hS ho)
  have e30 : w0.cell? ⟨w.heap.size, 0, none⟩ = some (.int .i64 x.what) := by rw [cellB hb.h3]; rfl
  have e31 : w0.cell? ⟨w.heap.size, 1, none⟩ = some (.int .i64 x.at_) := by rw [cellB hb.h3]; rfl
  have e32 : w0.cell? ⟨w.heap.size, 2, none⟩ = some (.int .i64 x.n) := by rw [cellB hb.h3]; rfl
  have e33 : w0.cell? ⟨w.heap.size, 3, none⟩ = some (.slice a x.bits.length c) := by rw [cellB hb.h3]; rfl
  have HO := Lib.hid (RefOp.keep h0 (Mod.refl _ w0))
  have ho := HO.out
  have hk := HB.out _ ho
  obtain ⟨z0, z1, z2, g0, g1, g2⟩ := cells3 hk.1
  obtain ⟨y0, y1, y2, f0, f1, f2⟩ := cells3 hk.2
  have HH := Lib.hid (And.intro ho hk)
  clear ho hk
  clear hpk hq h h0 hb hS
  go_enter Try.func12, Try.ntmps12
  go_wp2_with (first | (go_at_call 15; refine (HK.out _).mono ?_; rintro e w' ⟨rfl, rfl⟩))
  refine bodyPost_ret (v := told [] 0 false) (res12 rfl (?_ : _ = some (Obj.cells #[.string ⟨#[]⟩, .int .i64 0, .bool false] 32 (0, 0)))) rfl (HP.out _ HH.out.1 _ ((((Mod.refl _ w0).setCell (fun _ => .inl rfl) _).setCell (fun _ => .inl rfl) _).setCell (fun _ => .inl rfl) _))
  rw [setB (setB (setB HH.out.2.1 0 _) 1 _) 2 _]; rfl

set_option maxRecDepth 100000 in
set_option maxHeartbeats 1000000 in
theorem wants_1ok (h : Ref w R S d n) (x : Deed) (hr : readE d x.at_ = 0) (a : Option Addr) (c : Nat) (hq : pickM x.what 8 = 1) :
    Calls Try.prog 12 #[.pointer (some ⟨R, 0, none⟩), .agg #[.int .i64 x.what, .int .i64 x.at_, .int .i64 x.n, .slice a x.bits.length c]] w (WantsPost w R S d n x) := by
  have hb := begun w x (.slice a x.bits.length c)
  have hS := h.lt
  obtain ⟨w0, hw0⟩ : ∃ w0, ((w.alloc (.cells #[.int .i64 x.what, .int .i64 x.at_, .int .i64 x.n, .slice a x.bits.length c] 36)).alloc (.cells #[.string ⟨#[]⟩, .int .i64 0, .bool false] 32)).alloc (.cells #[.string ⟨#[]⟩, .int .i64 0, .bool false] 32) = w0 := ⟨_, rfl⟩
  rw [hw0] at hb
  have h0 : Ref w0 R S d n := h.step hb.mod (fun _ _ q => q)
  have HM := Lib.hid (read_R h0 x.at_)
  have hpk := fun w => pick_calls x.what 8 w (by omega)
  rw [hq] at hpk
  have HK := Lib.hid hpk
  have HP := Lib.hid (fun (w1 : World) (ho : RefOp w0 w1 R S (d) n) W1 (hm : Mod (fun j => j = w.heap.size + 1 ∨ j = w.heap.size + 1 + 1) w1 W1) => fin12 (d := d) hb hS ho hm (fun j hj => by have := hb.size; omega) (show doesT (some d) x = told (last d x.at_) 0 false by simp [doesT, hq, readE', readB', hr]) (by simp [dd, hq]))
  have HB := Lib.hid (fun (w1 : World) (ho : RefOp w0 w1 R S (d) n) => begun_keep12 hb hS ho)
  have e30 : w0.cell? ⟨w.heap.size, 0, none⟩ = some (.int .i64 x.what) := by rw [cellB hb.h3]; rfl
  have e31 : w0.cell? ⟨w.heap.size, 1, none⟩ = some (.int .i64 x.at_) := by rw [cellB hb.h3]; rfl
  have e32 : w0.cell? ⟨w.heap.size, 2, none⟩ = some (.int .i64 x.n) := by rw [cellB hb.h3]; rfl
  have e33 : w0.cell? ⟨w.heap.size, 3, none⟩ = some (.slice a x.bits.length c) := by rw [cellB hb.h3]; rfl
  have HO := Lib.hid (fun w1 (hm : Mod (fun _ => False) w0 w1) => RefOp.keep h0 hm)
  have HR := Lib.hid hr
  clear hr hpk hq h h0 hb hS
  go_enter Try.func12, Try.ntmps12
  go_wp2_with (first | (go_at_call 15; refine (HK.out _).mono ?_; rintro e w' ⟨rfl, rfl⟩))
  refine HM.out.mono ?_
  rintro e w1 ⟨v, rfl, hv, hm⟩
  rw [if_pos HR.out] at hv
  rw [HR.out]
  have hcv := conv_byt hv
  have ho := HO.out _ hm
  have hk := HB.out _ ho
  obtain ⟨z0, z1, z2, g0, g1, g2⟩ := cells3 hk.1
  obtain ⟨y0, y1, y2, f0, f1, f2⟩ := cells3 hk.2
  have HH := Lib.hid (And.intro ho hk)
  clear ho hk
  clear hv hm
  go_wp2
  refine bodyPost_ret (v := told (last d x.at_) 0 false) (res12 rfl (?_ : _ = some (Obj.cells #[.string ⟨(last d x.at_).toArray⟩, .int .i64 0, .bool false] 32 (0, 0)))) rfl (HP.out _ HH.out.1 _ ((((((Mod.refl _ w1).setCell (fun _ => .inr rfl) _).setCell (fun _ => .inr rfl) _).setCell (fun _ => .inl rfl) _).setCell (fun _ => .inl rfl) _).setCell (fun _ => .inl rfl) _))
  rw [setB (setB (setB (setB_other (setB_other HH.out.2.1 (by simp) _) (by simp) _) 0 _) 1 _) 2 _]; rfl

set_option maxRecDepth 100000 in
set_option maxHeartbeats 1000000 in
theorem wants_1no (h : Ref w R S d n) (x : Deed) (hr : ¬ readE d x.at_ = 0) (a : Option Addr) (c : Nat) (hq : pickM x.what 8 = 1) :
    Calls Try.prog 12 #[.pointer (some ⟨R, 0, none⟩), .agg #[.int .i64 x.what, .int .i64 x.at_, .int .i64 x.n, .slice a x.bits.length c]] w (WantsPost w R S d n x) := by
  have hb := begun w x (.slice a x.bits.length c)
  have hS := h.lt
  obtain ⟨w0, hw0⟩ : ∃ w0, ((w.alloc (.cells #[.int .i64 x.what, .int .i64 x.at_, .int .i64 x.n, .slice a x.bits.length c] 36)).alloc (.cells #[.string ⟨#[]⟩, .int .i64 0, .bool false] 32)).alloc (.cells #[.string ⟨#[]⟩, .int .i64 0, .bool false] 32) = w0 := ⟨_, rfl⟩
  rw [hw0] at hb
  have h0 : Ref w0 R S d n := h.step hb.mod (fun _ _ q => q)
  have HM := Lib.hid (read_R h0 x.at_)
  have hpk := fun w => pick_calls x.what 8 w (by omega)
  rw [hq] at hpk
  have HK := Lib.hid hpk
  have HP := Lib.hid (fun (w1 : World) (ho : RefOp w0 w1 R S (d) n) W1 (hm : Mod (fun j => j = w.heap.size + 1 ∨ j = w.heap.size + 1 + 1) w1 W1) => fin12 (d := d) hb hS ho hm (fun j hj => by have := hb.size; omega) (show doesT (some d) x = told [] (readE d x.at_) false by simp [doesT, hq, readE', readB', hr]) (by simp [dd, hq]))
  have HB := Lib.hid (fun (w1 : World) (ho : RefOp w0 w1 R S (d) n) => begun_keep12 hb hS ho)
  have e30 : w0.cell? ⟨w.heap.size, 0, none⟩ = some (.int .i64 x.what) := by rw [cellB hb.h3]; rfl
  have e31 : w0.cell? ⟨w.heap.size, 1, none⟩ = some (.int .i64 x.at_) := by rw [cellB hb.h3]; rfl
  have e32 : w0.cell? ⟨w.heap.size, 2, none⟩ = some (.int .i64 x.n) := by rw [cellB hb.h3]; rfl
  have e33 : w0.cell? ⟨w.heap.size, 3, none⟩ = some (.slice a x.bits.length c) := by rw [cellB hb.h3]; rfl
  have HO := Lib.hid (fun w1 (hm : Mod (fun _ => False) w0 w1) => RefOp.keep h0 hm)
  have HR := Lib.hid hr
  clear hr hpk hq h h0 hb hS
  go_enter Try.func12, Try.ntmps12
  go_wp2_with (first | (go_at_call 15; refine (HK.out _).mono ?_; rintro e w' ⟨rfl, rfl⟩))
  refine HM.out.mono ?_
  rintro e w1 ⟨v, rfl, hv, hm⟩
  rw [if_neg HR.out] at hv
  subst hv
  have hcv := conv_nil w1
  have ho := HO.out _ hm
  have hk := HB.out _ ho
  obtain ⟨z0, z1, z2, g0, g1, g2⟩ := cells3 hk.1
  obtain ⟨y0, y1, y2, f0, f1, f2⟩ := cells3 hk.2
  have HH := Lib.hid (And.intro ho hk)
  clear ho hk
  clear hm
  go_wp2
  refine bodyPost_ret (v := told [] (readE d x.at_) false) (res12 rfl (?_ : _ = some (Obj.cells #[.string ⟨#[]⟩, .int .i64 (readE d x.at_), .bool false] 32 (0, 0)))) rfl (HP.out _ HH.out.1 _ ((((((Mod.refl _ w1).setCell (fun _ => .inr rfl) _).setCell (fun _ => .inr rfl) _).setCell (fun _ => .inl rfl) _).setCell (fun _ => .inl rfl) _).setCell (fun _ => .inl rfl) _))
  rw [setB (setB (setB (setB_other (setB_other HH.out.2.1 (by simp) _) (by simp) _) 0 _) 1 _) 2 _]; rfl

end
end Go.Proofs.Ytaaoabfmelpcpaa
