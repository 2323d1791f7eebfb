/- No device, and one that nobody made; a handle that is a device or none. -/
import Derived.Test.YtaaoabfmelpcpaaDevO
namespace Go.Proofs.Ytaaoabfmelpcpaa
open Go.RowKit Go.Mo

def zero10 : Array Value := #[.map none, .slice none 0 0, .map none, .int .i64 0, .int .i64 0, .int .i64 0, .int .i64 0, .int .i64 0, .int .i64 0, .bool false]

/-- p is no device: nil, or one that nobody made. -/
def Bad (w : World) (p : Value) : Prop := p = .pointer none ∨ ∃ B, p = .pointer (some ⟨B, 0, none⟩) ∧ w.cell? ⟨B, 0, none⟩ = some (.map none)

theorem up_bad {w : World} {p : Value} (h : Bad w p) : Calls Try.prog 36 #[p] w fun e w' => e = pan 1 ∧ w = w' := by
  rcases h with rfl | ⟨B, rfl, h⟩
  · exact up_nil w
  · exact up_zero B w h
theorem made_bad {w : World} {p : Value} (h : Bad w p) : Calls Try.prog 31 #[p] w fun e w' => e = .returned (.bool false) ∧ w = w' := by
  rcases h with rfl | ⟨B, rfl, h⟩
  · exact made_nil w
  · exact made_zero B w h
theorem Bad.mod {w w' : World} {p : Value} (h : Bad w p) (hm : Mod (fun _ => False) w w') : Bad w' p := by
  rcases h with rfl | ⟨B, rfl, h⟩
  · exact .inl rfl
  · exact .inr ⟨B, rfl, (hm.cell (p := ⟨B, 0, none⟩) (World.block_lt_of_cell? w _ h) (fun q => q)).trans h⟩

section
variable {w : World} {p : Value}

theorem flush1_bad (b : Nat) (h : Bad w p) (hb : w.cell? ⟨b, 0, none⟩ = some p) : Calls Try.prog 35 #[.pointer (some ⟨b, 0, none⟩)] w fun e w' => e = pan 1 ∧ w = w' := by
  have HU := Lib.hid (up_bad h)
  clear h
  go_enter Try.func35, Try.ntmps35
  go_wp2_with fail
  refine HU.out.mono ?_
  rintro e w' ⟨rfl, rfl⟩
  exact ⟨rfl, rfl, rfl⟩
theorem write1_bad (b b1 b2 : Nat) (h : Bad w p) (hb : w.cell? ⟨b, 0, none⟩ = some p) : Calls Try.prog 40 #[.pointer (some ⟨b, 0, none⟩), .pointer (some ⟨b1, 0, none⟩), .pointer (some ⟨b2, 0, none⟩)] w fun e w' => e = pan 1 ∧ w = w' := by
  have HU := Lib.hid (up_bad h)
  clear h
  go_enter Try.func40, Try.ntmps40
  go_wp2_with fail
  refine HU.out.mono ?_
  rintro e w' ⟨rfl, rfl⟩
  exact ⟨rfl, rfl, rfl⟩
theorem read1_bad (b b1 b2 : Nat) (h : Bad w p) (hb : w.cell? ⟨b, 0, none⟩ = some p) : Calls Try.prog 46 #[.pointer (some ⟨b, 0, none⟩), .pointer (some ⟨b1, 0, none⟩), .pointer (some ⟨b2, 0, none⟩)] w fun e w' => e = pan 1 ∧ w = w' := by
  have HU := Lib.hid (up_bad h)
  clear h
  go_enter Try.func46, Try.ntmps46
  go_wp2_with fail
  refine HU.out.mono ?_
  rintro e w' ⟨rfl, rfl⟩
  exact ⟨rfl, rfl, rfl⟩

theorem flush_bad (h : Bad w p) (hp : p = .pointer none ∨ ∃ a, p = .pointer (some a)) : Calls Try.prog 17 #[p] w fun e w' => e = .returned (.int .i64 1) ∧ Mod (fun _ => False) w w' := by
  have hmf : ∀ (fn : Fn) (first cap : Array Value) (w : World), (Instr.makeFunc fn first cap).run Try.prog w = .ok (.func fn first cap) w := fun _ _ _ _ => rfl
  obtain ⟨pa, rfl⟩ : ∃ pa, p = .pointer pa := by rcases hp with rfl | ⟨a, rfl⟩ <;> exact ⟨_, rfl⟩
  have hm : Mod (fun _ => False) w ((w.alloc (.cells #[.pointer pa] 24)).alloc (.cells #[.int .i64 0] 25)) := ((Mod.refl _ w).alloc _).alloc _
  have hE : ((w.alloc (.cells #[.pointer pa] 24)).alloc (.cells #[.int .i64 0] 25)).heap[w.heap.size + 1]? = some (.cells #[.int .i64 0] 25) := by
    have := newB (w.alloc (.cells #[.pointer pa] 24)) (.cells #[.int .i64 0] 25); rw [World.size_alloc] at this; exact this
  have hb : ((w.alloc (.cells #[.pointer pa] 24)).alloc (.cells #[.int .i64 0] 25)).cell? ⟨w.heap.size, 0, none⟩ = some (.pointer pa) := by rw [cellB (allocB (newB w _) _)]; rfl
  have H := Lib.hid (done_calls 35 #[.pointer (some ⟨w.heap.size, 0, none⟩)] (w.alloc (.cells #[.pointer pa] 24)) 1 (fun w1 => w1 = (w.alloc (.cells #[.pointer pa] 24)).alloc (.cells #[.int .i64 0] 25)) (fun w => by simp [go_sem])
    ((flush1_bad w.heap.size (h.mod hm) hb).mono (fun e w' ⟨he, hw⟩ => ⟨by rw [he]; rfl, by subst hw; rw [World.size_alloc]; exact hE, hw.symm⟩)))
  clear h hm hE hb
  go_enter Try.func17, Try.ntmps17
  go_wp2_with fail
  refine H.out.mono ?_
  rintro e w' ⟨rfl, w1, rfl, rfl⟩
  go_wp2
  go_ret
  exact ⟨rfl, ((Mod.refl _ w).alloc _).alloc _⟩

theorem write_bad (h : Bad w p) (hp : p = .pointer none ∨ ∃ a, p = .pointer (some a)) (k : Int) (a : Option Addr) (n c : Nat) : Calls Try.prog 19 #[p, .int .i64 k, .slice a n c] w fun e w' => e = .returned (.int .i64 1) ∧ Mod (fun _ => False) w w' := by
  have hmf : ∀ (fn : Fn) (first cap : Array Value) (w : World), (Instr.makeFunc fn first cap).run Try.prog w = .ok (.func fn first cap) w := fun _ _ _ _ => rfl
  obtain ⟨pa, rfl⟩ : ∃ pa, p = .pointer pa := by rcases hp with rfl | ⟨a, rfl⟩ <;> exact ⟨_, rfl⟩
  obtain ⟨w0, hw0⟩ : ∃ w0, ((w.alloc (.cells #[.pointer pa] 24)).alloc (.cells #[.int .i64 k] 3)).alloc (.cells #[.slice a n c] 56) = w0 := ⟨_, rfl⟩
  have hs0 : w0.heap.size = w.heap.size + 3 := by rw [← hw0]; simp
  have hm0 : Mod (fun _ => False) w w0 := by rw [← hw0]; exact (((Mod.refl _ w).alloc _).alloc _).alloc _
  have hb0 : w0.heap[w.heap.size]? = some (.cells #[.pointer pa] 24 (0, 0)) := by rw [← hw0]; exact allocB (allocB (newB w _) _) _
  have hE := newB w0 (.cells #[.int .i64 0] 25)
  have H := Lib.hid (done_calls 40 #[.pointer (some ⟨w.heap.size, 0, none⟩), .pointer (some ⟨w.heap.size + 1, 0, none⟩), .pointer (some ⟨w.heap.size + 1 + 1, 0, none⟩)] w0 1 (fun w1 => w1 = w0.alloc (.cells #[.int .i64 0] 25)) (fun w => by simp [go_sem])
    ((write1_bad w.heap.size _ _ (h.mod (hm0.alloc _)) (by rw [cellB (allocB hb0 _)]; rfl)).mono (fun e w' ⟨he, hw⟩ => ⟨by rw [he]; rfl, by subst hw; exact hE, hw.symm⟩)))
  have HM := Lib.hid (And.intro hm0 hs0)
  clear h hm0 hE hb0 hs0
  go_enter Try.func19, Try.ntmps19
  go_wp2_with fail
  refine H.out.mono ?_
  rintro e w' ⟨rfl, w1, rfl, rfl⟩
  go_wp2
  go_ret
  exact ⟨rfl, HM.out.1.alloc _⟩

theorem read_bad (h : Bad w p) (hp : p = .pointer none ∨ ∃ a, p = .pointer (some a)) (k : Int) : Calls Try.prog 20 #[p, .int .i64 k] w fun e w' => e = .returned (.tuple #[.slice none 0 0, .int .i64 1]) ∧ Mod (fun _ => False) w w' := by
  have hmf : ∀ (fn : Fn) (first cap : Array Value) (w : World), (Instr.makeFunc fn first cap).run Try.prog w = .ok (.func fn first cap) w := fun _ _ _ _ => rfl
  obtain ⟨pa, rfl⟩ : ∃ pa, p = .pointer pa := by rcases hp with rfl | ⟨a, rfl⟩ <;> exact ⟨_, rfl⟩
  obtain ⟨w0, hw0⟩ : ∃ w0, ((w.alloc (.cells #[.pointer pa] 24)).alloc (.cells #[.int .i64 k] 3)).alloc (.cells #[.slice none 0 0] 56) = w0 := ⟨_, rfl⟩
  have hs0 : w0.heap.size = w.heap.size + 3 := by rw [← hw0]; simp
  have hm0 : Mod (fun _ => False) w w0 := by rw [← hw0]; exact (((Mod.refl _ w).alloc _).alloc _).alloc _
  have hb0 : w0.heap[w.heap.size]? = some (.cells #[.pointer pa] 24 (0, 0)) := by rw [← hw0]; exact allocB (allocB (newB w _) _) _
  have hb2 : w0.heap[w.heap.size + 1 + 1]? = some (.cells #[.slice none 0 0] 56 (0, 0)) := by rw [← hw0]; have := newB ((w.alloc (.cells #[.pointer pa] 24)).alloc (.cells #[.int .i64 k] 3)) (.cells #[.slice none 0 0] 56); rw [World.size_alloc, World.size_alloc] at this; exact this
  have hE := newB w0 (.cells #[.int .i64 0] 25)
  have H := Lib.hid (done_calls 46 #[.pointer (some ⟨w.heap.size, 0, none⟩), .pointer (some ⟨w.heap.size + 1, 0, none⟩), .pointer (some ⟨w.heap.size + 1 + 1, 0, none⟩)] w0 1 (fun w1 => w1 = w0.alloc (.cells #[.int .i64 0] 25)) (fun w => by simp [go_sem])
    ((read1_bad w.heap.size _ _ (h.mod (hm0.alloc _)) (by rw [cellB (allocB hb0 _)]; rfl)).mono (fun e w' ⟨he, hw⟩ => ⟨by rw [he]; rfl, by subst hw; exact hE, hw.symm⟩)))
  have HM := Lib.hid (And.intro hm0 (And.intro hs0 hb2))
  clear h hm0 hE hb0 hs0 hb2
  go_enter Try.func20, Try.ntmps20
  go_wp2_with fail
  refine H.out.mono ?_
  rintro e w' ⟨rfl, w1, rfl, rfl⟩
  have hF := Lib.hid ((HM.out.1.alloc (.cells #[.int .i64 0] 25)).setCell (p := ⟨w0.heap.size, 0, none⟩) (by have := HM.out.2.1; simp; omega) (.int .i64 1))
  have hc : ((w0.alloc (.cells #[.int .i64 0] 25)).setCell ⟨w0.heap.size, 0, none⟩ (.int .i64 1)).heap[w.heap.size + 1 + 1]? = some (.cells #[.slice none 0 0] 56 (0, 0)) := setB_other (allocB HM.out.2.2 _) (by have := HM.out.2.1; show w.heap.size + 1 + 1 ≠ w0.heap.size; omega) _
  generalize (w0.alloc (.cells #[.int .i64 0] 25)).setCell ⟨w0.heap.size, 0, none⟩ (.int .i64 1) = W at hF hc ⊢
  have q1 := cellB hc 0
  have q2 := frozB hc 0
  simp only [List.getElem?_toArray, List.getElem?_cons_zero] at q1
  have HC := Lib.hid hc
  clear hc
  go_wp2
  refine bodyPost_ret (v := .tuple #[.slice none 0 0, .int .i64 1]) ?_ rfl ⟨rfl, hF.out.setCell (by simp; omega) _⟩
  have q3 := cellB (setB HC.out 0 (.slice none 0 0)) 0
  simp only [List.getElem?_toArray, List.getElem?_cons_zero, List.setIfInBounds_toArray, List.set_cons_zero] at q3
  simp [results, Try.results20, go_sem, q3]

theorem arm_bad (h : Bad w p) (n : Int) : Calls Try.prog 16 #[p, .int .i64 n] w fun e w' => e = ret0 ∧ w = w' := by
  have HU := Lib.hid (made_bad h)
  clear h
  go_enter Try.func16, Try.ntmps16
  go_wp2_with (go_at_call 31; refine HU.out.mono ?_; rintro e w' ⟨rfl, rfl⟩)
  go_returns
  exact ⟨rfl, rfl⟩
theorem crash_bad (h : Bad w p) : Calls Try.prog 21 #[p] w fun e w' => e = ret0 ∧ w = w' := by
  have HU := Lib.hid (made_bad h)
  clear h
  go_enter Try.func21, Try.ntmps21
  go_wp2_with (go_at_call 31; refine HU.out.mono ?_; rintro e w' ⟨rfl, rfl⟩)
  go_returns
  exact ⟨rfl, rfl⟩
theorem fresh_bad (h : Bad w p) (n : Int) : Calls Try.prog 23 #[p, .int .i64 n] w fun e w' => e = .returned (.bool false) ∧ w = w' := by
  have HU := Lib.hid (made_bad h)
  clear h
  go_enter Try.func23, Try.ntmps23
  go_wp2_with (go_at_call 31; refine HU.out.mono ?_; rintro e w' ⟨rfl, rfl⟩)
  go_ret
  exact ⟨rfl, rfl⟩
theorem wake_bad (h : Bad w p) (a : Option Addr) (n c : Nat) : Calls Try.prog 22 #[p, .slice a n c] w fun e w' => e = ret0 ∧ Mod (fun _ => False) w w' := by
  have HU := Lib.hid (made_bad (h.mod ((Mod.refl _ w).alloc (.cells #[.slice a n c] 34))))
  clear h
  go_enter Try.func22, Try.ntmps22
  go_wp2_with (go_at_call 31; refine HU.out.mono ?_; rintro e w' ⟨rfl, rfl⟩)
  go_returns
  exact ⟨rfl, (Mod.refl _ w).alloc _⟩
theorem stat_bad (h : Bad w p) : Calls Try.prog 13 #[p] w fun e w' => e = .returned (.agg #[.int .i64 0, .int .i64 0, .int .i64 0, .int .i64 0, .int .i64 0, .int .i64 0, .bool false]) ∧ Mod (fun _ => False) w w' := by
  have HU := Lib.hid (made_bad (h.mod ((Mod.refl _ w).alloc (.cells #[.int .i64 0, .int .i64 0, .int .i64 0, .int .i64 0, .int .i64 0, .int .i64 0, .bool false] 39))))
  clear h
  go_enter Try.func13, Try.ntmps13
  go_wp2_with (go_at_call 31; refine HU.out.mono ?_; rintro e w' ⟨rfl, rfl⟩)
  refine bodyPost_ret (v := .agg #[.int .i64 0, .int .i64 0, .int .i64 0, .int .i64 0, .int .i64 0, .int .i64 0, .bool false]) (by simp [results, Try.results13, go_sem]) rfl ⟨rfl, (Mod.refl _ w).alloc _⟩
end
end Go.Proofs.Ytaaoabfmelpcpaa
