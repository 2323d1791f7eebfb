/- done, and the methods that call it; Arm, Crash, Fresh, New. -/
import Derived.Test.YtaaoabfmelpcpaaDevI
namespace Go.Proofs.Ytaaoabfmelpcpaa
open Go.RowKit Go.Mo

theorem hta (n : Int) : ∀ (w : World), (Instr.typeAssert (.iface 25 (.int .i64 n)) 20 25 true).run Try.prog w = .ok (.tuple #[.int .i64 n, .bool true]) w := fun _ => by kernel_rfl
theorem tm51 (p : Value) : #[p] ++ Array.replicate (Try.f51.ntmps - #[p].size) undef = #[p, undef, undef, undef, undef, undef, undef, undef, undef, undef, undef, undef, undef, undef] := by rw [Try.ntmps51]; rfl
theorem rec_panicking (p : Addr) (x n : Int) (w : World) (hc : w.cell? p = some (.int .i64 x)) (hz : w.frozen? p = false) :
    CallsD Try.prog 51 #[.pointer (some p)] (.panicking [{ v := .iface 25 (.int .i64 n), recovered := false }]) w fun e u' w' =>
      e = .returned (.tuple #[]) ∧ u' = .panicking [{ v := .iface 25 (.int .i64 n), recovered := true }] ∧ w' = w.setCell p (.int .i64 n) := by
  have hta := hta n
  refine callsD_of_wpS Try.func51 rfl fun c₀ cs hu => ?_
  rw [tm51]
  apply wpS_seq
  apply wpS_region
  simp [wpOpsS, go_sem, recoverD, hu, Exit.thenS]
  refine wpS_of_wp ?_
  clear hu
  go_wp2
  cases c₀
  simp_all [bodyPostS, results, Try.results51]

theorem rec_idle (p : Addr) (w : World) :
    CallsD Try.prog 51 #[.pointer (some p)] .returning w fun e u' w' => e = .returned (.tuple #[]) ∧ u' = .returning ∧ w' = w := by
  refine callsD_of_wpS Try.func51 rfl fun c₀ cs hu => ?_
  rw [tm51]
  apply wpS_seq
  apply wpS_region
  simp [wpOpsS, go_sem, recoverD, hu, Exit.thenS]
  refine wpS_of_wp ?_
  go_wp2
  cases c₀
  simp_all [bodyPostS, results, Try.results51]


theorem done_ok (G : FuncId) (cap : Array Value) (w : World) (Post : World → Prop) (hG : ∀ w, (callFunc G cap).run Try.prog w = .ok (.enter G cap) w)
   (h : Calls Try.prog G cap (w.alloc (.cells #[.int .i64 0] 25)) (fun e w' => e = .returned (.tuple #[]) ∧ w'.heap[w.heap.size]? = some (.cells #[.int .i64 0] 25) ∧ Post w' )) :
   Calls Try.prog 34 #[.func (.func G) #[] cap] w fun e w' => e = .returned (.int .i64 0) ∧ ∃ w1, Post w1 ∧ w' = w1.setCell ⟨w.heap.size, 0, none⟩ (.int .i64 0) := by
  have hmf : ∀ (fn : Fn) (first cap : Array Value) (w : World), (Instr.makeFunc fn first cap).run Try.prog w = .ok (.func fn first cap) w := fun _ _ _ _ => rfl
  have H := Lib.hid h; clear h
  go_enter_defers Try.func34, Try.ntmps34
  go_wp2_with fail
  refine H.out.mono ?_
  rintro e w1 ⟨rfl, hb, hp⟩
  have hc : w1.cell? ⟨w.heap.size, 0, none⟩ = some (.int .i64 0) := by simp [World.cell?, hb]
  have hf : w1.frozen? ⟨w.heap.size, 0, none⟩ = false := by simp [World.frozen?, hb]
  clear hb
  go_wp2
  refine leaves_cons (f := 51) (args := #[.pointer (some ⟨w.heap.size, 0, none⟩)]) (by simp) (by simp [go_sem]) ?_
  refine (rec_idle ⟨w.heap.size, 0, none⟩ _).mono ?_
  rintro e u' w'' ⟨rfl, rfl, rfl⟩
  simp [Leaves, settle, results, Try.results34, go_sem, hc]
  exact ⟨_, hp, rfl⟩

theorem done_no (G : FuncId) (cap : Array Value) (w : World) (n : Int) (Post : World → Prop) (hG : ∀ w, (callFunc G cap).run Try.prog w = .ok (.enter G cap) w)
   (h : Calls Try.prog G cap (w.alloc (.cells #[.int .i64 0] 25)) (fun e w' => e = .panicked [{ v := .iface 25 (.int .i64 n), recovered := false }] ∧ w'.heap[w.heap.size]? = some (.cells #[.int .i64 0] 25) ∧ Post w' )) :
   Calls Try.prog 34 #[.func (.func G) #[] cap] w fun e w' => e = .returned (.int .i64 n) ∧ ∃ w1, Post w1 ∧ w' = w1.setCell ⟨w.heap.size, 0, none⟩ (.int .i64 n) := by
  have hmf : ∀ (fn : Fn) (first cap : Array Value) (w : World), (Instr.makeFunc fn first cap).run Try.prog w = .ok (.func fn first cap) w := fun _ _ _ _ => rfl
  have H := Lib.hid h; clear h
  go_enter_defers Try.func34, Try.ntmps34
  go_wp2_with fail
  refine H.out.mono ?_
  rintro e w1 ⟨rfl, hb, hp⟩
  have hc : w1.cell? ⟨w.heap.size, 0, none⟩ = some (.int .i64 0) := by simp [World.cell?, hb]
  have hf : w1.frozen? ⟨w.heap.size, 0, none⟩ = false := by simp [World.frozen?, hb]
  clear hb
  go_wp2
  refine leaves_cons (f := 51) (args := #[.pointer (some ⟨w.heap.size, 0, none⟩)]) (by simp) (by simp [go_sem]) ?_
  refine (rec_panicking ⟨w.heap.size, 0, none⟩ 0 n _ hc hf).mono ?_
  rintro e u' w'' ⟨rfl, rfl, rfl⟩
  simp [Leaves, settle, results, Try.results34, go_sem, hc]
  exact ⟨_, hp, rfl⟩

theorem done_calls (G : FuncId) (cap : Array Value) (w : World) (n : Int) (Post : World → Prop) (hG : ∀ w, (callFunc G cap).run Try.prog w = .ok (.enter G cap) w)
   (h : Calls Try.prog G cap (w.alloc (.cells #[.int .i64 0] 25)) (fun e w' => e = (if n = 0 then ret0 else pan n) ∧ w'.heap[w.heap.size]? = some (.cells #[.int .i64 0] 25) ∧ Post w' )) :
   Calls Try.prog 34 #[.func (.func G) #[] cap] w fun e w' => e = .returned (.int .i64 n) ∧ ∃ w1, Post w1 ∧ w' = w1.setCell ⟨w.heap.size, 0, none⟩ (.int .i64 n) := by
  by_cases hn : n = 0
  · subst hn; exact done_ok G cap w Post hG h
  · rw [if_neg hn] at h; exact done_no G cap w n Post hG h

section
variable {w : World} {B : Nat} {S : Nat → Prop} {d : Dv}

theorem Dev.lt (h : Dev w B S d) : ∀ j, S j → j < w.heap.size := by obtain ⟨K, M, W, ke, we, h⟩ := h; exact h.lt
theorem Dev.mod (h : Dev w B S d) {w' : World} (hm : Mod (fun _ => False) w w') : Dev w' B S d := h.same (hm.same (fun _ _ q => q)) hm.size
theorem Dev.alloc (h : Dev w B S d) (o : Obj) : Dev (w.alloc o) B S d := h.mod ((Mod.refl _ w).alloc o)

theorem flush_calls (h : Dev w B S d) : Calls Try.prog 17 #[.pointer (some ⟨B, 0, none⟩)] w fun e w' => e = .returned (.int .i64 (flushE d)) ∧ Op w w' B S (flushD d) := by
  have hmf : ∀ (fn : Fn) (first cap : Array Value) (w : World), (Instr.makeFunc fn first cap).run Try.prog w = .ok (.func fn first cap) w := fun _ _ _ _ => rfl
  have hlt := h.lt
  have h2 := (h.alloc (.cells #[.pointer (some ⟨B, 0, none⟩)] 24)).alloc (.cells #[.int .i64 0] 25)
  have hb : ((w.alloc (.cells #[.pointer (some ⟨B, 0, none⟩)] 24)).alloc (.cells #[.int .i64 0] 25)).heap[w.heap.size]? = some (.cells #[.pointer (some ⟨B, 0, none⟩)] 24 (0, 0)) := allocB (newB w _) _
  have hnS : ¬ S w.heap.size := fun q => by have := hlt _ q; omega
  have hnS2 : ¬ S (w.heap.size + 1) := fun q => by have := hlt _ q; omega
  have hE : ((w.alloc (.cells #[.pointer (some ⟨B, 0, none⟩)] 24)).alloc (.cells #[.int .i64 0] 25)).heap[w.heap.size + 1]? = some (.cells #[.int .i64 0] 25) := by
    have := newB (w.alloc (.cells #[.pointer (some ⟨B, 0, none⟩)] 24)) (.cells #[.int .i64 0] 25); rw [World.size_alloc] at this; exact this
  have H := Lib.hid (done_calls 35 #[.pointer (some ⟨w.heap.size, 0, none⟩)] (w.alloc (.cells #[.pointer (some ⟨B, 0, none⟩)] 24)) (flushE d)
    (fun w1 => Op ((w.alloc (.cells #[.pointer (some ⟨B, 0, none⟩)] 24)).alloc (.cells #[.int .i64 0] 25)) w1 B S (flushD d)) (fun w => by simp [go_sem])
    ((flush1_calls h2 w.heap.size hb hnS).mono (fun e w' ⟨he, ho⟩ => ⟨he, by
      obtain ⟨S', _, hm, _⟩ := ho
      rw [World.size_alloc]
      exact (hm.block _ (by simp) hnS2).trans hE, ho⟩)))
  clear h h2 hb hE
  go_enter Try.func17, Try.ntmps17
  go_wp2_with fail
  refine H.out.mono ?_
  rintro e w' ⟨rfl, w1, ho, rfl⟩
  go_wp2
  go_ret
  exact ⟨rfl, ho.set (((Mod.refl S w).alloc _).alloc _) hlt _ 0 (by simp) (by simp) _⟩
end
end Go.Proofs.Ytaaoabfmelpcpaa
