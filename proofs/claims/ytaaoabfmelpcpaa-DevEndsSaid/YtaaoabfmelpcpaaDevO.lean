/- Write, Stat. -/
import Derived.Test.YtaaoabfmelpcpaaDevN
namespace Go.Proofs.Ytaaoabfmelpcpaa
open Go.RowKit Go.Mo

section
variable {w : World} {B : Nat} {S : Nat → Prop} {d : Dv}

set_option maxHeartbeats 1000000 in
theorem write_calls (h : Dev w B S d) (k : Int) (v : Value) (bs : Bs) (T : Nat → Prop) (hv : (∃ a c, v = .slice a bs.length c) ∧ (bs.length = 256 → Byt w T v bs)) (hkl : d.kept.length ≤ 1000000) (hwl : d.waiting.length < 1000000) :
    Calls Try.prog 19 #[.pointer (some ⟨B, 0, none⟩), .int .i64 k, v] w fun e w' => e = .returned (.int .i64 (writeE d k bs.length)) ∧ Op w w' B S (writeD d k bs) := by
  have hmf : ∀ (fn : Fn) (first cap : Array Value) (w : World), (Instr.makeFunc fn first cap).run Try.prog w = .ok (.func fn first cap) w := fun _ _ _ _ => rfl
  obtain ⟨⟨va, vc, rfl⟩, hbyt⟩ := hv
  obtain ⟨w0, hw0⟩ : ∃ w0, ((w.alloc (.cells #[.pointer (some ⟨B, 0, none⟩)] 24)).alloc (.cells #[.int .i64 k] 3)).alloc (.cells #[.slice va bs.length vc] 56) = w0 := ⟨_, rfl⟩
  have hs0 : w0.heap.size = w.heap.size + 3 := by rw [← hw0]; simp
  have hm0 : Mod (fun _ => False) w w0 := by rw [← hw0]; exact (((Mod.refl _ w).alloc _).alloc _).alloc _
  have hb0 : w0.heap[w.heap.size]? = some (.cells #[.pointer (some ⟨B, 0, none⟩)] 24 (0, 0)) := by rw [← hw0]; exact allocB (allocB (newB w _) _) _
  have hb1 : w0.heap[w.heap.size + 1]? = some (.cells #[.int .i64 k] 3 (0, 0)) := by rw [← hw0]; have := newB (w.alloc (.cells #[.pointer (some ⟨B, 0, none⟩)] 24)) (.cells #[.int .i64 k] 3); rw [World.size_alloc] at this; exact allocB this _
  have hb2 : w0.heap[w.heap.size + 1 + 1]? = some (.cells #[.slice va bs.length vc] 56 (0, 0)) := by rw [← hw0]; have := newB ((w.alloc (.cells #[.pointer (some ⟨B, 0, none⟩)] 24)).alloc (.cells #[.int .i64 k] 3)) (.cells #[.slice va bs.length vc] 56); rw [World.size_alloc, World.size_alloc] at this; exact this
  have h2 := (h.mod hm0).alloc (.cells #[.int .i64 0] 25)
  have hE := newB w0 (.cells #[.int .i64 0] 25)
  have hlt := h.lt
  have hn : ∀ i, ¬ S (w.heap.size + i) := fun i q => by have := hlt _ q; omega
  have hm1 : Mod (fun _ => False) w (w0.alloc (.cells #[.int .i64 0] 25)) := hm0.alloc _
  have H := Lib.hid (done_calls 40 #[.pointer (some ⟨w.heap.size, 0, none⟩), .pointer (some ⟨w.heap.size + 1, 0, none⟩), .pointer (some ⟨w.heap.size + 1 + 1, 0, none⟩)] w0 (writeE d k bs.length)
    (fun w1 => Op (w0.alloc (.cells #[.int .i64 0] 25)) w1 B S (writeD d k bs)) (fun w => by simp [go_sem])
    ((write1_calls h2 k _ bs T ⟨⟨va, vc, rfl⟩, fun q => (hbyt q).same (hm1.same (fun _ _ q => q)) hm1.size (fun _ q _ => q)⟩ hkl hwl _ _ _ (allocB hb0 _) (allocB hb1 _) (allocB hb2 _) ⟨hn 0, hn 1, hn 2⟩).mono (fun e w' ⟨he, ho⟩ => ⟨he, by
      obtain ⟨S', _, hm, _⟩ := ho
      exact (hm.block _ (by simp) (by rw [hs0]; exact hn 3)).trans hE, ho⟩)))
  have HB := Lib.hid (And.intro hm0 (And.intro hs0 hlt))
  clear h h2 hb0 hb1 hb2 hE hm0 hs0 hm1 hbyt
  go_enter Try.func19, Try.ntmps19
  go_wp2_with fail
  refine H.out.mono ?_
  rintro e w' ⟨rfl, w1, ho, rfl⟩
  have HO := Lib.hid (ho.set (HB.out.1.any.alloc _) HB.out.2.2 w0.heap.size 0 HB.out.1.size (by simp) (.int .i64 (writeE d k bs.length)))
  clear ho
  go_wp2
  go_ret
  exact ⟨rfl, HO.out⟩

def statV (d : Dv) : Array Value := #[.int .i64 d.sectors, .int .i64 d.quota, .int .i64 (used d), .int .i64 d.waiting.length, .int .i64 d.armed, .int .i64 d.turns, .bool d.down]

set_option maxHeartbeats 2000000 in
theorem stat_calls (h : Dev w B S d) (hkl : d.kept.length ≤ 1000000) : Calls Try.prog 13 #[.pointer (some ⟨B, 0, none⟩)] w fun e w' => e = .returned (.agg (statV d)) ∧ Mod (fun _ => False) w w' := by
  obtain ⟨w0, hw0⟩ : ∃ w0, (w.alloc (.cells #[.int .i64 0, .int .i64 0, .int .i64 0, .int .i64 0, .int .i64 0, .int .i64 0, .bool false] 39)).alloc (.cells #[.int .i64 d.sectors, .int .i64 d.quota, .int .i64 0, .int .i64 0, .int .i64 d.armed, .int .i64 d.turns, .bool d.down] 39) = w0 := ⟨_, rfl⟩
  have HU := Lib.hid (used_any (w := w0.drew) (h.mod (by rw [← hw0]; exact (((Mod.refl _ w).alloc _).alloc _).drew)) hkl)
  have hwn := h.bound
  have hlt := h.lt
  obtain ⟨K, M, W, ke, we, h⟩ := h
  have hBl := hlt _ h.sB
  have c0 := h.c0
  have c1 := h.c1
  have c3 := h.c3
  have c4 := h.c4
  have c5 := h.c5
  have c6 := h.c6
  have c7 := h.c7
  have c8 := h.c8
  have c9 := h.c9
  obtain ⟨Wa, Wc, hW⟩ := own_slice h.row
  subst hW
  have hwl := h.wait.length
  rw [hwl] at c1
  clear h hlt hwl
  go_enter Try.func13, Try.ntmps13
  go_wp2_with (first | (go_at_call 31; refine (made_some B K _ (by go_cell)).mono ?_; rintro e w' ⟨rfl, rfl⟩))
  have hB1 : w0.heap[w.heap.size + 1]? = some (.cells #[.int .i64 d.sectors, .int .i64 d.quota, .int .i64 0, .int .i64 0, .int .i64 d.armed, .int .i64 d.turns, .bool d.down] 39 (0, 0)) := by
    rw [← hw0]
    have := newB (w.alloc (.cells #[.int .i64 0, .int .i64 0, .int .i64 0, .int .i64 0, .int .i64 0, .int .i64 0, .bool false] 39)) (.cells #[.int .i64 d.sectors, .int .i64 d.quota, .int .i64 0, .int .i64 0, .int .i64 d.armed, .int .i64 d.turns, .bool d.down] 39)
    rw [World.size_alloc] at this; exact this
  have hB0 : w0.heap[w.heap.size]? = some (.cells #[.int .i64 0, .int .i64 0, .int .i64 0, .int .i64 0, .int .i64 0, .int .i64 0, .bool false] 39 (0, 0)) := by rw [← hw0]; exact allocB (newB w _) _
  have hm0 : Mod (fun _ => False) w w0 := by rw [← hw0]; exact ((Mod.refl _ w).alloc _).alloc _
  have hs0 : w0.heap.size = w.heap.size + 2 := by rw [← hw0]; simp
  have c1' : w0.cell? ⟨B, 1, none⟩ = some (.slice Wa d.waiting.length Wc) := (hm0.cell (p := ⟨B, 1, none⟩) hBl (fun q => q)).trans c1
  have H0 := Lib.hid (And.intro hB1 (And.intro hB0 (And.intro hm0 hs0)))
  have hBl0 : B < w0.heap.size := by omega
  have hne : B ≠ w.heap.size + 1 := by omega
  clear hB1 hB0 hm0 hs0 hw0 c0 c1 c3 c4 c5 c6 c7 c8 c9
  go_region_held3 (fun w' => w'.cell? ⟨B, 1, none⟩ = some (.slice Wa d.waiting.length Wc))
    (first
      | exact c1'
      | exact HQ.out
      | (rw [World.cell?_of_block (Below.heap_setCell _ _ _ _ hne)]; exact HQ.out)
      | (rw [World.cell?_of_block (Below.heap_setCell _ _ _ _ hne), World.cell?_of_block (Below.heap_setCell _ _ _ _ hne)]; exact HQ.out))
    (first
      | (go_at_call 32; refine HU.out.mono ?_; rintro e w1 ⟨rfl, hm1⟩; have HQ := Lib.hid ((hm1.cell (p := ⟨B, 1, none⟩) hBl0 (fun q => q)).trans c1'); have hb := (hm1.block (w.heap.size + 1) (by have := H0.out.2.2.2; simp; omega) (fun q => q)).trans H0.out.1; have q2 := cellB hb 2; have q3 := cellB hb 3; have f2 := frozB hb 2; have f3 := frozB hb 3; simp only [List.getElem?_toArray, List.getElem?_cons_zero, List.getElem?_cons_succ] at q2 q3; have HB := Lib.hid (And.intro hb hm1); clear hb hm1))
  have hW1 : ((w1.setCell ⟨w.heap.size + 1, 2, none⟩ (.int .i64 (used d))).setCell ⟨w.heap.size + 1, 3, none⟩ (.int .i64 d.waiting.length)).heap[w.heap.size + 1]? = some (.cells (statV d) 39 (0, 0)) := by
    rw [setB (setB HB.out.1 2 _) 3 _]; rfl
  have hWz : ((w1.setCell ⟨w.heap.size + 1, 2, none⟩ (.int .i64 (used d))).setCell ⟨w.heap.size + 1, 3, none⟩ (.int .i64 d.waiting.length)).heap[w.heap.size]? = some (.cells #[.int .i64 0, .int .i64 0, .int .i64 0, .int .i64 0, .int .i64 0, .int .i64 0, .bool false] 39 (0, 0)) := by
    refine setB_other (setB_other ?_ (by simp) _) (by simp) _
    exact (HB.out.2.block w.heap.size (by have := H0.out.2.2.2; simp; omega) (fun q => q)).trans H0.out.2.1
  have hmW : Mod (fun _ => False) w ((w1.setCell ⟨w.heap.size + 1, 2, none⟩ (.int .i64 (used d))).setCell ⟨w.heap.size + 1, 3, none⟩ (.int .i64 d.waiting.length)) :=
    ((H0.out.2.2.1.tr0 (((Mod.refl _ w0).drew).tr0 HB.out.2)).setCell (by simp) _).setCell (by simp) _
  rename_i hHeld
  clear hHeld q2 q3 f2 f3 HQ
  generalize (w1.setCell ⟨w.heap.size + 1, 2, none⟩ (.int .i64 (used d))).setCell ⟨w.heap.size + 1, 3, none⟩ (.int .i64 d.waiting.length) = W at hW1 hWz hmW ⊢
  have s0 := cellB hW1 0
  have s1 := cellB hW1 1
  have s2 := cellB hW1 2
  have s3 := cellB hW1 3
  have s4 := cellB hW1 4
  have s5 := cellB hW1 5
  have s6 := cellB hW1 6
  have z0 := cellB hWz 0
  have z1 := cellB hWz 1
  have z2 := cellB hWz 2
  have z3 := cellB hWz 3
  have z4 := cellB hWz 4
  have z5 := cellB hWz 5
  have z6 := cellB hWz 6
  have f0 := frozB hWz 0
  have f1 := frozB hWz 1
  have f2 := frozB hWz 2
  have f3 := frozB hWz 3
  have f4 := frozB hWz 4
  have f5 := frozB hWz 5
  have f6 := frozB hWz 6
  simp only [statV, List.getElem?_toArray, List.getElem?_cons_zero, List.getElem?_cons_succ] at s0 s1 s2 s3 s4 s5 s6 z0 z1 z2 z3 z4 z5 z6
  have HZ := Lib.hid (And.intro hWz hmW)
  clear hW1 hWz hmW
  go_wp2
  have hF := setB (setB (setB (setB (setB (setB (setB HZ.out.1 0 (.int .i64 d.sectors)) 1 (.int .i64 d.quota)) 2 (.int .i64 (used d))) 3 (.int .i64 d.waiting.length)) 4 (.int .i64 d.armed)) 5 (.int .i64 d.turns)) 6 (.bool d.down)
  have hmF : Mod (fun _ => False) w (((((((W.setCell ⟨w.heap.size, 0, none⟩ (.int .i64 d.sectors)).setCell ⟨w.heap.size, 1, none⟩ (.int .i64 d.quota)).setCell ⟨w.heap.size, 2, none⟩ (.int .i64 (used d))).setCell ⟨w.heap.size, 3, none⟩ (.int .i64 d.waiting.length)).setCell ⟨w.heap.size, 4, none⟩ (.int .i64 d.armed)).setCell ⟨w.heap.size, 5, none⟩ (.int .i64 d.turns)).setCell ⟨w.heap.size, 6, none⟩ (.bool d.down)) :=
    ((((((HZ.out.2.setCell (by simp) _).setCell (by simp) _).setCell (by simp) _).setCell (by simp) _).setCell (by simp) _).setCell (by simp) _).setCell (by simp) _
  generalize (((((((W.setCell ⟨w.heap.size, 0, none⟩ (.int .i64 d.sectors)).setCell ⟨w.heap.size, 1, none⟩ (.int .i64 d.quota)).setCell ⟨w.heap.size, 2, none⟩ (.int .i64 (used d))).setCell ⟨w.heap.size, 3, none⟩ (.int .i64 d.waiting.length)).setCell ⟨w.heap.size, 4, none⟩ (.int .i64 d.armed)).setCell ⟨w.heap.size, 5, none⟩ (.int .i64 d.turns)).setCell ⟨w.heap.size, 6, none⟩ (.bool d.down)) = F at hF hmF ⊢
  refine bodyPost_ret (v := .agg (statV d)) ?_ rfl ⟨rfl, hmF⟩
  have s0 := cellB hF 0
  have s1 := cellB hF 1
  have s2 := cellB hF 2
  have s3 := cellB hF 3
  have s4 := cellB hF 4
  have s5 := cellB hF 5
  have s6 := cellB hF 6
  simp only [List.setIfInBounds_toArray, List.set_cons_zero, List.set_cons_succ, List.getElem?_toArray, List.getElem?_cons_zero, List.getElem?_cons_succ] at s0 s1 s2 s3 s4 s5 s6
  simp [results, Try.results13, go_sem, s0, s1, s2, s3, s4, s5, s6, statV]
end
end Go.Proofs.Ytaaoabfmelpcpaa
