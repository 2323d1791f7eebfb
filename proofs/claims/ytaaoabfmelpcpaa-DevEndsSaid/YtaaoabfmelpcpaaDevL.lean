/- Read. -/
import Derived.Test.YtaaoabfmelpcpaaDevK
import Derived.Deep.RegionWith
namespace Go.Proofs.Ytaaoabfmelpcpaa
open Go.RowKit Go.Mo

def readE (d : Dv) (k : Int) : Int := if d.down then 8 else if 0 ≤ k ∧ k < d.sectors then 0 else 7

theorem Byt.shape {w : World} {S : Nat → Prop} {v : Value} {bs : Bs} (h : Byt w S v bs) : ∃ g cap, v = .slice (Option.some ⟨g, 0, Option.none⟩) bs.length cap := by
  obtain ⟨g, cap, hv, _⟩ := h.some
  exact ⟨g, cap, hv⟩

section
variable {w : World} {B : Nat} {S : Nat → Prop} {d : Dv}

theorem last_any (h : Dev w B S d) (k : Int) : Calls Try.prog 47 #[.pointer (some ⟨B, 0, none⟩), .int .i64 k] w fun e w' => ∃ v', e = .returned v' ∧ Byt w' (fun j => S j ∨ w.heap.size ≤ j) v' (last d k) ∧ Mod (fun _ => False) w w' := by
  obtain ⟨K, M, W, ke, we, h⟩ := h
  exact last_calls h k

set_option maxHeartbeats 1000000 in
theorem read1_calls (h : Dev w B S d) (k : Int) (hl : (last d k).length = 256) (b0 b1 b2 : Nat) (h0 : w.heap[b0]? = some (.cells #[.pointer (some ⟨B, 0, none⟩)] 24 (0, 0))) (h1 : w.heap[b1]? = some (.cells #[.int .i64 k] 3 (0, 0)))
    (h2 : w.heap[b2]? = some (.cells #[.slice none 0 0] 56 (0, 0))) : Calls Try.prog 46 #[.pointer (some ⟨b0, 0, none⟩), .pointer (some ⟨b1, 0, none⟩), .pointer (some ⟨b2, 0, none⟩)] w fun e w' =>
    e = (if readE d k = 0 then ret0 else pan (readE d k)) ∧ Mod (fun j => j = b2) w w' ∧ (∃ v, w'.heap[b2]? = some (.cells #[v] 56 (0, 0)) ∧ (if readE d k = 0 then Byt w' (fun j => w.heap.size ≤ j) v (last d k) else v = .slice none 0 0)) := by
  have e0 : w.cell? ⟨b0, 0, none⟩ = some (.pointer (some ⟨B, 0, none⟩)) := by rw [cellB h0]; rfl
  have e1 : w.cell? ⟨b1, 0, none⟩ = some (.int .i64 k) := by rw [cellB h1]; rfl
  have HLl := Lib.hid hl
  clear hl
  have HL := Lib.hid (last_any (h.mod ((Mod.refl _ w).drew)) k)
  obtain ⟨K, M, W, ke, we, h⟩ := h
  have c0 := h.c0
  have c3 := h.c3
  have c9 := h.c9
  have H2 := Lib.hid h2
  clear h0 h1 h2 h
  cases hd : d.down with
  | true =>
    rw [hd] at c9
    rw [show readE d k = 8 by simp [readE, hd]]
    go_enter Try.func46, Try.ntmps46
    go_wp2_with fail
    refine (up_down B K w c0 c9).mono ?_
    rintro e w' ⟨rfl, rfl⟩
    exact ⟨rfl, rfl, Mod.refl _ _, _, H2.out, rfl⟩
  | false =>
    rw [hd] at c9
    by_cases hk : 0 ≤ k ∧ k < d.sectors
    · rw [show readE d k = 0 by simp [readE, hd, hk]]
      go_enter Try.func46, Try.ntmps46
      go_wp2_with fail
      refine (up_ok B K w c0 c9).mono ?_
      rintro e w' ⟨rfl, rfl⟩
      go_wp2_with fail
      refine (there_ok B k d.sectors w c3 hk.1 hk.2).mono ?_
      rintro e w' ⟨rfl, rfl⟩
      go_wp2_with fail
      have hl2 := ltB H2.out
      clear hd hk
      go_region_with (first
        | (go_at_call 47; refine HL.out.mono ?_; rintro e w1 ⟨v1, rfl, hv1, hm1⟩; obtain ⟨g1, cap1, rfl⟩ := hv1.shape; have HV := Lib.hid hv1; have HM := Lib.hid hm1; clear hv1 hm1)
        | (go_at_call 45; refine (clone_ok _ _ _ _ HV.out (by rw [HLl.out]; omega)).mono ?_; rintro e w2 ⟨v2, rfl, hv2, hm2⟩; obtain ⟨g2, cap2, rfl⟩ := hv2.shape; have hbx : w2.heap[b2]? = some (.cells #[.slice none 0 0] 56 (0, 0)) := ((HM.out.trans (S' := fun _ => False) hm2 (fun _ q => q.elim)).block b2 hl2 (fun q => q)).trans H2.out; have q1 := cellB hbx 0; have q2 := frozB hbx 0; simp only [List.getElem?_toArray, List.getElem?_cons_zero] at q1))
      all_goals
        go_returns
        have hm12 : Mod (fun j => j = b2) w w2 := (((Mod.refl _ w).drew).tr0 HM.out).tr0 hm2
        have hs1 := HM.out.size
        simp only [World.size_drew] at hs1
        refine ⟨rfl, hm12.setCell (fun _ => rfl) _, _, setB hbx 0 _, ?_⟩
        rw [if_pos trivial]
        refine hv2.bsame (fun j cs hj hc => setB_other hc (fun e => ?_) _) (by simp) (fun j hj _ => by omega)
        simp only at e
        rw [e, hbx] at hc; cases hc
    · rw [show readE d k = 7 by simp [readE, hd, hk]]
      go_enter Try.func46, Try.ntmps46
      go_wp2_with fail
      refine (up_ok B K w c0 c9).mono ?_
      rintro e w' ⟨rfl, rfl⟩
      go_wp2_with fail
      refine (there_no B k d.sectors w c3 hk).mono ?_
      rintro e w' ⟨rfl, rfl⟩
      exact ⟨rfl, rfl, Mod.refl _ _, _, H2.out, rfl⟩

/-- What Read leaves behind. -/
def ReadPost (w : World) (d : Dv) (k : Int) (e : Ending) (w' : World) : Prop :=
    ∃ v, e = .returned (.tuple #[v, .int .i64 (readE d k)]) ∧ (if readE d k = 0 then Byt w' (fun j => w.heap.size ≤ j) v (last d k) else v = .slice none 0 0) ∧ Mod (fun _ => False) w w'

set_option maxHeartbeats 1000000 in
theorem read_calls (h : Dev w B S d) (k : Int) (hl : (last d k).length = 256) : Calls Try.prog 20 #[.pointer (some ⟨B, 0, none⟩), .int .i64 k] w (ReadPost w d k) := by
  have hmf : ∀ (fn : Fn) (first cap : Array Value) (w : World), (Instr.makeFunc fn first cap).run Try.prog w = .ok (.func fn first cap) w := fun _ _ _ _ => rfl
  obtain ⟨w0, hw0⟩ : ∃ w0, ((w.alloc (.cells #[.pointer (some ⟨B, 0, none⟩)] 24)).alloc (.cells #[.int .i64 k] 3)).alloc (.cells #[.slice none 0 0] 56) = w0 := ⟨_, rfl⟩
  have hs0 : w0.heap.size = w.heap.size + 3 := by rw [← hw0]; simp
  have hm0 : Mod (fun _ => False) w w0 := by rw [← hw0]; exact (((Mod.refl _ w).alloc _).alloc _).alloc _
  have hb0 : w0.heap[w.heap.size]? = some (.cells #[.pointer (some ⟨B, 0, none⟩)] 24 (0, 0)) := by rw [← hw0]; exact allocB (allocB (newB w _) _) _
  have hb1 : w0.heap[w.heap.size + 1]? = some (.cells #[.int .i64 k] 3 (0, 0)) := by rw [← hw0]; have := newB (w.alloc (.cells #[.pointer (some ⟨B, 0, none⟩)] 24)) (.cells #[.int .i64 k] 3); rw [World.size_alloc] at this; exact allocB this _
  have hb2 : w0.heap[w.heap.size + 1 + 1]? = some (.cells #[.slice none 0 0] 56 (0, 0)) := by rw [← hw0]; have := newB ((w.alloc (.cells #[.pointer (some ⟨B, 0, none⟩)] 24)).alloc (.cells #[.int .i64 k] 3)) (.cells #[.slice none 0 0] 56); rw [World.size_alloc, World.size_alloc] at this; exact this
  have h2 := (h.mod hm0).alloc (.cells #[.int .i64 0] 25)
  have hE := newB w0 (.cells #[.int .i64 0] 25)
  have H := Lib.hid (done_calls 46 #[.pointer (some ⟨w.heap.size, 0, none⟩), .pointer (some ⟨w.heap.size + 1, 0, none⟩), .pointer (some ⟨w.heap.size + 1 + 1, 0, none⟩)] w0 (readE d k)
    (fun w1 => Mod (fun j => j = w.heap.size + 1 + 1) w0 w1 ∧ ∃ v, w1.heap[w.heap.size + 1 + 1]? = some (.cells #[v] 56 (0, 0)) ∧ (if readE d k = 0 then Byt w1 (fun j => w0.heap.size + 1 ≤ j) v (last d k) else v = .slice none 0 0)) (fun w => by simp [go_sem])
    ((read1_calls h2 k hl _ _ _ (allocB hb0 _) (allocB hb1 _) (allocB hb2 _)).mono (fun e w' ⟨he, hm, v, hv, hc⟩ => ⟨he, (hm.block _ (by simp) (by omega)).trans hE, ((Mod.refl _ w0).alloc _).tr hm, v, hv, by rw [World.size_alloc] at hc; exact hc⟩)))
  clear h h2 hb0 hb1 hE hl
  have HB := Lib.hid (And.intro hb2 (And.intro hm0 hs0))
  clear hb2 hm0 hs0
  go_enter Try.func20, Try.ntmps20
  go_wp2_with fail
  refine H.out.mono ?_
  rintro e w' ⟨rfl, w1, ⟨hm1, v, hv, hc⟩, rfl⟩
  obtain ⟨va, vn, vc, rfl⟩ : ∃ a n c, v = .slice a n c := by
    by_cases q : readE d k = 0
    · rw [if_pos q] at hc; obtain ⟨g, cap, e⟩ := hc.shape; exact ⟨_, _, _, e⟩
    · rw [if_neg q] at hc; exact ⟨_, _, _, hc⟩
  have hs0 := HB.out.2.2
  have hv2 : (w1.setCell ⟨w0.heap.size, 0, none⟩ (.int .i64 (readE d k))).heap[w.heap.size + 1 + 1]? = some (.cells #[.slice va vn vc] 56 (0, 0)) := setB_other hv (by show w.heap.size + 1 + 1 ≠ w0.heap.size; omega) _
  have q1 := cellB hv2 0
  have q2 := frozB hv2 0
  simp only [List.getElem?_toArray, List.getElem?_cons_zero] at q1
  have HC := Lib.hid hc
  have HV := Lib.hid hv2
  have HM := Lib.hid hm1
  clear hc hv2 hm1 hv hs0
  go_wp2
  refine bodyPost_ret (v := .tuple #[.slice va vn vc, .int .i64 (readE d k)]) ?_ rfl ?_
  · have := setB HV.out 0 (.slice va vn vc)
    have q3 := cellB this 0
    simp only [List.getElem?_toArray, List.getElem?_cons_zero, List.setIfInBounds_toArray, List.set_cons_zero] at q3
    simp [results, Try.results20, go_sem, q3]
  · have hs0 := HB.out.2.2
    refine ⟨_, rfl, ?_, ?_⟩
    · by_cases q : readE d k = 0
      · have hc := HC.out
        rw [if_pos q] at hc ⊢
        refine hc.bsame (fun j cs hj hcc => setB_other (setB_other hcc (fun e => ?_) _) (fun e => ?_) _) (by simp) (fun j hj _ => by omega)
        · simp only at e; omega
        · simp only at e; omega
      · have hc := HC.out
        rw [if_neg q] at hc ⊢
        exact hc
    · exact ((HB.out.2.1.trans HM.out (fun j e l => by omega)).setCell (by simp; omega) _).setCell (by simp; omega) _
end
end Go.Proofs.Ytaaoabfmelpcpaa
