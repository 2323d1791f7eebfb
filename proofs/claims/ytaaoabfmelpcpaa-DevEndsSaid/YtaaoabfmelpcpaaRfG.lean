/- The document's device: New; what there is to say of it. -/
import Derived.Test.YtaaoabfmelpcpaaRfF
import Derived.StillTailTactics
namespace Go.Proofs.Ytaaoabfmelpcpaa
open Go.RowKit Go.Mo

theorem info56 : (Try.prog.info? 56).map (fun i => (i.zero, i.size, i.bytes)) = some (some (.slice none 0 0), 1, 24) := by kernel_rfl

section
variable {w w' w1 : World} {R : Nat} {S : Nat → Prop} {d : Dv} {n G : Nat} {W : Value} {vals : List Value} {we : List (Int × Value)}

theorem rnew_bad (s q : Int) (h : badNew s q) (w : World) : Calls Try.prog 10 #[.int .i64 s, .int .i64 q] w fun e w' => e = .returned (.tuple #[.pointer none, .int .i64 2]) ∧ w = w' := by
  unfold badNew at h
  by_cases h1 : s < 1
  · clear h
    go_enter Try.func10, Try.ntmps10
    go_wp2
    go_ret2
    exact ⟨rfl, rfl⟩
  by_cases h2 : s > 16384
  · clear h
    go_enter Try.func10, Try.ntmps10
    go_wp2
    go_ret2
    exact ⟨rfl, rfl⟩
  by_cases h3 : q < 0
  · clear h
    go_enter Try.func10, Try.ntmps10
    go_wp2
    go_ret2
    exact ⟨rfl, rfl⟩
  have h4 : q > s := by omega
  clear h
  go_enter Try.func10, Try.ntmps10
  go_wp2
  go_ret2
  exact ⟨rfl, rfl⟩

theorem rnew_ok (n : Nat) (q : Int) (h : ¬ badNew n q) (w : World) : Calls Try.prog 10 #[.int .i64 n, .int .i64 q] w fun e w' => ∃ R S, e = .returned (.tuple #[.pointer (some ⟨R, 0, none⟩), .int .i64 0]) ∧ Ref w' R S (newD n q) n ∧ Mod (fun _ => False) w w' ∧ ∀ j, S j → w.heap.size ≤ j := by
  unfold badNew at h
  have h1 : ¬ (n : Int) < 1 := by omega
  have h2 : ¬ (n : Int) > 16384 := by omega
  have h3 : ¬ q < 0 := by omega
  have h4 : ¬ (n : Int) < q := by omega
  obtain ⟨i56, hi56, hz0, hz1, hz2⟩ := info_parts info56
  clear h
  go_enter Try.func10, Try.ntmps10
  go_wp2_with (first | (at_make; refine wpList_make_full _ rfl _ _ 66 rfl w.heap.size 56 i56 (.slice none 0 0) 1 Try.underlying66 hi56 hz0 hz1 .i64 .i64 n n n rfl rfl rfl rfl (by rw [hz2]; omega) (by simp [maxLen]; omega) (Nat.le_refl _) ?_; intro w1 ho1 hg1))
  go_ret2
  have hG : w1.heap[w.heap.size]? = some (.cells (List.replicate n (.slice none 0 0)).toArray 56 (0, 0)) := by
    rcases ho1.2 with ⟨h', _⟩ | ⟨g, cap, cur, e, _, hg, _, _, hs, ht⟩
    · simp at h'
    · simp at e
      obtain ⟨rfl, rfl⟩ := e
      rw [hg]
      have : cur.toList = List.replicate n (.slice none 0 0) := by
        rw [List.take_of_length_le (by simp; omega)] at ht
        exact ht.trans (by rw [Nat.mul_one]; exact toList_madeCells_one _ n)
      rw [← this]
  have hm1 : Mod (fun _ => False) w w1 := (Mod.refl _ w).grown hg1 (fun k hk _ => by cases hk)
  have hGl := ltB hG
  refine ⟨_, rfl, fun j => w.heap.size ≤ j ∧ j ≤ w1.heap.size, ⟨w.heap.size, .slice none 0 0, List.replicate n (.slice none 0 0), [], ⟨?_, allocB hG _, by simp, ?_, World.ownsRow_nil _ _ _ _, trivial, ⟨by omega, by omega⟩, ⟨by omega, by omega⟩, fun k hk => by simp [Value.ownBlock] at hk, fun k hk => ?_, ?_, by simp [newD]⟩⟩, hm1.alloc _, fun j hj => hj.1⟩
  · exact newB w1 (.cells (rcells w.heap.size (.slice none 0 0) n (newD n q)) 69)
  · intro i v hv
    have hv' : v = .slice none 0 0 := List.eq_of_mem_replicate (List.mem_of_getElem? hv)
    subst hv'
    exact rfl
  · have := hk.2; simp; omega
  · exact ⟨rfl, by simp [newD, keysOf], by simp [newD, keysOf], by simp [newD], by simp [newD], by simp [newD], by simp [newD], by omega⟩

theorem rkeepD {w : World} {q : Addr} {v : Value} (h : w.cell? q = some v) : (w.drew).cell? q = some v := h
theorem rkeepS {w : World} {q : Addr} {v : Value} (h : w.cell? q = some v) {r : Addr} (hr : q.block ≠ r.block) (u : Value) : (w.setCell r u).cell? q = some v :=
  (((Mod.refl (fun j => j = r.block) w).setCell (fun _ => rfl) u).cell (World.block_lt_of_cell? w _ h) hr).trans h

set_option maxRecDepth 100000 in
set_option maxHeartbeats 4000000 in
theorem rstat_calls (h : RefAt w R S d n G W vals we) (hn : n ≤ 16384) : Calls Try.prog 14 #[.pointer (some ⟨R, 0, none⟩)] w fun e w' => e = .returned (.agg #[.int .i64 d.sectors, .int .i64 d.quota, .int .i64 (used d), .int .i64 d.waiting.length, .int .i64 d.armed, .int .i64 d.turns, .bool d.down]) ∧ Mod (fun _ => False) w w' := by
  rw [h.ri.sec]
  obtain ⟨w0, hw0⟩ : ∃ w0, w.alloc (.cells #[.int .i64 0, .int .i64 0, .int .i64 0, .int .i64 0, .int .i64 0, .int .i64 0, .bool false] 39) = w0 := ⟨_, rfl⟩
  have hm0 : Mod (fun _ => False) w w0 := by rw [← hw0]; exact (Mod.refl _ w).alloc _
  have h0 : RefAt w0 R S d n G W vals we := h.same (hm0.same (fun _ _ q => q)) hm0.size
  have hB : w0.heap[w.heap.size]? = some (.cells #[.int .i64 0, .int .i64 0, .int .i64 0, .int .i64 0, .int .i64 0, .int .i64 0, .bool false] 39 (0, 0)) := by rw [← hw0]; exact newB _ _
  have HU := Lib.hid (rused_calls (w := w0.drew) (h0.same (((Mod.refl (fun _ => False) w0).drew).same (fun _ _ q => q)) (Nat.le_refl _)) hn)
  obtain ⟨a, c, hW⟩ := h.wshape
  have c0 := h0.c0
  have c1 := h0.c1
  have c2 := h0.c2
  rw [hW] at c2
  have c3 := h0.c3
  have c4 := h0.c4
  have c5 := h0.c5
  have H0 := Lib.hid (And.intro hm0 hB)
  have lR := h.lt _ h.sR
  have hneR : R ≠ w.heap.size := by omega
  clear h h0 hm0 hB
  go_enter Try.func14, Try.ntmps14
  have z0 := cellB H0.out.2 0
  have z1 := cellB H0.out.2 1
  have z2 := cellB H0.out.2 2
  have z3 := cellB H0.out.2 3
  have z4 := cellB H0.out.2 4
  have z5 := cellB H0.out.2 5
  have z6 := cellB H0.out.2 6
  have f0 := frozB H0.out.2 0
  have f1 := frozB H0.out.2 1
  have f2 := frozB H0.out.2 2
  have f3 := frozB H0.out.2 3
  have f4 := frozB H0.out.2 4
  have f5 := frozB H0.out.2 5
  have f6 := frozB H0.out.2 6
  simp only [List.getElem?_toArray, List.getElem?_cons_zero, List.getElem?_cons_succ] at z0 z1 z2 z3 z4 z5 z6
  go_wp2_with fail
  clear hw0
  go_still_tail 29, (by kernel_rfl)
  still_call (HU.out.mono fun _ _ q => ⟨q.1, q.2.symm⟩)
  repeat still_step
  refine wpStill_nil ?_
  change wpList _ _ _ _ _ w0.drew
  go_wp2
  have hF := setB (setB (setB (setB (setB (setB (setB H0.out.2 0 (.int .i64 n)) 1 (.int .i64 d.quota)) 2 (.int .i64 (used d))) 3 (.int .i64 d.waiting.length)) 4 (.int .i64 d.armed)) 5 (.int .i64 d.turns)) 6 (.bool d.down)
  have hmF : Mod (fun _ => False) w (((((((w0.setCell ⟨w.heap.size, 0, none⟩ (.int .i64 n)).setCell ⟨w.heap.size, 1, none⟩ (.int .i64 d.quota)).setCell ⟨w.heap.size, 2, none⟩ (.int .i64 (used d))).setCell ⟨w.heap.size, 3, none⟩ (.int .i64 d.waiting.length)).setCell ⟨w.heap.size, 4, none⟩ (.int .i64 d.armed)).setCell ⟨w.heap.size, 5, none⟩ (.int .i64 d.turns)).setCell ⟨w.heap.size, 6, none⟩ (.bool d.down)).drew :=
    (((((((H0.out.1.setCell (by simp) _).setCell (by simp) _).setCell (by simp) _).setCell (by simp) _).setCell (by simp) _).setCell (by simp) _).setCell (by simp) _).drew
  generalize (((((((w0.setCell ⟨w.heap.size, 0, none⟩ (.int .i64 n)).setCell ⟨w.heap.size, 1, none⟩ (.int .i64 d.quota)).setCell ⟨w.heap.size, 2, none⟩ (.int .i64 (used d))).setCell ⟨w.heap.size, 3, none⟩ (.int .i64 d.waiting.length)).setCell ⟨w.heap.size, 4, none⟩ (.int .i64 d.armed)).setCell ⟨w.heap.size, 5, none⟩ (.int .i64 d.turns)).setCell ⟨w.heap.size, 6, none⟩ (.bool d.down)) = WF at hF hmF ⊢
  refine bodyPost_ret (v := .agg #[.int .i64 n, .int .i64 d.quota, .int .i64 (used d), .int .i64 d.waiting.length, .int .i64 d.armed, .int .i64 d.turns, .bool d.down]) ?_ rfl ⟨rfl, hmF⟩
  have s0 := cellB hF 0
  have s1 := cellB hF 1
  have s2 := cellB hF 2
  have s3 := cellB hF 3
  have s4 := cellB hF 4
  have s5 := cellB hF 5
  have s6 := cellB hF 6
  simp only [List.setIfInBounds_toArray, List.set_cons_zero, List.set_cons_succ, List.getElem?_toArray, List.getElem?_cons_zero, List.getElem?_cons_succ] at s0 s1 s2 s3 s4 s5 s6
  simp [results, Try.results14, go_sem, s0, s1, s2, s3, s4, s5, s6]
end
end Go.Proofs.Ytaaoabfmelpcpaa
