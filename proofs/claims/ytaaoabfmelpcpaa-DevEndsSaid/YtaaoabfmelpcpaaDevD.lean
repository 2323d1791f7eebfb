/- put: a write waits. -/
import Derived.Test.YtaaoabfmelpcpaaDevC
namespace Go.Proofs.Ytaaoabfmelpcpaa
open Go.RowKit Go.Mo

theorem info78 : (Try.prog.info? 78).map (fun i => (i.zero, i.size, i.bytes)) = some (some (.agg #[.int .i64 0, .slice none 0 0]), 2, 32) := by kernel_rfl

section
variable {w : World} {B : Nat} {S : Nat → Prop} {d : Dv} {K M : Nat} {W : Value} {ke we : List (Int × Value)}

theorem up_M {w : World} {m : List (Int × Int)} (hm : w.heap[M]? = some (imap (iv m))) (k c : Int) :
    (Instr.mapUpdate 45 (.map (some M)) (.int .i64 k) (.int .i64 c)).run Try.prog w = .ok () (w.layObj M (imap (iv (up m k c)))) := by
  rw [iv_up]; exact run_mapUpdate (K := 3) (E := 3) Try.underlying45 Try.underlying3 hm k _

theorem own_slice {w : World} {base : Nat} {e : TypeId} {size : Nat} {v : Value} {n : Nat} {xs : List Value} (h : w.ownsRow base e size v n xs) : ∃ a c, v = .slice a n c := by
  rcases h.2 with ⟨rfl, rfl⟩ | ⟨g, cap, cur, rfl, _⟩
  · exact ⟨none, 0, rfl⟩
  · exact ⟨_, _, rfl⟩

theorem own_ne {w : World} {base : Nat} {e T : TypeId} {size : Nat} {v : Value} {n : Nat} {xs : List Value} (h : w.ownsRow base e size v n xs) {b : Nat} {cs : Array Value} {f : Nat × Nat} (hb : w.heap[b]? = some (.cells cs T f)) (hne : T ≠ e) : v.ownBlock ≠ some b := by
  rcases h.2 with ⟨rfl, rfl⟩ | ⟨g, cap, cur, rfl, _, hg, _⟩
  · simp [Value.ownBlock]
  · simp only [Value.ownBlock, ne_eq, Option.some.injEq]
    rintro rfl
    rw [hg] at hb
    cases hb
    exact hne rfl
theorem own_ne_map {w : World} {base : Nat} {e : TypeId} {size : Nat} {v : Value} {n : Nat} {xs : List Value} (h : w.ownsRow base e size v n xs) {b : Nat} {l : List (Int × Value)} (hb : w.heap[b]? = some (imap l)) : v.ownBlock ≠ some b := by
  rcases h.2 with ⟨rfl, rfl⟩ | ⟨g, cap, cur, rfl, _, hg, _⟩
  · simp [Value.ownBlock]
  · simp only [Value.ownBlock, ne_eq, Option.some.injEq]
    rintro rfl
    rw [hg] at hb
    cases hb

theorem flat_snoc (l : List (Int × Value)) (k : Int) (v : Value) : flat (l ++ [(k, v)]) = flat l ++ [.int .i64 k, v] := by simp [flat]

theorem heap_layObj_same {w : World} {b : Nat} (h : b < w.heap.size) (o : Obj) : (w.layObj b o).heap[b]? = some o := by simp [World.layObj, h]
theorem heap_layObj_other {w : World} {b k : Nat} (h : k ≠ b) (o : Obj) : (w.layObj b o).heap[k]? = w.heap[k]? := by
  simp only [World.layObj]; rw [Array.getElem?_setIfInBounds_ne (fun e => h e.symm)]
theorem Mod.layObj {S : Nat → Prop} {a w : World} (h : Mod S a w) {b : Nat} (hb : b < a.heap.size → S b) (o : Obj) : Mod S a (w.layObj b o) :=
  h.trans (S' := fun k => k = b) ⟨rfl, rfl, rfl, by simp [World.layObj], fun _ _ hn => heap_layObj_other hn o⟩ (fun _ q l => by subst q; exact hb l)

theorem put_close (h : DevAt w B S d K M W ke we) (k : Int) (g cap : Nat) (bs : Bs) (T : Nat → Prop) (hb : Byt w T (.slice (some ⟨g, 0, none⟩) bs.length cap) bs) (o1 o2 : Obj) (w1 : World) (ga : Option Addr) (gc n : Nat)
    (hg1 : ((w.alloc o1).alloc o2).drew.grownBy w1 W.ownBlock)
    (ho1 : w1.ownsRow 0 78 2 (.slice ga n gc) (we.length + 1) (flat we ++ [.int .i64 k, .slice (some ⟨g, 0, none⟩) bs.length cap]))
    (hat : ∀ j, (Value.slice ga n gc).ownBlock = some j → W.ownBlock = some j ∨ ((w.alloc o1).alloc o2).drew.heap.size ≤ j) (hlen : d.waiting.length < 1000000) (c : Int) (hc : c = (lk (written d.waiting) k).getD 0 + 1) :
    ∃ W', DevAt ((w1.setCell ⟨B, 1, none⟩ (.slice ga n gc)).drew.layObj M (imap (iv (up (written d.waiting) k c)))) B (fun j => S j ∨ j = g ∨ W'.ownBlock = some j) { d with waiting := d.waiting ++ [(k, bs)] } K M W' ke (we ++ [(k, .slice (some ⟨g, 0, none⟩) bs.length cap)]) ∧
      Mod S w ((w1.setCell ⟨B, 1, none⟩ (.slice ga n gc)).drew.layObj M (imap (iv (up (written d.waiting) k c)))) ∧ (∀ j, W'.ownBlock = some j → S j ∨ w.heap.size ≤ j) := by
  have hlB := h.lt _ h.sB
  have hlM := h.lt _ h.sM
  have hlK := h.lt _ h.sK
  have hsz : w.heap.size + 2 ≤ w1.heap.size := by have := hg1.size; simp only [World.size_drew, World.size_alloc] at this; omega
  have hold : ∀ j, j < w.heap.size → W.ownBlock ≠ some j → w1.heap[j]? = w.heap[j]? := fun j hj hne => by
    rw [hg1.block j (by simp only [World.size_drew, World.size_alloc]; omega) (fun e => hne e.symm)]
    show ((w.alloc o1).alloc o2).heap[j]? = _
    rw [Below.heap_alloc _ _ _ (by simp only [World.size_alloc]; omega), Below.heap_alloc _ _ _ hj]
  have nB := own_ne h.row h.hB (by decide)
  have nK := own_ne_map h.row h.hK
  have nM := own_ne_map h.row h.hM
  have eBM : B ≠ M := fun e => by have h1 := h.hB; rw [e, h.hM] at h1; cases h1
  have eBK : B ≠ K := fun e => by have h1 := h.hB; rw [e, h.hK] at h1; cases h1
  have hB1 : w1.heap[B]? = some (.cells (dcells K M W d) 49 (0, 0)) := (hold B hlB nB).trans h.hB
  have fin : ∀ j, j ≠ M → j ≠ B → ((w1.setCell ⟨B, 1, none⟩ (.slice ga n gc)).drew.layObj M (imap (iv (up (written d.waiting) k c)))).heap[j]? = w1.heap[j]? := fun j h1 h2 => by
    rw [heap_layObj_other h1]; exact Below.heap_setCell w1 ⟨B, 1, none⟩ _ j h2
  have hgl := hb.some
  obtain ⟨g', cap', hv, _, hgl⟩ := hgl
  cases hv
  have hsf : w1.heap.size = ((w1.setCell ⟨B, 1, none⟩ (.slice ga n gc)).drew.layObj M (imap (iv (up (written d.waiting) k c)))).heap.size := by simp [World.layObj]
  -- the rows of bytes stand
  have hbs : BSame (fun j => j < w.heap.size) w ((w1.setCell ⟨B, 1, none⟩ (.slice ga n gc)).drew.layObj M (imap (iv (up (written d.waiting) k c)))) := fun j cs hj hc => by
    rw [fin j (fun e => by rw [e, h.hM] at hc; cases hc) (fun e => by rw [e, h.hB] at hc; cases hc), hold j hj (own_ne h.row hc (by decide))]
    exact hc
  refine ⟨.slice ga n gc, ⟨?_, ?_, ?_, ?_, ?_, ?_, .inl h.sB, .inl h.sK, .inl h.sM, fun j hj => .inr (.inr hj), h.ne, ?_, ?_, h.arm⟩, ?_, ?_⟩
  · rw [heap_layObj_other eBM]
    show (w1.setCell ⟨B, 1, none⟩ (.slice ga n gc)).heap[B]? = _
    rw [setB hB1]; rfl
  · rw [fin K h.ne eBK.symm, hold K hlK nK]; exact h.hK
  · rw [heap_layObj_same (by show M < (w1.setCell ⟨B, 1, none⟩ (.slice ga n gc)).heap.size; simp; omega), written_snoc, wr1, hc]
  · exact h.kept.bsame (fun j cs hj hc => hbs j cs (h.lt j hj) hc) (by rw [← hsf]; omega) (fun j hj _ => .inl hj)
  · rw [flat_snoc, List.length_append]
    refine own_same ho1 (fun j hj => ?_)
    refine fin j ?_ ?_
    · rintro rfl
      exact own_ne_map ho1 ((hold j hlM nM).trans h.hM) hj
    · rintro rfl
      exact own_ne ho1 hB1 (by decide) hj
  · refine KVs.snoc ?_ (h.wait.bsame (fun j cs hj hc => hbs j cs (h.lt j hj) hc) (by rw [← hsf]; omega) (fun j hj _ => .inl hj))
    exact (Byt.mk hb.own ⟨g, cap, rfl, rfl, hgl⟩ : Byt w (fun j => j = g) _ bs).bsame (fun j cs hj hc => hbs j cs (by rw [hj]; exact hgl) hc) (by rw [← hsf]; omega) (fun j hj _ => .inr (.inl hj))
  · rintro j (hj | rfl | hj)
    · have := h.lt j hj; omega
    · omega
    · have := (ho1.lt j hj).2; omega
  · simp; omega
  · refine Mod.layObj (((((Mod.refl S w).alloc o1).alloc o2).drew.grown hg1 (fun j hj _ => h.sW j hj)).setCell (fun _ => h.sB) _).drew (fun _ => h.sM) _
  · intro j hj
    rcases hat j hj with h1 | h1
    · exact .inl (h.sW j h1)
    · simp only [World.size_drew, World.size_alloc] at h1; exact .inr (by omega)

set_option maxHeartbeats 1000000 in
theorem put_calls (h : DevAt w B S d K M W ke we) (k : Int) (g cap : Nat) (bs : Bs) (T : Nat → Prop) (hb : Byt w T (.slice (some ⟨g, 0, none⟩) bs.length cap) bs) (hlen0 : d.waiting.length < 1000000) :
    Calls Try.prog 44 #[.pointer (some ⟨B, 0, none⟩), .agg #[.int .i64 k, .slice (some ⟨g, 0, none⟩) bs.length cap]] w fun e w' => e = ret0 ∧
      ∃ W', DevAt w' B (fun j => S j ∨ j = g ∨ W'.ownBlock = some j) { d with waiting := d.waiting ++ [(k, bs)] } K M W' ke (we ++ [(k, .slice (some ⟨g, 0, none⟩) bs.length cap)]) ∧ Mod S w w' ∧ (∀ j, W'.ownBlock = some j → S j ∨ w.heap.size ≤ j) := by
  obtain ⟨i0, hi, hz0, hz1, hz2⟩ := info_parts info78
  have h1 := h.c1
  have h2 := h.c2
  have hf := h.fz 1
  have hlt := h.lt _ h.sB
  have hrow := h.row
  have hlen : we.length ≤ 1000000 := by rw [h.wait.length]; exact h.bound
  have hcb := written_bound d.waiting k
  have hfin := Lib.hid (put_close h k g cap bs T hb)
  have hM0 := Lib.hid h.hM
  have nM := own_ne_map h.row h.hM
  have eBM : B ≠ M := fun e => by have h1 := h.hB; rw [e, h.hM] at h1; cases h1
  have hlM := h.lt _ h.sM
  have hne := own_ne h.row h.hB (by decide)
  have HB := Lib.hid h.hB
  clear h
  go_enter Try.func44, Try.ntmps44
  go_wp2
  go_region_law (refine step_append_at _ rfl _ _ 44 rfl 78 i0 _ 2 32 Try.underlying44 hi hz0 hz1 hz2 rfl (by decide) W we.length (flat we) rfl (((hrow.alloc _).alloc _).drew) ⟨w.heap.size + 1, 0, none⟩ 1 1 [.int .i64 k, .slice (some ⟨g, 0, none⟩) bs.length cap] rfl rfl (by simp [go_sem]) (by intro u hu; simp only [List.mem_cons, List.not_mem_nil, or_false] at hu; rcases hu with rfl | rfl <;> rfl) (by simp [maxLen]; omega) (by omega) ?_; intro v' w1 ho1 hg1 hat; obtain ⟨ga, gc, rfl⟩ := own_slice ho1; have hB1 : w1.heap[B]? = some (.cells (dcells K M W d) 49 (0, 0)) := (hg1.block B (by simp; omega) (fun e => hne e.symm)).trans (allocB (allocB HB.out _) _); have e1 := cellB hB1 1; have e2 := frozB hB1 1; simp only [dcells, List.getElem?_toArray, List.getElem?_cons_succ, List.getElem?_cons_zero] at e1; have HB1 := Lib.hid hB1; clear hB1)
  all_goals
    have hBW := hg1.size
    simp only [World.size_drew, World.size_alloc] at hBW
    have hbx : w1.heap[w.heap.size]? = some (.cells #[.int .i64 k, .slice (some ⟨g, 0, none⟩) bs.length cap] 78) :=
      (hg1.block w.heap.size (by simp; omega) (fun e => by have := (hrow.lt _ e.symm).2; omega)).trans (allocB (newB w _) _)
    have e3 : w1.cell? ⟨w.heap.size, 0, none⟩ = some (.int .i64 k) := by rw [cellB hbx]; rfl
    have e4 : w1.cell? ⟨B, 2, none⟩ = some (.map (some M)) := by rw [cellB HB1.out]; rfl
    have hMs : (w1.setCell ⟨B, 1, none⟩ (.slice ga (we.length + 1) gc)).heap[M]? = some (imap (iv (written d.waiting))) := by
      rw [Below.heap_setCell w1 ⟨B, 1, none⟩ _ M (fun e => eBM e.symm), hg1.block M (by simp; omega) (fun e => nM e.symm)]
      exact allocB (allocB hM0.out _) _
    have l1 := lookM (w := (w1.setCell ⟨B, 1, none⟩ (.slice ga (we.length + 1) gc)).drew) hMs k
    have l2 := fun c => up_M (w := (w1.setCell ⟨B, 1, none⟩ (.slice ga (we.length + 1) gc)).drew) hMs k c
    have HG := Lib.hid hg1
    have HO := Lib.hid ho1
    have HA := Lib.hid hat
    clear hbx hMs hg1 ho1 hat
    go_wp2
    go_region
    all_goals
      go_returns
      exact ⟨rfl, hfin.out _ _ w1 ga gc _ HG.out HO.out HA.out hlen0 _ rfl⟩
end
end Go.Proofs.Ytaaoabfmelpcpaa
