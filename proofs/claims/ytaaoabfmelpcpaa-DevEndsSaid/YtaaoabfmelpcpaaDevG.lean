/- last: a sector's bytes. -/
import Derived.Test.YtaaoabfmelpcpaaDevF
namespace Go.Proofs.Ytaaoabfmelpcpaa
open Go.RowKit Go.Mo Go.Shelf

attribute [local go_sem] Oper.semAt_some

def zeros : Bs := List.replicate 256 0
def last (d : Dv) (k : Int) : Bs := match lk d.waiting.reverse k with | some b => b | none => (lk d.kept k).getD zeros

def Z256 : Array Value := madeCells (Value.int .u8 0).cells (256 * 1)
theorem Z256_list : Z256.toList = zeros.map by8 := by
  rw [Z256]
  show (madeCells #[.int .u8 0] 256).toList = _
  rw [toList_madeCells_one, zeros, List.map_replicate]
  rfl
theorem Z256_size : Z256.size = 256 := size_madeCells _ _
attribute [irreducible] Z256 zeros
theorem run_make256 (w : World) : (Instr.makeSlice 56 (.int .i64 256) (.int .i64 256)).run Try.prog w = .ok (.slice (some ⟨w.heap.size, 0, none⟩) 256 256) (w.alloc (.cells Z256 5)) := by
  obtain ⟨i0, hi, hz0, hz1, hz2⟩ := info_parts info5
  have h := run_make (P := Try.prog) w 56 5 i0 (.int .u8 0) Try.underlying56 hi hz0 .i64 .i64 256 256 (by omega) (by omega) (by rw [hz2]; omega) (by omega)
  rw [hz1] at h
  rw [Z256]
  exact h
theorem zeros_length : zeros.length = 256 := by rw [zeros]; exact List.length_replicate

theorem res47 {tmps : Array Value} {b : Nat} {W : World} {v : Value} (ht : tmps[4]?.getD undef = .pointer (some ⟨b, 0, none⟩)) (hc : W.cell? ⟨b, 0, none⟩ = some v) : (results Try.f47 tmps).run Try.prog W = .ok v W := by
  simp [results, Try.results47, go_sem, ht, hc]

theorem lk_none {α : Type} {k : Int} : ∀ {l : List (Int × α)}, (∀ x ∈ l, x.1 ≠ k) → lk l k = none
  | [], _ => rfl
  | x :: r, h => by simp [lk, h x (by simp), lk_none (l := r) (fun y hy => h y (by simp [hy]))]
theorem lk_append {α : Type} (k : Int) (b : List (Int × α)) : ∀ a : List (Int × α), lk (a ++ b) k = (lk a k).or (lk b k)
  | [] => by simp [lk]
  | x :: r => by
    by_cases h : x.1 = k
    · simp [lk, h]
    · simp [lk, h, lk_append k b r]
theorem rev_some {α : Type} {k : Int} : ∀ (m : List (Int × α)) (i : Nat) (y : Int × α), m[i]? = some y → y.1 = k → (∀ j z, i < j → m[j]? = some z → z.1 ≠ k) → lk m.reverse k = some y.2
  | [], _, _, h, _, _ => by simp at h
  | x :: r, 0, y, h, hk, hno => by
    simp at h
    subst h
    have : lk r.reverse k = none := lk_none fun z hz => by
      obtain ⟨j, hj⟩ := List.mem_iff_getElem?.1 (List.mem_reverse.1 hz)
      exact hno (j + 1) z (by omega) (by simpa using hj)
    simp [lk_append, this, lk, hk]
  | x :: r, i + 1, y, h, hk, hno => by
    have ih := rev_some r i y (by simpa using h) hk (fun j z hj hz => hno (j + 1) z (by omega) (by simpa using hz))
    simp [lk_append, ih]

theorem keyAt_get {we : List (Int × Value)} {i : Nat} {x : Int × Value} (h : we[i]? = some x) : keyAt we i = x.1 ∧ val0 we i = x.2 := by
  simp [keyAt, val0, h]

theorem last_none {w : World} {S : Nat → Prop} {we : List (Int × Value)} {m : List (Int × Bs)} {k : Int} (h : KVs w S we m) (hall : ∀ i ∈ upto (fun j => we.length - 1 - j) we.length, keyAt we i ≠ k) : lk m.reverse k = none := by
  refine lk_none fun z hz => ?_
  obtain ⟨j, hj⟩ := List.mem_iff_getElem?.1 (List.mem_reverse.1 hz)
  obtain ⟨x, hx, hxz, _⟩ := h.get j z hj
  rw [← hxz, ← (keyAt_get hx).1]
  refine hall j ?_
  have hjl := (List.getElem?_eq_some_iff.1 hx).1
  exact List.mem_map.2 ⟨we.length - 1 - j, List.mem_range.2 (by omega), by omega⟩

theorem last_some {w : World} {S : Nat → Prop} {we : List (Int × Value)} {m : List (Int × Bs)} {k : Int} (h : KVs w S we m) {n i : Nat} {pre' : List Nat} (hn : n ≤ we.length) (hpre : upto (fun j => we.length - 1 - j) n = pre' ++ [i])
    (hall : ∀ j ∈ pre', keyAt we j ≠ k) (hki : keyAt we i = k) : ∃ bs, lk m.reverse k = some bs ∧ Byt w S (valAt we i) bs := by
  have hn0 : n ≠ 0 := by rintro rfl; simp [upto] at hpre
  obtain ⟨p, rfl⟩ : ∃ p, n = p + 1 := ⟨n - 1, by omega⟩
  rw [upto_succ] at hpre
  obtain ⟨rfl, hi⟩ := List.append_inj' hpre rfl
  simp only [List.cons.injEq, and_true] at hi
  have hil : i < we.length := by omega
  have hml : m.length = we.length := h.length.symm
  obtain ⟨x, hx, hxy, hb⟩ := h.get i m[i] (by rw [List.getElem?_eq_getElem (by omega)])
  obtain ⟨k1, k2⟩ := keyAt_get hx
  refine ⟨m[i].2, rev_some m i m[i] (List.getElem?_eq_getElem (by omega)) (by rw [← hxy, ← k1]; exact hki) (fun j z hj hz => ?_), ?_⟩
  · obtain ⟨x', hx', hxz, _⟩ := h.get j z hz
    rw [← hxz, ← (keyAt_get hx').1]
    have hjl := (List.getElem?_eq_some_iff.1 hx').1
    exact hall j (List.mem_map.2 ⟨we.length - 1 - j, List.mem_range.2 (by omega), by omega⟩)
  · have := h.sls x (List.mem_of_getElem? hx)
    rw [valAt, k2, ← this]
    exact hb

section
variable {w : World} {B : Nat} {S : Nat → Prop} {d : Dv} {K M : Nat} {W : Value} {ke we : List (Int × Value)}

set_option maxRecDepth 100000 in
set_option maxHeartbeats 2000000 in
theorem last_calls (h : DevAt w B S d K M W ke we) (k : Int) : Calls Try.prog 47 #[.pointer (some ⟨B, 0, none⟩), .int .i64 k] w fun e w' => ∃ v', e = .returned v' ∧ Byt w' (fun j => S j ∨ w.heap.size ≤ j) v' (last d k) ∧ Mod (fun _ => False) w w' := by
  have c0 := h.c0
  have c1 := h.c1
  have hBlt := h.lt _ h.sB
  have hlen : we.length ≤ 1000000 := by rw [h.wait.length]; exact h.bound
  obtain ⟨i0, hi, hz0, hz1, hz2⟩ := info_parts info5
  refine (callsIn_wide (n := 3)).1 ?_
  refine callsIn_of_wp_marks Try.func47 rfl trivial ?_ rfl
  simp only [Try.ntmps47, List.size_toArray, List.length_cons, List.length_nil, Nat.reduceAdd, Nat.reduceSub, Array.replicate_succ, Array.replicate_zero, List.push_toArray, List.append_toArray, List.nil_append, List.cons_append]
  obtain ⟨Wa, Wc, hW⟩ := own_slice h.row
  subst hW
  have HH := Lib.hid h
  clear h
  gi_wp2_with (refine ⟨trivial, ?_⟩; gi_at_call 52; refine (back_in _ _ _ _ _).mono ?_; rintro e w' ⟨rfl, rfl⟩)
  obtain ⟨w3, hw3⟩ : ∃ w3, ((w.alloc (.cells #[.int .i64 k] 3)).alloc (.cells #[.slice none 0 0] 56)).alloc (.cells #[.slice Wa we.length Wc] 44) = w3 := ⟨_, rfl⟩
  have hs3 : w3.heap.size = w.heap.size + 3 := by rw [← hw3]; simp
  have hm3 : Mod (fun _ => False) w w3 := by rw [← hw3]; exact (((Mod.refl _ w).alloc _).alloc _).alloc _
  have hb1 : Boxed w3 w.heap.size 3 (.int .i64 k) := by rw [← hw3]; exact allocB (allocB (newB w _) _) _
  have hb2 : Boxed w3 (w.heap.size + 1) 56 (.slice none 0 0) := by rw [← hw3]; have := newB (w.alloc (.cells #[.int .i64 k] 3)) (.cells #[.slice none 0 0] 56); rw [World.size_alloc] at this; exact allocB this _
  have hb3 : Boxed w3 (w.heap.size + 1 + 1) 44 (.slice Wa we.length Wc) := by rw [← hw3]; have := newB ((w.alloc (.cells #[.int .i64 k] 3)).alloc (.cells #[.slice none 0 0] 56)) (.cells #[.slice Wa we.length Wc] 44); rw [World.size_alloc, World.size_alloc] at this; exact this
  rw [hw3]
  have hD3 := HH.out.same (hm3.same (fun _ _ q => q)) hm3.size
  refine wpIn_rangeFunc_ownH rfl (by omega) (gf := 53) (lb := #[.pointer (some ⟨w.heap.size + 1 + 1, 0, none⟩)]) rfl trivial (enters_of Try.func53 (by kernel_rfl) rfl)
    (back_stops 2 (by omega) (w.heap.size + 1 + 1) w3.heap.size _ we hlen hD3.wait.sls w3 (by omega) (Nat.le_refl _) (by omega) hb3.cell hD3.row (fun j hj => hD3.lt _ (hD3.sW j hj))) belowK_t (belowK_b (Nat.le_refl _)) (Below.refl _ _) (fun _ => rfl)
    (fun pre W => (∀ i ∈ pre, keyAt we i ≠ k) ∧ Mod (fun _ => False) w3 W)
    (fun c pre W => c = .ret ∧ (∃ pre' i, pre = pre' ++ [i] ∧ (∀ j ∈ pre', keyAt we j ≠ k) ∧ keyAt we i = k ∧ Boxed W (w.heap.size + 1) 56 (valAt we i)) ∧ Mod (fun _ => False) w W)
    ?hI ?hIx ⟨by simp, Mod.refl _ _⟩
    (fun x a' W => ∃ Bx, w3.heap.size ≤ Bx ∧ W.heap[Bx]? = some (.cells #[.int .i64 (keyAt we x), valAt we x] 78 (0, 0)) ∧ a' = { tmps := #[.pointer (some ⟨B, 0, none⟩), .int .i64 k, undef, .pointer (some ⟨w.heap.size, 0, none⟩), .pointer (some ⟨w.heap.size + 1, 0, none⟩), undef, .pointer (some ⟨Bx, 0, none⟩), undef, undef, .pointer (some ⟨B, 0, none⟩), .pointer (some ⟨B, 0, none⟩), .pointer (some ⟨B, 1, none⟩), .slice Wa we.length Wc, .func (.func 53) #[] #[.pointer (some ⟨w.heap.size + 1 + 1, 0, none⟩)], .int .i64 (x : Int), .agg #[.int .i64 (keyAt we x), valAt we x], undef, undef, undef, undef, undef, undef, undef, undef, undef, undef, undef, undef, undef, undef, undef, undef, undef, undef], defers := [] })
    ?hAx ?assign ?body ?done ?stop
  case hI =>
    intro s X Y row hs hg hr
    exact ⟨hs.1, hs.2.grown hg (fun j hj hl => by have := (hr _ hj).1; omega)⟩
  case hIx =>
    intro c s X Y row hs hg hr
    obtain ⟨h1, ⟨pre', i, h2, h3, h4, h5⟩, h6⟩ := hs
    refine ⟨h1, ⟨pre', i, h2, h3, h4, h5.kept hg ?_⟩, h6.grown hg ?_⟩
    · intro e; have := (hr _ e.symm).1; omega
    · intro j hj hl; have := (hr _ hj).1; omega
  case hAx =>
    intro x a' s X Y row hs hg hr
    obtain ⟨Bx, h1, h2, h3⟩ := hs
    refine ⟨Bx, h1, ?_, h3⟩
    rw [hg.block Bx (ltB h2) (fun e => ?_)]
    · exact h2
    · obtain ⟨o, ho, hc⟩ := (hr _ e.symm).2
      rw [h2] at ho; cases ho; cases hc
  case assign =>
    rintro l pre x W3 K hi hK
    gi_wp2
    refine hK _ _ ⟨by simp, fun j o _ ho _ => allocB ho _⟩ ((Below.refl _ W3).alloc hi.2.size _) ⟨hi.1, hi.2.alloc _⟩ ⟨W3.heap.size, hi.2.size, newB W3 _, rfl⟩
  case body =>
    rintro l pre x a' W4 hl hrec ⟨hi1, hi2⟩ ⟨Bx, hBx, hx, rfl⟩ hlt
    have e1 : W4.cell? ⟨Bx, 0, none⟩ = some (.int .i64 (keyAt we x)) := by rw [cellB hx]; rfl
    have e2 : W4.cell? ⟨Bx, 1, none⟩ = some (valAt we x) := by rw [cellB hx]; rfl
    have q1 : Boxed W4 w.heap.size 3 (.int .i64 k) := (hi2.block _ (by omega) (fun q => q)).trans hb1
    have q2 : Boxed W4 (w.heap.size + 1) 56 (.slice none 0 0) := (hi2.block _ (by omega) (fun q => q)).trans hb2
    have e3 := q1.cell
    have e4 := q2.cell
    have e5 := q2.frozen
    by_cases hkx : keyAt we x = k
    · have hkb : (keyAt we x == k) = true := by simpa using hkx
      gi_wp2
      exact ⟨(KeepsOthers.setCell _ _ _).from _, rfl, ⟨pre, x, rfl, hi1, hkx, by have := setB q2 0 (valAt we x); exact this⟩, (hm3.trans (S' := fun _ => False) hi2 (fun _ q => q.elim)).setCell (by simp) _⟩
    · have hkb : (keyAt we x == k) = false := by simpa using hkx
      gi_wp2
      refine ⟨KeepsFrom.refl _ _, Below.refl _ _, fun i hi => ?_, hi2⟩
      rcases List.mem_append.1 hi with h1 | h1
      · exact hi1 i h1
      · simp at h1; subst h1; exact hkx
  case done =>
    rintro D xs W4 hD rfl ⟨hi1, hi2⟩ hdd
    have q1 : Boxed W4 w.heap.size 3 (.int .i64 k) := (hi2.block _ (by omega) (fun q => q)).trans hb1
    have q2 : Boxed W4 (w.heap.size + 1) 56 (.slice none 0 0) := (hi2.block _ (by omega) (fun q => q)).trans hb2
    have e3 := q1.cell
    have e4 := q2.cell
    have e5 := q2.frozen
    have hD4 := hD3.same (hi2.same (fun _ _ q => q)) hi2.size
    have e0 := hD4.c0
    have l1 := lookK (w := W4.drew) hD4.hK k
    have hno : lk d.waiting.reverse k = none := last_none HH.out.wait hi1
    cases hk : lk d.kept k with
    | none =>
      rw [hD4.kept.none hk] at l1
      simp only [Option.isSome_none, Option.getD_none] at l1
      have HA := Lib.hid hi1
      have HD4 := Lib.hid hD4
      have HD3 := Lib.hid hD3
      have HK := Lib.hid hk
      have HN := Lib.hid hno
      clear hi1 hD4 hD3 hk hno
      have hmk := run_make256
      have hlt4 : w.heap.size + 1 < W4.heap.size := by have := hi2.size; omega
      gi_wp2
      refine wpIn_wide.2 ?_
      go_region
      all_goals
        gi_wp2
        refine ⟨by simp, .inl ⟨_, _, rfl, run_takeDeferred (w := ((W4.setCell ⟨w.heap.size + 1, 0, none⟩ (.slice (some ⟨W4.heap.size, 0, none⟩) 256 256)).alloc (.cells Z256 5)).drew) (allocB (setB_other hdd (by show D ≠ w.heap.size + 1; omega) _) _), ?_⟩⟩
        have q2' := allocB (setB q2 0 (.slice (some ⟨W4.heap.size, 0, none⟩) 256 256)) (.cells Z256 5)
        have e6 : ((((W4.setCell ⟨w.heap.size + 1, 0, none⟩ (.slice (some ⟨W4.heap.size, 0, none⟩) 256 256)).alloc (.cells Z256 5)).drew).putObj D (.deferred none)).cell? ⟨w.heap.size + 1, 0, none⟩ = some (.slice (some ⟨W4.heap.size, 0, none⟩) 256 256) :=
          (World.cell?_of_block (World.putObj_heap_other (by show w.heap.size + 1 ≠ D; omega))).trans (by rw [World.cell?_drew, cellB q2']; rfl)
        refine ⟨_, res47 rfl e6, ?_⟩
        have hmf : Mod (fun _ => False) w ((((W4.setCell ⟨w.heap.size + 1, 0, none⟩ (.slice (some ⟨W4.heap.size, 0, none⟩) 256 256)).alloc (.cells Z256 5)).drew).putObj D (.deferred none)) :=
          ((((hm3.trans (S' := fun _ => False) hi2 (fun _ q => q.elim)).setCell (by simp) _).alloc _).drew).grown (grownBy_putObj' _ D _) (fun j hj hl => by cases hj; omega)
        have hDl : D < W4.heap.size := ltB hdd
        have hz : (((((W4.setCell ⟨w.heap.size + 1, 0, none⟩ (.slice (some ⟨W4.heap.size, 0, none⟩) 256 256)).alloc (.cells Z256 5)).drew).putObj D (.deferred none))).heap[W4.heap.size]? = some (.cells Z256 5 (0, 0)) := by
          rw [World.putObj_heap_other (by omega)]
          have := newB (W4.setCell ⟨w.heap.size + 1, 0, none⟩ (.slice (some ⟨W4.heap.size, 0, none⟩) 256 256)) (.cells Z256 5); rw [World.size_setCell] at this; exact this
        refine ⟨_, rfl, ?_, hmf⟩
        rw [show last d k = zeros by simp [last, HN.out, HK.out]]
        refine ⟨⟨by rw [List.length_map]; omega, .inr ⟨W4.heap.size, 256, Z256, by rw [zeros_length], Nat.zero_le _, hz, by rw [zeros_length]; omega, by simp [maxLen], Z256_size, ?_⟩⟩, W4.heap.size, 256, by rw [zeros_length], .inr (by omega), ltB hz⟩
        rw [← Z256_list]
        exact List.take_of_length_le (by rw [Array.length_toList, Z256_size, zeros_length]; omega)
    | some bs =>
      obtain ⟨v, hv, hbv⟩ := hD4.kept.some hk
      rw [hv] at l1
      simp only [Option.isSome_some, Option.getD_some] at l1
      obtain ⟨g, cap, rfl, hSg, hgl⟩ := hbv.some
      have HA := Lib.hid hi1
      have HD4 := Lib.hid hD4
      have HD3 := Lib.hid hD3
      have HK := Lib.hid hk
      have HN := Lib.hid hno
      have HB := Lib.hid hbv
      clear hi1 hD4 hD3 hk hno hbv hv
      gi_wp2
      refine wpIn_wide.2 ?_
      go_region
      all_goals
        gi_wp2
        refine ⟨by simp, .inl ⟨_, _, rfl, run_takeDeferred (w := W4.drew.setCell ⟨w.heap.size + 1, 0, none⟩ (.slice (some ⟨g, 0, none⟩) bs.length cap)) (setB_other hdd (by show D ≠ w.heap.size + 1; omega) _), ?_⟩⟩
        have q2' := setB (w := W4.drew) q2 0 (.slice (some ⟨g, 0, none⟩) bs.length cap)
        have e6 : ((W4.drew.setCell ⟨w.heap.size + 1, 0, none⟩ (.slice (some ⟨g, 0, none⟩) bs.length cap)).putObj D (.deferred none)).cell? ⟨w.heap.size + 1, 0, none⟩ = some (.slice (some ⟨g, 0, none⟩) bs.length cap) :=
          (World.cell?_of_block (World.putObj_heap_other (by show w.heap.size + 1 ≠ D; omega))).trans (by rw [cellB q2']; rfl)
        refine ⟨_, res47 rfl e6, ?_⟩
        have hmf : Mod (fun _ => False) w ((W4.drew.setCell ⟨w.heap.size + 1, 0, none⟩ (.slice (some ⟨g, 0, none⟩) bs.length cap)).putObj D (.deferred none)) :=
          (((hm3.trans (S' := fun _ => False) hi2 (fun _ q => q.elim)).drew).setCell (by simp) _).grown (grownBy_putObj' _ D _) (fun j hj hl => by cases hj; omega)
        have hs : Same S W4 ((W4.drew.setCell ⟨w.heap.size + 1, 0, none⟩ (.slice (some ⟨g, 0, none⟩) bs.length cap)).putObj D (.deferred none)) := fun j hj _ =>
          (hmf.block j (HH.out.lt j hj) (fun q => q)).trans ((hm3.trans (S' := fun _ => False) hi2 (fun _ q => q.elim)).block j (HH.out.lt j hj) (fun q => q)).symm
        exact ⟨_, rfl, by rw [show last d k = bs by simp [last, HN.out, HK.out]]; exact HB.out.same hs (by simp) (fun _ q _ => .inl q), hmf⟩
  case stop =>
    rintro D c pre W4 hD ⟨m, hm, rfl⟩ ⟨rfl, ⟨pre', i, hpre, hall, hki, hbx⟩, hmod⟩ hdd
    have e4 := hbx.cell
    gi_wp2
    refine ⟨by simp, .inl ⟨_, _, rfl, run_takeDeferred hdd, ?_⟩⟩
    have e5 : (W4.putObj D (.deferred none)).cell? ⟨w.heap.size + 1, 0, none⟩ = some (valAt we i) := by
      rw [← e4]; exact World.cell?_of_block (World.putObj_heap_other (by show w.heap.size + 1 ≠ D; omega))
    refine ⟨_, res47 rfl e5, ?_⟩
    obtain ⟨bs, hbs, hbyt⟩ := last_some HH.out.wait hm hpre hall hki
    have hmf : Mod (fun _ => False) w (W4.putObj D (.deferred none)) := hmod.grown (grownBy_putObj' W4 D _) (fun j hj hl => by cases hj; omega)
    exact ⟨_, rfl, by rw [show last d k = bs by simp [last, hbs]]; exact hbyt.same (hmf.same (fun _ _ q => q)) hmf.size (fun _ q _ => .inl q), hmf⟩
end
end Go.Proofs.Ytaaoabfmelpcpaa
