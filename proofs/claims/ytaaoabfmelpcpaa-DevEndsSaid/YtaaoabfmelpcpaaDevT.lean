/- A deed is done: Wake. -/
import Derived.Test.YtaaoabfmelpcpaaDevS
import Derived.Laws.AppendOwnNone
namespace Go.Proofs.Ytaaoabfmelpcpaa
open Go.RowKit Go.Mo

theorem add_block (a : Addr) (j : Nat) : (a.add j).block = a.block := by
  unfold Addr.add; split <;> rfl
/-- v is a slice that came in and reads bits. -/
def Bits (w : World) (v : Value) (bits : List Bool) : Prop :=
  ∃ a c, v = .slice a bits.length c ∧ ((a = none ∧ bits = []) ∨ ∃ ad, a = some ad ∧ ∀ j x, bits[j]? = some x → ad.block < w.heap.size ∧ w.cell? (ad.add j) = some (.bool x))
theorem Bits.mod {w w' : World} {v : Value} {bits : List Bool} (h : Bits w v bits) (hm : Mod (fun _ => False) w w') : Bits w' v bits := by
  obtain ⟨a, c, hv, h | ⟨ad, ha, hc⟩⟩ := h
  · exact ⟨a, c, hv, .inl h⟩
  · exact ⟨a, c, hv, .inr ⟨ad, ha, fun j x hx => ⟨Nat.lt_of_lt_of_le (hc j x hx).1 hm.size, (hm.cell (p := ad.add j) (by rw [add_block]; exact (hc j x hx).1) (fun q => q)).trans (hc j x hx).2⟩⟩⟩

theorem info4 : (Try.prog.info? 4).map (fun i => (i.zero, i.size, i.bytes)) = some (some (.bool false), 1, 1) := by kernel_rfl

theorem bls_of_own {w : World} {base : Nat} {v : Value} {bits : List Bool} (h : w.ownsRow base 4 1 v bits.length (bits.map Value.bool)) : Bls w v bits ∧ ∀ k, v.ownBlock = some k → base ≤ k := by
  refine ⟨?_, fun k hk => (h.lt k hk).1⟩
  rcases h.2 with ⟨rfl, hl⟩ | ⟨g, cap, cur, rfl, hb, hg, h3, h4, h5, h6⟩
  · have : bits = [] := List.eq_nil_of_length_eq_zero hl
    subst this
    exact ⟨none, 0, rfl, .inl ⟨rfl, rfl⟩⟩
  · refine ⟨_, _, rfl, .inr ⟨g, 0, rfl, ltB hg, fun j x hx => ?_⟩⟩
    have := h.cellAt j (by have := (List.getElem?_eq_some_iff.1 hx).1; omega)
    rw [Nat.zero_add, this, List.getElem?_map, hx]; rfl

theorem bools_one (bits : List Bool) : ∀ u ∈ bits.map Value.bool, u.oneCell' = true := by
  intro u hu
  obtain ⟨x, _, rfl⟩ := List.mem_map.1 hu
  rfl

section
variable {w : World} {p : Value} {S : Nat → Prop} {o : Option Dv} {n : Nat}

set_option maxRecDepth 100000 in
set_option maxHeartbeats 1000000 in
theorem does_5_nil (h : Hd w p S o) (xw xa xn : Int) (c : Nat) (hq : pickM xw 8 = 5) :
    Calls Try.prog 11 #[p, .agg #[.int .i64 xw, .int .i64 xa, .int .i64 xn, .slice none 0 c]] w (DoesPost w p S o ⟨xw, xa, xn, []⟩) := by
  have hb := begun w ⟨xw, xa, xn, []⟩ (.slice none 0 c)
  have hS := h.lt
  obtain ⟨w0, hw0⟩ : ∃ w0, ((w.alloc (.cells #[.int .i64 xw, .int .i64 xa, .int .i64 xn, .slice none 0 c] 36)).alloc (.cells #[.string ⟨#[]⟩, .int .i64 0, .bool false] 32)).alloc (.cells #[.string ⟨#[]⟩, .int .i64 0, .bool false] 32) = w0 := ⟨_, rfl⟩
  rw [hw0] at hb
  have HM := Lib.hid (wake_H ((h.mod hb.mod).mod ((Mod.refl _ w0).alloc (.cells #[] 4))) (.slice (some ⟨w0.heap.size, 0, none⟩) 0 0) [] (by simp) ⟨_, _, rfl, .inr ⟨w0.heap.size, 0, rfl, by simp, fun j x hx => by simp at hx⟩⟩ (fun k hk q => by have := hS k q; have := hb.size; simp [Value.ownBlock] at hk; omega))
  have hpk := fun w => pick_calls xw 8 w (by omega)
  rw [hq] at hpk
  have HK := Lib.hid hpk
  have HP := Lib.hid (fun (w1 : World) (ho : OpH w0 w1 p S (o.map fun d => wakeD d [])) W1 (hm : Mod (fun j => j = w.heap.size + 1 ∨ j = w.heap.size + 1 + 1) w1 W1) => fin11 (o := o) hb hS ho hm (fun j hj => by have := hb.size; omega) (show doesT o ⟨xw, xa, xn, []⟩ = told [] 0 false by simp [doesT, hq]) (by simp [doesD, hq]))
  have HB := Lib.hid (fun (w1 : World) (ho : OpH w0 w1 p S (o.map fun d => wakeD d [])) => begun_keep hb hS ho)
  have e30 : w0.cell? ⟨w.heap.size, 0, none⟩ = some (.int .i64 xw) := by rw [cellB hb.h3]; rfl
  have e33 : w0.cell? ⟨w.heap.size, 3, none⟩ = some (.slice none 0 c) := by rw [cellB hb.h3]; rfl
  have hs3 : w.heap.size < w0.heap.size := by have := hb.size; omega
  clear hpk hq h hb hS
  go_enter Try.func11, Try.ntmps11
  go_wp2_with (first
    | (go_at_call 15; refine (HK.out _).mono ?_; rintro e w' ⟨rfl, rfl⟩))
  refine HM.out.mono ?_
  rintro e w2 ⟨rfl, ho1⟩
  have ho : OpH w0 w2 p S (o.map fun d => wakeD d []) := by
    obtain ⟨S', q1, q2, q3⟩ := ho1
    exact ⟨S', q1, ((Mod.refl S w0).alloc _).tr q2, fun j hj => (q3 j hj).imp id (fun q => by simp at q; omega)⟩
  have hk := HB.out _ ho
  obtain ⟨z0, z1, z2, g0, g1, g2⟩ := cells3 hk.1
  obtain ⟨y0, y1, y2, f0, f1, f2⟩ := cells3 hk.2
  have HH := Lib.hid (And.intro ho hk)
  clear ho hk ho1
  go_wp2
  refine bodyPost_ret (v := told [] 0 false) (res11 rfl (?_ : _ = some (Obj.cells #[.string ⟨#[]⟩, .int .i64 0, .bool false] 32 (0, 0)))) rfl (HP.out _ HH.out.1 _ ((((Mod.refl _ w2).setCell (fun _ => .inl rfl) _).setCell (fun _ => .inl rfl) _).setCell (fun _ => .inl rfl) _))
  rw [setB (setB (setB HH.out.2.1 0 _) 1 _) 2 _]; rfl

set_option maxRecDepth 100000 in
set_option maxHeartbeats 1000000 in
theorem does_5 (h : Hd w p S o) (x : Deed) (a : Option Addr) (c : Nat) (hbl : Bits w (.slice a x.bits.length c) x.bits) (hl : x.bits.length ≤ 140737488351232) (hq : pickM x.what 8 = 5) :
    Calls Try.prog 11 #[p, .agg #[.int .i64 x.what, .int .i64 x.at_, .int .i64 x.n, .slice a x.bits.length c]] w (DoesPost w p S o x) := by
  obtain ⟨a', c', e, hcase⟩ := hbl
  cases e
  rcases hcase with ⟨rfl, h0⟩ | hcase
  · obtain ⟨xw, xa, xn, xb⟩ := x
    simp only at h0
    subst h0
    exact does_5_nil h xw xa xn c hq
  obtain ⟨i0, hi, hz0, hz1, hz2⟩ := info_parts info4
  have hb := begun w x (.slice a x.bits.length c)
  have hS := h.lt
  obtain ⟨w0, hw0⟩ : ∃ w0, ((w.alloc (.cells #[.int .i64 x.what, .int .i64 x.at_, .int .i64 x.n, .slice a x.bits.length c] 36)).alloc (.cells #[.string ⟨#[]⟩, .int .i64 0, .bool false] 32)).alloc (.cells #[.string ⟨#[]⟩, .int .i64 0, .bool false] 32) = w0 := ⟨_, rfl⟩
  rw [hw0] at hb
  have HM := Lib.hid (fun (w1 : World) (hm : Mod (fun _ => False) w0 w1) (v : Value) (hv : Bls w1 v x.bits) (hvb : ∀ k, v.ownBlock = some k → w0.heap.size ≤ k) =>
    wake_H ((h.mod hb.mod).mod hm) v x.bits (by omega) hv (fun k hk q => by have := hvb k hk; have := hS k q; have := hb.size; omega))
  have hpk := fun w => pick_calls x.what 8 w (by omega)
  rw [hq] at hpk
  have HK := Lib.hid hpk
  have HP := Lib.hid (fun (w1 : World) (ho : OpH w0 w1 p S (o.map fun d => wakeD d x.bits)) W1 (hm : Mod (fun j => j = w.heap.size + 1 ∨ j = w.heap.size + 1 + 1) w1 W1) => fin11 (o := o) hb hS ho hm (fun j hj => by have := hb.size; omega) (show doesT o x = told [] 0 false by simp [doesT, hq]) (by simp [doesD, hq]))
  have HB := Lib.hid (fun (w1 : World) (ho : OpH w0 w1 p S (o.map fun d => wakeD d x.bits)) => begun_keep hb hS ho)
  have e30 : w0.cell? ⟨w.heap.size, 0, none⟩ = some (.int .i64 x.what) := by rw [cellB hb.h3]; rfl
  have e33 : w0.cell? ⟨w.heap.size, 3, none⟩ = some (.slice a x.bits.length c) := by rw [cellB hb.h3]; rfl
  have hs3 : w.heap.size < w0.heap.size := by have := hb.size; omega
  have hlit := World.ownsRow_lit (e := 4) (size := 1) (base := w0.heap.size) w0 #[] 0 (Nat.le_refl _) (by simp [maxLen]) rfl
  have HBM := Lib.hid hb.mod
  clear hpk hq h hb hS
  obtain ⟨ad, rfl, hcells⟩ := hcase
  have HC := Lib.hid (show ∀ j u, (x.bits.map Value.bool)[j]? = some u → (w0.alloc (.cells #[] 4)).cell? (ad.add j) = some u from fun j u hj => by
    rw [List.getElem?_map] at hj
    cases hx : x.bits[j]? with
    | none => simp [hx] at hj
    | some y =>
      simp [hx] at hj
      subst hj
      have h2 := (HBM.out.alloc (.cells #[] 4)).cell (p := ad.add j) (by rw [add_block]; exact (hcells j y hx).1) (fun q => q)
      exact h2.trans (hcells j y hx).2)
  clear hcells
  go_enter Try.func11, Try.ntmps11
  go_wp2_with (first
    | (go_at_call 15; refine (HK.out _).mono ?_; rintro e w' ⟨rfl, rfl⟩)
    | (at_builtin; refine wpList_append_own _ rfl _ _ 34 rfl w0.heap.size 4 i0 (.bool false) 1 1 Try.underlying34 hi hz0 hz1 hz2 rfl (by decide) _ _ _ rfl hlit ad x.bits.length c (x.bits.map Value.bool) rfl (by simp) HC.out (bools_one _) (by simp [maxLen]; omega) (by omega) (by simp) ?_; intro v' w1 ho1 hg1 _; obtain ⟨va, vc, rfl⟩ := own_slice ho1; have HO := Lib.hid (And.intro ho1 (show (w0.alloc (.cells #[] 4)).grownBy w1 (some w0.heap.size) from hg1)); clear ho1 hg1))
  have hm1 : Mod (fun _ => False) w0 w1 := ((Mod.refl _ w0).alloc _).grown HO.out.2 (fun k hk hl => by cases hk; omega)
  have hown : w1.ownsRow w0.heap.size 4 1 (.slice va x.bits.length vc) x.bits.length (x.bits.map Value.bool) := by simpa using HO.out.1
  have hbb := bls_of_own hown
  refine (HM.out w1 hm1 _ hbb.1 hbb.2).mono ?_
  have HM1 := Lib.hid hm1
  clear hbb hown hm1
  rintro e w2 ⟨rfl, ho1⟩
  have ho : OpH w0 w2 p S (o.map fun d => wakeD d x.bits) := by
    obtain ⟨S', q1, q2, q3⟩ := ho1
    exact ⟨S', q1, HM1.out.any.tr q2, fun j hj => (q3 j hj).imp id (fun q => Nat.le_trans HM1.out.size q)⟩
  have hk := HB.out _ ho
  obtain ⟨z0, z1, z2, g0, g1, g2⟩ := cells3 hk.1
  obtain ⟨y0, y1, y2, f0, f1, f2⟩ := cells3 hk.2
  have HH := Lib.hid (And.intro ho hk)
  clear ho hk ho1
  go_wp2
  refine bodyPost_ret (v := told [] 0 false) (res11 rfl (?_ : _ = some (Obj.cells #[.string ⟨#[]⟩, .int .i64 0, .bool false] 32 (0, 0)))) rfl (HP.out _ HH.out.1 _ ((((Mod.refl _ w2).setCell (fun _ => .inl rfl) _).setCell (fun _ => .inl rfl) _).setCell (fun _ => .inl rfl) _))
  rw [setB (setB (setB HH.out.2.1 0 _) 1 _) 2 _]; rfl
end
end Go.Proofs.Ytaaoabfmelpcpaa
