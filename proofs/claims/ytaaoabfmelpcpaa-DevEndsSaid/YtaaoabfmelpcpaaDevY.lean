/- No device, and one that nobody made. -/
import Derived.Test.YtaaoabfmelpcpaaDevX
import Derived.Deep.Cut
import Derived.Deep.CutRange
namespace Go.Proofs.Ytaaoabfmelpcpaa
open Go.RowKit Go.Mo

theorem opH_cell {w w' : World} {p : Value} {S : Nat → Prop} {o : Option Dv} (h : OpH w w' p S o) {q : Addr} {v : Value} (hn : ¬ S q.block) (hv : w.cell? q = some v) : w'.cell? q = some v := by
  obtain ⟨S', _, hm, _⟩ := h
  exact (hm.cell (World.block_lt_of_cell? w _ hv) hn).trans hv

def nilE (q : Int) : Int := if q = 0 ∨ q = 1 ∨ q = 2 then 1 else 0
theorem opH_block {w w' : World} {p : Value} {S : Nat → Prop} {o : Option Dv} (h : OpH w w' p S o) {b : Nat} {v : Obj} (hn : ¬ S b) (hv : w.heap[b]? = some v) : w'.heap[b]? = some v := by
  obtain ⟨S', _, hm, _⟩ := h
  exact (hm.block b (ltB hv) hn).trans hv
theorem opH_size {w w' : World} {p : Value} {S : Nat → Prop} {o : Option Dv} (h : OpH w w' p S o) : w.heap.size ≤ w'.heap.size := by
  obtain ⟨S', _, hm, _⟩ := h
  exact hm.size
theorem mod_cell {w w' : World} (h : Mod (fun _ => False) w.drew w') {q : Addr} {v : Value} (hv : w.cell? q = some v) : w'.cell? q = some v :=
  (h.cell (w := w.drew) (World.block_lt_of_cell? w _ hv) (fun q => q)).trans hv
theorem neq39 (w : World) : (binOp .neq 39 (.agg #[.int .i64 0, .int .i64 0, .int .i64 0, .int .i64 0, .int .i64 0, .int .i64 0, .bool false]) (.agg #[.int .i64 0, .int .i64 0, .int .i64 0, .int .i64 0, .int .i64 0, .int .i64 0, .bool false])).run Try.prog w = .ok (.bool false) w := by kernel_rfl
theorem wpAnyH_mono {P : Program} {md : Region.Mode} {ops : Array Oper} {Q : Exit → Act → World → Prop} {S S' : World → Prop} (hs : ∀ w, S' w → S w) : ∀ (fuel : Nat) (listed : Array Bool) (a : Act) (w : World), wpAnyH P md ops Q S' fuel listed a w → wpAnyH P md ops Q S fuel listed a w
  | 0, _, _, _, h => h
  | fuel + 1, _, _, _, h => ⟨h.1, fun i hi => wpOp_mono (fun a' w' h' => ⟨hs _ h'.1, wpAnyH_mono hs fuel _ a' w' h'.2⟩) (h.2 i hi)⟩
theorem tab_cell (W : World) (m : Nat) (hm : m < 8) : (W.alloc (.cells #[.int .i64 1, .int .i64 1, .int .i64 1, .int .i64 0, .int .i64 0, .int .i64 0, .int .i64 0, .int .i64 0] 3)).cell? ⟨W.heap.size, m, none⟩ = some (.int .i64 (nilE m)) := by
  rw [cellB (newB W _)]
  have : m = 0 ∨ m = 1 ∨ m = 2 ∨ m = 3 ∨ m = 4 ∨ m = 5 ∨ m = 6 ∨ m = 7 := by omega
  rcases this with h | h | h | h | h | h | h | h <;> subst h <;> rfl
theorem keepD {w : World} {q : Addr} {v : Value} (h : w.cell? q = some v) : (w.drew).cell? q = some v := h
theorem keepA {w : World} {q : Addr} {v : Value} (h : w.cell? q = some v) (o : Obj) : (w.alloc o).cell? q = some v :=
  (((Mod.refl (fun _ => False) w).alloc o).cell (World.block_lt_of_cell? w _ h) (fun q => q)).trans h
theorem five_alloc {w : World} {c0 c1 c2 c3 c4 : Addr} {v0 v1 v2 v3 v4 : Value} (h : w.cell? c0 = some v0 ∧ w.cell? c1 = some v1 ∧ w.cell? c2 = some v2 ∧ w.cell? c3 = some v3 ∧ w.cell? c4 = some v4) (o : Obj) : (w.alloc o).cell? c0 = some v0 ∧ (w.alloc o).cell? c1 = some v1 ∧ (w.alloc o).cell? c2 = some v2 ∧ (w.alloc o).cell? c3 = some v3 ∧ (w.alloc o).cell? c4 = some v4 :=
  ⟨keepA h.1 o, keepA h.2.1 o, keepA h.2.2.1 o, keepA h.2.2.2.1 o, keepA h.2.2.2.2 o⟩

theorem keepS {w : World} {q : Addr} {v : Value} (h : w.cell? q = some v) {r : Addr} (hr : q.block ≠ r.block) (u : Value) : (w.setCell r u).cell? q = some v :=
  (((Mod.refl (fun j => j = r.block) w).setCell (fun _ => rfl) u).cell (World.block_lt_of_cell? w _ h) hr).trans h
theorem five_set {w : World} {a b k : Nat} {v0 v1 v2 v3 v4 : Value} (h : w.cell? ⟨a, k, none⟩ = some v0 ∧ w.cell? ⟨b, 0, none⟩ = some v1 ∧ w.cell? ⟨b, 1, none⟩ = some v2 ∧ w.cell? ⟨b, 2, none⟩ = some v3 ∧ w.cell? ⟨b, 3, none⟩ = some v4) {r : Addr} (ha : a ≠ r.block) (hb : b ≠ r.block) (u : Value) : (w.setCell r u).cell? ⟨a, k, none⟩ = some v0 ∧ (w.setCell r u).cell? ⟨b, 0, none⟩ = some v1 ∧ (w.setCell r u).cell? ⟨b, 1, none⟩ = some v2 ∧ (w.setCell r u).cell? ⟨b, 2, none⟩ = some v3 ∧ (w.setCell r u).cell? ⟨b, 3, none⟩ = some v4 :=
  ⟨keepS h.1 ha u, keepS h.2.1 hb u, keepS h.2.2.1 hb u, keepS h.2.2.2.1 hb u, keepS h.2.2.2.2 hb u⟩
theorem doesT_none (x : Deed) : doesT none x = .agg #[.string ⟨#[]⟩, .int .i64 (nilE (pickM x.what 8)), .bool (decide (pickM x.what 8 = 0))] := by
  rcases pickM_eight x.what with q | q | q | q | q | q | q | q <;> simp [doesT, q, told, str, nilE, writeE', readE', readB', flushE', freshO']

theorem doesD_none (x : Deed) : doesD none x = none := by
  unfold doesD
  repeat' split
  all_goals rfl

def AfterNil (wr W3 : World) (p : Value) (Sk : Nat → Prop) (tb : Nat) (q : Int) : Prop :=
  wr.heap.size ≤ tb ∧ OpH wr W3 p Sk none ∧ W3.heap[tb]? = some (.cells #[.string ⟨#[]⟩, .int .i64 (nilE q), .bool (decide (q = 0))] 32 (0, 0))
theorem afterNil_1 {wr w2 : World} {p : Value} {Sk : Nat → Prop} {q : Int} (ho : OpH wr.drew w2 p Sk none) : AfterNil wr (w2.alloc (.cells #[.string ⟨#[]⟩, .int .i64 (nilE q), .bool (decide (q = 0))] 32)) p Sk w2.heap.size q := by
  obtain ⟨S', h1, h2, h3⟩ := ho
  exact ⟨h2.size, ⟨S', h1.mod ((Mod.refl _ w2).alloc _), (((Mod.refl Sk wr).drew).tr h2).alloc _, h3⟩, newB _ _⟩
theorem afterNil_2 {wr w2 : World} {p : Value} {Sk : Nat → Prop} {q : Int} (hn : ∀ j, Sk j → j < wr.heap.size) (o : Obj) (ho : OpH (wr.alloc o).drew w2 p Sk none) (hk : w2.heap[wr.heap.size]? = some (.cells #[.string ⟨#[]⟩, .int .i64 0, .bool false] 32 (0, 0))) : AfterNil wr (((w2.setCell ⟨wr.heap.size, 0, none⟩ (.string ⟨#[]⟩)).setCell ⟨wr.heap.size, 1, none⟩ (.int .i64 (nilE q))).setCell ⟨wr.heap.size, 2, none⟩ (.bool (decide (q = 0)))) p Sk wr.heap.size q := by
  obtain ⟨S', h1, h2, h3⟩ := ho
  have hm : Mod (fun j => j = wr.heap.size) w2 (((w2.setCell ⟨wr.heap.size, 0, none⟩ (.string ⟨#[]⟩)).setCell ⟨wr.heap.size, 1, none⟩ (.int .i64 (nilE q))).setCell ⟨wr.heap.size, 2, none⟩ (.bool (decide (q = 0)))) :=
    (((Mod.refl (fun j => j = wr.heap.size) w2).setCell (fun _ => rfl) _).setCell (fun _ => rfl) _).setCell (fun _ => rfl) _
  have hsz : (wr.alloc o).drew.heap.size = wr.heap.size + 1 := World.size_alloc wr o
  refine ⟨Nat.le_refl _, ⟨S', h1.same hm (fun j hj e => ?_), ?_, fun j hj => (h3 j hj).imp id (fun q => by omega)⟩, ?_⟩
  · rcases h3 j hj with q | q
    · have := hn j q; omega
    · omega
  · refine Mod.trans (Mod.tr (((Mod.refl Sk wr).alloc o).drew) h2) hm (fun j q l => by omega)
  · rw [setB (setB (setB hk 0 _) 1 _) 2 _]; rfl

set_option maxRecDepth 100000 in
set_option maxHeartbeats 8000000 in
theorem devnil_ok (w : World) (x : Deed) (hxn : x.n ≤ 9223372036854775807) (a : Option Addr) (c : Nat) (hbl : Bits w (.slice a x.bits.length c) x.bits) (hl : x.bits.length ≤ 140737488351232) :
    Calls Try.prog 4 #[.agg #[.int .i64 x.what, .int .i64 x.at_, .int .i64 x.n, .slice a x.bits.length c]] w fun e w' => e = .returned (.bool true) ∧ Mod (fun _ => False) w w' := by
  have HBL := Lib.hid hbl
  clear hbl
  have HA := Lib.hid awake_ok
  have hpk := fun w => pick_calls x.what 8 w (by omega)
  have HK := Lib.hid hpk
  clear hpk
  go_enter Try.func4, Try.ntmps4
  go_wp2
  obtain ⟨W0, hW0⟩ : ∃ W0, (((w.alloc (.cells #[.int .i64 x.what, .int .i64 x.at_, .int .i64 x.n, .slice a x.bits.length c] 36)).alloc (.cells zero10 49)).alloc (.cells #[.pointer none, .pointer (some ⟨w.heap.size + 1, 0, none⟩)] 24)) = W0 := ⟨_, rfl⟩
  unfold zero10 at hW0
  rw [hW0]
  have h0 : W0.heap[w.heap.size]? = some (.cells #[.int .i64 x.what, .int .i64 x.at_, .int .i64 x.n, .slice a x.bits.length c] 36 (0, 0)) := by
    rw [← hW0]; exact allocB (allocB (newB w _) _) _
  have h1 : W0.heap[w.heap.size + 1]? = some (.cells zero10 49 (0, 0)) := by
    rw [← hW0]
    have := newB (w.alloc (.cells #[.int .i64 x.what, .int .i64 x.at_, .int .i64 x.n, .slice a x.bits.length c] 36)) (.cells zero10 49)
    rw [World.size_alloc] at this
    exact allocB this _
  have h2 : W0.heap[w.heap.size + 2]? = some (.cells #[.pointer none, .pointer (some ⟨w.heap.size + 1, 0, none⟩)] 24 (0, 0)) := by
    rw [← hW0]
    have := newB ((w.alloc (.cells #[.int .i64 x.what, .int .i64 x.at_, .int .i64 x.n, .slice a x.bits.length c] 36)).alloc (.cells zero10 49)) (.cells #[.pointer none, .pointer (some ⟨w.heap.size + 1, 0, none⟩)] 24)
    rw [World.size_alloc, World.size_alloc] at this
    exact this
  have hm0 : Mod (fun _ => False) w W0 := by rw [← hW0]; exact (((Mod.refl _ w).alloc _).alloc _).alloc _
  have hs0 : W0.heap.size = w.heap.size + 3 := by rw [← hW0]; simp
  have H0 := Lib.hid (And.intro h0 (And.intro h1 (And.intro h2 hm0)))
  clear h0 h1 h2 hm0 hW0
  have HWB : Hid (Hd W0 (.pointer (some ⟨w.heap.size + 1, 0, none⟩)) (fun j => j = w.heap.size + 1) none) :=
    Lib.hid ⟨.inr ⟨_, rfl, by rw [cellB H0.out.2.1]; rfl⟩, .inr ⟨_, rfl, rfl⟩, fun j hj => by omega⟩
  go_loopw [4] (fun i wr => ∃ k : Nat, k ≤ 2 ∧ i = .int .i64 k ∧ (k < 2 → Mod (fun _ => False) W0 wr) ∧ Mod (fun j => j = w.heap.size + 1) W0 wr) (fun i _ => 2 - (intOf i).toNat)
  case atStart => exact ⟨0, by omega, rfl, fun _ => Mod.refl _ _, Mod.refl _ _⟩
  case round =>
    obtain ⟨k, hk, rfl, hmk, hm⟩ := hrel
    by_cases hlt : k < 2
    · have hm1 := hmk hlt
      obtain ⟨p, Sk, hp, hH, hSk⟩ : ∃ (p : Value) (Sk : Nat → Prop), W0.cell? ⟨w.heap.size + 2, k, none⟩ = some p ∧ Hd wr p Sk none ∧ ∀ j, Sk j → j = w.heap.size + 1 ∧ k = 1 := by
        rcases Nat.lt_or_ge k 1 with q | q
        · have : k = 0 := by omega
          subst this
          exact ⟨.pointer none, fun _ => False, by rw [cellB H0.out.2.2.1]; rfl, ⟨.inl rfl, .inl rfl, fun j q => q.elim⟩, fun j q => q.elim⟩
        · have : k = 1 := by omega
          subst this
          exact ⟨_, _, by rw [cellB H0.out.2.2.1]; rfl, HWB.out.mod hm1, fun j q => ⟨q, rfl⟩⟩
      have q0 : wr.cell? ⟨w.heap.size + 1 + 1, k, none⟩ = some p := (hm1.cell (p := ⟨w.heap.size + 2, k, none⟩) (by simp; omega) (fun q => q)).trans hp
      have kb := (hm1.block w.heap.size (by omega) (fun q => q)).trans H0.out.1
      have q1 : wr.cell? ⟨w.heap.size, 0, none⟩ = some (.int .i64 x.what) := by rw [cellB kb]; rfl
      have q2 : wr.cell? ⟨w.heap.size, 1, none⟩ = some (.int .i64 x.at_) := by rw [cellB kb]; rfl
      have q3 : wr.cell? ⟨w.heap.size, 2, none⟩ = some (.int .i64 x.n) := by rw [cellB kb]; rfl
      have q4 : wr.cell? ⟨w.heap.size, 3, none⟩ = some (.slice a x.bits.length c) := by rw [cellB kb]; rfl
      have HD := Lib.hid (fun (W : World) (hmw : Mod (fun _ => False) wr W) => (does_calls (hH.mod hmw) (n := 0) (fun d hd => by cases hd) (by omega) x hxn a c (HBL.out.mod (H0.out.2.2.2.tr (hm1.tr hmw))) hl).mono (R' := fun e w' => e = .returned (.agg #[.string ⟨#[]⟩, .int .i64 (nilE (pickM x.what 8)), .bool (decide (pickM x.what 8 = 0))]) ∧ OpH W w' p Sk none) (fun e w' h => by obtain ⟨h1, h2⟩ := h; rw [doesT_none] at h1; rw [doesD_none] at h2; exact ⟨h1, h2⟩))
      have HH := Lib.hid (And.intro hH (And.intro hSk (And.intro hm1 kb)))
      have HM := Lib.hid hm
      have hszr := hm1.size
      have hb2 : w.heap.size + 1 + 1 ≠ wr.heap.size := by omega
      have hb0 : w.heap.size ≠ wr.heap.size := by omega
      have hnr : ¬ Sk wr.heap.size := fun q => by have := (hSk _ q).1; omega
      have hn2 : ¬ Sk (w.heap.size + 1 + 1) := fun q => by have := (hSk _ q).1; omega
      have hn0 : ¬ Sk w.heap.size := fun q => by have := (hSk _ q).1; omega
      have hpp := hH.ptr
      clear hm hmk hH hSk hm1 kb hp
      have hH' := Lib.hid (show ∀ j, Sk j → j = w.heap.size + 1 ∧ k = 1 from HH.out.2.1)
      go_upto_region 5 with fail
      go_cut [5] from 10 to 50 (fun s5 wx => ∃ tb : Nat, s5 = .pointer (some ⟨tb, 0, none⟩) ∧ AfterNil wr wx p Sk tb (pickM x.what 8) ∧ wx.cell? ⟨w.heap.size + 1 + 1, k, none⟩ = some p ∧ wx.cell? ⟨w.heap.size, 0, none⟩ = some (.int .i64 x.what) ∧ wx.cell? ⟨w.heap.size, 1, none⟩ = some (.int .i64 x.at_) ∧ wx.cell? ⟨w.heap.size, 2, none⟩ = some (.int .i64 x.n) ∧ wx.cell? ⟨w.heap.size, 3, none⟩ = some (.slice a x.bits.length c))
      case first =>
        go_region_held3 (fun w' => w'.cell? ⟨w.heap.size + 1 + 1, k, none⟩ = some p ∧ w'.cell? ⟨w.heap.size, 0, none⟩ = some (.int .i64 x.what) ∧ w'.cell? ⟨w.heap.size, 1, none⟩ = some (.int .i64 x.at_) ∧ w'.cell? ⟨w.heap.size, 2, none⟩ = some (.int .i64 x.n) ∧ w'.cell? ⟨w.heap.size, 3, none⟩ = some (.slice a x.bits.length c))
          (refine ⟨?_, ?_, ?_, ?_, ?_⟩ <;> (repeat (first | with_reducible exact q0 | with_reducible exact q1 | with_reducible exact q2 | with_reducible exact q3 | with_reducible exact q4 | with_reducible exact HQ.out.1 | with_reducible exact HQ.out.2.1 | with_reducible exact HQ.out.2.2.1 | with_reducible exact HQ.out.2.2.2.1 | with_reducible exact HQ.out.2.2.2.2 | with_reducible refine keepD ?_ | with_reducible refine keepA ?_ _ | with_reducible refine keepS ?_ (by simp; omega) _)))
          (first
            | (go_at_call 11; refine (HD.out _ ((Mod.refl _ wr).drew)).mono ?_; rintro e w2 ⟨rfl, ho⟩; have hs2 := opH_size ho; have HO := Lib.hid ho; have HQ := Lib.hid (And.intro (opH_cell ho (q := ⟨w.heap.size + 1 + 1, k, none⟩) hn2 q0) (And.intro (opH_cell ho (q := ⟨w.heap.size, 0, none⟩) hn0 q1) (And.intro (opH_cell ho (q := ⟨w.heap.size, 1, none⟩) hn0 q2) (And.intro (opH_cell ho (q := ⟨w.heap.size, 2, none⟩) hn0 q3) (opH_cell ho (q := ⟨w.heap.size, 3, none⟩) hn0 q4))))); clear ho)
            | (go_at_call 11; refine (HD.out _ (((Mod.refl _ wr).alloc (.cells #[.string ⟨#[]⟩, .int .i64 0, .bool false] 32)).drew)).mono ?_; rintro e w2 ⟨rfl, ho⟩; have kk := opH_block ho hnr (newB wr (.cells #[.string ⟨#[]⟩, .int .i64 0, .bool false] 32)); obtain ⟨z0, z1, z2, g0, g1, g2⟩ := cells3 kk; have HO := Lib.hid (And.intro ho kk); have HQ := Lib.hid (And.intro (opH_cell ho (q := ⟨w.heap.size + 1 + 1, k, none⟩) hn2 (keepA q0 _)) (And.intro (opH_cell ho (q := ⟨w.heap.size, 0, none⟩) hn0 (keepA q1 _)) (And.intro (opH_cell ho (q := ⟨w.heap.size, 1, none⟩) hn0 (keepA q2 _)) (And.intro (opH_cell ho (q := ⟨w.heap.size, 2, none⟩) hn0 (keepA q3 _)) (opH_cell ho (q := ⟨w.heap.size, 3, none⟩) hn0 (keepA q4 _)))))); clear ho kk))
        · go_wp2_with fail
          go_meet
          exact ⟨_, rfl, afterNil_1 HO.out, five_alloc HQ.out _⟩
        · go_wp2_with fail
          go_meet
          exact ⟨_, rfl, afterNil_2 (fun j hj => by have := hH'.out j hj; omega) _ HO.out.1 HO.out.2, five_set (five_set (five_set HQ.out hb2 hb0 _) hb2 hb0 _) hb2 hb0 _⟩
      case rest =>
        obtain ⟨tb, rfl, HA3, H5'⟩ := hcut
        have H5 := Lib.hid H5'
        have HAN := Lib.hid HA3
        clear H5'
        obtain ⟨ha1, ⟨S', h1, h2, h3⟩, kt⟩ := HA3
        have HST := Lib.hid (show ∀ W, Mod (fun _ => False) wc W → Calls Try.prog 13 #[p] W (fun e w' => e = .returned (.agg #[.int .i64 0, .int .i64 0, .int .i64 0, .int .i64 0, .int .i64 0, .int .i64 0, .bool false]) ∧ Mod (fun _ => False) W w') from fun (W : World) (hm : Mod (fun _ => False) wc W) => stat_H (h1.mod hm) (n := 0) (fun d hd => by cases hd) (by omega))
        have hneq := neq39
        have p0 := H5.out.1
        have p1 := H5.out.2.1
        obtain ⟨y0, y1, y2, f0, f1, f2⟩ := cells3 kt
        have htb := ltB kt
        clear h1 h2 h3 kt q0 q1 q2 q3 q4 hpp
        obtain ⟨m, hm8, hq⟩ : ∃ m : Nat, m < 8 ∧ pickM x.what 8 = m := by
          rcases pickM_eight x.what with h | h | h | h | h | h | h | h
          · exact ⟨0, by omega, h⟩
          · exact ⟨1, by omega, h⟩
          · exact ⟨2, by omega, h⟩
          · exact ⟨3, by omega, h⟩
          · exact ⟨4, by omega, h⟩
          · exact ⟨5, by omega, h⟩
          · exact ⟨6, by omega, h⟩
          · exact ⟨7, by omega, h⟩
        rw [hq] at HK y1 y2
        have y2 : wc.cell? ⟨tb, 2, none⟩ = some (.bool ((m : Int) == 0)) := y2
        have hm8' : (m : Int) < 8 := by omega
        have htab := tab_cell wc m hm8
        go_wp2_with (first | (go_at_call 15; refine (HK.out _).mono ?_; rintro e w' ⟨rfl, rfl⟩))
        refine wp_region_held_drew (S := fun w' => w'.cell? ⟨w.heap.size + 1 + 1, k, none⟩ = some p ∧ w'.cell? ⟨tb, 0, none⟩ = some (.string ⟨#[]⟩) ∧ w'.cell? ⟨tb, 1, none⟩ = some (.int .i64 (nilE m)) ∧ w'.cell? ⟨tb, 2, none⟩ = some (.bool ((m : Int) == 0))) (by kernel_rfl) ⟨p0, y0, y1, y2⟩ (fun hH => ?_)
        refine wpAnyH_take (i := 0) (oi := { dst := some 23, op := Op.fieldAddr 32 (Operand.tmp 5) 1, type := 0, pos := "law.go:145", after := #[], guard := none }) (v := ?_) rfl (by kernel_rfl) (by kernel_rfl) (by kernel_rfl) (fun _ _ _ h => h) (Or.inl ⟨by rfl, ?_⟩) hH ?_
        rotate_left
        · intro w' hSw
          obtain ⟨s0, s1, s2, s3⟩ := hSw
          go_simp
          (try with_reducible rfl)
        (try simp only [Act.put, List.setIfInBounds_toArray, List.set_cons_zero, List.set_cons_succ])
        refine wpAnyH_take (i := 1) (oi := { dst := some 24, op := Op.load 25 (Operand.tmp 23), type := 25, pos := "law.go:145", after := #[{ on := 0, ground := Ground.data }], guard := none }) (v := ?_) rfl (by kernel_rfl) (by kernel_rfl) (by kernel_rfl) (fun _ _ _ h => h) (Or.inl ⟨by rfl, ?_⟩) hH ?_
        rotate_left
        · intro w' hSw
          obtain ⟨s0, s1, s2, s3⟩ := hSw
          go_simp
          (try with_reducible rfl)
        (try simp only [Act.put, List.setIfInBounds_toArray, List.set_cons_zero, List.set_cons_succ])
        refine wpAnyH_take (i := 3) (oi := { dst := some 26, op := Op.move (Operand.tmp 6), type := 3, pos := "law.go:145", after := #[], guard := none }) (v := ?_) rfl (by kernel_rfl) (by kernel_rfl) (by kernel_rfl) (fun _ _ _ h => h) (Or.inl ⟨by rfl, ?_⟩) hH ?_
        rotate_left
        · intro w' hSw
          obtain ⟨s0, s1, s2, s3⟩ := hSw
          go_simp
          (try with_reducible rfl)
        (try simp only [Act.put, List.setIfInBounds_toArray, List.set_cons_zero, List.set_cons_succ])
        refine wpAnyH_ready (rs := [2]) (by kernel_rfl) (by simp) ?_
        refine AllReadyH.cons (o := { dst := some 25, op := Op.buildSlice 52 8 #[(0, Operand.const (Value.int IntKind.i64 1)), (1, Operand.const (Value.int IntKind.i64 1)), (2, Operand.const (Value.int IntKind.i64 1)), (3, Operand.const (Value.int IntKind.i64 0)), (4, Operand.const (Value.int IntKind.i64 0)), (5, Operand.const (Value.int IntKind.i64 0)), (6, Operand.const (Value.int IntKind.i64 0)), (7, Operand.const (Value.int IntKind.i64 0))], type := 52, pos := "law.go:145", after := #[], guard := none }) rfl (fun K hK => ?_) AllReadyH.nil
        go_simp
        refine hK.out _ _ ⟨keepD (keepA p0 _), keepD (keepA y0 _), keepD (keepA y1 _), keepD (keepA y2 _)⟩ (fun _ => ?_)
        clear hK K
        refine wpAnyH_mono (S' := fun w' => w'.cell? ⟨w.heap.size + 1 + 1, k, none⟩ = some p ∧ w'.cell? ⟨tb, 0, none⟩ = some (.string ⟨#[]⟩) ∧ w'.cell? ⟨tb, 1, none⟩ = some (.int .i64 (nilE m)) ∧ w'.cell? ⟨tb, 2, none⟩ = some (.bool ((m : Int) == 0)) ∧ w'.cell? ⟨wc.heap.size, m, none⟩ = some (.int .i64 (nilE m))) (fun w h => ⟨h.1, h.2.1, h.2.2.1, h.2.2.2.1⟩) _ _ _ _ ?_
        have hT := And.intro (keepD (keepA p0 (.cells #[.int .i64 1, .int .i64 1, .int .i64 1, .int .i64 0, .int .i64 0, .int .i64 0, .int .i64 0, .int .i64 0] 3))) (And.intro (keepD (keepA y0 (.cells #[.int .i64 1, .int .i64 1, .int .i64 1, .int .i64 0, .int .i64 0, .int .i64 0, .int .i64 0, .int .i64 0] 3))) (And.intro (keepD (keepA y1 (.cells #[.int .i64 1, .int .i64 1, .int .i64 1, .int .i64 0, .int .i64 0, .int .i64 0, .int .i64 0, .int .i64 0] 3))) (And.intro (keepD (keepA y2 (.cells #[.int .i64 1, .int .i64 1, .int .i64 1, .int .i64 0, .int .i64 0, .int .i64 0, .int .i64 0, .int .i64 0] 3))) (keepD htab))))
        (try simp only [Act.put, List.setIfInBounds_toArray, List.set_cons_zero, List.set_cons_succ])
        refine wpAnyH_take (i := 4) (oi := { dst := some 27, op := Op.indexAddr 52 (Operand.tmp 25) (Operand.tmp 26), type := 0, pos := "law.go:145", after := #[{ on := 2, ground := Ground.data }, { on := 3, ground := Ground.data }], guard := none }) (v := ?_) rfl (by kernel_rfl) (by kernel_rfl) (by kernel_rfl) (fun _ _ _ h => h) (Or.inl ⟨by rfl, ?_⟩) hT ?_
        rotate_left
        · intro w' hSw
          obtain ⟨s0, s1, s2, s3, s4⟩ := hSw
          go_simp
          (try with_reducible rfl)
        (try simp only [Act.put, List.setIfInBounds_toArray, List.set_cons_zero, List.set_cons_succ])
        refine wpAnyH_take (i := 5) (oi := { dst := some 28, op := Op.load 3 (Operand.tmp 27), type := 3, pos := "law.go:145", after := #[{ on := 4, ground := Ground.data }], guard := none }) (v := ?_) rfl (by kernel_rfl) (by kernel_rfl) (by kernel_rfl) (fun _ _ _ h => h) (Or.inl ⟨by rfl, ?_⟩) hT ?_
        rotate_left
        · intro w' hSw
          obtain ⟨s0, s1, s2, s3, s4⟩ := hSw
          go_simp
          (try with_reducible rfl)
        (try simp only [Act.put, List.setIfInBounds_toArray, List.set_cons_zero, List.set_cons_succ])
        refine wpAnyH_take (i := 6) (oi := { dst := some 29, op := Op.binOp BinOp.neq 3 (Operand.tmp 24) (Operand.tmp 28) 3, type := 4, pos := "law.go:145", after := #[{ on := 1, ground := Ground.data }, { on := 5, ground := Ground.data }], guard := none }) (v := ?_) rfl (by kernel_rfl) (by kernel_rfl) (by kernel_rfl) (fun _ _ _ h => h) (Or.inl ⟨by rfl, ?_⟩) hT ?_
        rotate_left
        · intro w' hSw
          obtain ⟨s0, s1, s2, s3, s4⟩ := hSw
          go_simp
          (try with_reducible rfl)
        (try simp only [Act.put, List.setIfInBounds_toArray, List.set_cons_zero, List.set_cons_succ])
        refine wpAnyH_take (i := 7) (oi := { dst := some 30, op := Op.move (Operand.tmp 29), type := 4, pos := "law.go:145", after := #[{ on := 6, ground := Ground.data }], guard := none }) (v := ?_) rfl (by kernel_rfl) (by kernel_rfl) (by kernel_rfl) (fun _ _ _ h => h) (Or.inl ⟨by rfl, ?_⟩) hT ?_
        rotate_left
        · intro w' hSw
          obtain ⟨s0, s1, s2, s3, s4⟩ := hSw
          go_simp
          (try with_reducible rfl)
        (try simp only [Act.put, List.setIfInBounds_toArray, List.set_cons_zero, List.set_cons_succ])
        refine wpAnyH_take (i := 8) (oi := { dst := some 31, op := Op.fieldAddr 32 (Operand.tmp 5) 0, type := 0, pos := "law.go:145", after := #[{ on := 7, ground := Ground.guard }], guard := some (7, false) }) (v := ?_) rfl (by kernel_rfl) (by kernel_rfl) (by kernel_rfl) (fun _ _ _ h => h) (Or.inl ⟨by rfl, ?_⟩) hT ?_
        rotate_left
        · intro w' hSw
          obtain ⟨s0, s1, s2, s3, s4⟩ := hSw
          go_simp
          (try with_reducible rfl)
        (try simp only [Act.put, List.setIfInBounds_toArray, List.set_cons_zero, List.set_cons_succ])
        refine wpAnyH_take (i := 9) (oi := { dst := some 32, op := Op.load 9 (Operand.tmp 31), type := 9, pos := "law.go:145", after := #[{ on := 8, ground := Ground.data }, { on := 7, ground := Ground.guard }], guard := some (7, false) }) (v := ?_) rfl (by kernel_rfl) (by kernel_rfl) (by kernel_rfl) (fun _ _ _ h => h) (Or.inl ⟨by rfl, ?_⟩) hT ?_
        rotate_left
        · intro w' hSw
          obtain ⟨s0, s1, s2, s3, s4⟩ := hSw
          go_simp
          (try with_reducible rfl)
        (try simp only [Act.put, List.setIfInBounds_toArray, List.set_cons_zero, List.set_cons_succ])
        refine wpAnyH_take (i := 10) (oi := { dst := some 33, op := Op.binOp BinOp.neq 9 (Operand.tmp 32) (Operand.const (Value.string { data := #[] })) 9, type := 4, pos := "law.go:145", after := #[{ on := 9, ground := Ground.data }, { on := 7, ground := Ground.guard }], guard := some (7, false) }) (v := ?_) rfl (by kernel_rfl) (by kernel_rfl) (by kernel_rfl) (fun _ _ _ h => h) (Or.inl ⟨by rfl, ?_⟩) hT ?_
        rotate_left
        · intro w' hSw
          obtain ⟨s0, s1, s2, s3, s4⟩ := hSw
          go_simp
          (try with_reducible rfl)
        (try simp only [Act.put, List.setIfInBounds_toArray, List.set_cons_zero, List.set_cons_succ])
        refine wpAnyH_take (i := 11) (oi := { dst := some 34, op := Op.pick (Operand.tmp 30) (Operand.const (Value.bool true)) (Operand.tmp 33), type := 4, pos := "law.go:145", after := #[{ on := 7, ground := Ground.data }, { on := 10, ground := Ground.data }], guard := none }) (v := ?_) rfl (by kernel_rfl) (by kernel_rfl) (by kernel_rfl) (fun _ _ _ h => h) (Or.inl ⟨by rfl, ?_⟩) hT ?_
        rotate_left
        · intro w' hSw
          obtain ⟨s0, s1, s2, s3, s4⟩ := hSw
          go_simp
          (try with_reducible rfl)
        (try simp only [Act.put, List.setIfInBounds_toArray, List.set_cons_zero, List.set_cons_succ])
        refine wpAnyH_take (i := 12) (oi := { dst := some 35, op := Op.move (Operand.tmp 34), type := 4, pos := "law.go:145", after := #[{ on := 11, ground := Ground.data }, { on := 7, ground := Ground.chain }], guard := none }) (v := ?_) rfl (by kernel_rfl) (by kernel_rfl) (by kernel_rfl) (fun _ _ _ h => h) (Or.inl ⟨by rfl, ?_⟩) hT ?_
        rotate_left
        · intro w' hSw
          obtain ⟨s0, s1, s2, s3, s4⟩ := hSw
          go_simp
          (try with_reducible rfl)
        (try simp only [Act.put, List.setIfInBounds_toArray, List.set_cons_zero, List.set_cons_succ])
        refine wpAnyH_take (i := 13) (oi := { dst := some 36, op := Op.fieldAddr 32 (Operand.tmp 5) 2, type := 0, pos := "law.go:145", after := #[{ on := 12, ground := Ground.guard }], guard := some (12, false) }) (v := ?_) rfl (by kernel_rfl) (by kernel_rfl) (by kernel_rfl) (fun _ _ _ h => h) (Or.inl ⟨by rfl, ?_⟩) hT ?_
        rotate_left
        · intro w' hSw
          obtain ⟨s0, s1, s2, s3, s4⟩ := hSw
          go_simp
          (try with_reducible rfl)
        (try simp only [Act.put, List.setIfInBounds_toArray, List.set_cons_zero, List.set_cons_succ])
        refine wpAnyH_take (i := 14) (oi := { dst := some 37, op := Op.load 4 (Operand.tmp 36), type := 4, pos := "law.go:145", after := #[{ on := 13, ground := Ground.data }, { on := 12, ground := Ground.guard }], guard := some (12, false) }) (v := ?_) rfl (by kernel_rfl) (by kernel_rfl) (by kernel_rfl) (fun _ _ _ h => h) (Or.inl ⟨by rfl, ?_⟩) hT ?_
        rotate_left
        · intro w' hSw
          obtain ⟨s0, s1, s2, s3, s4⟩ := hSw
          go_simp
          (try with_reducible rfl)
        (try simp only [Act.put, List.setIfInBounds_toArray, List.set_cons_zero, List.set_cons_succ])
        refine wpAnyH_take (i := 15) (oi := { dst := some 38, op := Op.move (Operand.tmp 6), type := 3, pos := "law.go:145", after := #[{ on := 12, ground := Ground.guard }], guard := some (12, false) }) (v := ?_) rfl (by kernel_rfl) (by kernel_rfl) (by kernel_rfl) (fun _ _ _ h => h) (Or.inl ⟨by rfl, ?_⟩) hT ?_
        rotate_left
        · intro w' hSw
          obtain ⟨s0, s1, s2, s3, s4⟩ := hSw
          go_simp
          (try with_reducible rfl)
        (try simp only [Act.put, List.setIfInBounds_toArray, List.set_cons_zero, List.set_cons_succ])
        refine wpAnyH_take (i := 16) (oi := { dst := some 39, op := Op.binOp BinOp.eql 3 (Operand.tmp 38) (Operand.const (Value.int IntKind.i64 0)) 3, type := 4, pos := "law.go:145", after := #[{ on := 15, ground := Ground.data }, { on := 12, ground := Ground.guard }], guard := some (12, false) }) (v := ?_) rfl (by kernel_rfl) (by kernel_rfl) (by kernel_rfl) (fun _ _ _ h => h) (Or.inl ⟨by rfl, ?_⟩) hT ?_
        rotate_left
        · intro w' hSw
          obtain ⟨s0, s1, s2, s3, s4⟩ := hSw
          go_simp
          (try with_reducible rfl)
        (try simp only [Act.put, List.setIfInBounds_toArray, List.set_cons_zero, List.set_cons_succ])
        refine wpAnyH_take (i := 17) (oi := { dst := some 40, op := Op.binOp BinOp.neq 4 (Operand.tmp 37) (Operand.tmp 39) 4, type := 4, pos := "law.go:145", after := #[{ on := 14, ground := Ground.data }, { on := 16, ground := Ground.data }, { on := 12, ground := Ground.guard }], guard := some (12, false) }) (v := ?_) rfl (by kernel_rfl) (by kernel_rfl) (by kernel_rfl) (fun _ _ _ h => h) (Or.inl ⟨by rfl, ?_⟩) hT ?_
        rotate_left
        · intro w' hSw
          obtain ⟨s0, s1, s2, s3, s4⟩ := hSw
          go_simp
          (try with_reducible rfl)
        (try simp only [Act.put, List.setIfInBounds_toArray, List.set_cons_zero, List.set_cons_succ])
        refine wpAnyH_take (i := 18) (oi := { dst := some 41, op := Op.pick (Operand.tmp 35) (Operand.const (Value.bool true)) (Operand.tmp 40), type := 4, pos := "law.go:145", after := #[{ on := 12, ground := Ground.data }, { on := 17, ground := Ground.data }], guard := none }) (v := ?_) rfl (by kernel_rfl) (by kernel_rfl) (by kernel_rfl) (fun _ _ _ h => h) (Or.inl ⟨by rfl, ?_⟩) hT ?_
        rotate_left
        · intro w' hSw
          obtain ⟨s0, s1, s2, s3, s4⟩ := hSw
          go_simp
          (try with_reducible rfl)
        (try simp only [Act.put, List.setIfInBounds_toArray, List.set_cons_zero, List.set_cons_succ])
        refine wpAnyH_take (i := 19) (oi := { dst := some 42, op := Op.move (Operand.tmp 41), type := 4, pos := "law.go:145", after := #[{ on := 18, ground := Ground.data }, { on := 12, ground := Ground.chain }], guard := none }) (v := ?_) rfl (by kernel_rfl) (by kernel_rfl) (by kernel_rfl) (fun _ _ _ h => h) (Or.inl ⟨by rfl, ?_⟩) hT ?_
        rotate_left
        · intro w' hSw
          obtain ⟨s0, s1, s2, s3, s4⟩ := hSw
          go_simp
          (try with_reducible rfl)
        (try simp only [Act.put, List.setIfInBounds_toArray, List.set_cons_zero, List.set_cons_succ])
        refine wpAnyH_take (i := 20) (oi := { dst := some 43, op := Op.move (Operand.tmp 3), type := 50, pos := "law.go:145", after := #[{ on := 19, ground := Ground.guard }], guard := some (19, false) }) (v := ?_) rfl (by kernel_rfl) (by kernel_rfl) (by kernel_rfl) (fun _ _ _ h => h) (Or.inl ⟨by rfl, ?_⟩) hT ?_
        rotate_left
        · intro w' hSw
          obtain ⟨s0, s1, s2, s3, s4⟩ := hSw
          go_simp
          (try with_reducible rfl)
        (try simp only [Act.put, List.setIfInBounds_toArray, List.set_cons_zero, List.set_cons_succ])
        refine wpAnyH_take (i := 21) (oi := { dst := some 44, op := Op.move (Operand.tmp 4), type := 3, pos := "law.go:145", after := #[{ on := 19, ground := Ground.guard }], guard := some (19, false) }) (v := ?_) rfl (by kernel_rfl) (by kernel_rfl) (by kernel_rfl) (fun _ _ _ h => h) (Or.inl ⟨by rfl, ?_⟩) hT ?_
        rotate_left
        · intro w' hSw
          obtain ⟨s0, s1, s2, s3, s4⟩ := hSw
          go_simp
          (try with_reducible rfl)
        (try simp only [Act.put, List.setIfInBounds_toArray, List.set_cons_zero, List.set_cons_succ])
        refine wpAnyH_take (i := 22) (oi := { dst := some 45, op := Op.indexAddr 50 (Operand.tmp 43) (Operand.tmp 44), type := 0, pos := "law.go:145", after := #[{ on := 20, ground := Ground.data }, { on := 21, ground := Ground.data }, { on := 19, ground := Ground.guard }], guard := some (19, false) }) (v := ?_) rfl (by kernel_rfl) (by kernel_rfl) (by kernel_rfl) (fun _ _ _ h => h) (Or.inl ⟨by rfl, ?_⟩) hT ?_
        rotate_left
        · intro w' hSw
          obtain ⟨s0, s1, s2, s3, s4⟩ := hSw
          go_simp
          (try with_reducible rfl)
        (try simp only [Act.put, List.setIfInBounds_toArray, List.set_cons_zero, List.set_cons_succ])
        refine wpAnyH_take (i := 23) (oi := { dst := some 46, op := Op.load 24 (Operand.tmp 45), type := 24, pos := "law.go:145", after := #[{ on := 22, ground := Ground.data }, { on := 19, ground := Ground.guard }], guard := some (19, false) }) (v := ?_) rfl (by kernel_rfl) (by kernel_rfl) (by kernel_rfl) (fun _ _ _ h => h) (Or.inl ⟨by rfl, ?_⟩) hT ?_
        rotate_left
        · intro w' hSw
          obtain ⟨s0, s1, s2, s3, s4⟩ := hSw
          go_simp
          (try with_reducible rfl)
        (try simp only [Act.put, List.setIfInBounds_toArray, List.set_cons_zero, List.set_cons_succ])
        refine wpAnyH_take (i := 25) (oi := { dst := some 48, op := Op.build 39 #[], type := 39, pos := "law.go:145", after := #[{ on := 19, ground := Ground.guard }], guard := some (19, false) }) (v := ?_) rfl (by kernel_rfl) (by kernel_rfl) (by kernel_rfl) (fun _ _ _ h => h) (Or.inl ⟨by rfl, ?_⟩) hT ?_
        rotate_left
        · intro w' hSw
          obtain ⟨s0, s1, s2, s3, s4⟩ := hSw
          go_simp
          (try with_reducible rfl)
        (try simp only [Act.put, List.setIfInBounds_toArray, List.set_cons_zero, List.set_cons_succ])
        refine wpAnyH_ready (rs := [24]) (by kernel_rfl) (by simp) ?_
        refine AllReadyH.cons (o := { dst := some 47, op := Op.call { callee := Callee.value (Operand.func 13), args := #[Operand.tmp 46], argTypes := #[24] }, type := 39, pos := "law.go:145", after := #[{ on := 23, ground := Ground.data }, { on := 19, ground := Ground.chain }, { on := 19, ground := Ground.guard }], guard := some (19, false) }) rfl (fun K hK => ?_) AllReadyH.nil
        go_simp
        refine (HST.out _ (((Mod.refl _ wc).alloc (.cells #[.int .i64 1, .int .i64 1, .int .i64 1, .int .i64 0, .int .i64 0, .int .i64 0, .int .i64 0, .int .i64 0] 3)).drew)).mono ?_
        rintro e w7 ⟨rfl, hm7⟩
        (try go_wp2_with fail)
        refine hK.out _ _ ⟨mod_cell hm7 (keepA p0 _), mod_cell hm7 (keepA y0 _), mod_cell hm7 (keepA y1 _), mod_cell hm7 (keepA y2 _), mod_cell hm7 htab⟩ (fun hU => ?_)
        clear hK K
        have HM7 := Lib.hid ((((Mod.refl (fun _ => False) wc).alloc (.cells #[.int .i64 1, .int .i64 1, .int .i64 1, .int .i64 0, .int .i64 0, .int .i64 0, .int .i64 0, .int .i64 0] 3)).drew).tr hm7)
        (try simp only [Act.put, List.setIfInBounds_toArray, List.set_cons_zero, List.set_cons_succ])
        refine wpAnyH_take (i := 26) (oi := { dst := some 49, op := Op.binOp BinOp.neq 39 (Operand.tmp 47) (Operand.tmp 48) 39, type := 4, pos := "law.go:145", after := #[{ on := 24, ground := Ground.data }, { on := 25, ground := Ground.data }, { on := 19, ground := Ground.guard }], guard := some (19, false) }) (v := ?_) rfl (by kernel_rfl) (by kernel_rfl) (by kernel_rfl) (fun _ _ _ h => h) (Or.inl ⟨by rfl, ?_⟩) hU ?_
        rotate_left
        · intro w' hSw
          obtain ⟨s0, s1, s2, s3, s4⟩ := hSw
          go_simp
          (try with_reducible rfl)
        (try simp only [Act.put, List.setIfInBounds_toArray, List.set_cons_zero, List.set_cons_succ])
        refine wpAnyH_take (i := 27) (oi := { dst := some 50, op := Op.pick (Operand.tmp 42) (Operand.const (Value.bool true)) (Operand.tmp 49), type := 4, pos := "law.go:145", after := #[{ on := 19, ground := Ground.data }, { on := 26, ground := Ground.data }], guard := none }) (v := ?_) rfl (by kernel_rfl) (by kernel_rfl) (by kernel_rfl) (fun _ _ _ h => h) (Or.inl ⟨by rfl, ?_⟩) hU ?_
        rotate_left
        · intro w' hSw
          obtain ⟨s0, s1, s2, s3, s4⟩ := hSw
          go_simp
          (try with_reducible rfl)
        (try simp only [Act.put, List.setIfInBounds_toArray, List.set_cons_zero, List.set_cons_succ])
        refine wpAnyH_done (by kernel_rfl) ?_ _
        clear hT hU hH p0 p1 y0 y1 y2 f0 f1 f2 htab hneq hm7
        go_wp2
        go_roundw
        case rel =>
          obtain ⟨_, ⟨S2, _, h2, _⟩, _⟩ := HAN.out
          have hW : Mod Sk wr w7 := h2.tr0 HM7.out
          refine ⟨k + 1, by omega, by go_num, fun hk1 => HH.out.2.2.1.trans hW (fun j q l => ?_), HM.out.trans hW (fun j q l => (HH.out.2.1 j q).1)⟩
          have := (HH.out.2.1 j q).2
          omega
        case measure => simp [intOf]; omega
    · have e : k = 2 := by omega
      subst e
      have hend : Mod (fun _ => False) w wr := H0.out.2.2.2.trans hm (fun j q l => by omega)
      have HE := Lib.hid hend
      clear hm hmk hend
      go_wp2_with fail
      refine (HA.out _).mono ?_
      rintro e w9 ⟨rfl, hm9⟩
      have H9 := Lib.hid hm9
      clear hm9
      go_wp2
      go_ret
      exact ⟨rfl, HE.out.tr H9.out⟩
end Go.Proofs.Ytaaoabfmelpcpaa
