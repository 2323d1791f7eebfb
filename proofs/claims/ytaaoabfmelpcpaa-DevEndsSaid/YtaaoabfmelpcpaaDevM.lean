/- Wake. -/
import Derived.Test.YtaaoabfmelpcpaaDevL
namespace Go.Proofs.Ytaaoabfmelpcpaa
open Go.RowKit Go.Mo

/-- v is a slice that reads bits. -/
def Bls (w : World) (v : Value) (bits : List Bool) : Prop :=
  ∃ a c, v = .slice a bits.length c ∧ ((a = none ∧ bits = []) ∨ ∃ b o, a = some ⟨b, o, none⟩ ∧ b < w.heap.size ∧ ∀ j x, bits[j]? = some x → w.cell? ⟨b, o + j, none⟩ = some (.bool x))
theorem Bls.mod {w w' : World} {v : Value} {bits : List Bool} (h : Bls w v bits) (hm : Mod (fun _ => False) w w') : Bls w' v bits := by
  obtain ⟨a, c, hv, h | ⟨b, o, ha, hb, hc⟩⟩ := h
  · exact ⟨a, c, hv, .inl h⟩
  · exact ⟨a, c, hv, .inr ⟨b, o, ha, Nat.lt_of_lt_of_le hb hm.size, fun j x hx => (hm.cell (p := ⟨b, o + j, none⟩) hb (fun q => q)).trans (hc j x hx)⟩⟩
def wakeP (bits : List Bool) (i : Nat) : Bool := (bits[min i (bits.length - 1)]?).getD false

section
variable {w : World}

set_option maxHeartbeats 1000000 in
theorem wake1_calls (i bx : Nat) (v : Value) (bits : List Bool) (hi : i ≤ 1000000) (hl : bits.length ≤ 140737488355328) (hv : w.cell? ⟨bx, 0, none⟩ = some v) (hb : Bls w v bits) :
    Calls Try.prog 48 #[.int .i64 (i : Int), .pointer (some ⟨bx, 0, none⟩)] w fun e w' => e = .returned (.bool (wakeP bits i)) ∧ w = w' := by
  obtain ⟨a, c, rfl, h⟩ := hb
  by_cases h0 : bits = []
  · subst h0
    rw [show wakeP [] i = false by simp [wakeP]]
    simp only [List.length_nil] at hv
    clear h hl
    go_enter Try.func48, Try.ntmps48
    go_wp2
    go_ret
    exact ⟨rfl, rfl⟩
  · have hpos : 0 < bits.length := by cases bits with | nil => exact absurd rfl h0 | cons x r => simp
    rcases h with ⟨_, h1⟩ | ⟨b, o, rfl, hbl, hc⟩
    · exact absurd h1 h0
    · clear h0
      have hmin : min i (bits.length - 1) < bits.length := by omega
      have hcm := hc _ _ (List.getElem?_eq_getElem hmin)
      have hw : wakeP bits i = bits[min i (bits.length - 1)] := by simp [wakeP, hmin]
      rw [hw]
      generalize bits[min i (bits.length - 1)] = x at *
      generalize bits.length = n at *
      clear hc hw
      by_cases hin : i ≤ n - 1
      · rw [show min i (n - 1) = i by omega] at hcm
        clear hmin
        go_enter Try.func48, Try.ntmps48
        go_wp2
        go_ret
        exact ⟨rfl, rfl⟩
      · rw [show min i (n - 1) = n - 1 by omega] at hcm
        obtain ⟨m, rfl⟩ : ∃ m, n = m + 1 := ⟨n - 1, by omega⟩
        simp only [Nat.add_sub_cancel] at hcm hin hmin
        have e1 : (((m + 1 : Nat) : Int) - 1) = (m : Int) := by omega
        have e2 : ¬ ((i : Int) ≤ (m : Int)) := by omega
        clear hmin
        go_enter Try.func48, Try.ntmps48
        go_wp2
        go_ret
        exact ⟨rfl, rfl⟩

def wakeD (d : Dv) (bits : List Bool) : Dv := if d.down then { d with kept := keepTo (wakeP bits) d d.waiting.length, waiting := [], down := false, armed := 0 } else d

set_option maxHeartbeats 1000000 in
theorem wake_calls {B : Nat} {S : Nat → Prop} {d : Dv} (h : Dev w B S d) (v : Value) (bits : List Bool) (hl : bits.length ≤ 140737488355328) (hb : Bls w v bits) (hbS : ∀ k, v.ownBlock = some k → ¬ S k) :
    Calls Try.prog 22 #[.pointer (some ⟨B, 0, none⟩), v] w fun e w' => e = ret0 ∧ Op w w' B S (wakeD d bits) := by
  have hmf : ∀ (fn : Fn) (first cap : Array Value) (w : World), (Instr.makeFunc fn first cap).run Try.prog w = .ok (.func fn first cap) w := fun _ _ _ _ => rfl
  obtain ⟨va, vc, rfl⟩ : ∃ a c, v = .slice a bits.length c := by obtain ⟨a, c, e, _⟩ := hb; exact ⟨a, c, e⟩
  have h2 := h.alloc (.cells #[.slice va bits.length vc] 34)
  have hlt := h.lt
  obtain ⟨K, M, W, ke, we, hD⟩ := h2
  have c0 := hD.c0
  have c9 := hD.c9
  clear h
  cases hd : d.down with
  | false =>
    rw [hd] at c9
    rw [show wakeD d bits = d by simp [wakeD, hd]]
    have HD := Lib.hid hD
    clear hD
    go_enter Try.func22, Try.ntmps22
    go_wp2_with (go_at_call 31; refine (made_some B K _ c0).mono ?_; rintro e w' ⟨rfl, rfl⟩)
    go_returns
    refine ⟨rfl, S, ⟨_, _, _, _, _, HD.out⟩, (Mod.refl S w).alloc _, fun j hj => .inl hj⟩
  | true =>
    rw [hd] at c9
    rw [show wakeD d bits = { d with kept := keepTo (wakeP bits) d d.waiting.length, waiting := [], down := false, armed := 0 } by simp [wakeD, hd]]
    have hlen : we.length ≤ 1000000 := by rw [hD.wait.length]; exact hD.bound
    have hkp := keep_calls hD 48 #[.pointer (some ⟨w.heap.size, 0, none⟩)] (wakeP bits) (fun i w => by simp [go_sem]) (fun i w1 hi hm => by
      have hbx : w1.heap[w.heap.size]? = some (.cells #[.slice va bits.length vc] 34 (0, 0)) := (hm.block _ (by simp) (fun q => by have := hlt _ q; omega)).trans (newB w _)
      refine wake1_calls i w.heap.size _ bits (by omega) hl (by rw [cellB hbx]; rfl) ?_
      obtain ⟨a', c', e, hb' | ⟨b, o, ha, hbl, hc⟩⟩ := hb
      · exact ⟨a', c', e, .inl hb'⟩
      · refine ⟨a', c', e, .inr ⟨b, o, ha, by have := hm.size; simp at this; omega, fun j x hx => ?_⟩⟩
        have hnS : ¬ S b := hbS b (by rw [e, ha]; rfl)
        rw [hm.cell (p := ⟨b, o + j, none⟩) (by simp; omega) hnS, ← hc j x hx]
        exact World.cell?_of_block (Below.heap_alloc w _ b hbl))
    have HK := Lib.hid hkp
    clear hkp hD
    go_enter Try.func22, Try.ntmps22
    go_wp2_with (first | (go_at_call 31; refine (made_some B K _ c0).mono ?_; rintro e w' ⟨rfl, rfl⟩))
    refine HK.out.mono ?_
    rintro e w2 ⟨rfl, M', ke', h3, h4, h5⟩
    have q7 := h3.c7
    have q9 := h3.c9
    have f7 := h3.fz 7
    have f9 := h3.fz 9
    have hr := Lib.hid (h3.reset (w' := (w2.setCell ⟨B, 9, none⟩ (.bool false)).setCell ⟨B, 7, none⟩ (.int .i64 0)) { d with kept := keepTo (wakeP bits) d d.waiting.length, waiting := [], down := false, armed := 0 } rfl rfl (by simp) (by rw [setB (setB h3.hB 9 _) 7 _]; rfl) (setMB (setMB (modB w2 B) _ _) _ _))
    have H4 := Lib.hid (And.intro h4 h5)
    have HS := Lib.hid h3.lt
    clear h3 h4 h5
    go_wp2
    go_returns
    refine ⟨rfl, _, ⟨_, _, _, _, _, hr.out.1⟩, ?_, fun j hj => hj.imp id (fun e => by have := H4.out.2; simp at this; omega)⟩
    exact ((((Mod.refl S w).alloc _).tr H4.out.1).trans hr.out.2 (fun j hj hl => hj.elim id (fun e => by have := H4.out.2; simp at this; omega)))
end
end Go.Proofs.Ytaaoabfmelpcpaa
