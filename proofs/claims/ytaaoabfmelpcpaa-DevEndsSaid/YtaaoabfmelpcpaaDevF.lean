/- last: a sector's bytes; slices.Backward over what waits. -/
import Derived.Test.YtaaoabfmelpcpaaDevE
import Derived.RangeFuncNested
import Derived.RangeFuncBound
import Derived.RangeFuncCalls
import Derived.RangeFuncLeaves
import Derived.Shelf.Abstract
import Derived.Shelf.RegionOpen
import Derived.OwnWalkIn
import Derived.TacticsInMore
import Derived.LoopNIn
import Derived.LoopIn
namespace Go.Proofs.Ytaaoabfmelpcpaa
open Go.RowKit Go.Mo Go.Shelf

attribute [local go_sem] Oper.semAt_some

def upto {α : Type} (f : Nat → α) (k : Nat) : List α := (List.range k).map f
theorem upto_succ {α : Type} (f : Nat → α) (k : Nat) : upto f (k + 1) = upto f k ++ [f k] := by simp [upto, List.range_succ]
theorem upto_length {α : Type} (f : Nat → α) (k : Nat) : (upto f k).length = k := by simp [upto]

def keyAt (we : List (Int × Value)) (i : Nat) : Int := (we.getD i (0, .slice none 0 0)).1
def slA : Value → Option Addr | .slice a _ _ => a | _ => none
def slN : Value → Nat | .slice _ n _ => n | _ => 0
def slC : Value → Nat | .slice _ _ c => c | _ => 0
def val0 (we : List (Int × Value)) (i : Nat) : Value := (we.getD i (0, .slice none 0 0)).2
abbrev valAt (we : List (Int × Value)) (i : Nat) : Value := .slice (slA (val0 we i)) (slN (val0 we i)) (slC (val0 we i))
/-- Each value is a slice. -/
def Sls (we : List (Int × Value)) : Prop := ∀ x ∈ we, x.2 = .slice (slA x.2) (slN x.2) (slC x.2)
theorem KVs.sls {w : World} {S : Nat → Prop} : ∀ {l : List (Int × Value)} {m : List (Int × Bs)}, KVs w S l m → Sls l
  | [], [], _ => fun _ h => by simp at h
  | x :: r, _ :: _, h => fun y hy => by
    rcases List.mem_cons.1 hy with rfl | hy
    · obtain ⟨g, cap, e, _⟩ := h.2.1.some
      rw [e]; rfl
    · exact KVs.sls h.2.2 y hy
  | [], _ :: _, h => h.elim
  | _ :: _, [], h => h.elim

theorem flat_get : ∀ (we : List (Int × Value)) (j : Nat), Sls we → j < we.length → (flat we)[j * 2]? = some (.int .i64 (keyAt we j)) ∧ (flat we)[j * 2 + 1]? = some (valAt we j)
  | [], _, _, h => by simp at h
  | x :: r, 0, hs, _ => by
    have := hs x (by simp)
    simp only [flat, keyAt, val0, valAt, List.flatMap_cons, List.getD_cons_zero]
    exact ⟨rfl, congrArg some this⟩
  | x :: r, j + 1, hs, h => by
    have ih := flat_get r j (fun y hy => hs y (by simp [hy])) (by simpa using h)
    have e : flat (x :: r) = .int .i64 x.1 :: x.2 :: flat r := by simp [flat]
    rw [e, show (j + 1) * 2 = j * 2 + 1 + 1 by omega]
    have e2 : val0 (x :: r) (j + 1) = val0 r j := by simp [val0]
    refine ⟨by simpa [keyAt] using ih.1, ?_⟩
    rw [valAt, e2]
    simpa using ih.2

theorem back_in (n : Nat) (a : Option Addr) (len cap : Nat) (w : World) :
    CallsIn Fence.wide n Try.prog 52 #[.slice a len cap] w fun e w' => e = .returned (.func (.func 53) #[] #[.pointer (some ⟨w.heap.size, 0, none⟩)]) ∧ w.alloc (.cells #[.slice a len cap] 44) = w' := by
  refine callsIn_wide.2 ?_
  go_enter Try.func52, Try.ntmps52
  go_wp2
  go_ret
  exact ⟨rfl, rfl⟩

set_option maxRecDepth 100000 in
set_option maxHeartbeats 2000000 in
theorem back1_in (n : Nat) (hn : 1 ≤ n) (l Bs n₀ g len cap : Nat) (we : List (Int × Value)) (hlen : len ≤ 1000000) (hg : g < n₀) (J Jx : List Nat → World → Prop)
    (hY : ∀ pre (x : Nat) W, J pre W → pre.length < len → YieldAt Fence.wide (n - 1) Try.prog l #[.int .i64 (x : Int), .agg #[.int .i64 (keyAt we x), valAt we x]] W fun e W' =>
      (e = .returned (.bool true) ∧ J (pre ++ [x]) W' ∧ Below n₀ W W') ∨ (e = .returned (.bool false) ∧ Jx (pre ++ [x]) W'))
    (W : World) (hBs : W.cell? ⟨Bs, 0, none⟩ = some (.slice (some ⟨g, 0, none⟩) len cap)) (hBn : Bs < n₀)
    (hc : ∀ j, j < len → W.cell? ⟨g, j * 2, none⟩ = some (.int .i64 (keyAt we j)) ∧ W.cell? ⟨g, j * 2 + 1, none⟩ = some (valAt we j)) (h0 : J [] W) :
    CallsIn Fence.wide n Try.prog 53 #[.func (.yield l) #[] #[], .pointer (some ⟨Bs, 0, none⟩)] W fun e W' => (∃ v, e = .returned v) ∧
      ((∃ ys, ys = upto (fun j => len - 1 - j) len ∧ J ys W') ∨ (∃ pre, (∃ k, k ≤ len ∧ pre = upto (fun j => len - 1 - j) k) ∧ Jx pre W')) := by
  refine callsIn_of_wp Try.func53 rfl trivial ?_ rfl
  simp only [Try.ntmps53, List.size_toArray, List.length_cons, List.length_nil, Nat.reduceAdd, Nat.reduceSub, Array.replicate_succ, Array.replicate_zero, List.push_toArray, List.append_toArray, List.nil_append, List.cons_append]
  gi_wp2
  gi_loopw [3] (fun i wr => ∃ k : Nat, k ≤ len ∧ i = .int .i64 (((len - k : Nat) : Int) - 1) ∧ J (upto (fun j => len - 1 - j) k) wr ∧ Below n₀ W wr)
    (fun i _ => (intOf i + 1).toNat)
  case atStart => exact ⟨0, Nat.zero_le _, by simp, h0, Below.refl _ _⟩
  case round =>
    obtain ⟨k, hk, rfl, hJs, hnx⟩ := hrel
    have hb := (hnx.cell (p := ⟨Bs, 0, none⟩) hBn).trans hBs
    by_cases hlt : k < len
    · obtain ⟨p, hp⟩ : ∃ p, len - k = p + 1 := ⟨len - k - 1, by omega⟩
      have hpl : p < len := by omega
      have hpk : len - 1 - k = p := by omega
      have hp2 : (((p + 1 : Nat) : Int) - 1) = (p : Int) := by omega
      rw [hp, hp2]
      have hc1 := (hnx.cell (p := ⟨g, p * 2, none⟩) hg).trans (hc p hpl).1
      have hc2 := (hnx.cell (p := ⟨g, p * 2 + 1, none⟩) hg).trans (hc p hpl).2
      obtain ⟨fn, tmps, assign, body, hy, hR⟩ := hY _ p wr hJs (by rw [upto_length]; exact hlt)
      have hJn : upto (fun j => len - 1 - j) k ++ [p] = upto (fun j => len - 1 - j) (k + 1) := by rw [upto_succ, hpk]
      have HP := Lib.hid hp
      have HK := Lib.hid hpk
      have HJ := Lib.hid hJn
      clear hp hpk hp2 hJn
      gi_wp2
      refine hR.mono ?_
      rintro e W3 (⟨rfl, hJ3, hk3⟩ | ⟨rfl, hJx3⟩)
      · gi_wp2
        go_roundw
        case rel => exact ⟨k + 1, by omega, by have := HP.out; rw [show len - (k + 1) = p by omega], HJ.out ▸ hJ3, hnx.trans hk3⟩
        case measure => simp [intOf]
      · gi_wp2
        refine bodyPost_ret (results_none rfl _ _ _) rfl ?_
        exact ⟨⟨_, rfl⟩, .inr ⟨_, ⟨k + 1, by omega, HJ.out⟩, hJx3⟩⟩
    · have e : k = len := by omega
      subst e
      have e0 : ((k - k : Nat) : Int) - 1 = -1 := by omega
      rw [e0]
      clear e0
      gi_wp2
      go_end0
      exact ⟨⟨_, rfl⟩, .inl ⟨_, rfl, hJs⟩⟩

set_option maxRecDepth 100000 in
set_option maxHeartbeats 1000000 in
theorem back1_nil_in (n : Nat) (l Bs : Nat) (J : List Nat → World → Prop) (W : World) (hBs : W.cell? ⟨Bs, 0, none⟩ = some (.slice none 0 0)) (h0 : J [] W) :
    CallsIn Fence.wide n Try.prog 53 #[.func (.yield l) #[] #[], .pointer (some ⟨Bs, 0, none⟩)] W fun e W' => (∃ v, e = .returned v) ∧ J [] W' := by
  refine callsIn_of_wp Try.func53 rfl trivial ?_ rfl
  simp only [Try.ntmps53, List.size_toArray, List.length_cons, List.length_nil, Nat.reduceAdd, Nat.reduceSub, Array.replicate_succ, Array.replicate_zero, List.push_toArray, List.append_toArray, List.nil_append, List.cons_append]
  gi_wp2
  gi_loopw [3] (fun i wr => i = .int .i64 (-1) ∧ J [] wr) (fun _ _ => 0)
  case atStart => exact ⟨rfl, h0⟩
  case round =>
    obtain ⟨rfl, hJs⟩ := hrel
    gi_wp2
    go_end0
    exact ⟨⟨_, rfl⟩, hJs⟩

/-- The writes of a row, the last ahead. -/
theorem back_stops (n : Nat) (hn : 1 ≤ n) (Bs n₀ : Nat) (W : Value) (we : List (Int × Value)) (hlen : we.length ≤ 1000000) (hsl : Sls we) (w : World) (hBs : Bs < w.heap.size) (hn₀ : n₀ ≤ w.heap.size) (hBn : Bs < n₀)
    (hc : w.cell? ⟨Bs, 0, none⟩ = some W) (hI : w.ownsRow 0 78 2 W we.length (flat we)) (hlt : ∀ k, W.ownBlock = some k → k < n₀) :
    SeqStopsK Fence.wide n Try.prog 53 #[.pointer (some ⟨Bs, 0, none⟩)] (fun x : Nat => #[Value.int .i64 (x : Int), .agg #[.int .i64 (keyAt we x), valAt we x]]) (Below n₀) (fun ys => ys = upto (fun j => we.length - 1 - j) we.length)
      (fun pre => ∃ k, k ≤ we.length ∧ pre = upto (fun j => we.length - 1 - j) k) we.length w := fun l J Jx W2 hW _ _ hY h0 => by
  have hc' := (hW.cell (p := ⟨Bs, 0, none⟩) hBs).trans hc
  rcases hI.2 with ⟨rfl, hz⟩ | ⟨g, cap, cur, rfl, _, hg, _⟩
  · refine (back1_nil_in n l Bs J W2 hc' h0).mono fun e W' ⟨he, hj⟩ => ⟨he, .inl ⟨_, rfl, ?_⟩⟩
    rw [hz]; exact hj
  · have hgn := hlt g rfl
    refine back1_in n hn l Bs n₀ g we.length cap we hlen hgn J Jx hY W2 hc' hBn (fun j hj => ?_) h0
    have e1 := hI.cellAt (j * 2) (by omega)
    have e2 := hI.cellAt (j * 2 + 1) (by omega)
    have hb : g < w.heap.size := by omega
    rw [(hW.cell (p := ⟨g, j * 2, none⟩) hb), (hW.cell (p := ⟨g, j * 2 + 1, none⟩) hb), e1, e2]
    exact flat_get we j hsl hj
end Go.Proofs.Ytaaoabfmelpcpaa
