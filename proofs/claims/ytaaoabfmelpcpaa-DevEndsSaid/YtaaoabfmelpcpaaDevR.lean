/- Pick; a deed is done. -/
import Derived.Test.YtaaoabfmelpcpaaDevQ
namespace Go.Proofs.Ytaaoabfmelpcpaa
open Go.RowKit Go.Mo

def pickM (x n : Int) : Int := if n < 1 then 0 else x % n

theorem pick_calls (x n : Int) (w : World) (hn : n ≤ 9223372036854775807) : Calls Try.prog 15 #[.int .i64 x, .int .i64 n] w fun e w' => e = .returned (.int .i64 (pickM x n)) ∧ w = w' := by
  by_cases h : n < 1
  · rw [show pickM x n = 0 by simp [pickM, h]]
    go_enter Try.func15, Try.ntmps15
    go_wp2
    go_ret
    exact ⟨rfl, rfl⟩
  · have ee := Int.tmod_eq_emod (a := x) (b := n)
    have h0 : 0 ≤ x % n := Int.emod_nonneg _ (by omega)
    have h1 : x % n < n := Int.emod_lt_of_pos _ (by omega)
    have hnn : (n.natAbs : Int) = n := by omega
    have e : x.tmod n = x % n - (if 0 ≤ x ∨ n ∣ x then 0 else n) := by rw [ee]; split <;> simp <;> omega
    clear ee hnn
    have hb : -n < x.tmod n ∧ x.tmod n < n := by split at e <;> omega
    have hp : pickM x n = x % n := by simp [pickM, h]
    rw [hp]
    have hw : wrap64 (x.tmod n) = x.tmod n := by unfold wrap64; omega
    have hz : (n == 0) = false := beq_eq_false_iff_ne.2 (by omega)
    by_cases hs : x.tmod n < 0
    · have e2 : x % n = x.tmod n + n := by split at e <;> omega
      have hw2 : wrap64 (x.tmod n + n) = x.tmod n + n := by unfold wrap64; omega
      rw [e2]
      clear e e2 hp h1 h0
      go_enter Try.func15, Try.ntmps15
      go_wp2
      go_ret
      exact ⟨rfl, rfl⟩
    · have e2 : x % n = x.tmod n := by split at e <;> omega
      rw [e2]
      clear e e2 hp h1 h0
      go_enter Try.func15, Try.ntmps15
      go_wp2
      go_ret
      exact ⟨rfl, rfl⟩

structure Deed where
  what : Int
  at_ : Int
  n : Int
  bits : List Bool

def str (b : Bs) : Value := .string ⟨b.toArray⟩
def told (b : Bs) (e : Int) (is : Bool) : Value := .agg #[str b, .int .i64 e, .bool is]
def wrB (x : Deed) : Bs := if x.at_ = -2 then (sector x.n).tail else sector x.n
def doesT (o : Option Dv) (x : Deed) : Value :=
  if pickM x.what 8 = 0 then told [] (writeE' o (max x.at_ (-1)) (wrB x).length) true
  else if pickM x.what 8 = 1 then told (readB' o x.at_) (readE' o x.at_) false
  else if pickM x.what 8 = 2 then told [] (flushE' o) false
  else if pickM x.what 8 = 6 then told [] 0 (freshO' o x.at_)
  else told [] 0 false
def doesD (o : Option Dv) (x : Deed) : Option Dv :=
  if pickM x.what 8 = 0 then o.map fun d => writeD d (max x.at_ (-1)) (wrB x)
  else if pickM x.what 8 = 2 then o.map flushD
  else if pickM x.what 8 = 3 then o.map fun d => armD d x.n
  else if pickM x.what 8 = 4 then o.map fun d => { d with down := true }
  else if pickM x.what 8 = 5 then o.map fun d => wakeD d x.bits
  else o

def DoesPost (w : World) (p : Value) (S : Nat → Prop) (o : Option Dv) (x : Deed) (e : Ending) (w' : World) : Prop := e = .returned (doesT o x) ∧ OpH w w' p S (doesD o x)

theorem res11 {tmps : Array Value} {b : Nat} {W : World} {x y z : Value} (ht : tmps[4]?.getD undef = .pointer (some ⟨b, 0, none⟩)) (h : W.heap[b]? = some (.cells #[x, y, z] 32 (0, 0))) : (results Try.f11 tmps).run Try.prog W = .ok (.agg #[x, y, z]) W := by
  have s0 := cellB h 0
  have s1 := cellB h 1
  have s2 := cellB h 2
  simp only [List.getElem?_toArray, List.getElem?_cons_zero, List.getElem?_cons_succ] at s0 s1 s2
  simp [results, Try.results11, go_sem, ht, s0, s1, s2]

section
variable {w : World} {p : Value} {S : Nat → Prop} {o : Option Dv} {n : Nat}

set_option maxRecDepth 100000 in
set_option maxHeartbeats 1000000 in
theorem does_7 (h : Hd w p S o) (x : Deed) (a : Option Addr) (c : Nat) (hq : pickM x.what 8 = 7) :
    Calls Try.prog 11 #[p, .agg #[.int .i64 x.what, .int .i64 x.at_, .int .i64 x.n, .slice a x.bits.length c]] w (DoesPost w p S o x) := by
  have hP := Lib.hid (show ∀ w', Mod (fun _ => False) w w' → DoesPost w p S o x (.returned (told [] 0 false)) w' from fun w' hm => ⟨by simp [doesT, hq], by rw [show doesD o x = o by simp [doesD, hq]]; exact OpH.keep h hm⟩)
  have hpk := fun w => pick_calls x.what 8 w (by omega)
  rw [hq] at hpk
  have HK := Lib.hid hpk
  clear hpk h hq
  go_enter Try.func11, Try.ntmps11
  go_wp2_with (go_at_call 15; refine (HK.out _).mono ?_; rintro e w' ⟨rfl, rfl⟩)
  refine bodyPost_ret (v := told [] 0 false) (res11 rfl (x := str []) (y := .int .i64 0) (z := .bool false) ?_) rfl (hP.out _ ((((Mod.refl _ w).alloc _).alloc _).alloc _))
  have := allocB (newB (w.alloc (.cells #[.int .i64 x.what, .int .i64 x.at_, .int .i64 x.n, .slice a x.bits.length c] 36)) (.cells #[str [], .int .i64 0, .bool false] 32)) (.cells #[str [], .int .i64 0, .bool false] 32)
  rw [World.size_alloc] at this
  exact this
end
end Go.Proofs.Ytaaoabfmelpcpaa
