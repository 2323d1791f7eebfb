/- Wide numbers: Wide, Plus. -/
import Derived.Test.YtckcamlicgdklaaKit
import Derived.Test.YtckcamlicgdklaaProg
import Derived.Laws.Externs
import Derived.Lib.Hide
namespace Go.Proofs.Ytckcamlicgdklaa
open Go.RowKit Go.Mo

def two64 : Int := 18446744073709551616
/-- The two words of a wide number that is z, up to 2^128. -/
def hiW (z : Int) : Int := wrap64 (z / 18446744073709551616)
def loW (z : Int) : Int := z % 18446744073709551616
def wideV (z : Int) : Value := .agg #[.int .i64 (hiW z), .int .u64 (loW z)]

theorem hi_add (a b : Int) : hiW (a + b) = wrap64 ((hiW a % 18446744073709551616 + hiW b % 18446744073709551616 + (loW a + loW b) / 18446744073709551616) % 18446744073709551616) := by
  unfold hiW loW wrap64; omega
theorem lo_add (a b : Int) : loW (a + b) = (loW a + loW b) % 18446744073709551616 := by unfold loW; omega

theorem wrap_u64 (n : Int) : IntKind.u64.wrap n = n % 18446744073709551616 := by simp [IntKind.wrap, IntKind.bits, IntKind.signed]

theorem res8 {tmps : Array Value} {b : Nat} {W : World} {x y : Value} (ht : tmps[2]?.getD undef = .pointer (some ⟨b, 0, none⟩)) (h : W.heap[b]? = some (.cells #[x, y] 57 (0, 0))) : (results Try.f8 tmps).run Try.prog W = .ok (.agg #[x, y]) W := by
  have s0 := cellB h 0
  have s1 := cellB h 1
  simp only [List.getElem?_toArray, List.getElem?_cons_zero, List.getElem?_cons_succ] at s0 s1
  simp [results, Try.results8, go_sem, ht, s0, s1]
theorem res7 {tmps : Array Value} {b : Nat} {W : World} {x y : Value} (ht : tmps[2]?.getD undef = .pointer (some ⟨b, 0, none⟩)) (h : W.heap[b]? = some (.cells #[x, y] 57 (0, 0))) : (results Try.f7 tmps).run Try.prog W = .ok (.agg #[x, y]) W := by
  have s0 := cellB h 0
  have s1 := cellB h 1
  simp only [List.getElem?_toArray, List.getElem?_cons_zero, List.getElem?_cons_succ] at s0 s1
  simp [results, Try.results7, go_sem, ht, s0, s1]

theorem wide_calls (n : Int) (h0 : -9223372036854775808 ≤ n) (h1 : n ≤ 9223372036854775807) (w : World) : Calls Try.prog 8 #[.int .i64 n] w fun e w' => e = .returned (wideV n) ∧ Mod (fun _ => False) w w' := by
  go_enter Try.func8, Try.ntmps8
  go_wp2_with fail
  have e1 : n / 9223372036854775808 = hiW n := by unfold hiW wrap64; omega
  have e2 : IntKind.u64.wrap n = loW n := wrap_u64 n
  rw [e1, e2]
  exact bodyPost_ret (v := wideV n) (res8 rfl (newB w _)) rfl ⟨rfl, (Mod.refl _ w).alloc _⟩

theorem add64_call (x y c : Int) (hx : 0 ≤ x) (hy : 0 ≤ y) (hc0 : 0 ≤ c) (hc : c ≤ 1) (w : World) :
    (callFunc 20 #[.int .u64 x, .int .u64 y, .int .u64 c]).run Try.prog w = .ok (.value (.tuple #[.int .u64 ((x + y + c) % 18446744073709551616), .int .u64 ((x + y + c) / 18446744073709551616)])) w := by
  rw [run_callFunc_extern (fn := Try.f20) (e := add64Entry) (by kernel_rfl) (by kernel_rfl) (by kernel_rfl) (by kernel_rfl) (by kernel_rfl), run_add64 x y c hx hy hc0 hc]
  rfl

/-- v is a slice of the wide numbers zs. -/
def WideAt (w : World) (v : Value) (zs : List Int) : Prop :=
  ∃ a c, v = .slice a zs.length c ∧ ∀ i z, zs[i]? = some z → ∃ L off, a = some ⟨L, off, none⟩ ∧ L < w.heap.size ∧ w.cell? ⟨L, off + i * 2, none⟩ = some (.int .i64 (hiW z)) ∧ w.cell? ⟨L, off + i * 2 + 1, none⟩ = some (.int .u64 (loW z))

theorem plus_calls (w : World) (v : Value) (zs : List Int) (h : WideAt w v zs) (hn : zs.length ≤ 4611686018427387904) : Calls Try.prog 7 #[v] w fun e w' => e = .returned (wideV zs.sum) ∧ Mod (fun _ => False) w w' := by
  obtain ⟨a, c, rfl, hel⟩ := h
  have HE := Lib.hid hel
  clear hel
  go_enter Try.func7, Try.ntmps7
  go_wp2_with fail
  go_loopw [11] (fun i wr => ∃ k : Nat, k ≤ zs.length ∧ i = .int .i64 k ∧ wr.heap[w.heap.size]? = some (.cells #[.int .i64 (hiW (zs.take k).sum), .int .u64 (loW (zs.take k).sum)] 57 (0, 0)) ∧ Mod (fun _ => False) w wr) (fun i _ => zs.length - (intOf i).toNat)
  case atStart => exact ⟨0, by omega, rfl, by simpa [hiW, loW, wrap64] using newB w (.cells #[.int .i64 0, .int .u64 0] 57), (Mod.refl _ w).alloc _⟩
  case round =>
    obtain ⟨k, hk, rfl, hb, hm⟩ := hrel
    have s0 := cellB hb 0
    have s1 := cellB hb 1
    have f0 := frozB hb 0
    have f1 := frozB hb 1
    simp only [List.getElem?_toArray, List.getElem?_cons_zero, List.getElem?_cons_succ] at s0 s1
    by_cases hlt : k < zs.length
    · obtain ⟨z, hz⟩ : ∃ z, zs[k]? = some z := ⟨_, List.getElem?_eq_getElem hlt⟩
      obtain ⟨L, off, rfl, hL, k0, k1⟩ := HE.out k z hz
      have e0 := (hm.cell (p := ⟨L, off + k * 2, none⟩) hL (fun q => q)).trans k0
      have e1 := (hm.cell (p := ⟨L, off + k * 2 + 1, none⟩) hL (fun q => q)).trans k1
      have hs : (zs.take (k + 1)).sum = (zs.take k).sum + z := by rw [List.take_add_one, hz]; simp
      have sa0 : ∀ o, (wr.alloc o).cell? ⟨w.heap.size, 0, none⟩ = some (.int .i64 (hiW (zs.take k).sum)) := fun o => (cellB (allocB hb o) 0).trans (by simp)
      have sa1 : ∀ o, (wr.alloc o).cell? ⟨w.heap.size, 1, none⟩ = some (.int .u64 (loW (zs.take k).sum)) := fun o => (cellB (allocB hb o) 1).trans (by simp)
      have fa0 : ∀ o, (wr.alloc o).frozen? ⟨w.heap.size, 0, none⟩ = false := fun o => frozB (allocB hb o) 0
      have fa1 : ∀ o, (wr.alloc o).frozen? ⟨w.heap.size, 1, none⟩ = false := fun o => frozB (allocB hb o) 1
      have ha1 : ∀ W, (callFunc 20 #[.int .u64 (loW (zs.take k).sum), .int .u64 (loW z), .int .u64 0]).run Try.prog W = .ok (.value (.tuple #[.int .u64 (loW ((zs.take k).sum + z)), .int .u64 ((loW (zs.take k).sum + loW z) / 18446744073709551616)])) W := fun W => by
        rw [add64_call _ _ 0 (by unfold loW; omega) (by unfold loW; omega) (by omega) (by omega) W, lo_add, Int.add_zero]
      have ha2 : ∀ W, (callFunc 20 #[.int .u64 (IntKind.u64.wrap (hiW (zs.take k).sum)), .int .u64 (IntKind.u64.wrap (hiW z)), .int .u64 ((loW (zs.take k).sum + loW z) / 18446744073709551616)]).run Try.prog W = .ok (.value (.tuple #[.int .u64 ((hiW (zs.take k).sum % 18446744073709551616 + hiW z % 18446744073709551616 + (loW (zs.take k).sum + loW z) / 18446744073709551616) % 18446744073709551616), .int .u64 ((hiW (zs.take k).sum % 18446744073709551616 + hiW z % 18446744073709551616 + (loW (zs.take k).sum + loW z) / 18446744073709551616) / 18446744073709551616)])) W := fun W => by
        rw [wrap_u64, wrap_u64, add64_call _ _ _ (by omega) (by omega) (by unfold loW; omega) (by unfold loW; omega) W]
      have HH := Lib.hid (And.intro hb (And.intro hm hs))
      clear hb hm hs k0 k1
      go_wp2_with fail
      go_roundw
      case rel =>
        refine ⟨k + 1, by omega, by simp, ?_, ((HH.out.2.1.alloc _).setCell (by simp) _).setCell (by simp) _⟩
        rw [setB (setB (allocB HH.out.1 _) 0 _) 1 _, HH.out.2.2, hi_add]
        simp
      case measure => simp [intOf]; omega
    · have e : k = zs.length := by omega
      subst e
      rw [List.take_length] at hb s0 s1
      have HH := Lib.hid (And.intro hb hm)
      clear hb hm
      go_wp2_with fail
      refine bodyPost_ret (v := wideV zs.sum) (res7 rfl (?_ : _ = some (Obj.cells #[.int .i64 (hiW zs.sum), .int .u64 (loW zs.sum)] 57 (0, 0)))) rfl ⟨rfl, (HH.out.2.setCell (by simp) _).setCell (by simp) _⟩
      rw [setB (setB HH.out.1 0 _) 1 _]; rfl
end Go.Proofs.Ytckcamlicgdklaa
