/- Any deed is done. -/
import Derived.Test.YtaaoabfmelpcpaaDevV
namespace Go.Proofs.Ytaaoabfmelpcpaa
open Go.RowKit Go.Mo

theorem pickM_eight (x : Int) : pickM x 8 = 0 ∨ pickM x 8 = 1 ∨ pickM x 8 = 2 ∨ pickM x 8 = 3 ∨ pickM x 8 = 4 ∨ pickM x 8 = 5 ∨ pickM x 8 = 6 ∨ pickM x 8 = 7 := by
  unfold pickM
  rw [if_neg (by omega)]
  omega

section
variable {w : World} {p : Value} {S : Nat → Prop} {o : Option Dv} {n : Nat}

theorem does_calls (h : Hd w p S o) (hi : InvO o n) (hn : n < 1000000) (x : Deed) (hxn : x.n ≤ 9223372036854775807) (a : Option Addr) (c : Nat) (hbl : Bits w (.slice a x.bits.length c) x.bits) (hl : x.bits.length ≤ 140737488351232) :
    Calls Try.prog 11 #[p, .agg #[.int .i64 x.what, .int .i64 x.at_, .int .i64 x.n, .slice a x.bits.length c]] w (DoesPost w p S o x) := by
  rcases pickM_eight x.what with q | q | q | q | q | q | q | q
  · exact does_0 h hi hn x a c q
  · exact does_1 h hi x a c q
  · exact does_2 h x a c q
  · exact does_3 h x hxn a c q
  · exact does_4 h x a c q
  · exact does_5 h x a c hbl hl q
  · exact does_6 h x a c q
  · exact does_7 h x a c q

theorem invO_does (hi : InvO o n) (x : Deed) : InvO (doesD o x) (n + 1) := by
  have hm : InvO o (n + 1) := fun d hd => (hi d hd).mono (by omega)
  unfold doesD
  split
  · intro d hd
    obtain ⟨d0, e, rfl⟩ := Option.map_eq_some_iff.1 hd
    exact (hi d0 e).write _ _
  split
  · intro d hd
    obtain ⟨d0, e, rfl⟩ := Option.map_eq_some_iff.1 hd
    exact (hm d0 e).flush
  split
  · intro d hd
    obtain ⟨d0, e, rfl⟩ := Option.map_eq_some_iff.1 hd
    exact (hm d0 e).arm _
  split
  · intro d hd
    obtain ⟨d0, e, rfl⟩ := Option.map_eq_some_iff.1 hd
    exact (hm d0 e).crash
  split
  · intro d hd
    obtain ⟨d0, e, rfl⟩ := Option.map_eq_some_iff.1 hd
    exact (hm d0 e).wake _
  · exact hm
end
end Go.Proofs.Ytaaoabfmelpcpaa
