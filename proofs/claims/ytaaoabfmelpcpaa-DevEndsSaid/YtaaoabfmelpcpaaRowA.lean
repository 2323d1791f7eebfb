/- What the rows' proofs share: a deed's bits out of their reading. -/
import Derived.Test.YtaaoabfmelpcpaaRows
import Derived.Test.YtaaoabfmelpcpaaDevY
import Derived.ProofKit
import Derived.SizedLaws
import Derived.Deep.Grids
import Derived.Lib.SmallJoins
namespace Go.Proofs.Ytaaoabfmelpcpaa
open Go.ChangeShapes Go.WideShapes Go.ChangeAt Go.RowKit Go.Joins Go.Deep Go.Mo

theorem Try.own : ownKnob Try.prog.godebug = none := by kernel_rfl
theorem Try.laidOut : laidOutB Try.prog = true := by kernel_rfl
theorem Try.cells36' : Try.prog.cellsOf 36 = 4 := by kernel_rfl
theorem Try.cells4' : Try.prog.cellsOf 4 = 1 := by kernel_rfl
theorem Try.bytes4' : Try.prog.bytesOf 4 = 1 := by kernel_rfl

/-- A deed's bits, out of their reading. -/
theorem open_bits {H : Type} {enc : TypeId × Value → H} {W : World} {base : Nat} {held : Bool} {fuel : Nat} {v : Value} {y : DataW H × List MemPlace} (h : DataW.trod enc Try.prog W base (fun _ => true) held fuel 34 [v] = some y) :
    ∃ ad cap bits, v = .slice ad (List.length bits) cap ∧ Bits W (.slice ad (List.length bits) cap) bits ∧ (bits = [] ∨ ∃ el sp, y.1 = .slice el sp ∧ el.length = List.length bits) := by
  rcases open_bools Try.underlying34 Try.underlying4 Try.cells4' h with ⟨hcs, hx⟩ | ⟨ad, len, cap, B, hcs, hb, hl, hm, hx, hcell⟩
  · simp at hcs
    exact ⟨none, 0, [], hcs, ⟨none, 0, rfl, .inl ⟨rfl, rfl⟩⟩, .inl rfl⟩
  · simp at hcs
    have e : ((List.range len).map B).length = len := by simp
    refine ⟨some ad, cap, (List.range len).map B, by rw [e]; exact hcs, ⟨_, _, rfl, .inr ⟨ad, rfl, fun j x hx => ?_⟩⟩, .inr ⟨_, _, by rw [hx]; rfl, by simp⟩⟩
    have hj : j < len := by have := (List.getElem?_eq_some_iff.1 hx).1; simpa using this
    have h1 := hcell j (by omega)
    have h2 : B j = x := by simpa [hj] using hx
    rw [h2] at h1
    have h3 := World.block_lt_of_cell? W _ h1
    rw [add_block] at h3
    exact ⟨h3, h1⟩
end Go.Proofs.Ytaaoabfmelpcpaa
