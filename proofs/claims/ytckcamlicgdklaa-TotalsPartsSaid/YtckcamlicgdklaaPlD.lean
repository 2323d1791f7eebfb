/- Addresses: equality of two. -/
import Derived.Test.YtckcamlicgdklaaTpB
namespace Go.Proofs.Ytckcamlicgdklaa
open Go.RowKit Go.Mo

/-- An address: is it a program's; 32 bytes. -/
structure Adr where
  prog : Bool
  hash : Bs
  len : hash.length = 32
deriving DecidableEq
def adrCells (a : Adr) : List Value := .bool a.prog :: a.hash.map by8
def adrV (a : Adr) : Value := .agg (adrCells a).toArray
theorem Try.c40 : Try.prog.cellsOf 40 = 33 := by kernel_rfl
theorem Try.c4 : Try.prog.cellsOf 4 = 1 := by kernel_rfl
theorem Try.k40 : Try.prog.keyTypeAt 3 40 = true := by kernel_rfl
theorem keyLits_bool {P : Program} {D : Nat} {t : TypeId} {b : Bool} (hu : P.underlying t = some .bool) : P.keyLits (D + 1) t [.bool b] = some [.bool b] := by
  unfold Program.keyLits
  simp only [hu]
theorem keyLits_adr (D : Nat) (a : Adr) : Try.prog.keyLits (D + 3) 40 (adrCells a) = some (.bool a.prog :: a.hash.map lit8) := by
  have hl := a.len
  have hm : (a.hash.map by8).length = 32 := by rw [List.length_map, hl]
  rw [keyLits_struct Try.underlying40 (by rw [Try.c40]; simp [adrCells, hl]) (by simp)]
  have h1 : ((adrCells a).drop 0).take (Try.prog.cellsOf 4) = [.bool a.prog] := by
    rw [Try.c4, List.drop_zero, adrCells]; rfl
  have h2 : ((adrCells a).drop 1).take (Try.prog.cellsOf 27) = a.hash.map by8 := by
    rw [Try.c27, adrCells, List.drop_one, List.tail_cons, List.take_of_length_le (by omega)]
  simp only [List.mapM_cons, List.mapM_nil, h1, h2, keyLits_policy D a.hash hl, keyLits_bool Try.underlying4]
  simp
theorem adr_formed (a : Adr) : (adrV a).formed Try.prog 40 = true := by
  have := a.len
  simp [Value.formed, adrV, Try.underlying40, Try.c40, adrCells, this]
theorem adr_lits (a b : Adr) : (Lit.bool a.prog :: a.hash.map lit8 = Lit.bool b.prog :: b.hash.map lit8) ↔ a = b := by
  constructor
  · intro h
    simp only [List.cons.injEq, Lit.bool.injEq] at h
    have hp := lit8_inj _ _ h.2
    have hn := h.1
    cases a; cases b
    simp only at hp hn
    subst hp; subst hn
    rfl
  · rintro rfl; rfl
theorem adr_eq (a b : Adr) (w : World) : (Op.equal 40 (adrV a) (adrV b)).run Try.prog w = .ok (decide (a = b)) w := by
  obtain ⟨r, hr, hiff⟩ := run_equalIn_deep (P := Try.prog) 9997 3 40 Try.k40 w 3 3 (adrV a) (adrV b) _ _ (adr_formed a) (adr_formed b) (by simpa [adrV, Value.cells] using keyLits_adr 0 a) (by simpa [adrV, Value.cells] using keyLits_adr 0 b)
  rw [adr_lits] at hiff
  have : r = decide (a = b) := by
    cases r with
    | true => simp [hiff.1 rfl]
    | false =>
      have : ¬ a = b := fun e => by have := hiff.2 e; cases this
      simp [this]
  rw [← this]
  exact hr
theorem size40 : (Try.prog.info? 40).map (·.size) = some 33 := by kernel_rfl
theorem adrCells_length (a : Adr) : (adrCells a).length = 33 := by simp [adrCells, a.len]
theorem adrCells_one (a : Adr) : ∀ u ∈ adrCells a, u.oneCell' = true := by
  intro u hu
  simp only [adrCells, List.mem_cons, List.mem_map] at hu
  rcases hu with rfl | ⟨y, _, rfl⟩ <;> rfl
end Go.Proofs.Ytckcamlicgdklaa
