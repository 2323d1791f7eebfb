/- Laws of rows whose cells are no literals: build, store, load, one step of a list. -/
import Derived.Test.YtckcamlicgdklaaTpD
import Derived.Laws.Tables
import Derived.Deep.MidRow
namespace Go.Proofs.Ytckcamlicgdklaa
open Go.RowKit Go.Mo

theorem foldl_set (off : Nat) : ∀ (xs : List Value) (k : Nat) (cells : Array Value) (i : Nat), off + k + xs.length ≤ cells.size →
    ((xs.zipIdx k).foldl (fun cs p => cs.setIfInBounds (off + p.2) p.1) cells)[i]? = if off + k ≤ i ∧ i < off + k + xs.length then xs[i - (off + k)]? else cells[i]?
  | [], k, cells, i, _ => by simp; omega
  | x :: xs, k, cells, i, h => by
    simp only [List.length_cons] at h
    rw [List.zipIdx_cons, List.foldl_cons, foldl_set off xs (k + 1) _ i (by simp; omega)]
    by_cases h1 : i = off + k
    · subst h1
      rw [if_neg (by omega), if_pos (by simp)]
      simp [Array.getElem?_setIfInBounds]; omega
    · by_cases h2 : off + k ≤ i ∧ i < off + k + (xs.length + 1)
      · rw [if_pos (by omega), if_pos (by simpa using h2)]
        rw [show i - (off + k) = (i - (off + (k + 1))) + 1 by omega, List.getElem?_cons_succ]
      · rw [if_neg (by omega), if_neg (by simpa using h2), Array.getElem?_setIfInBounds, if_neg (by omega)]

theorem wpList_exec {ops : Array Oper} {rest : List Oper} {o : Oper} {a : Act} {w : World} {Q : Exit → Act → World → Prop} (hgd : o.guard = none) {v : Value} (hv : (execOp a.eval o).run Try.prog w = .ok (.value v) w) (h : wpList Try.prog ops Q rest (a.put o.dst v) w) : wpList Try.prog ops Q (o :: rest) a w := by
  refine wpList_plain hgd fun K hK => ?_
  unfold Oper.wp
  rw [hv]
  exact hK _ _ h
theorem wpList_execS {ops : Array Oper} {rest : List Oper} {o : Oper} {a : Act} {w w' : World} {Q : Exit → Act → World → Prop} (hgd : o.guard = none) (hv : (execOp a.eval o).run Try.prog w = .ok .skip w') (h : wpList Try.prog ops Q rest (a.put o.dst undef) w') : wpList Try.prog ops Q (o :: rest) a w := by
  refine wpList_plain hgd fun K hK => ?_
  unfold Oper.wp
  rw [hv]
  exact hK _ _ h

def zero93 : Array Value := (List.replicate 32 (Value.int .u8 0) ++ [Value.string ⟨#[]⟩]).toArray
theorem built_eq (parts : List (Nat × Value)) : Try.prog.built 93 parts = Instr.fill (#[(0, 32), (32, 1)][·]?) zero93 parts := by kernel_rfl

theorem built93 (a : Nm) : Try.prog.built 93 [(0, .agg (a.policy.map by8).toArray), (1, .string ⟨a.name.toArray⟩)] = some (nmCells a).toArray := by
  have hl := a.len
  have hz : zero93.size = 33 := by simp [zero93]
  rw [built_eq]
  have e0 : (#[(0, 32), (32, 1)] : Array (Nat × Nat))[0]? = some (0, 32) := rfl
  have e1 : (#[(0, 32), (32, 1)] : Array (Nat × Nat))[1]? = some (32, 1) := rfl
  have hc0 : (Value.agg (a.policy.map by8).toArray).cells = (a.policy.map by8).toArray := rfl
  have hc1 : (Value.string ⟨a.name.toArray⟩).cells = #[.string ⟨a.name.toArray⟩] := rfl
  simp only [Instr.fill, e0, e1, hc0, hc1]
  have hs0 : (a.policy.map by8).toArray.size = 32 := by simp [hl]
  rw [if_neg (by simp [hl, hz])]
  have hf : ((a.policy.map by8).toArray.zipIdx.foldl (fun cs x => cs.setIfInBounds (0 + x.2) x.1) zero93) = ((a.policy.map by8).zipIdx 0).foldl (fun cs p => cs.setIfInBounds (0 + p.2) p.1) zero93 := by
    simp [Array.foldl]
  rw [hf]
  have hget := foldl_set 0 (a.policy.map by8) 0 zero93
  have hsz : (((a.policy.map by8).zipIdx 0).foldl (fun cs p => cs.setIfInBounds (0 + p.2) p.1) zero93).size = 33 := by
    rw [← hz]
    generalize (a.policy.map by8).zipIdx 0 = l
    generalize zero93 = z
    induction l generalizing z with
    | nil => rfl
    | cons x l ih => rw [List.foldl_cons, ih]; simp
  rw [if_neg (by rw [hsz]; simp)]
  generalize hM : ((a.policy.map by8).zipIdx 0).foldl (fun cs p => cs.setIfInBounds (0 + p.2) p.1) zero93 = M at hget hsz ⊢
  congr 1
  have hl2 : (Array.foldl (fun cs (x : Value × Nat) => cs.setIfInBounds (32 + x.2) x.1) M #[Value.string ⟨a.name.toArray⟩].zipIdx) = M.setIfInBounds 32 (.string ⟨a.name.toArray⟩) := rfl
  rw [hl2]
  apply Array.ext_getElem?
  intro i
  rw [Array.getElem?_setIfInBounds, hsz]
  have hg := hget i (by simp [hl, hz])
  skip
  simp only [Nat.zero_add, Nat.zero_le, true_and, List.length_map, hl, Nat.add_zero, Nat.sub_zero] at hg
  by_cases h1 : 32 = i
  · subst h1
    simp [nmCells, hl]
  · rw [if_neg h1, hg]
    by_cases h2 : i < 32
    · rw [if_pos h2]
      simp only [nmCells, List.getElem?_toArray]
      rw [List.getElem?_append_left (by simp [hl, h2])]
    · rw [if_neg h2]
      rw [Array.getElem?_eq_none (by omega)]
      simp only [nmCells, List.getElem?_toArray]
      rw [List.getElem?_eq_none (by simp [hl]; omega)]
end Go.Proofs.Ytckcamlicgdklaa
