/- book.totals: plain parts of its walk. -/
import Derived.Test.YtckcamlicgdklaaTpI
import Derived.Test.YtckcamlicgdklaaPlO
import Derived.Great.BuildSlice
namespace Go.Proofs.Ytckcamlicgdklaa
open Go.RowKit Go.Mo Go.Sort

theorem info88 : (Try.prog.info? 88).map (fun i => (i.zero, i.size, i.bytes)) = some (some (.agg zero88), 35, 64) := by kernel_rfl
def shownN (w : World) (r : Nat) : Nat := match w.heap[r]? with | some (.mapIter _ _ seen _) => seen.size | _ => 0
theorem shown_iterN {w : World} {r b n : Nat} {seen : List Nat} (h : w.heap[r]? = some (iterN b n seen)) : shownN w r = seen.length := by simp [shownN, h, iterN]
theorem nodup_snoc {l : List Nat} {i : Nat} (h : l.Nodup) (hi : i ∉ l) : (l ++ [i]).Nodup := by
  rw [List.nodup_append]
  refine ⟨h, by simp, ?_⟩
  intro a ha b hb
  simp at hb
  subst hb
  rintro rfl
  exact hi ha
theorem seen_le : ∀ (n : Nat) (seen : List Nat), seen.Nodup → (∀ i ∈ seen, i < n) → seen.length ≤ n
  | 0, seen, _, h => by
    cases seen with
    | nil => simp
    | cons x r => exact absurd (h x (by simp)) (by omega)
  | n + 1, seen, hnd, h => by
    by_cases hm : n ∈ seen
    · have h1 := seen_le n (seen.erase n) (hnd.erase n) (fun i hi => by
        have := hnd.mem_erase_iff.1 hi
        have h2 := h i this.2
        have h3 := this.1
        omega)
      rw [List.length_erase_of_mem hm] at h1
      omega
    · have h1 := seen_le n seen hnd (fun i hi => by
        have h2 := h i hi
        have h3 : i ≠ n := fun e => hm (e ▸ hi)
        omega)
      omega
/-- What of a book was shown, and is not 0. -/
def sel (l : List (Nm × Int)) (seen : List Nat) : List (Nm × Int) := (seen.filterMap (l[·]?)).filter (nzW ·.2)
theorem sel_snoc {l : List (Nm × Int)} {seen : List Nat} {i : Nat} {x : Nm × Int} (h : l[i]? = some x) : sel l (seen ++ [i]) = sel l seen ++ (if nzW x.2 then [x] else []) := by
  unfold sel
  rw [List.filterMap_append, List.filter_append]
  congr 1
  simp only [List.filterMap_cons, List.filterMap_nil, h]
  by_cases hz : nzW x.2 = true <;> simp [hz]
theorem range_get (l : List (Nm × Int)) : (List.range l.length).filterMap (l[·]?) = l := by
  induction l with
  | nil => rfl
  | cons x l ih =>
    rw [List.length_cons, List.range_succ_eq_map, List.filterMap_cons]
    simp only [List.getElem?_cons_zero, List.filterMap_map]
    congr 1
theorem sel_all {l : List (Nm × Int)} {seen : List Nat} (hnd : seen.Nodup) (hlt : ∀ i ∈ seen, i < l.length) (hall : ∀ i, i < l.length → i ∈ seen) : (sel l seen).Perm (l.filter (nzW ·.2)) := by
  have hp : seen.Perm (List.range l.length) := (List.perm_ext_iff_of_nodup hnd List.nodup_range).2 fun i => ⟨fun h => List.mem_range.2 (hlt i h), fun h => hall i (List.mem_range.1 h)⟩
  have := (hp.filterMap (l[·]?)).filter (nzW ·.2)
  rwa [range_get] at this
theorem sel_le (l : List (Nm × Int)) (seen : List Nat) : (sel l seen).length ≤ seen.length :=
  Nat.le_trans (List.length_filter_le _ _) (List.length_filterMap_le _ _)
/-- The cells of totals. -/
def totsCells (ds : List (Nm × Int)) : List Value := ds.flatMap totCells
theorem totCells_length (x : Nm × Int) : (totCells x).length = 35 := by simp [totCells, nmCells, x.1.len]
theorem totsCells_length (ds : List (Nm × Int)) : (totsCells ds).length = ds.length * 35 := by
  induction ds with
  | nil => rfl
  | cons x ds ih => simp only [totsCells, List.flatMap_cons, List.length_append, totCells_length, List.length_cons] at *; omega
theorem totCells_one (x : Nm × Int) : ∀ u ∈ totCells x, u.oneCell' = true := by
  intro u hu
  simp only [totCells, nmCells, List.mem_append, List.mem_map, List.mem_cons, List.not_mem_nil, or_false] at hu
  rcases hu with (⟨y, _, rfl⟩ | rfl) | (rfl | rfl) <;> rfl
theorem ownsRow_block {w w' : World} {B s n : Nat} {e : TypeId} {v : Value} {xs : List Value} (h : w.ownsRow B e s v n xs) (hb : ∀ k, v.ownBlock = some k → w'.heap[k]? = w.heap[k]?) : w'.ownsRow B e s v n xs := by
  obtain ⟨hl, ⟨rfl, rfl⟩ | ⟨g, cap, cur, rfl, h1, h2, h3⟩⟩ := h
  · exact ⟨hl, .inl ⟨rfl, rfl⟩⟩
  · exact ⟨hl, .inr ⟨g, cap, cur, rfl, h1, (hb g rfl).trans h2, h3⟩⟩
theorem ownsRow_lt {w : World} {B s n : Nat} {e : TypeId} {v : Value} {xs : List Value} (h : w.ownsRow B e s v n xs) {k : Nat} (hk : v.ownBlock = some k) : k < w.heap.size := by
  obtain ⟨hl, ⟨rfl, rfl⟩ | ⟨g, cap, cur, rfl, h1, h2, h3⟩⟩ := h
  · cases hk
  · cases hk; exact ltB h2
/-- v is a row of totals that was made behind the world w. -/
def OutAt (w wr : World) (v : Value) (ds : List (Nm × Int)) : Prop := wr.ownsRow 0 88 35 v ds.length (totsCells ds) ∧ ∀ k, v.ownBlock = some k → w.heap.size < k
theorem OutAt.tr {w wr w' : World} {v : Value} {ds : List (Nm × Int)} {S : Nat → Prop} (h : OutAt w wr v ds) (hm : Mod S wr w') (hS : ∀ k, w.heap.size < k → ¬ S k) : OutAt w w' v ds :=
  ⟨ownsRow_block h.1 (fun k hk => hm.block k (ownsRow_lt h.1 hk) (hS k (h.2 k hk))), h.2⟩
theorem wpList_execW {ops : Array Oper} {rest : List Oper} {o : Oper} {a : Act} {w w' : World} {Q : Exit → Act → World → Prop} (hgd : o.guard = none) {v : Value} (hv : (execOp a.eval o).run Try.prog w = .ok (.value v) w') (h : wpList Try.prog ops Q rest (a.put o.dst v) w') : wpList Try.prog ops Q (o :: rest) a w := by
  refine wpList_plain hgd fun K hK => ?_
  unfold Oper.wp
  rw [hv]
  exact hK _ _ h
theorem fill_whole (cs : List Value) (z : Array Value) (hz : z.size = cs.length) (sl : Nat → Option (Nat × Nat)) (h0 : sl 0 = some (0, cs.length)) : Instr.fill sl z [(0, .agg cs.toArray)] = some cs.toArray := by
  have hc0 : (Value.agg cs.toArray).cells = cs.toArray := rfl
  simp only [Instr.fill, h0, hc0]
  rw [if_neg (by simp [hz])]
  have hf : (cs.toArray.zipIdx.foldl (fun acc x => acc.setIfInBounds (0 + x.2) x.1) z) = (cs.zipIdx 0).foldl (fun acc p => acc.setIfInBounds (0 + p.2) p.1) z := by
    simp [Array.foldl]
  rw [hf]
  congr 1
  apply Array.ext_getElem?
  intro i
  rw [foldl_set 0 cs 0 z i (by omega)]
  simp only [Nat.zero_add, Nat.add_zero, Nat.zero_le, true_and, Nat.sub_zero, List.getElem?_toArray]
  by_cases h : i < cs.length
  · rw [if_pos h]
  · rw [if_neg h, Array.getElem?_eq_none (by omega), List.getElem?_eq_none (by omega)]
theorem exec_slice1 (act : Act) (o : Oper) {w : World} {a : Operand} (ho : o.op = .buildSlice 33 1 #[(0, a)]) (x : Nm × Int) (ha : act.eval a = .agg (totCells x).toArray) : (execOp act.eval o).run Try.prog w = .ok (.value (.slice (some ⟨w.heap.size, 0, none⟩) 1 1)) (w.alloc (.cells (totCells x).toArray 88)) := by
  obtain ⟨i88, hi, hz0, hz1, hz2⟩ := info_parts info88
  unfold execOp
  simp only [ho, List.map_toArray, List.map_cons, List.map_nil, ha]
  simp only [Sem.run_bind, run_buildSlice (P := Try.prog) w 33 88 1 #[(0, .agg (totCells x).toArray)] (totCells x).toArray i88 _ Try.underlying33 hi hz0 (by rw [hz1]; omega) (by rw [hz1]; omega) (by
    refine fill_whole (totCells x) _ ?_ _ ?_
    · simp [hz1, totCells_length]
    · simp [hz1, totCells_length]), Result.andThen_ok, Sem.run_pure]
end Go.Proofs.Ytckcamlicgdklaa
