/- Rows of entries: built, appended; slices of outputs. -/
import Derived.Test.YtckcamlicgdklaaAwA
namespace Go.Proofs.Ytckcamlicgdklaa
open Go.RowKit Go.Mo Go.Sort

theorem fill_one (cs : List Value) (z : Array Value) (off k : Nat) (hz : off + cs.length = z.size) (sl : Nat → Option (Nat × Nat)) (h0 : sl k = some (off, cs.length)) : Instr.fill sl z [(k, .agg cs.toArray)] = some (z.toList.take off ++ cs).toArray := by
  have hc0 : (Value.agg cs.toArray).cells = cs.toArray := rfl
  simp only [Instr.fill, h0, hc0]
  rw [if_neg (by simp; omega)]
  have hf : (cs.toArray.zipIdx.foldl (fun acc x => acc.setIfInBounds (off + x.2) x.1) z) = (cs.zipIdx 0).foldl (fun acc p => acc.setIfInBounds (off + p.2) p.1) z := by
    simp [Array.foldl]
  rw [hf]
  congr 1
  apply Array.ext_getElem?
  intro i
  rw [foldl_set off cs 0 z i (by omega)]
  have hm : min off z.toList.length = off := by simp; omega
  simp only [Nat.add_zero, List.getElem?_toArray]
  rw [List.getElem?_append, List.length_take, hm]
  by_cases h : off ≤ i ∧ i < off + cs.length
  · rw [if_pos (by simpa using h), if_neg (by omega)]
  · rw [if_neg (by simpa using h)]
    by_cases h2 : i < off
    · rw [if_pos h2, List.getElem?_take, if_pos h2, Array.getElem?_toList]
    · rw [if_neg (by omega), Array.getElem?_eq_none (by omega), List.getElem?_eq_none (by omega)]
def zpre : List Value := List.replicate 32 (.int .u8 0) ++ [.int .i64 0]
/-- An entry of no place. -/
def zEnt (x : Ent) : Ent where
  pre := zpre
  addr := x.addr
  val := x.val
  post := x.post
  hpre := rfl
  hpost := x.hpost
  ones := by
    intro u hu
    simp only [zpre, List.mem_append, List.mem_cons, List.mem_replicate, List.not_mem_nil, or_false] at hu
    rcases hu with (⟨_, rfl⟩ | rfl) | h
    · rfl
    · rfl
    · exact x.ones u (List.mem_append_right _ h)
def z51v : Array Value := (zpre ++ Value.bool false :: (List.replicate 32 (Value.int .u8 0) ++ [Value.int .i64 0, Value.slice none 0 0, Value.int .i64 0] ++ List.replicate 32 (Value.int .u8 0) ++ [Value.slice none 0 0])).toArray
theorem zero51 : ∃ z : Array Value, (∀ parts, Try.prog.built 51 parts = Instr.fill (#[(0, 33), (33, 69)][·]?) z parts) ∧ z.size = 102 ∧ z.toList.take 33 = zpre := ⟨z51v, fun _ => by kernel_rfl, by kernel_rfl, by kernel_rfl⟩
theorem built51 (x : Ent) (a : Option Addr) (c : Nat) : Try.prog.built 51 [(1, .agg (outCells x a c).toArray)] = some (entCells (zEnt x) a c).toArray := by
  obtain ⟨z, hz, hs, ht⟩ := zero51
  rw [hz, fill_one (outCells x a c) z 33 1 (by rw [outCells_length, hs]) _ (by rw [outCells_length]; rfl), ht]
  rfl
theorem flat_get {α : Type} (f : α → List Value) (n : Nat) (hf : ∀ x, (f x).length = n) : ∀ (l : List α) (i : Nat) (x : α), l[i]? = some x → ∀ j u, (f x)[j]? = some u → (l.flatMap f)[i * n + j]? = some u
  | [], i, x, h => by simp at h
  | y :: l, 0, x, h => by
    intro j u hu
    simp at h; subst h
    rw [List.flatMap_cons, List.getElem?_append_left (by have := (List.getElem?_eq_some_iff.1 hu).1; rw [hf] at this ⊢; omega), Nat.zero_mul, Nat.zero_add]
    exact hu
  | y :: l, i + 1, x, h => by
    intro j u hu
    have ih := flat_get f n hf l i x (by simpa using h) j u hu
    rw [List.flatMap_cons, List.getElem?_append_right (by rw [hf, Nat.succ_mul]; omega), hf, show (i + 1) * n + j - n = i * n + j by rw [Nat.succ_mul]; omega]
    exact ih
theorem flat_length {α : Type} (f : α → List Value) (n : Nat) (hf : ∀ x, (f x).length = n) (l : List α) : (l.flatMap f).length = l.length * n := by
  induction l with
  | nil => simp
  | cons x l ih => rw [List.flatMap_cons, List.length_append, ih, hf, List.length_cons, Nat.succ_mul]; omega
abbrev EntL := List (Ent × Option Addr × Nat)
def entsCells (l : EntL) : List Value := l.flatMap fun x => entCells x.1 x.2.1 x.2.2
theorem entsCells_length (l : EntL) : (entsCells l).length = l.length * 102 := flat_length _ 102 (fun _ => entCells_length _ _ _) l
theorem entsCells_one (l : EntL) : ∀ u ∈ entsCells l, u.oneCell' = true := by
  intro u hu
  obtain ⟨x, _, hx⟩ := List.mem_flatMap.1 hu
  have := entCells_one x.1 x.2.1 x.2.2
  rw [List.all_toArray, List.all_eq_true] at this
  exact this u hx
theorem entsCells_get {l : EntL} {i : Nat} {x : Ent × Option Addr × Nat} (h : l[i]? = some x) (j : Nat) (u : Value) (hu : (entCells x.1 x.2.1 x.2.2)[j]? = some u) : (entsCells l)[i * 102 + j]? = some u :=
  flat_get (fun x : Ent × Option Addr × Nat => entCells x.1 x.2.1 x.2.2) 102 (fun _ => entCells_length _ _ _) l i x h j u hu
/-- A row of entries that was made behind the world w; what they point at was there. -/
def RowE (w wr : World) (v : Value) (l : EntL) : Prop :=
  (∀ x ∈ l, In64 x.1.val.coin ∧ AssetsAt w (.slice x.2.1 x.1.val.assets.length x.2.2) x.1.val.assets) ∧ wr.ownsRow 0 51 102 v l.length (entsCells l) ∧ ∀ k, v.ownBlock = some k → w.heap.size ≤ k
theorem RowE.tr {w wr w' : World} {v : Value} {l : EntL} (h : RowE w wr v l) (hm : Mod (fun _ => False) wr w') : RowE w w' v l :=
  ⟨h.1, ownsRow_block h.2.1 (fun k hk => hm.block k (ownsRow_lt h.2.1 hk) (fun q => q)), h.2.2⟩
theorem RowE.ents {w wr : World} {v : Value} {l : EntL} (h : RowE w wr v l) (hm : Mod (fun _ => False) w wr) (hl : l.length ≤ 1000000) : EntsAt wr v (l.map (·.1)) := by
  obtain ⟨h1, ⟨hl1, ⟨rfl, h0⟩ | ⟨g, cap, cur, rfl, _, hg, hc, _, hcs, ht⟩⟩, h3⟩ := h
  · have : l = [] := List.eq_nil_of_length_eq_zero h0
    subst this
    exact ⟨none, 0, rfl, by simp, fun i x hx => by simp at hx⟩
  · refine ⟨some ⟨g, 0, none⟩, cap, by simp, by simpa using hl, fun i x hx => ?_⟩
    rw [List.getElem?_map] at hx
    cases hy : l[i]? with
    | none => rw [hy] at hx; cases hx
    | some y =>
      rw [hy] at hx
      cases hx
      have hi : i < l.length := (List.getElem?_eq_some_iff.1 hy).1
      obtain ⟨k0, k1⟩ := h1 y (List.mem_of_getElem? hy)
      refine ⟨k0, g, 0, y.2.1, y.2.2, rfl, ltB hg, k1.tr hm, fun j u hu => ?_⟩
      have hj : j < 102 := by have := (List.getElem?_eq_some_iff.1 hu).1; rwa [entCells_length] at this
      have := entsCells_get hy j u hu
      rw [Nat.zero_add, cellB hg, ← Array.getElem?_toList]
      rw [← ht, List.getElem?_take, if_pos (by omega)] at this
      exact this
/-- A slice of outputs in memory. -/
def OutsAt (w : World) (v : Value) (os : List Ent) : Prop :=
  ∃ a c, v = .slice a os.length c ∧ ∀ i x, os[i]? = some x → In64 x.val.coin ∧ ∃ L off a2 c2, a = some ⟨L, off, none⟩ ∧ L < w.heap.size ∧ AssetsAt w (.slice a2 x.val.assets.length c2) x.val.assets ∧ ∀ j u, (outCells x a2 c2)[j]? = some u → w.cell? ⟨L, off + i * 69 + j, none⟩ = some u
theorem OutsAt.tr {w w' : World} {v : Value} {es : List Ent} (h : OutsAt w v es) (hm : Mod (fun _ => False) w w') : OutsAt w' v es := by
  obtain ⟨a, c, rfl, h⟩ := h
  refine ⟨a, c, rfl, fun i x hx => ?_⟩
  obtain ⟨h1, L, off, a2, c2, rfl, hL, hA, h2⟩ := h i x hx
  exact ⟨h1, L, off, a2, c2, rfl, Nat.lt_of_lt_of_le hL hm.size, hA.tr hm, fun j u hu => (hm.cell (p := ⟨L, _, none⟩) hL (fun q => q)).trans (h2 j u hu)⟩
theorem info51 : (Try.prog.info? 51).map (fun i => (i.zero, i.size, i.bytes)) = some (some (.agg z51v), 102, 176) := by kernel_rfl
theorem z51_size : z51v.size = 102 := by kernel_rfl
theorem zv49 : ∃ z : Array Value, (∀ w, (zeroValue 49).run Try.prog w = .ok (.agg z) w) ∧ z.size = 69 := ⟨_, Try.zeroValue49, rfl⟩
end Go.Proofs.Ytckcamlicgdklaa
