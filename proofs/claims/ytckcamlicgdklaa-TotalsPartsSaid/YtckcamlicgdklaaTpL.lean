/- slices.SortFunc at totals. -/
import Derived.Test.YtckcamlicgdklaaTpK
import Derived.Test.YtckcamlicgdklaaS2
import Derived.Shelf.SlSortCmp.NoneTotal
namespace Go.Proofs.Ytckcamlicgdklaa
open Go.RowKit Go.Mo Go.Sort

instance : Inhabited Nm := ⟨⟨List.replicate 32 0, [], by simp, by simp⟩⟩

theorem tots_get : ∀ (ds : List (Nm × Int)) (t : Nat), t < ds.length * 35 → (totsCells ds)[t]? = some ((totCells ds[t / 35]!)[t % 35]!)
  | [], t, h => by simp at h
  | x :: ds, t, h => by
    have hl := totCells_length x
    simp only [totsCells, List.flatMap_cons]
    by_cases ht : t < 35
    · rw [List.getElem?_append_left (by omega)]
      have e1 : t / 35 = 0 := by omega
      have e2 : t % 35 = t := by omega
      rw [e1, e2]
      simp [hl, ht]
    · rw [List.getElem?_append_right (by omega), hl]
      simp only [List.length_cons] at h
      have ih := tots_get ds (t - 35) (by omega)
      unfold totsCells at ih
      rw [ih]
      have e1 : t / 35 = (t - 35) / 35 + 1 := by omega
      have e2 : t % 35 = (t - 35) % 35 := by omega
      rw [e1, e2]
      simp
theorem flat_tots (ds : List (Nm × Int)) : (flatK totCells 35 ds.toArray).toList = totsCells ds := by
  apply List.ext_getElem?
  intro t
  by_cases ht : t < ds.length * 35
  · rw [tots_get ds t ht]
    have := get_flatK totCells 35 ds.toArray t (by simpa using ht)
    rw [Array.getElem?_toList]
    have hs : t < (flatK totCells 35 ds.toArray).size := by simpa using ht
    rw [Array.getElem?_eq_getElem hs]
    rw [getElem!_pos _ t hs] at this
    rw [this]
    simp
  · rw [List.getElem?_eq_none (by simp; omega), List.getElem?_eq_none (by rw [totsCells_length]; omega)]

theorem holds_of {w : World} {blk n : Nat} {cur : Array Value} {ds : List (Nm × Int)} (h : w.heap[blk]? = some (.cells cur 88 (0, 0))) (hn : ds.length = n) (ht : cur.toList.take (n * 35) = totsCells ds) : HoldsK totCells 35 w blk 0 ds.toArray := by
  intro j hj
  have hj' : j < ds.length * 35 := by simpa using hj
  refine ⟨?_, frozB h _⟩
  rw [Nat.zero_add, cellB h]
  have e := flat_tots ds
  rw [← ht] at e
  have e2 : ((flatK totCells 35 ds.toArray).toList)[j]? = cur.toList[j]? := by
    rw [e, List.getElem?_take, if_pos (by omega)]
  rw [Array.getElem?_toList] at e2
  rw [Array.getElem?_eq_getElem hj] at e2
  rw [getElem!_pos _ j hj]
  rw [Array.getElem?_toList] at e2
  exact e2.symm
theorem take_put (cur : Array Value) (ds : List (Nm × Int)) (n : Nat) (hn : ds.length = n) (h : n * 35 ≤ cur.size) : (putCells id 0 (flatK totCells 35 ds.toArray) cur).toList.take (n * 35) = totsCells ds := by
  rw [← flat_tots ds]
  apply List.ext_getElem?
  intro t
  have hs : (flatK totCells 35 ds.toArray).size = n * 35 := by rw [size_flatK]; simp [hn]
  rw [List.getElem?_take]
  by_cases ht : t < n * 35
  · rw [if_pos ht, Array.getElem?_toList, Array.getElem?_toList]
    simp only [putCells, Array.getElem?_mapIdx, id]
    rw [Array.getElem?_eq_getElem (by omega), Array.getElem?_eq_getElem (by omega)]
    simp only [Option.map_some]
    rw [if_pos (by rw [hs]; omega), Nat.sub_zero, getElem!_pos _ t (by omega)]
  · rw [if_neg ht, Array.getElem?_toList, Array.getElem?_eq_none (by omega)]
theorem cmp_lays (blk n : Nat) (w : World) : CmpLays Try.prog 36 #[] totCells 35 cmpT blk 0 n w :=
  fun _ _ _ _ x y => (less_calls x y _).mono fun _ _ h => h
theorem sorted_list {d' : Array (Nm × Int)} {n : Nat} (hn : d'.size = n) (h : SortedIn (ltOf cmpT) 0 n d') : srtT d'.toList := by
  unfold srtT
  rw [List.pairwise_iff_getElem]
  intro i j hi hj hij
  simp only [Array.length_toList] at hi hj
  have := h i j (Nat.zero_le _) hij (by omega)
  rw [getElem!_pos d' i hi, getElem!_pos d' j hj] at this
  simpa [ltOf, cmpT] using this
set_option maxHeartbeats 1000000 in
theorem sort_calls (w : World) (v : Value) (d : List (Nm × Int)) (wr : World) (ho : OutAt w wr v d) (hd : d.length ≤ 1000000) (hm : Mod (fun _ => False) w wr) :
    Calls Try.prog 35 #[v, .func (.func 36) #[] #[]] wr fun e w' => e = ret0 ∧ ∃ d', d'.Perm d ∧ srtT d' ∧ OutAt w w' v d' ∧ Mod (fun _ => False) w w' := by
  obtain ⟨⟨hl, ⟨rfl, h0⟩ | ⟨g, cap, cur, rfl, hb, hg, hc, hcm, hcs, ht⟩⟩, hk⟩ := ho
  · have hd0 : d = [] := List.eq_nil_of_length_eq_zero h0
    subst hd0
    have hcon := Proofs.AnyF.slices_SortFunc_none Try.sortTot none 0 (.func (.func 36) #[] #[]) wr
    change Calls Try.prog 35 _ _ _ at hcon
    refine hcon.mono ?_
    rintro e w' ⟨rfl, rfl⟩
    exact ⟨rfl, [], List.Perm.refl _, List.Pairwise.nil, ⟨⟨rfl, .inl ⟨rfl, rfl⟩⟩, fun k hk => by cases hk⟩, hm⟩
  · have hH := holds_of hg rfl ht
    have eg : ∀ args w, (callFunc 36 args).run Try.prog w = .ok (.enter 36 args) w := enters_of Try.func36 (by kernel_rfl) rfl
    have hcon := Proofs.AnyQ.slices_SortFunc Try.sortTot 35 Try.isAgg88 Try.sizeOf88 totCells totCells_length totCells_one cmpT swoT 36 #[] g 0 cap d.toArray wr eg (cmp_lays g _ wr) hH (ltB hg) (by simp; omega)
    change Calls Try.prog 35 _ _ _ at hcon
    refine hcon.mono ?_
    rintro e w' ⟨rfl, d', m, os, hp, hs, rfl⟩
    have hsz : d'.size = d.length := by have := hp.1; simpa using this
    have hgw : w.heap.size < g := hk g rfl
    have hglt := ltB hg
    have hmg : Mod (fun k => k = g) wr (sortWorldK totCells 35 wr g 0 m d' os) := by
      unfold sortWorldK putRowK putRow mapBlock Go.Sort.ahead
      refine ⟨rfl, rfl, rfl, by simp [grow], fun k hk hn => ?_⟩
      simp only [grow]
      rw [Array.getElem?_append_left (by simpa using hk), Array.getElem?_modify, if_neg (fun e => hn e.symm)]
    have hrow : (sortWorldK totCells 35 wr g 0 m d' os).heap[g]? = some (.cells (putCells id 0 (flatK totCells 35 d') cur) 88 (0, 0)) := by
      unfold sortWorldK putRowK putRow mapBlock Go.Sort.ahead
      simp only [grow]
      rw [Array.getElem?_append_left (by simpa using hglt), Array.getElem?_modify, if_pos rfl, hg]
      rfl
    refine ⟨rfl, d'.toList, ?_, sorted_list hsz (by simpa using hs), ⟨⟨?_, .inr ⟨g, cap, _, ?_, hb, hrow, ?_, hcm, ?_, ?_⟩⟩, ?_⟩, ?_⟩
    · have h3 := hp.2.2
      have e1 : (d'.extract 0 d.toArray.size) = d' := by rw [show d.toArray.size = d'.size by rw [hsz]; simp]; exact Array.extract_size
      have e2 : (d.toArray.extract 0 d.toArray.size) = d.toArray := Array.extract_size
      rw [e1, e2] at h3
      simpa using h3
    · rw [totsCells_length]
    · simp [hsz]
    · simpa [hsz] using hc
    · simp [putCells, hcs]
    · rw [Array.length_toList]
      have := take_put cur d'.toList d'.size (by simp) (by rw [hcs, hsz]; exact Nat.mul_le_mul_right _ hc)
      simpa using this
    · intro k hk'
      cases hk'
      exact hgw
    · exact hm.trans hmg (fun k hk hl => by omega)
end Go.Proofs.Ytckcamlicgdklaa
