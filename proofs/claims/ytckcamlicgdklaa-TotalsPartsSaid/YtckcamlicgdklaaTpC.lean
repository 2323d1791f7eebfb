/- Maps whose keys are names, whole. -/
import Derived.Test.YtckcamlicgdklaaTpB
import Derived.Laws.StructEq
namespace Go.Proofs.Ytckcamlicgdklaa
open Go.RowKit Go.Mo

/-! maps with int keys, whole -/
def entsN : Nat → List (Nm × Value) → List MapEntry
  | _, [] => []
  | i, x :: r => ⟨nmV x.1, x.2, i⟩ :: entsN (i + 1) r
def nmap (l : List (Nm × Value)) : Obj := .map (entsN 0 l).toArray l.length
def lkN {α : Type} : List (Nm × α) → Nm → Option α
  | [], _ => none
  | x :: r, k => if x.1 = k then some x.2 else lkN r k
def upN {α : Type} : List (Nm × α) → Nm → α → List (Nm × α)
  | [], k, v => [(k, v)]
  | x :: r, k, v => if x.1 = k then (k, v) :: r else x :: upN r k v
def atN {α : Type} : List (Nm × α) → Nm → Nat → Option (Nat × α)
  | [], _, _ => none
  | x :: r, k, i => if x.1 = k then some (i, x.2) else atN r k (i + 1)

theorem ents_lengthN : ∀ (l : List (Nm × Value)) (i : Nat), (entsN i l).length = l.length
  | [], _ => rfl
  | x :: r, i => by simp [entsN, ents_lengthN r]

theorem findAsking_entsN (k : Nm) (w : World) : ∀ (l : List (Nm × Value)) (i j : Nat), (Instr.findAsking 93 (nmV k) (entsN j l) i).run Try.prog w = .ok (atN l k i) w
  | [], _, _ => by simp [entsN, Instr.findAsking, atN]
  | x :: r, i, j => by
    have ih := findAsking_entsN k w r (i + 1) (j + 1)
    by_cases h : x.1 = k
    · subst h; simp [entsN, Instr.findAsking, nm_eq, atN]
    · have h' : ¬ k = x.1 := fun e => h e.symm
      simp [entsN, Instr.findAsking, nm_eq, atN, h, h', ih]

theorem sameBits_self8 (n : Nat) : ∀ p : Bs, ((p.map by8).zip (p.map by8)).all (fun x => Instr.sameBits n x.1 x.2) = true
  | [] => rfl
  | x :: p => by
    have := sameBits_self8 n p
    cases n <;> simp [by8, Instr.sameBits] <;> simpa [by8] using this
theorem sameBits_nm (k : Nm) : Instr.sameBits 10000 (nmV k) (nmV k) = true := by
  have h := sameBits_self8 9999 k.policy
  have e : (nmCells k).zip (nmCells k) = (k.policy.map by8).zip (k.policy.map by8) ++ [(.string ⟨k.name.toArray⟩, .string ⟨k.name.toArray⟩)] := by
    rw [nmCells, List.zip_append rfl]; rfl
  show Instr.sameBits (9999 + 1) _ _ = true
  simp only [nmV, Instr.sameBits, e, List.all_append, h]
  simp only [Instr.sameBits, List.all_cons, List.all_nil, Bool.and_true, beq_self_eq_true, beq_toListBytes]

theorem at?_lkN {α : Type} (k : Nm) : ∀ (l : List (Nm × α)) (i : Nat), (atN l k i).map (·.2) = lkN l k
  | [], _ => rfl
  | x :: r, i => by
    by_cases h : x.1 = k
    · simp [atN, lkN, h]
    · simp [atN, lkN, h, at?_lkN k r]

theorem at?_noneN {α : Type} (k : Nm) : ∀ (l : List (Nm × α)) (i : Nat), atN l k i = none → ∀ v, upN l k v = l ++ [(k, v)]
  | [], _, _, _ => rfl
  | x :: r, i, h, v => by
    by_cases e : x.1 = k
    · simp [atN, e] at h
    · simp [atN, e] at h
      simp [upN, e, at?_noneN k r _ h v]

theorem ents_appendN : ∀ (l : List (Nm × Value)) (i : Nat) (k : Nm) (v : Value), entsN i (l ++ [(k, v)]) = entsN i l ++ [⟨nmV k, v, i + l.length⟩]
  | [], i, k, v => by simp [entsN]
  | x :: r, i, k, v => by simp [entsN, ents_appendN r]; omega

theorem at?_someN (k : Nm) : ∀ (l : List (Nm × Value)) (i j n : Nat) (v : Value), atN l k i = some (n, v) → i ≤ n ∧
    ((entsN j l)[n - i]?).map (·.key) = some (nmV k) ∧ ∀ u, (entsN j l).modify (n - i) (fun e => { e with key := nmV k, val := u }) = entsN j (upN l k u) ∧ (upN l k u).length = l.length
  | [], _, _, _, _, h => by simp [atN] at h
  | x :: r, i, j, n, v, h => by
    by_cases e : x.1 = k
    · subst e
      simp [atN] at h
      obtain ⟨rfl, rfl⟩ := h
      simp [entsN, upN]
    · simp [atN, e] at h
      obtain ⟨h1, h2, h3⟩ := at?_someN k r (i + 1) (j + 1) n v h
      have e1 : n - i = (n - (i + 1)) + 1 := by omega
      refine ⟨by omega, ?_, fun u => ?_⟩
      · rw [e1]; simpa [entsN] using h2
      · rw [e1]; simp [entsN, upN, e, h3 u]


section
variable {w : World} {b : Nat} {l : List (Nm × Value)}

theorem run_findKeyN (k : Nm) : (Instr.findKey 93 (nmV k) (entsN 0 l)).run Try.prog w = .ok (atN l k 0) w := by
  cases l with
  | nil => simp [Instr.findKey, run_underlying Try.underlying93, entsN, Instr.findNow, atN]
  | cons x r =>
    have h := findAsking_entsN k w (x :: r) 0 0
    simp only [entsN] at h
    simp [Instr.findKey, run_underlying Try.underlying93, entsN, Instr.findNow, Instr.sameNow, nmV]
    exact h

theorem run_lookup_okN {T E : TypeId} (hT : Try.prog.underlying T = some (.map 93 E)) (h : w.heap[b]? = some (nmap l)) (k : Nm) {z : Value} (hz : (zeroValue E).run Try.prog w = .ok z w) :
    (Instr.lookup T (.map (some b)) (nmV k) true).run Try.prog w = .ok (.tuple #[(lkN l k).getD z, .bool (lkN l k).isSome]) w := by
  have hg : (getObj b).run Try.prog w = .ok (nmap l) w := by simp [getObj, Sem.run, h, nmap]
  have hat := at?_lkN k l 0
  simp only [Instr.lookup, Sem.run_bind, run_underlying hT, Result.andThen_ok, hg, nmap, Sem.run_pure, nm_check, run_findKeyN]
  cases ha : atN l k 0 with
  | none => rw [ha] at hat; simp at hat; simp [← hat, hz]
  | some p => obtain ⟨n, v⟩ := p; rw [ha] at hat; simp at hat; simp [← hat]

theorem run_lookupN {T E : TypeId} (hT : Try.prog.underlying T = some (.map 93 E)) (h : w.heap[b]? = some (nmap l)) (k : Nm) {z : Value} (hz : (zeroValue E).run Try.prog w = .ok z w) :
    (Instr.lookup T (.map (some b)) (nmV k) false).run Try.prog w = .ok ((lkN l k).getD z) w := by
  have hg : (getObj b).run Try.prog w = .ok (nmap l) w := by simp [getObj, Sem.run, h, nmap]
  have hat := at?_lkN k l 0
  simp only [Instr.lookup, Sem.run_bind, run_underlying hT, Result.andThen_ok, hg, nmap, Sem.run_pure, nm_check, run_findKeyN]
  cases ha : atN l k 0 with
  | none => rw [ha] at hat; simp at hat; simp [← hat, hz]
  | some p => obtain ⟨n, v⟩ := p; rw [ha] at hat; simp at hat; simp [← hat]

theorem run_mapUpdateN {T E : TypeId} (hT : Try.prog.underlying T = some (.map 93 E)) (h : w.heap[b]? = some (nmap l)) (k : Nm) (v : Value) :
    (Instr.mapUpdate T (.map (some b)) (nmV k) v).run Try.prog w = .ok () (w.layObj b (nmap (upN l k v))) := by
  have hg : (getObj b).run Try.prog w = .ok (nmap l) w := by simp [getObj, Sem.run, h, nmap]
  have hs : ∀ o, (setObj b o).run Try.prog w = .ok () (w.layObj b o) := fun o => by simp [setObj, Sem.run, h, nmap, World.layObj]
  simp only [Instr.mapUpdate, Sem.run_bind, run_underlying hT, Result.andThen_ok, hg, nmap, nm_check, run_findKeyN]
  cases ha : atN l k 0 with
  | none =>
    have := at?_noneN k l 0 ha v
    simp [hs, this, ents_appendN]
  | some p =>
    obtain ⟨n, u⟩ := p
    obtain ⟨_, h2, h3⟩ := at?_someN k l 0 0 n u ha
    obtain ⟨h4, h5⟩ := h3 v
    simp only [Nat.sub_zero] at h2 h4
    simp [h2, Instr.keyThatStays, sameBits_nm, hs, h5, ← h4]
end

theorem ents_getN : ∀ (l : List (Nm × Value)) (j i : Nat), (entsN j l)[i]? = (l[i]?).map fun x => ⟨nmV x.1, x.2, j + i⟩
  | [], _, _ => by simp [entsN]
  | x :: r, j, 0 => by simp [entsN]
  | x :: r, j, i + 1 => by simp [entsN, ents_getN r (j + 1) i]; congr 1; funext y; congr 1; omega

theorem ents_bornN (l : List (Nm × Value)) (j : Nat) {e : MapEntry} (h : e ∈ entsN j l) : ∃ i x, l[i]? = some x ∧ e = ⟨nmV x.1, x.2, j + i⟩ := by
  obtain ⟨i, hi⟩ := List.mem_iff_getElem?.1 h
  rw [ents_getN] at hi
  cases hx : l[i]? with
  | none => simp [hx] at hi
  | some x => simp [hx] at hi; exact ⟨i, x, hx, hi.symm⟩

/-- The iterator over a map of n entries that has shown those of 'seen'. -/
def iterN (b n : Nat) (seen : List Nat) : Obj := .mapIter (some b) n seen.toArray n

section
variable {w : World} {b r : Nat} {l : List (Nm × Value)}

theorem run_rangeN {T E : TypeId} (hT : Try.prog.underlying T = some (.map 93 E)) (h : w.heap[b]? = some (nmap l)) :
    (Instr.range T (.map (some b))).run Try.prog w = .ok (.pointer (some ⟨w.heap.size, 0, none⟩)) (w.alloc (iterN b l.length [])) := by
  have hg : (getObj b).run Try.prog w = .ok (nmap l) w := by simp [getObj, Sem.run, h, nmap]
  simp [Instr.range, run_underlying hT, hg, nmap, newObj, Sem.run, iterN]

theorem all_ge_falseN (l : List (Nm × Value)) (hl : l ≠ []) : (entsN 0 l).toArray.all (fun e => decide (e.born ≥ l.length)) = false := by
  cases l with
  | nil => exact absurd rfl hl
  | cons x r => simp [entsN]

theorem left_filterN (l : List (Nm × Value)) (seen : List Nat) :
    ((entsN 0 l).toArray.filter fun e => !seen.toArray.contains e.born) = ((entsN 0 l).filter fun e => !seen.contains e.born).toArray := by simp

theorem old_filterN (l : List (Nm × Value)) (L : List MapEntry) (hL : ∀ e ∈ L, e ∈ entsN 0 l) : (L.toArray.filter fun e => decide (e.born < l.length)) = L.toArray ∧ (L.toArray.filter fun e => decide (e.born ≥ l.length)) = #[] := by
  have hb : ∀ e ∈ L, e.born < l.length := fun e he => by
    obtain ⟨i, x, hi, rfl⟩ := ents_bornN l 0 (hL e he)
    have := (List.getElem?_eq_some_iff.1 hi).1
    simpa using this
  constructor
  · simp only [List.filter_toArray]
    congr 1
    exact List.filter_eq_self.2 fun e he => by simpa using hb e he
  · simp only [List.filter_toArray]
    congr 1
    exact List.filter_eq_nil_iff.2 fun e he => by have := hb e he; simp; omega

theorem run_nextN (h : w.heap[b]? = some (nmap l)) (seen : List Nat) (hr : w.heap[r]? = some (iterN b l.length seen)) :
    ((∀ i, i < l.length → i ∈ seen) ∧ ∀ T, (Instr.next (.pointer (some ⟨r, 0, none⟩)) false T).run Try.prog w = .ok (.tuple #[.bool false]) w) ∨
    ∃ i x w', l[i]? = some x ∧ i ∉ seen ∧ (∀ T, (Instr.next (.pointer (some ⟨r, 0, none⟩)) false T).run Try.prog w = .ok (.tuple #[.bool true, nmV x.1, x.2]) w') ∧
      w'.heap[r]? = some (iterN b l.length (seen ++ [i])) ∧ w.grownBy w' (some r) ∧ w'.heap.size = w.heap.size := by
  have hgr : (getObj r).run Try.prog w = .ok (iterN b l.length seen) w := by simp [getObj, Sem.run, hr, iterN]
  have hgb : (getObj b).run Try.prog w = .ok (nmap l) w := by simp [getObj, Sem.run, h, nmap]
  have hne : r < w.heap.size := ltB hr
  have hsz : (entsN 0 l).toArray.isEmpty = l.isEmpty := by cases l <;> simp [entsN]
  have hL : ∀ e ∈ (entsN 0 l).filter (fun e => !seen.contains e.born), e ∈ entsN 0 l := fun e he => (List.mem_filter.1 he).1
  have hcheck : (!seen.toArray.isEmpty && !(entsN 0 l).toArray.isEmpty && (entsN 0 l).toArray.all fun e => decide (e.born ≥ l.length)) = false := by
    by_cases hl : l = []
    · subst hl; simp [entsN]
    · rw [all_ge_falseN l hl]; simp
  have hs : ∀ (v : World) o, v.heap = w.heap → (setObj r o).run Try.prog v = .ok () (v.layObj r o) := fun v o hv => by simp [setObj, Sem.run, hv, hr, iterN, World.layObj]
  simp only [Instr.next, Sem.run_bind, hgr, iterN, Result.andThen_ok, hgb, nmap, hcheck, left_filterN, (old_filterN l _ hL).1, (old_filterN l _ hL).2]
  generalize hF : (entsN 0 l).filter (fun e => !seen.contains e.born) = F
  have hF' : ∀ e ∈ F, e ∈ entsN 0 l ∧ e.born ∉ seen := fun e he => by
    rw [← hF] at he
    obtain ⟨h1, h2⟩ := List.mem_filter.1 he
    exact ⟨h1, by simpa using h2⟩
  cases F with
  | nil =>
    refine Or.inl ⟨fun i hi => ?_, ?_⟩
    · have hm : (⟨nmV l[i].1, l[i].2, 0 + i⟩ : MapEntry) ∈ entsN 0 l := List.mem_iff_getElem?.2 ⟨i, by rw [ents_getN]; simp [hi]⟩
      have := List.filter_eq_nil_iff.1 hF _ hm
      simpa using this
    · simp [choose, Sem.run, Question.forced]
  | cons e0 F0 =>
    refine Or.inr ?_
    obtain ⟨c, w', hrun, hc, hw'⟩ := run_choose_next Try.prog w (e0 :: F0).length (by simp)
    have hheap : w'.heap = w.heap := by rcases hw' with rfl | rfl <;> rfl
    have hmem : (e0 :: F0)[c] ∈ e0 :: F0 := List.getElem_mem _
    obtain ⟨hm1, hm2⟩ := hF' _ hmem
    obtain ⟨i, x, hi, he⟩ := ents_bornN l 0 hm1
    simp only [Nat.zero_add] at he
    rw [he] at hm2
    have hget : ((e0 :: F0).toArray.map some)[c]? = some (some ⟨nmV x.1, x.2, i⟩) := by
      rw [← he, Array.getElem?_map, List.getElem?_toArray, List.getElem?_eq_getElem hc]; rfl
    refine ⟨i, x, w'.layObj r (iterN b l.length (seen ++ [i])), hi, hm2, ?_, ?_, ?_, ?_⟩
    · have e1 : ((if (e0 :: F0).toArray.isEmpty then #[none] else #[]) ++ Array.map some ((e0 :: F0).toArray ++ #[])) = (e0 :: F0).toArray.map some := by simp
      have e2 : ((e0 :: F0).toArray.map some).size = (e0 :: F0).length := by simp
      rw [e1, e2]
      simp only [Bool.false_eq_true, if_false, hrun, Result.andThen_ok, hget, Sem.run_bind, hs w' _ hheap, Sem.run_pure]
      simp [iterN]
    · simp only [World.layObj, hheap]; simp [hne, iterN]
    · refine ⟨?_, ?_, ?_, ?_, ?_⟩
      · rcases hw' with rfl | rfl <;> rfl
      · rcases hw' with rfl | rfl <;> rfl
      · rcases hw' with rfl | rfl <;> rfl
      · simp [World.layObj, hheap]
      · intro k hk hn
        simp only [World.layObj, hheap]
        rw [Array.getElem?_setIfInBounds_ne (fun e => hn (by rw [e]))]
    · simp [World.layObj, hheap]

theorem run_entryN (h : w.heap[b]? = some (nmap l)) (seen : List Nat) (i : Nat) (x : Nm × Value) (hx : l[i]? = some x) (hr : w.heap[r]? = some (iterN b l.length (seen ++ [i]))) :
    (Instr.entry (.pointer (some ⟨r, 0, none⟩))).run Try.prog w = .ok (.tuple #[nmV x.1, x.2]) w := by
  have hgr : (getObj r).run Try.prog w = .ok (iterN b l.length (seen ++ [i])) w := by simp [getObj, Sem.run, hr, iterN]
  have hgb : (getObj b).run Try.prog w = .ok (nmap l) w := by simp [getObj, Sem.run, h, nmap]
  have hf : (entsN 0 l).find? (fun e => e.born == i) = some ⟨nmV x.1, x.2, i⟩ := by
    rw [List.find?_eq_some_iff_getElem]
    have hi := (List.getElem?_eq_some_iff.1 hx)
    obtain ⟨hi, hx'⟩ := hi
    refine ⟨by simp, i, by rw [ents_lengthN]; exact hi, ?_, ?_⟩
    · have := ents_getN l 0 i
      rw [hx] at this
      simp only [Nat.zero_add, Option.map_some] at this
      exact (List.getElem?_eq_some_iff.1 this).2
    · intro j hj
      have hjl : j < (entsN 0 l).length := by rw [ents_lengthN]; omega
      obtain ⟨k, y, hk, he⟩ := ents_bornN l 0 (List.getElem_mem hjl)
      have h2 := ents_getN l 0 j
      rw [List.getElem?_eq_getElem hjl, List.getElem?_eq_getElem (by omega : j < l.length)] at h2
      simp at h2
      rw [h2]
      simp; omega
  simp [Instr.entry, hgr, iterN, hgb, nmap, hf]
end


end Go.Proofs.Ytckcamlicgdklaa
