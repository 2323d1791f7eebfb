/- General words and laws, over any program: what a call may turn (Mod); maps with int keys whose entries are known whole (imap); append that tells where its row lies. -/
import Derived.WalkKit
import Derived.Below
import Derived.OneCell
import Derived.OwnWalk
import Derived.Laws.NewBlocks
import Derived.Laws.Append
import Derived.Laws.AppendOwn
import Derived.Laws.OwnMore
import Derived.WalkSpells
namespace Go.Mo
open Go.RowKit

/-- From w to w' only blocks of S, and new ones, have turned. -/
structure Mod (S : Nat → Prop) (w w' : World) : Prop where
  os : w'.os = w.os
  tape : w'.tape = w.tape
  output : w'.output = w.output
  size : w.heap.size ≤ w'.heap.size
  block : ∀ k, k < w.heap.size → ¬ S k → w'.heap[k]? = w.heap[k]?

theorem Mod.refl (S : Nat → Prop) (w : World) : Mod S w w := ⟨rfl, rfl, rfl, Nat.le_refl _, fun _ _ _ => rfl⟩

theorem Mod.trans {S S' : Nat → Prop} {a b c : World} (h : Mod S a b) (k : Mod S' b c) (hs : ∀ k, S' k → k < a.heap.size → S k) : Mod S a c :=
  ⟨k.os.trans h.os, k.tape.trans h.tape, k.output.trans h.output, Nat.le_trans h.size k.size,
   fun i hi hn => (k.block i (Nat.lt_of_lt_of_le hi h.size) (fun q => hn (hs i q hi))).trans (h.block i hi hn)⟩

theorem Mod.tr {S : Nat → Prop} {a b c : World} (h : Mod S a b) (k : Mod S b c) : Mod S a c := h.trans k (fun _ q _ => q)
theorem Mod.tr0 {S : Nat → Prop} {a b c : World} (h : Mod S a b) (k : Mod (fun _ => False) b c) : Mod S a c := h.trans k (fun _ q _ => q.elim)
theorem Mod.weaken {S S' : Nat → Prop} {a b : World} (h : Mod S a b) (hs : ∀ k, S k → k < a.heap.size → S' k) : Mod S' a b :=
  ⟨h.os, h.tape, h.output, h.size, fun i hi hn => h.block i hi (fun q => hn (hs i q hi))⟩

theorem Mod.any {S : Nat → Prop} {a b : World} (h : Mod (fun _ => False) a b) : Mod S a b := h.weaken (fun _ q _ => q.elim)

theorem Mod.alloc {S : Nat → Prop} {a w : World} (h : Mod S a w) (o : Obj) : Mod S a (w.alloc o) :=
  h.trans (S' := fun _ => False) ⟨rfl, rfl, rfl, by simp, fun k hk _ => Below.heap_alloc _ _ _ hk⟩ (fun _ q => q.elim)

theorem Mod.drew {S : Nat → Prop} {a w : World} (h : Mod S a w) : Mod S a w.drew := ⟨h.os, h.tape, h.output, h.size, h.block⟩

theorem Mod.setCell {S : Nat → Prop} {a w : World} (h : Mod S a w) {p : Addr} (hp : p.block < a.heap.size → S p.block) (u : Value) : Mod S a (w.setCell p u) :=
  h.trans (S' := fun k => k = p.block) ⟨rfl, rfl, rfl, by simp [World.setCell], fun k _ hn => Below.heap_setCell _ _ _ _ hn⟩ (fun _ q l => by subst q; exact hp l)

theorem Mod.grown {S : Nat → Prop} {a w w' : World} {row : Option Nat} (h : Mod S a w) (hg : w.grownBy w' row) (hr : ∀ k, row = some k → k < a.heap.size → S k) : Mod S a w' :=
  h.trans (S' := fun k => row = some k) ⟨hg.os, hg.tape, hg.output, hg.size, fun k hk hn => hg.block k hk (fun e => hn e.symm)⟩ hr

theorem Mod.below {a w : World} (h : Mod (fun _ => False) a w) : Below a.heap.size a w := ⟨h.os, h.tape, h.output, h.size, fun k hk => h.block k hk id⟩
theorem Mod.ofBelow {a w : World} (h : Below a.heap.size a w) : Mod (fun _ => False) a w := ⟨h.os, h.tape, h.output, h.size, fun k hk _ => h.block k hk⟩

theorem Mod.cell {S : Nat → Prop} {w w' : World} (h : Mod S w w') {p : Addr} (hp : p.block < w.heap.size) (hn : ¬ S p.block) : w'.cell? p = w.cell? p := World.cell?_of_block (w := w) (h.block p.block hp hn)

/-- The blocks of S are as they were. -/
def Same (S : Nat → Prop) (w w' : World) : Prop := ∀ k, S k → k < w.heap.size → w'.heap[k]? = w.heap[k]?
theorem Mod.same {S T : Nat → Prop} {w w' : World} (h : Mod S w w') (hd : ∀ k, T k → ¬ S k) : Same T w w' := fun k hk hl => h.block k hl (hd k hk)

/-! blocks of cells -/
theorem cellB {w : World} {b : Nat} {cs : Array Value} {T : TypeId} {f : Nat × Nat} (h : w.heap[b]? = some (.cells cs T f)) (i : Nat) : w.cell? ⟨b, i, none⟩ = cs[i]? := by simp [World.cell?, h]
theorem frozB {w : World} {b : Nat} {cs : Array Value} {T : TypeId} (h : w.heap[b]? = some (.cells cs T (0, 0))) (i : Nat) : w.frozen? ⟨b, i, none⟩ = false := by simp [World.frozen?, h]
theorem setB {w : World} {b : Nat} {cs : Array Value} {T : TypeId} {f : Nat × Nat} (h : w.heap[b]? = some (.cells cs T f)) (i : Nat) (v : Value) :
    (w.setCell ⟨b, i, none⟩ v).heap[b]? = some (.cells (cs.setIfInBounds i v) T f) := by
  simp only [World.setCell, Array.getElem?_modify, if_true, h]; rfl
theorem ltB {w : World} {b : Nat} {o : Obj} (h : w.heap[b]? = some o) : b < w.heap.size := (Array.getElem?_eq_some_iff.1 h).1
theorem allocB {w : World} {b : Nat} {o : Obj} (h : w.heap[b]? = some o) (o' : Obj) : (w.alloc o').heap[b]? = some o := by rw [Below.heap_alloc _ _ _ (ltB h)]; exact h
theorem newB (w : World) (o : Obj) : (w.alloc o).heap[w.heap.size]? = some o := heap_alloc_new w o
theorem setB_other {w : World} {b : Nat} {o : Obj} (h : w.heap[b]? = some o) {p : Addr} (hp : b ≠ p.block) (v : Value) : (w.setCell p v).heap[b]? = some o := by
  rw [Below.heap_setCell _ _ _ _ hp]; exact h

theorem add0 (g o j : Nat) : (⟨g, o, none⟩ : Addr).add j = ⟨g, o + j, none⟩ := by unfold Addr.add; split <;> simp_all

/-! maps with int keys, whole -/
def ents : Nat → List (Int × Value) → List MapEntry
  | _, [] => []
  | i, x :: r => ⟨.int .i64 x.1, x.2, i⟩ :: ents (i + 1) r
def imap (l : List (Int × Value)) : Obj := .map (ents 0 l).toArray l.length
def lk {α : Type} : List (Int × α) → Int → Option α
  | [], _ => none
  | x :: r, k => if x.1 = k then some x.2 else lk r k
def up {α : Type} : List (Int × α) → Int → α → List (Int × α)
  | [], k, v => [(k, v)]
  | x :: r, k, v => if x.1 = k then (k, v) :: r else x :: up r k v
def at? {α : Type} : List (Int × α) → Int → Nat → Option (Nat × α)
  | [], _, _ => none
  | x :: r, k, i => if x.1 = k then some (i, x.2) else at? r k (i + 1)

theorem ents_length : ∀ (l : List (Int × Value)) (i : Nat), (ents i l).length = l.length
  | [], _ => rfl
  | x :: r, i => by simp [ents, ents_length r]

theorem findNow_ents (k : Int) : ∀ (l : List (Int × Value)) (i j : Nat), Instr.findNow (.int .i64) (.int .i64 k) (ents j l) i = some (at? l k i)
  | [], _, _ => rfl
  | x :: r, i, j => by
    have ih := findNow_ents k r (i + 1) (j + 1)
    by_cases h : x.1 = k
    · subst h; simp [ents, Instr.findNow, Instr.sameNow, at?]
    · have h' : (k == x.1) = false := by simpa using fun e => h e.symm
      simp [ents, Instr.findNow, Instr.sameNow, at?, h, h', ih]

theorem at?_lk {α : Type} (k : Int) : ∀ (l : List (Int × α)) (i : Nat), (at? l k i).map (·.2) = lk l k
  | [], _ => rfl
  | x :: r, i => by
    by_cases h : x.1 = k
    · simp [at?, lk, h]
    · simp [at?, lk, h, at?_lk k r]

theorem at?_none {α : Type} (k : Int) : ∀ (l : List (Int × α)) (i : Nat), at? l k i = none → ∀ v, up l k v = l ++ [(k, v)]
  | [], _, _, _ => rfl
  | x :: r, i, h, v => by
    by_cases e : x.1 = k
    · simp [at?, e] at h
    · simp [at?, e] at h
      simp [up, e, at?_none k r _ h v]

theorem ents_append : ∀ (l : List (Int × Value)) (i : Nat) (k : Int) (v : Value), ents i (l ++ [(k, v)]) = ents i l ++ [⟨.int .i64 k, v, i + l.length⟩]
  | [], i, k, v => by simp [ents]
  | x :: r, i, k, v => by simp [ents, ents_append r]; omega

theorem at?_some (k : Int) : ∀ (l : List (Int × Value)) (i j n : Nat) (v : Value), at? l k i = some (n, v) → i ≤ n ∧
    ((ents j l)[n - i]?).map (·.key) = some (.int .i64 k) ∧ ∀ u, (ents j l).modify (n - i) (fun e => { e with key := .int .i64 k, val := u }) = ents j (up l k u) ∧ (up l k u).length = l.length
  | [], _, _, _, _, h => by simp [at?] at h
  | x :: r, i, j, n, v, h => by
    by_cases e : x.1 = k
    · subst e
      simp [at?] at h
      obtain ⟨rfl, rfl⟩ := h
      simp [ents, up]
    · simp [at?, e] at h
      obtain ⟨h1, h2, h3⟩ := at?_some k r (i + 1) (j + 1) n v h
      have e1 : n - i = (n - (i + 1)) + 1 := by omega
      refine ⟨by omega, ?_, fun u => ?_⟩
      · rw [e1]; simpa [ents] using h2
      · rw [e1]; simp [ents, up, e, h3 u]

def _root_.Go.World.layObj (w : World) (b : Nat) (o : Obj) : World := { w with heap := w.heap.setIfInBounds b o }

section
variable {P : Program} {w : World} {b : Nat} {l : List (Int × Value)}

theorem run_findKey {K : TypeId} (hK : P.underlying K = some (.int .i64)) (k : Int) : (Instr.findKey K (.int .i64 k) (ents 0 l)).run P w = .ok (at? l k 0) w := by
  simp [Instr.findKey, run_underlying hK, findNow_ents]

theorem run_checkKey {K : TypeId} (hK : P.underlying K = some (.int .i64)) (e : Bool) (n : Nat) (k : Int) : (Instr.checkKey e (n + 1) K (.int .i64 k)).run P w = .ok () w := by
  simp [Instr.checkKey, run_underlying hK]

theorem run_lookup_ok {T K E : TypeId} (hT : P.underlying T = some (.map K E)) (hK : P.underlying K = some (.int .i64)) (h : w.heap[b]? = some (imap l)) (k : Int) {z : Value} (hz : (zeroValue E).run P w = .ok z w) :
    (Instr.lookup T (.map (some b)) (.int .i64 k) true).run P w = .ok (.tuple #[(lk l k).getD z, .bool (lk l k).isSome]) w := by
  have hg : (getObj b).run P w = .ok (imap l) w := by simp [getObj, Sem.run, h, imap]
  have hat := at?_lk k l 0
  simp only [Instr.lookup, Sem.run_bind, run_underlying hT, Result.andThen_ok, hg, imap, Sem.run_pure, run_checkKey hK, run_findKey hK]
  cases ha : at? l k 0 with
  | none => rw [ha] at hat; simp at hat; simp [← hat, hz]
  | some p => obtain ⟨n, v⟩ := p; rw [ha] at hat; simp at hat; simp [← hat]

theorem run_lookup {T K E : TypeId} (hT : P.underlying T = some (.map K E)) (hK : P.underlying K = some (.int .i64)) (h : w.heap[b]? = some (imap l)) (k : Int) {z : Value} (hz : (zeroValue E).run P w = .ok z w) :
    (Instr.lookup T (.map (some b)) (.int .i64 k) false).run P w = .ok ((lk l k).getD z) w := by
  have hg : (getObj b).run P w = .ok (imap l) w := by simp [getObj, Sem.run, h, imap]
  have hat := at?_lk k l 0
  simp only [Instr.lookup, Sem.run_bind, run_underlying hT, Result.andThen_ok, hg, imap, Sem.run_pure, run_checkKey hK, run_findKey hK]
  cases ha : at? l k 0 with
  | none => rw [ha] at hat; simp at hat; simp [← hat, hz]
  | some p => obtain ⟨n, v⟩ := p; rw [ha] at hat; simp at hat; simp [← hat]

theorem run_mapUpdate {T K E : TypeId} (hT : P.underlying T = some (.map K E)) (hK : P.underlying K = some (.int .i64)) (h : w.heap[b]? = some (imap l)) (k : Int) (v : Value) :
    (Instr.mapUpdate T (.map (some b)) (.int .i64 k) v).run P w = .ok () (w.layObj b (imap (up l k v))) := by
  have hg : (getObj b).run P w = .ok (imap l) w := by simp [getObj, Sem.run, h, imap]
  have hs : ∀ o, (setObj b o).run P w = .ok () (w.layObj b o) := fun o => by simp [setObj, Sem.run, h, imap, World.layObj]
  simp only [Instr.mapUpdate, Sem.run_bind, run_underlying hT, Result.andThen_ok, hg, imap, run_checkKey hK, run_findKey hK]
  cases ha : at? l k 0 with
  | none =>
    have := at?_none k l 0 ha v
    simp [hs, this, ents_append]
  | some p =>
    obtain ⟨n, u⟩ := p
    obtain ⟨_, h2, h3⟩ := at?_some k l 0 0 n u ha
    obtain ⟨h4, h5⟩ := h3 v
    simp only [Nat.sub_zero] at h2 h4
    simp [h2, Instr.keyThatStays, Instr.sameBits, hs, h5, ← h4]
end

theorem ents_get : ∀ (l : List (Int × Value)) (j i : Nat), (ents j l)[i]? = (l[i]?).map fun x => ⟨.int .i64 x.1, x.2, j + i⟩
  | [], _, _ => by simp [ents]
  | x :: r, j, 0 => by simp [ents]
  | x :: r, j, i + 1 => by simp [ents, ents_get r (j + 1) i]; congr 1; funext y; congr 1; omega

theorem ents_born (l : List (Int × Value)) (j : Nat) {e : MapEntry} (h : e ∈ ents j l) : ∃ i x, l[i]? = some x ∧ e = ⟨.int .i64 x.1, x.2, j + i⟩ := by
  obtain ⟨i, hi⟩ := List.mem_iff_getElem?.1 h
  rw [ents_get] at hi
  cases hx : l[i]? with
  | none => simp [hx] at hi
  | some x => simp [hx] at hi; exact ⟨i, x, hx, hi.symm⟩

/-- The iterator over a map of n entries that has shown those of 'seen'. -/
def iter (b n : Nat) (seen : List Nat) : Obj := .mapIter (some b) n seen.toArray n

section
variable {P : Program} {w : World} {b r : Nat} {l : List (Int × Value)}

theorem run_range {T K E : TypeId} (hT : P.underlying T = some (.map K E)) (h : w.heap[b]? = some (imap l)) :
    (Instr.range T (.map (some b))).run P w = .ok (.pointer (some ⟨w.heap.size, 0, none⟩)) (w.alloc (iter b l.length [])) := by
  have hg : (getObj b).run P w = .ok (imap l) w := by simp [getObj, Sem.run, h, imap]
  simp [Instr.range, run_underlying hT, hg, imap, newObj, Sem.run, iter]

theorem all_ge_false (l : List (Int × Value)) (hl : l ≠ []) : (ents 0 l).toArray.all (fun e => decide (e.born ≥ l.length)) = false := by
  cases l with
  | nil => exact absurd rfl hl
  | cons x r => simp [ents]

theorem left_filter (l : List (Int × Value)) (seen : List Nat) :
    ((ents 0 l).toArray.filter fun e => !seen.toArray.contains e.born) = ((ents 0 l).filter fun e => !seen.contains e.born).toArray := by simp

theorem old_filter (l : List (Int × Value)) (L : List MapEntry) (hL : ∀ e ∈ L, e ∈ ents 0 l) : (L.toArray.filter fun e => decide (e.born < l.length)) = L.toArray ∧ (L.toArray.filter fun e => decide (e.born ≥ l.length)) = #[] := by
  have hb : ∀ e ∈ L, e.born < l.length := fun e he => by
    obtain ⟨i, x, hi, rfl⟩ := ents_born l 0 (hL e he)
    have := (List.getElem?_eq_some_iff.1 hi).1
    simpa using this
  constructor
  · simp only [List.filter_toArray]
    congr 1
    exact List.filter_eq_self.2 fun e he => by simpa using hb e he
  · simp only [List.filter_toArray]
    congr 1
    exact List.filter_eq_nil_iff.2 fun e he => by have := hb e he; simp; omega

theorem run_choose_next (P : Program) (w : World) (n : Nat) (hn : 0 < n) : ∃ c w', (choose (.mapNext n)).run P w = .ok c w' ∧ c < n ∧ (w' = w ∨ w' = w.drew) := by
  by_cases h : n ≤ 1
  · exact ⟨0, w, by simp [choose, Sem.run, Question.forced, h], hn, .inl rfl⟩
  · exact ⟨(Question.mapNext n).cut (w.tape w.drawn (.mapNext n)), w.drew, by simp [choose, Sem.run, Question.forced, h], Nat.mod_lt _ hn, .inr rfl⟩

theorem run_next (h : w.heap[b]? = some (imap l)) (seen : List Nat) (hr : w.heap[r]? = some (iter b l.length seen)) :
    ((∀ i, i < l.length → i ∈ seen) ∧ ∀ T, (Instr.next (.pointer (some ⟨r, 0, none⟩)) false T).run P w = .ok (.tuple #[.bool false]) w) ∨
    ∃ i x w', l[i]? = some x ∧ i ∉ seen ∧ (∀ T, (Instr.next (.pointer (some ⟨r, 0, none⟩)) false T).run P w = .ok (.tuple #[.bool true, .int .i64 x.1, x.2]) w') ∧
      w'.heap[r]? = some (iter b l.length (seen ++ [i])) ∧ w.grownBy w' (some r) ∧ w'.heap.size = w.heap.size := by
  have hgr : (getObj r).run P w = .ok (iter b l.length seen) w := by simp [getObj, Sem.run, hr, iter]
  have hgb : (getObj b).run P w = .ok (imap l) w := by simp [getObj, Sem.run, h, imap]
  have hne : r < w.heap.size := ltB hr
  have hsz : (ents 0 l).toArray.isEmpty = l.isEmpty := by cases l <;> simp [ents]
  have hL : ∀ e ∈ (ents 0 l).filter (fun e => !seen.contains e.born), e ∈ ents 0 l := fun e he => (List.mem_filter.1 he).1
  have hcheck : (!seen.toArray.isEmpty && !(ents 0 l).toArray.isEmpty && (ents 0 l).toArray.all fun e => decide (e.born ≥ l.length)) = false := by
    by_cases hl : l = []
    · subst hl; simp [ents]
    · rw [all_ge_false l hl]; simp
  have hs : ∀ (v : World) o, v.heap = w.heap → (setObj r o).run P v = .ok () (v.layObj r o) := fun v o hv => by simp [setObj, Sem.run, hv, hr, iter, World.layObj]
  simp only [Instr.next, Sem.run_bind, hgr, iter, Result.andThen_ok, hgb, imap, hcheck, left_filter, (old_filter l _ hL).1, (old_filter l _ hL).2]
  generalize hF : (ents 0 l).filter (fun e => !seen.contains e.born) = F
  have hF' : ∀ e ∈ F, e ∈ ents 0 l ∧ e.born ∉ seen := fun e he => by
    rw [← hF] at he
    obtain ⟨h1, h2⟩ := List.mem_filter.1 he
    exact ⟨h1, by simpa using h2⟩
  cases F with
  | nil =>
    refine Or.inl ⟨fun i hi => ?_, ?_⟩
    · have hm : (⟨.int .i64 l[i].1, l[i].2, 0 + i⟩ : MapEntry) ∈ ents 0 l := List.mem_iff_getElem?.2 ⟨i, by rw [ents_get]; simp [hi]⟩
      have := List.filter_eq_nil_iff.1 hF _ hm
      simpa using this
    · simp [choose, Sem.run, Question.forced]
  | cons e0 F0 =>
    refine Or.inr ?_
    obtain ⟨c, w', hrun, hc, hw'⟩ := run_choose_next P w (e0 :: F0).length (by simp)
    have hheap : w'.heap = w.heap := by rcases hw' with rfl | rfl <;> rfl
    have hmem : (e0 :: F0)[c] ∈ e0 :: F0 := List.getElem_mem _
    obtain ⟨hm1, hm2⟩ := hF' _ hmem
    obtain ⟨i, x, hi, he⟩ := ents_born l 0 hm1
    simp only [Nat.zero_add] at he
    rw [he] at hm2
    have hget : ((e0 :: F0).toArray.map some)[c]? = some (some ⟨.int .i64 x.1, x.2, i⟩) := by
      rw [← he, Array.getElem?_map, List.getElem?_toArray, List.getElem?_eq_getElem hc]; rfl
    refine ⟨i, x, w'.layObj r (iter b l.length (seen ++ [i])), hi, hm2, ?_, ?_, ?_, ?_⟩
    · have e1 : ((if (e0 :: F0).toArray.isEmpty then #[none] else #[]) ++ Array.map some ((e0 :: F0).toArray ++ #[])) = (e0 :: F0).toArray.map some := by simp
      have e2 : ((e0 :: F0).toArray.map some).size = (e0 :: F0).length := by simp
      rw [e1, e2]
      simp only [Bool.false_eq_true, if_false, hrun, Result.andThen_ok, hget, Sem.run_bind, hs w' _ hheap, Sem.run_pure]
      simp [iter]
    · simp only [World.layObj, hheap]; simp [hne, iter]
    · refine ⟨?_, ?_, ?_, ?_, ?_⟩
      · rcases hw' with rfl | rfl <;> rfl
      · rcases hw' with rfl | rfl <;> rfl
      · rcases hw' with rfl | rfl <;> rfl
      · simp [World.layObj, hheap]
      · intro k hk hn
        simp only [World.layObj, hheap]
        rw [Array.getElem?_setIfInBounds_ne (fun e => hn (by rw [e]))]
    · simp [World.layObj, hheap]

theorem run_entry (h : w.heap[b]? = some (imap l)) (seen : List Nat) (i : Nat) (x : Int × Value) (hx : l[i]? = some x) (hr : w.heap[r]? = some (iter b l.length (seen ++ [i]))) :
    (Instr.entry (.pointer (some ⟨r, 0, none⟩))).run P w = .ok (.tuple #[.int .i64 x.1, x.2]) w := by
  have hgr : (getObj r).run P w = .ok (iter b l.length (seen ++ [i])) w := by simp [getObj, Sem.run, hr, iter]
  have hgb : (getObj b).run P w = .ok (imap l) w := by simp [getObj, Sem.run, h, imap]
  have hf : (ents 0 l).find? (fun e => e.born == i) = some ⟨.int .i64 x.1, x.2, i⟩ := by
    rw [List.find?_eq_some_iff_getElem]
    have hi := (List.getElem?_eq_some_iff.1 hx)
    obtain ⟨hi, hx'⟩ := hi
    refine ⟨by simp, i, by rw [ents_length]; exact hi, ?_, ?_⟩
    · have := ents_get l 0 i
      rw [hx] at this
      simp only [Nat.zero_add, Option.map_some] at this
      exact (List.getElem?_eq_some_iff.1 this).2
    · intro j hj
      have hjl : j < (ents 0 l).length := by rw [ents_length]; omega
      obtain ⟨k, y, hk, he⟩ := ents_born l 0 (List.getElem_mem hjl)
      have h2 := ents_get l 0 j
      rw [List.getElem?_eq_getElem hjl, List.getElem?_eq_getElem (by omega : j < l.length)] at h2
      simp at h2
      rw [h2]
      simp; omega
  simp [Instr.entry, hgr, iter, hgb, imap, hf]
end

/-! append, and where its row lies -/
section
variable {P : Program} (w : World)

theorem run_append_at (t ty e : TypeId) (i : TypeInfo) (z : Value) (size bytes : Nat) (ht : P.underlying t = some (.slice e)) (hi : P.info? e = some i) (hz : i.zero = some z)
    (hsize : i.size = size) (hby : i.bytes = bytes) (hzs : z.cells.size = size) (hsz : 0 < size)
    (v : Value) (n : Nat) (xs : List Value) (hown : w.ownsRow 0 e size v n xs)
    (a : Addr) (m c : Nat) (news : List Value) (hl : news.length = m * size) (hnews : ∀ j u, news[j]? = some u → w.cell? (a.add j) = some u) (h1 : ∀ u ∈ news, u.oneCell' = true)
    (h63 : n + m ≤ maxLen) (hbytes : (n + m) * bytes ≤ 140737488355328) :
    ∃ v' w', (Builtin.append_ #[t, t] ty #[v, .slice (some a) m c]).run P w = .ok v' w' ∧ w'.ownsRow 0 e size v' (n + m) (xs ++ news) ∧ w.grownBy w' v.ownBlock ∧
      (v' = .slice none 0 0 ↔ v = .slice none 0 0 ∧ m = 0) ∧ (∀ k, v'.ownBlock = some k → v.ownBlock = some k ∨ w.heap.size ≤ k) := by
  obtain ⟨v', w', hr, h2, h3, h4⟩ := run_append_own (P := P) w 0 t ty e i z size bytes ht hi hz hsize hby hzs hsz v n xs hown a m c news hl hnews h1 h63 hbytes (Nat.zero_le _)
  refine ⟨v', w', hr, h2, h3, h4, ?_⟩
  rcases hown.2 with ⟨rfl, rfl⟩ | ⟨g, cap, cur, rfl, _, hg, hnc, hcm, hcs, htake⟩
  · have hx : xs = [] := List.eq_nil_of_length_eq_zero (by simpa using hown.1)
    subst hx
    obtain ⟨v2, w2, hr2, g2, _, _⟩ := run_append_own (P := P) w w.heap.size t ty e i z size bytes ht hi hz hsize hby hzs hsz (.slice none 0 0) 0 [] (World.ownsRow_nil w _ e size) a m c news hl hnews h1 h63 hbytes (Nat.le_refl _)
    rw [hr] at hr2
    cases hr2
    exact fun k hk => .inr (g2.lt k hk).1
  · by_cases hroom : n + m ≤ cap
    · have hfit : n * i.size + news.length ≤ cur.size := by rw [hl, hcs, hsize, ← Nat.add_mul]; exact Nat.mul_le_mul_right _ hroom
      have hr2 := run_append_room (P := P) w t ty e i ht hi g n cap cur hg a m c news (by rw [hsize]; exact hl) hnews h1 hroom hfit
      rw [hr] at hr2
      cases hr2
      exact fun k hk => .inl hk
    · have holds : ∀ j u, xs[j]? = some u → w.cell? ((⟨g, 0, none⟩ : Addr).add j) = some u := hown.cells (g := g) rfl
      have hr2 := run_append_grow (P := P) w t ty e i z ht hi hz ⟨g, 0, none⟩ n cap xs (by rw [hsize]; exact hown.1) holds a m c news (by rw [hsize]; exact hl) hnews (by omega) (by simp only [maxLen] at h63; omega) (growslice_fits (by omega) (by rw [hby]; exact hbytes))
      rw [hr] at hr2
      cases hr2
      intro k hk
      simp [Value.ownBlock] at hk
      exact .inr (by omega)

/-- append, as one step of a region that draws its order. -/
theorem step_append_at {ops : Array Oper} {o : Oper} {a : Act} {K : Act → World → Prop} {Q : Exit → Act → World → Prop} {E : Prop} (hgd : o.guard = none) (s x : Operand) (t : TypeId)
    (ho : o.op = .call { callee := .builtin .append, args := #[s, x], argTypes := #[t, t] })
    (e : TypeId) (i : TypeInfo) (z : Value) (size bytes : Nat) (ht : P.underlying t = some (.slice e)) (hi : P.info? e = some i) (hz : i.zero = some z)
    (hsize : i.size = size) (hby : i.bytes = bytes) (hzs : z.cells.size = size) (hsz : 0 < size)
    (v : Value) (n : Nat) (xs : List Value) (hs : a.eval s = v) (hown : w.ownsRow 0 e size v n xs)
    (ad : Addr) (m c : Nat) (news : List Value) (hx : a.eval x = .slice (some ad) m c) (hl : news.length = m * size) (hnews : ∀ j u, news[j]? = some u → w.cell? (ad.add j) = some u) (h1 : ∀ u ∈ news, u.oneCell' = true)
    (h63 : n + m ≤ maxLen) (hbytes : (n + m) * bytes ≤ 140737488355328)
    (h : ∀ v' w', w'.ownsRow 0 e size v' (n + m) (xs ++ news) → w.grownBy w' v.ownBlock → (∀ k, v'.ownBlock = some k → v.ownBlock = some k ∨ w.heap.size ≤ k) → K (a.put o.dst v') w') :
    if Region.wanted o (yielded ops a.tmps) = true then Oper.wp P o a w K Q else E := by
  rw [if_pos (by simp [Region.wanted, hgd])]
  obtain ⟨v', w', hr, h2, h3, _, h4⟩ := run_append_at (P := P) w t o.type e i z size bytes ht hi hz hsize hby hzs hsz v n xs hown ad m c news hl hnews h1 h63 hbytes
  unfold Oper.wp execOp
  simp only [ho, resolve, invoke, builtin, Sem.run_bind, Sem.run_pure, Result.andThen_ok, List.map_toArray, List.map_cons, List.map_nil, hs, hx, hr]
  exact h v' w' h2 h3 h4

theorem wpList_append_at {ops : Array Oper} {rest : List Oper} {o : Oper} {a : Act} {Q : Exit → Act → World → Prop} (hgd : o.guard = none) (s x : Operand) (t : TypeId)
    (ho : o.op = .call { callee := .builtin .append, args := #[s, x], argTypes := #[t, t] })
    (e : TypeId) (i : TypeInfo) (z : Value) (size bytes : Nat) (ht : P.underlying t = some (.slice e)) (hi : P.info? e = some i) (hz : i.zero = some z)
    (hsize : i.size = size) (hby : i.bytes = bytes) (hzs : z.cells.size = size) (hsz : 0 < size)
    (v : Value) (n : Nat) (xs : List Value) (hs : a.eval s = v) (hown : w.ownsRow 0 e size v n xs)
    (ad : Addr) (m c : Nat) (news : List Value) (hx : a.eval x = .slice (some ad) m c) (hl : news.length = m * size) (hnews : ∀ j u, news[j]? = some u → w.cell? (ad.add j) = some u) (h1 : ∀ u ∈ news, u.oneCell' = true)
    (h63 : n + m ≤ maxLen) (hbytes : (n + m) * bytes ≤ 140737488355328)
    (h : ∀ v' w', w'.ownsRow 0 e size v' (n + m) (xs ++ news) → w.grownBy w' v.ownBlock → (∀ k, v'.ownBlock = some k → v.ownBlock = some k ∨ w.heap.size ≤ k) → wpList P ops Q rest (a.put o.dst v') w') : wpList P ops Q (o :: rest) a w := by
  refine wpList_plain hgd fun K hK => ?_
  obtain ⟨v', w', hr, h2, h3, _, h4⟩ := run_append_at (P := P) w t o.type e i z size bytes ht hi hz hsize hby hzs hsz v n xs hown ad m c news hl hnews h1 h63 hbytes
  unfold Oper.wp execOp
  simp only [ho, resolve, invoke, builtin, Sem.run_bind, Sem.run_pure, Result.andThen_ok, List.map_toArray, List.map_cons, List.map_nil, hs, hx, hr]
  exact hK _ _ (h v' w' h2 h3 h4)
end
end Go.Mo
