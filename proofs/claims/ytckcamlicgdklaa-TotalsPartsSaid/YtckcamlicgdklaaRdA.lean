/- Readings: what a value's reading says of its fields and its elements, whatever the type. -/
import Derived.Test.YtckcamlicgdklaaTpF
import Derived.ProofKit
import Derived.SizedLaws
import Derived.Deep.Grids
import Derived.Lib.SmallJoins
namespace Go.Proofs.Ytckcamlicgdklaa
open Go.ChangeShapes Go.WideShapes Go.ChangeAt Go.RowKit Go.Joins Go.Deep Go.Mo

/-- The cells are read as a value of the type, in the world w, and all in it is within reach. -/
def Rd (w : World) (t : TypeId) (cs : List Value) : Prop :=
  ∃ (H : Type) (enc : TypeId × Value → H) (fuel : Nat) (y : DataW H × List MemPlace), DataW.trod enc Try.prog w 0 (fun _ => true) true fuel t cs = some y ∧ ∀ n ∈ y.1.weights Try.prog t, n ≤ reachBytes

theorem weightsAll_mem {H : Type} {P : Program} {e : TypeId} : ∀ {l : List (DataW H)} {d : DataW H}, d ∈ l → ∀ n ∈ d.weights P e, n ∈ DataW.weightsAll P e l
  | d' :: r, d, hd, n, hn => by
    simp only [DataW.weightsAll, List.mem_append]
    rcases List.mem_cons.1 hd with rfl | h
    · exact Or.inl hn
    · exact Or.inr (weightsAll_mem h n hn)
theorem weightsEach_mem {H : Type} {P : Program} : ∀ {ts : List TypeId} {l : List (DataW H)} {j : Nat} {t : TypeId} {d : DataW H}, ts[j]? = some t → l[j]? = some d → ∀ n ∈ d.weights P t, n ∈ DataW.weightsEach P ts l
  | [], l, j, t, d, ht, _, n, _ => by simp at ht
  | _ :: _, [], j, t, d, _, hd, n, _ => by simp at hd
  | t' :: ts, d' :: l, 0, t, d, ht, hd, n, hn => by
    simp at ht hd; subst ht; subst hd
    simp only [DataW.weightsEach, List.mem_append]
    exact .inl hn
  | t' :: ts, d' :: l, j + 1, t, d, ht, hd, n, hn => by
    simp only [DataW.weightsEach, List.mem_append]
    exact .inr (weightsEach_mem (by simpa using ht) (by simpa using hd) n hn)

theorem Rd.len {w : World} {t : TypeId} {fs : Array Field} {cs : List Value} (ht : Try.prog.underlying t = some (.struct fs)) (h : Rd w t cs) : cs.length = Try.prog.cellsOf t := by
  obtain ⟨H, enc, fuel, y, h, _⟩ := h
  obtain ⟨xs, n, _, _, hl, _⟩ := DataW.trod_struct ht h
  exact hl
theorem Rd.field {w : World} {t : TypeId} {fs : Array Field} {cs : List Value} (ht : Try.prog.underlying t = some (.struct fs)) (h : Rd w t cs) (i : Nat) (f : Field) (hf : fs[i]? = some f) :
    Rd w f.type ((cs.drop f.offset).take (Try.prog.cellsOf f.type)) := by
  obtain ⟨H, enc, fuel, y, h, hw⟩ := h
  obtain ⟨xs, n, _, rfl, hl, hxs, hfs⟩ := DataW.trod_struct ht h
  have h1 := hfs i f hf
  have hi : i < xs.length := by rw [hxs]; exact (Array.getElem?_eq_some_iff.1 hf).1
  rw [List.getElem?_eq_getElem hi] at h1
  refine ⟨H, enc, n, _, h1, fun m hm => hw m ?_⟩
  simp only [DataW.weights, ht]
  refine weightsEach_mem (j := i) (t := f.type) (d := (xs[i]).1) ?_ ?_ m hm
  · rw [List.getElem?_map, Array.getElem?_toList, hf]; rfl
  · rw [List.getElem?_map, List.getElem?_eq_getElem hi]; rfl

theorem cells_each {w : World} {a : Addr} : ∀ {n : Nat} {cs : List Value}, w.cells? 0 a n = some cs → cs.length = n ∧ ∀ j u, cs[j]? = some u → w.cell? (a.add j) = some u := by
  intro n cs h
  simp only [World.cells?, Nat.zero_le, if_true] at h
  have key : ∀ (l : List Nat) (cs : List Value), l.mapM (fun i => w.cell? (a.add i)) = some cs → cs.length = l.length ∧ ∀ (j : Nat) (u : Value), cs[j]? = some u → ∃ i : Nat, l[j]? = some i ∧ w.cell? (a.add i) = some u := by
    intro l
    induction l with
    | nil => intro cs h; simp at h; subst h; exact ⟨rfl, fun j u h => by simp at h⟩
    | cons x l ih =>
      intro cs h
      rw [List.mapM_cons] at h
      simp only [Option.bind_eq_bind, Option.bind_eq_some_iff, Option.pure_def, Option.some.injEq] at h
      obtain ⟨c, hc, cs', hcs, rfl⟩ := h
      obtain ⟨i1, i2⟩ := ih cs' hcs
      refine ⟨by simp [i1], fun j u hj => ?_⟩
      cases j with
      | zero => simp at hj; subst hj; exact ⟨x, rfl, hc⟩
      | succ j => simpa using i2 j u (by simpa using hj)
  obtain ⟨h1, h2⟩ := key _ _ h
  refine ⟨by simpa using h1, fun j u hj => ?_⟩
  obtain ⟨i, hi, hc⟩ := h2 j u hj
  have : j < n := by have := (List.getElem?_eq_some_iff.1 hj).1; rw [h1] at this; simpa using this
  rw [List.getElem?_range this] at hi
  cases hi
  exact hc

theorem Rd.slice {w : World} {t e : TypeId} {n : Nat} {v : Value} (ht : Try.prog.underlying t = some (.slice e)) (hc : Try.prog.cellsOf e = n) (hn : 0 < n) (h : Rd w t [v]) :
    ∃ a len cap, v = .slice a len cap ∧ len * Try.prog.bytesOf e ≤ reachBytes ∧ (a = none → len = 0 ∧ cap = 0) ∧ ∀ i, i < len → ∃ L off cs, a = some ⟨L, off, none⟩ ∧ L < w.heap.size ∧ cs.length = n ∧ Rd w e cs ∧ ∀ j u, cs[j]? = some u → w.cell? ⟨L, off + i * n + j, none⟩ = some u := by
  obtain ⟨H, enc, fuel, y, h, hw⟩ := h
  rcases open_slice ht h with ⟨hcs, hx⟩ | ⟨a, len, cap, m, k, D, Pl, hcs, _, hl, hm, hmm, hx, hel⟩
  · simp at hcs
    exact ⟨none, 0, 0, hcs, by simp, fun _ => ⟨rfl, rfl⟩, fun i hi => by omega⟩
  · simp at hcs
    simp only [if_true] at hmm
    subst hmm
    rw [hx] at hw
    simp only [DataW.weights, ht, List.mem_cons, List.mem_append] at hw
    refine ⟨some a, len, m, hcs, ?_, (fun q => by cases q), fun i hi => ?_⟩
    · have := hw _ (.inl rfl)
      simp only [List.length_map, List.length_range] at this
      have h2 : len * Try.prog.bytesOf e ≤ (len + (m - len)) * Try.prog.bytesOf e := Nat.mul_le_mul_right _ (by omega)
      omega
    · obtain ⟨cs', h1, h2⟩ := hel i (by omega)
      rw [hc] at h1
      obtain ⟨h3, h4⟩ := cells_each h1
      obtain ⟨ct, h10, _⟩ := hel 0 (by omega)
      rw [hc] at h10
      obtain ⟨h5, h6⟩ := cells_each h10
      obtain ⟨L, off, spot⟩ := a
      obtain ⟨u0, hu0⟩ : ∃ u, ct[0]? = some u := ⟨_, List.getElem?_eq_getElem (by omega)⟩
      have k0 := h6 0 u0 hu0
      have hspot : spot = none := by
        have := World.cell?_spot k0
        simpa [Addr.add] using this
      subst hspot
      refine ⟨L, off, cs', rfl, by simpa [Addr.add] using World.block_lt_of_cell? w _ k0, h3, ⟨H, enc, k, _, h2, fun q hq => ?_⟩, fun j u hj => ?_⟩
      · refine hw q (.inr (.inl ?_))
        exact weightsAll_mem (List.mem_map.2 ⟨i, by simp [hi], rfl⟩) q hq
      · have := h4 j u hj
        rwa [add0, add0] at this

theorem Rd.int {w : World} {t : TypeId} {k : IntKind} {v : Value} (ht : Try.prog.underlying t = some (.int k)) (h : Rd w t [v]) : ∃ n, v = .int k n ∧ (Lit.int k n).wf = true := by
  obtain ⟨H, enc, fuel, y, h, _⟩ := h
  obtain ⟨n, e, _, hw⟩ := DataW.trod_int ht h
  simp at e
  exact ⟨n, e, hw⟩
theorem Rd.bool {w : World} {t : TypeId} {v : Value} (ht : Try.prog.underlying t = some .bool) (h : Rd w t [v]) : ∃ b, v = .bool b := by
  obtain ⟨H, enc, fuel, y, h, _⟩ := h
  obtain ⟨b, e, _⟩ := DataW.trod_bool ht h
  simp at e
  exact ⟨b, e⟩
theorem Rd.string {w : World} {t : TypeId} {v : Value} (ht : Try.prog.underlying t = some .string) (h : Rd w t [v]) : ∃ s : ByteArray, v = .string s ∧ s.size ≤ reachBytes := by
  obtain ⟨H, enc, fuel, y, h, hw⟩ := h
  obtain ⟨s, e, rfl, hs⟩ := DataW.trod_string ht h
  simp at e
  refine ⟨s, e, ?_⟩
  have := hw s.data.toList.length (by rw [DataW.weights]; exact List.mem_singleton.2 rfl)
  simpa using this
theorem trod_empty {H : Type} {enc : TypeId × Value → H} {w : World} {e : TypeId} {fuel : Nat} {y : DataW H × List MemPlace} (hc : Try.prog.cellsOf e = 1) (h : DataW.trod enc Try.prog w 0 (fun _ => true) true fuel e [] = some y) : False := by
  cases fuel with
  | zero => simp [DataW.trod] at h
  | succ f =>
    unfold DataW.trod at h
    simp only [hc] at h
    generalize Try.prog.underlying e = u at h
    cases u with
    | none => simp at h
    | some d => cases d <;> simp at h
theorem Rd.array {w : World} {t e : TypeId} {n : Nat} {cs : List Value} (ht : Try.prog.underlying t = some (.array n e)) (hc : Try.prog.cellsOf e = 1) (h : Rd w t cs) : cs.length = Try.prog.cellsOf t ∧ ∀ i, i < n → ∃ v, cs[i]? = some v ∧ Rd w e [v] := by
  obtain ⟨H, enc, fuel, y, h, hw⟩ := h
  obtain ⟨xs, m, _, rfl, hl, hn, hel⟩ := DataW.trod_array ht h
  refine ⟨hl, fun i hi => ?_⟩
  have h1 := hel i hi
  have hix : i < xs.length := by omega
  rw [List.getElem?_eq_getElem hix, hc] at h1
  simp only [DataW.weights, ht] at hw
  have key : ∃ v, ((cs.drop (i * 1)).take 1) = [v] ∧ cs[i]? = some v := by
    rw [Nat.mul_one]
    cases hq : cs[i]? with
    | none =>
      have : cs.length ≤ i := List.getElem?_eq_none_iff.1 hq
      rw [List.drop_eq_nil_of_le (by omega)] at h1
      exfalso
      exact trod_empty hc (by simpa using h1)
    | some v =>
      refine ⟨v, ?_, rfl⟩
      obtain ⟨hlt, rfl⟩ := List.getElem?_eq_some_iff.1 hq
      rw [List.drop_eq_getElem_cons hlt]; rfl
  obtain ⟨v, e1, e2⟩ := key
  rw [e1] at h1
  exact ⟨v, e2, H, enc, m, _, h1, fun q hq => hw q (weightsAll_mem (List.mem_map.2 ⟨_, List.getElem_mem hix, rfl⟩) q hq)⟩
theorem Rd.one {w : World} {t : TypeId} {cs : List Value} {o : Nat} (h : Rd w t ((cs.drop o).take 1)) (hl : o < cs.length) : ∃ v, cs[o]? = some v ∧ Rd w t [v] := by
  refine ⟨cs[o], List.getElem?_eq_getElem hl, ?_⟩
  rw [List.drop_eq_getElem_cons hl] at h
  exact h

theorem Rd.fieldAt {w : World} {t : TypeId} {fs : Array Field} {cs : List Value} (ht : Try.prog.underlying t = some (.struct fs)) (h : Rd w t cs) (i : Nat) {f : Field} (hf : fs[i]? = some f) (ft : TypeId) (o m : Nat) (h1 : f.type = ft) (h2 : f.offset = o) (h3 : Try.prog.cellsOf ft = m) :
    Rd w ft ((cs.drop o).take m) := by
  have := h.field ht i f hf
  rwa [h1, h2, h3] at this
theorem Rd.cellAt {w : World} {t : TypeId} {fs : Array Field} {cs : List Value} (ht : Try.prog.underlying t = some (.struct fs)) (h : Rd w t cs) (i : Nat) {f : Field} (hf : fs[i]? = some f) (ft : TypeId) (o : Nat) (h1 : f.type = ft) (h2 : f.offset = o) (h3 : Try.prog.cellsOf ft = 1) {n : Nat} (h4 : Try.prog.cellsOf t = n) (h5 : o < n) :
    ∃ v, cs[o]? = some v ∧ Rd w ft [v] :=
  Rd.one (h.fieldAt ht i hf ft o 1 h1 h2 h3) (by rw [h.len ht, h4]; exact h5)
theorem exec_load_pt (act : Act) (o : Oper) {w : World} (ty : TypeId) (x : Operand) (ho : o.op = .load ty x) (p : Addr) (hx : act.eval x = .pointer (some p)) {v : Value} (h : (loadVar ty p).run Try.prog w = .ok v w) : (execOp act.eval o).run Try.prog w = .ok (.value v) w := by
  unfold execOp
  simp only [ho, hx, Instr.loadAt, Instr.sureAddr, Sem.run_bind, Sem.run_pure, h, Result.andThen_ok]
theorem sub_get {cs : List Value} {o m j : Nat} {u : Value} (h : ((cs.drop o).take m)[j]? = some u) : cs[o + j]? = some u := by
  rw [List.getElem?_take] at h
  split at h
  · rwa [List.getElem?_drop] at h
  · cases h
/-- A part of a boxed row, loaded whole. -/
theorem load_box {w : World} {b : Nat} {cs : List Value} {T : TypeId} (h : w.heap[b]? = some (.cells cs.toArray T (0, 0))) (ty : TypeId) (o m : Nat) (d : TypeDesc) (hu : Try.prog.underlying ty = some d) (hd : d.isRow = true) (hi : (Try.prog.info? ty).map (·.size) = some m) (hl : o + m ≤ cs.length) :
    (loadVar ty ⟨b, o, none⟩).run Try.prog w = .ok (.agg ((cs.drop o).take m).toArray) w :=
  run_loadVar_mid w b o ty ((cs.drop o).take m) d (fun j v hv => by rw [cellB h, List.getElem?_toArray]; exact sub_get hv) hu hd (by rw [hi]; simp; omega)
/-- A part of a row that lies in a block's midst. -/
theorem load_mid {w : World} {L p : Nat} {cs : List Value} (h : ∀ j u, cs[j]? = some u → w.cell? ⟨L, p + j, none⟩ = some u) (ty : TypeId) (o m : Nat) (d : TypeDesc) (hu : Try.prog.underlying ty = some d) (hd : d.isRow = true) (hi : (Try.prog.info? ty).map (·.size) = some m) (hl : o + m ≤ cs.length) :
    (loadVar ty ⟨L, p + o, none⟩).run Try.prog w = .ok (.agg ((cs.drop o).take m).toArray) w :=
  run_loadVar_mid w L (p + o) ty ((cs.drop o).take m) d (fun j v hv => by rw [Nat.add_assoc]; exact h _ _ (sub_get hv)) hu hd (by rw [hi]; simp; omega)

/-- What a count tells: a number that is not below 0 and no more than B, of which R holds. -/
def Cnt (w : World) (B : Int) (R : Int → Prop) (e : Ending) (w' : World) : Prop := ∃ n : Int, e = .returned (.int .i64 n) ∧ 0 ≤ n ∧ n ≤ B ∧ R n ∧ Mod (fun _ => False) w w'
theorem len_of_bytes {len b : Nat} (h : len * b ≤ reachBytes) (hb : 0 < b) : len ≤ 140737488351232 := by
  have := Nat.le_mul_of_pos_right len hb
  simp only [reachBytes] at h
  omega
end Go.Proofs.Ytckcamlicgdklaa
