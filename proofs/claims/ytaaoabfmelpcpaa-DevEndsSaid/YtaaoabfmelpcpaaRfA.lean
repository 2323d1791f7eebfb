/- The document's device: how it lies in memory; there, Fresh, Arm, Crash. -/
import Derived.Test.YtaaoabfmelpcpaaQuA
namespace Go.Proofs.Ytaaoabfmelpcpaa
open Go.RowKit Go.Mo

/-- What is kept of a sector: nothing, or a row of bytes. -/
def KCell (w : World) (S : Nat → Prop) (v : Value) : Option Bs → Prop
  | none => v = .slice none 0 0
  | some b => Byt w S v b

theorem KCell.bsame {w w' : World} {S T : Nat → Prop} {v : Value} {o : Option Bs} (h : KCell w S v o) (hs : BSame S w w') (hl : w.heap.size ≤ w'.heap.size) (ht : ∀ k, S k → k < w.heap.size → T k) : KCell w' T v o := by
  cases o with
  | none => exact h
  | some b => exact Byt.bsame h hs hl ht

def rcells (G : Nat) (W : Value) (n : Nat) (d : Dv) : Array Value := #[.int .i64 d.quota, .slice (some ⟨G, 0, none⟩) n n, W, .int .i64 d.armed, .int .i64 d.turns, .bool d.down]

/-- What holds of the numbers of the document's device of n sectors. -/
structure RI (d : Dv) (n : Nat) : Prop where
  sec : d.sectors = n
  kn : (keysOf d.kept).Nodup
  inK : ∀ k ∈ keysOf d.kept, 0 ≤ k ∧ k < n
  inW : ∀ x ∈ d.waiting, 0 ≤ x.1 ∧ x.1 < n
  l1 : ∀ x ∈ d.kept, x.2.length = 256
  l2 : ∀ x ∈ d.waiting, x.2.length = 256
  arm : 0 ≤ d.armed ∧ d.armed ≤ 9223372036854775807
  pos : 1 ≤ n

/-- At block R lies the document's device d, of the blocks S. -/
structure RefAt (w : World) (R : Nat) (S : Nat → Prop) (d : Dv) (n G : Nat) (W : Value) (vals : List Value) (we : List (Int × Value)) : Prop where
  hR : w.heap[R]? = some (.cells (rcells G W n d) 69 (0, 0))
  hG : w.heap[G]? = some (.cells vals.toArray 56 (0, 0))
  len : vals.length = n
  kept : ∀ (i : Nat) v, vals[i]? = some v → KCell w S v (lk d.kept i)
  row : w.ownsRow 0 80 2 W we.length (flat we)
  wait : KVs w S we d.waiting
  sR : S R
  sG : S G
  sW : ∀ k, W.ownBlock = some k → S k
  lt : ∀ k, S k → k < w.heap.size
  ri : RI d n
  bound : d.waiting.length ≤ 1000000

def Ref (w : World) (R : Nat) (S : Nat → Prop) (d : Dv) (n : Nat) : Prop := ∃ G W vals we, RefAt w R S d n G W vals we

/-- Behind a method of it. -/
def RefOp (w w' : World) (R : Nat) (S : Nat → Prop) (d : Dv) (n : Nat) : Prop := ∃ S', Ref w' R S' d n ∧ Mod S w w' ∧ ∀ j, S' j → S j ∨ w.heap.size ≤ j

section
variable {w w' : World} {R : Nat} {S : Nat → Prop} {d : Dv} {n G : Nat} {W : Value} {vals : List Value} {we : List (Int × Value)}

theorem RefAt.same (h : RefAt w R S d n G W vals we) (hs : Same S w w') (hl : w.heap.size ≤ w'.heap.size) : RefAt w' R S d n G W vals we := by
  have hb : ∀ k, S k → w'.heap[k]? = w.heap[k]? := fun k hk => hs k hk (h.lt k hk)
  have hbs : BSame S w w' := fun k cs hk hc => by rw [hb k hk]; exact hc
  exact ⟨by rw [hb _ h.sR]; exact h.hR, by rw [hb _ h.sG]; exact h.hG, h.len, fun i v hv => (h.kept i v hv).bsame hbs hl (fun _ hk _ => hk), own_same h.row (fun k hk => hb k (h.sW k hk)), h.wait.same hs hl (fun _ hk _ => hk),
    h.sR, h.sG, h.sW, fun k hk => Nat.lt_of_lt_of_le (h.lt k hk) hl, h.ri, h.bound⟩

theorem Ref.same (h : Ref w R S d n) (hs : Same S w w') (hl : w.heap.size ≤ w'.heap.size) : Ref w' R S d n := by
  obtain ⟨G, W, vals, we, h⟩ := h
  exact ⟨G, W, vals, we, h.same hs hl⟩
theorem Ref.step (h : Ref w R S d n) {T : Nat → Prop} (hm : Mod T w w') (hd : ∀ j, S j → ¬ T j) : Ref w' R S d n := h.same (hm.same hd) hm.size
theorem Ref.lt (h : Ref w R S d n) : ∀ k, S k → k < w.heap.size := by obtain ⟨G, W, vals, we, h⟩ := h; exact h.lt
theorem Ref.ri (h : Ref w R S d n) : RI d n := by obtain ⟨G, W, vals, we, h⟩ := h; exact h.ri
theorem Ref.sR (h : Ref w R S d n) : S R := by obtain ⟨G, W, vals, we, h⟩ := h; exact h.sR

theorem RefAt.c0 (h : RefAt w R S d n G W vals we) : w.cell? ⟨R, 0, none⟩ = some (.int .i64 d.quota) := by rw [cellB h.hR]; rfl
theorem RefAt.c1 (h : RefAt w R S d n G W vals we) : w.cell? ⟨R, 1, none⟩ = some (.slice (some ⟨G, 0, none⟩) n n) := by rw [cellB h.hR]; rfl
theorem RefAt.c2 (h : RefAt w R S d n G W vals we) : w.cell? ⟨R, 2, none⟩ = some W := by rw [cellB h.hR]; rfl
theorem RefAt.c3 (h : RefAt w R S d n G W vals we) : w.cell? ⟨R, 3, none⟩ = some (.int .i64 d.armed) := by rw [cellB h.hR]; rfl
theorem RefAt.c4 (h : RefAt w R S d n G W vals we) : w.cell? ⟨R, 4, none⟩ = some (.int .i64 d.turns) := by rw [cellB h.hR]; rfl
theorem RefAt.c5 (h : RefAt w R S d n G W vals we) : w.cell? ⟨R, 5, none⟩ = some (.bool d.down) := by rw [cellB h.hR]; rfl
theorem RefAt.fz (h : RefAt w R S d n G W vals we) (i : Nat) : w.frozen? ⟨R, i, none⟩ = false := frozB h.hR i
theorem RefAt.gz (h : RefAt w R S d n G W vals we) (i : Nat) : w.frozen? ⟨G, i, none⟩ = false := frozB h.hG i
theorem RefAt.at (h : RefAt w R S d n G W vals we) {k : Nat} (hk : k < n) : ∃ v, vals[k]? = some v ∧ w.cell? ⟨G, k, none⟩ = some v ∧ KCell w S v (lk d.kept k) := by
  obtain ⟨v, hv⟩ : ∃ v, vals[k]? = some v := ⟨_, List.getElem?_eq_getElem (by have := h.len; omega)⟩
  exact ⟨v, hv, by rw [cellB h.hG]; simpa using hv, h.kept k v hv⟩

theorem flat_at (l : List (Int × Value)) : ∀ (i : Nat) (x : Int × Value), l[i]? = some x → (flat l)[i * 2]? = some (.int .i64 x.1) ∧ (flat l)[i * 2 + 1]? = some x.2 := by
  induction l with
  | nil => intro i x h; simp at h
  | cons y r ih =>
    intro i x h
    have e : flat (y :: r) = .int .i64 y.1 :: y.2 :: flat r := rfl
    cases i with
    | zero => simp at h; subst h; rw [e]; simp
    | succ i =>
      have := ih i x (by simpa using h)
      rw [e, show (i + 1) * 2 = i * 2 + 2 by omega, show i * 2 + 2 + 1 = (i * 2 + 1) + 2 by omega]
      simpa using this

/-- The waiting row: its shape, and the cells of what waits at place i. -/
theorem RefAt.rowat (h : RefAt w R S d n G W vals we) {i : Nat} {x : Int × Bs} (hx : d.waiting[i]? = some x) : ∃ g cap v, W = .slice (some ⟨g, 0, none⟩) d.waiting.length cap ∧ S g ∧ we[i]? = some (x.1, v) ∧ w.cell? ⟨g, i * 2, none⟩ = some (.int .i64 x.1) ∧ w.cell? ⟨g, i * 2 + 1, none⟩ = some v ∧ Byt w S v x.2 := by
  obtain ⟨⟨k, v⟩, hv, hk, hb⟩ := h.wait.get i x hx
  simp only at hk hb
  subst hk
  have hl := h.wait.length
  have hi := (List.getElem?_eq_some_iff.1 hx).1
  rcases h.row.2 with ⟨_, h0⟩ | ⟨g, cap, cur, e, _, hg, _, _, _, ht⟩
  · omega
  · have hf := flat_at we i _ hv
    refine ⟨g, cap, v, by rw [e, hl], h.sW g (by rw [e]; rfl), hv, ?_, ?_, hb⟩
    · rw [cellB hg, ← Array.getElem?_toList]
      rw [← ht, List.getElem?_take] at hf
      have := hf.1
      rw [if_pos (by omega)] at this
      exact this
    · rw [cellB hg, ← Array.getElem?_toList]
      rw [← ht, List.getElem?_take, List.getElem?_take] at hf
      have := hf.2
      rw [if_pos (by omega)] at this
      exact this
theorem RefAt.wshape (h : RefAt w R S d n G W vals we) : ∃ a c, W = .slice a d.waiting.length c := by
  obtain ⟨a, c, e⟩ := own_slice h.row
  exact ⟨a, c, by rw [e, h.wait.length]⟩

def thereB (d : Dv) (k : Int) : Bool := decide (0 ≤ k) && decide (k < d.sectors)

theorem there_calls (h : RefAt w R S d n G W vals we) (k : Int) : Calls Try.prog 49 #[.pointer (some ⟨R, 0, none⟩), .int .i64 k] w fun e w' => e = .returned (.bool (thereB d k)) ∧ w = w' := by
  have c1 := h.c1
  have hs := h.ri.sec
  clear h
  rw [thereB, hs]
  by_cases h0 : 0 ≤ k
  · go_enter Try.func49, Try.ntmps49
    go_wp2
    go_ret
    exact ⟨by simp [h0], rfl⟩
  · go_enter Try.func49, Try.ntmps49
    go_wp2
    go_ret
    have h0' : ¬ 0 ≤ k := by omega
    exact ⟨by simp [h0'], rfl⟩

theorem run_bytes_ne_nil (g n cap : Nat) (w : World) : (binOp .neq 56 (.slice (some ⟨g, 0, none⟩) n cap) (.slice none 0 0)).run Try.prog w = .ok (.bool true) w := by kernel_rfl
theorem run_nil_ne_nil (w : World) : (binOp .neq 56 (.slice none 0 0) (.slice none 0 0)).run Try.prog w = .ok (.bool false) w := by kernel_rfl

theorem freshO_kept {k : Int} {b : Bs} (hk : lk d.kept k = some b) : freshO d k = false := by simp [freshO, fresh, hk]
theorem freshO_wait {k : Int} (hk : lk d.kept k = none) (h0 : 0 ≤ k) (h1 : k < d.sectors) : freshO d k = decide (∀ x ∈ d.waiting, x.1 ≠ k) := by
  have hc := written_count k _ d.waiting rfl
  unfold freshO fresh
  rw [hc, hk]
  simp only [h0, h1, decide_true, Option.isNone_none, Bool.true_and]
  refine decide_eq_decide.2 ?_
  constructor
  · intro e x hx q
    have hz : (d.waiting.filter fun x => decide (x.1 = k)).length = 0 := by omega
    have := List.eq_nil_of_length_eq_zero hz
    rw [List.filter_eq_nil_iff] at this
    exact this x hx (by simp [q])
  · intro e
    have : d.waiting.filter (fun x => decide (x.1 = k)) = [] := by
      rw [List.filter_eq_nil_iff]
      intro x hx
      simp [e x hx]
    rw [this]; rfl

set_option maxHeartbeats 1000000 in
theorem rfresh_calls (h : RefAt w R S d n G W vals we) (k : Int) : Calls Try.prog 30 #[.pointer (some ⟨R, 0, none⟩), .int .i64 k] w fun e w' => e = .returned (.bool (freshO d k)) ∧ w = w' := by
  have HT := Lib.hid (there_calls h k)
  by_cases hin : 0 ≤ k ∧ k < d.sectors
  · have ht : thereB d k = true := by simp [thereB, hin]
    rw [ht] at HT
    have hsec := h.ri.sec
    obtain ⟨kk, rfl⟩ : ∃ kk : Nat, k = kk := ⟨k.toNat, by omega⟩
    obtain ⟨v, hv, cv, hkc⟩ := h.at (k := kk) (by omega)
    have c1 := h.c1
    have hkn : (kk : Int) < n := by omega
    cases hlk : lk d.kept kk with
    | some b =>
      rw [hlk] at hkc
      obtain ⟨_, g, cap, rfl, _, _⟩ := hkc
      have hne : ∀ w, _ := run_bytes_ne_nil g b.length cap
      rw [freshO_kept hlk]
      clear h
      go_enter Try.func30, Try.ntmps30
      go_wp2_with fail
      refine HT.out.mono ?_
      rintro e w1 ⟨rfl, rfl⟩
      go_wp2_with fail
      go_ret
      exact ⟨rfl, rfl⟩
    | none =>
      rw [hlk] at hkc
      have hkc : v = .slice none 0 0 := hkc
      subst hkc
      have hfw := freshO_wait hlk hin.1 hin.2
      obtain ⟨a, c, hW⟩ := h.wshape
      have c2 := h.c2
      rw [hW] at c2
      have hb := h.bound
      have HH := Lib.hid h
      have hne := run_nil_ne_nil
      clear h hkc
      go_enter Try.func30, Try.ntmps30
      go_wp2_with fail
      refine HT.out.mono ?_
      rintro e w1 ⟨rfl, rfl⟩
      go_wp2_with fail
      go_loopw [5] (fun i wr => ∃ j : Nat, j ≤ d.waiting.length ∧ i = .int .i64 j ∧ wr = w ∧ ∀ x ∈ d.waiting.take j, x.1 ≠ kk) (fun i _ => d.waiting.length - (intOf i).toNat)
      case atStart => exact ⟨0, by omega, rfl, rfl, by simp⟩
      case round =>
        obtain ⟨j, hj, rfl, rfl, hno⟩ := hrel
        by_cases hlt : j < d.waiting.length
        · obtain ⟨x, hx⟩ : ∃ x, d.waiting[j]? = some x := ⟨_, List.getElem?_eq_getElem hlt⟩
          obtain ⟨g, cap, v, hWg, _, _, k0, k1, _⟩ := HH.out.rowat hx
          rw [hW] at hWg
          cases hWg
          by_cases hxk : x.1 = kk
          · have hfr := Lib.hid (show freshO d kk = false by
              rw [hfw, decide_eq_false_iff_not]
              exact fun q => q x (List.mem_of_getElem? hx) hxk)
            rw [hxk] at k0
            clear hno
            go_wp2_with fail
            go_ret
            exact ⟨by rw [hfr.out]; rfl, rfl⟩
          · have hno' : ∀ y ∈ d.waiting.take (j + 1), y.1 ≠ kk := by
              intro y hy
              rw [List.take_add_one, hx] at hy
              rcases List.mem_append.1 hy with hy | hy
              · exact hno y hy
              · simp at hy; subst hy; exact hxk
            have HN := Lib.hid hno'
            clear hno hno'
            go_wp2_with fail
            go_roundw
            case rel => exact ⟨j + 1, by omega, by simp, by simp, HN.out⟩
            case measure => simp [intOf]; omega
        · have hfr := Lib.hid (show freshO d kk = true by
            rw [hfw, decide_eq_true_eq]
            intro y hy
            exact hno y (by rwa [List.take_of_length_le (by omega)]))
          clear hno
          go_wp2_with fail
          go_ret
          exact ⟨by rw [hfr.out]; rfl, rfl⟩
  · have ht : thereB d k = false := by
      simp only [thereB, Bool.and_eq_false_iff, decide_eq_false_iff_not]
      by_cases h0 : 0 ≤ k
      · exact .inr fun q => hin ⟨h0, q⟩
      · exact .inl h0
    have hf : freshO d k = false := by
      simp only [freshO, thereB] at ht ⊢
      rw [ht]; rfl
    rw [ht] at HT
    rw [hf]
    clear h
    go_enter Try.func30, Try.ntmps30
    go_wp2_with fail
    refine HT.out.mono ?_
    rintro e w1 ⟨rfl, rfl⟩
    go_wp2_with fail
    go_ret
    exact ⟨rfl, rfl⟩
end
end Go.Proofs.Ytaaoabfmelpcpaa
