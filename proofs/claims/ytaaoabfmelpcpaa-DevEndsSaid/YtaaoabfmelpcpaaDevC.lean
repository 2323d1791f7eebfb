/- The device as plain data, and how it lies in memory; fresh, put. -/
import Derived.Test.YtaaoabfmelpcpaaDevB
import Derived.Deep.RegionLaw
namespace Go.Proofs.Ytaaoabfmelpcpaa
open Go.RowKit Go.Mo

structure Dv where
  sectors : Int
  quota : Int
  kept : List (Int × Bs)
  waiting : List (Int × Bs)
  armed : Int
  turns : Int
  down : Bool

def wr1 (m : List (Int × Int)) (x : Int × Bs) : List (Int × Int) := up m x.1 ((lk m x.1).getD 0 + 1)
def written (l : List (Int × Bs)) : List (Int × Int) := l.foldl wr1 []
def iv (m : List (Int × Int)) : List (Int × Value) := m.map fun x => (x.1, .int .i64 x.2)

theorem iv_up (k v : Int) : ∀ m : List (Int × Int), iv (up m k v) = up (iv m) k (.int .i64 v)
  | [] => rfl
  | x :: r => by
    have ih := iv_up k v r
    simp only [iv] at ih ⊢
    by_cases h : x.1 = k
    · simp [up, h]
    · simp [up, h, ih]
theorem iv_lk (k : Int) : ∀ m : List (Int × Int), lk (iv m) k = (lk m k).map (Value.int .i64)
  | [] => rfl
  | x :: r => by
    have ih := iv_lk k r
    simp only [iv] at ih ⊢
    by_cases h : x.1 = k
    · simp [lk, h]
    · simp [lk, h, ih]

def fresh (d : Dv) (k : Int) : Bool := (lk d.kept k).isNone && decide ((lk (written d.waiting) k).getD 0 = 0)

def KVs (w : World) (S : Nat → Prop) : List (Int × Value) → List (Int × Bs) → Prop
  | [], [] => True
  | x :: r, y :: s => x.1 = y.1 ∧ Byt w S x.2 y.2 ∧ KVs w S r s
  | _, _ => False

theorem KVs.none {w : World} {S : Nat → Prop} {k : Int} : ∀ {l : List (Int × Value)} {m : List (Int × Bs)}, KVs w S l m → lk m k = none → lk l k = none
  | [], [], _, _ => rfl
  | x :: r, y :: s, h, hk => by
    obtain ⟨h1, _, h3⟩ := h
    by_cases e : y.1 = k
    · simp [lk, e] at hk
    · simp [lk, e] at hk
      simp [lk, h1, e, KVs.none h3 hk]
  | [], _ :: _, h, _ => h.elim
  | _ :: _, [], h, _ => h.elim
theorem KVs.some {w : World} {S : Nat → Prop} {k : Int} {bs : Bs} : ∀ {l : List (Int × Value)} {m : List (Int × Bs)}, KVs w S l m → lk m k = some bs → ∃ v, lk l k = some v ∧ Byt w S v bs
  | [], [], _, hk => by simp [lk] at hk
  | x :: r, y :: s, h, hk => by
    obtain ⟨h1, h2, h3⟩ := h
    by_cases e : y.1 = k
    · simp [lk, e] at hk
      subst hk
      exact ⟨x.2, by simp [lk, h1, e], h2⟩
    · simp [lk, e] at hk
      obtain ⟨v, hv, hb⟩ := KVs.some h3 hk
      exact ⟨v, by simp [lk, h1, e, hv], hb⟩
  | [], _ :: _, h, _ => h.elim
  | _ :: _, [], h, _ => h.elim
theorem KVs.up {w : World} {S : Nat → Prop} {k : Int} {v : Value} {bs : Bs} (hb : Byt w S v bs) : ∀ {l : List (Int × Value)} {m : List (Int × Bs)}, KVs w S l m → KVs w S (up l k v) (up m k bs)
  | [], [], _ => ⟨rfl, hb, trivial⟩
  | x :: r, y :: s, h => by
    obtain ⟨h1, h2, h3⟩ := h
    by_cases e : y.1 = k
    · simp only [Mo.up, h1, e, if_true]; exact ⟨rfl, hb, h3⟩
    · simp only [Mo.up, h1, e, if_false]; exact ⟨h1, h2, KVs.up hb h3⟩
  | [], _ :: _, h => h.elim
  | _ :: _, [], h => h.elim
theorem KVs.snoc {w : World} {S : Nat → Prop} {k : Int} {v : Value} {bs : Bs} (hb : Byt w S v bs) : ∀ {l : List (Int × Value)} {m : List (Int × Bs)}, KVs w S l m → KVs w S (l ++ [(k, v)]) (m ++ [(k, bs)])
  | [], [], _ => ⟨rfl, hb, trivial⟩
  | _ :: _, _ :: _, h => ⟨h.1, h.2.1, KVs.snoc hb h.2.2⟩
  | [], _ :: _, h => h.elim
  | _ :: _, [], h => h.elim
theorem KVs.same {w w' : World} {S T : Nat → Prop} (hs : Same S w w') (hl : w.heap.size ≤ w'.heap.size) (ht : ∀ k, S k → k < w.heap.size → T k) : ∀ {l : List (Int × Value)} {m : List (Int × Bs)}, KVs w S l m → KVs w' T l m
  | [], [], _ => trivial
  | _ :: _, _ :: _, h => ⟨h.1, h.2.1.same hs hl ht, KVs.same hs hl ht h.2.2⟩
  | [], _ :: _, h => h.elim
  | _ :: _, [], h => h.elim
theorem KVs.length {w : World} {S : Nat → Prop} : ∀ {l : List (Int × Value)} {m : List (Int × Bs)}, KVs w S l m → l.length = m.length
  | [], [], _ => rfl
  | _ :: _, _ :: _, h => by simp [KVs.length h.2.2]
  | [], _ :: _, h => h.elim
  | _ :: _, [], h => h.elim
theorem KVs.get {w : World} {S : Nat → Prop} : ∀ {l : List (Int × Value)} {m : List (Int × Bs)}, KVs w S l m → ∀ (i : Nat) (y : Int × Bs), m[i]? = Option.some y → ∃ x : Int × Value, l[i]? = Option.some x ∧ x.1 = y.1 ∧ Byt w S x.2 y.2
  | [], [], _, i, y, hy => by simp at hy
  | x :: _, _ :: _, h, 0, y, hy => by simp at hy; subst hy; exact ⟨x, rfl, h.1, h.2.1⟩
  | _ :: _, _ :: _, h, i + 1, y, hy => by simpa using KVs.get h.2.2 i y (by simpa using hy)
  | [], _ :: _, h, _, _, _ => h.elim
  | _ :: _, [], h, _, _, _ => h.elim

/-- The rows of bytes among the blocks of S are as they were. -/
def BSame (S : Nat → Prop) (w w' : World) : Prop := ∀ k cs, S k → w.heap[k]? = some (.cells cs 5 (0, 0)) → w'.heap[k]? = some (.cells cs 5 (0, 0))
theorem Byt.bsame {w w' : World} {S T : Nat → Prop} {v : Value} {bs : Bs} (h : Byt w S v bs) (hs : BSame S w w') (hl : w.heap.size ≤ w'.heap.size) (ht : ∀ k, S k → k < w.heap.size → T k) : Byt w' T v bs := by
  obtain ⟨ho, g, cap, rfl, hS, hg⟩ := h
  refine ⟨⟨ho.1, ?_⟩, g, cap, rfl, ht g hS hg, by omega⟩
  rcases ho.2 with ⟨h', _⟩ | ⟨g', cap', cur, hv, hb, hg', r⟩
  · cases h'
  · cases hv
    exact .inr ⟨g, cap, cur, rfl, hb, hs g cur hS hg', r⟩
theorem KVs.bsame {w w' : World} {S T : Nat → Prop} (hs : BSame S w w') (hl : w.heap.size ≤ w'.heap.size) (ht : ∀ k, S k → k < w.heap.size → T k) : ∀ {l : List (Int × Value)} {m : List (Int × Bs)}, KVs w S l m → KVs w' T l m
  | [], [], _ => trivial
  | _ :: _, _ :: _, h => ⟨h.1, h.2.1.bsame hs hl ht, KVs.bsame hs hl ht h.2.2⟩
  | [], _ :: _, h => h.elim
  | _ :: _, [], h => h.elim

theorem lk_up {α : Type} (k j : Int) (v : α) : ∀ m : List (Int × α), lk (up m k v) j = if k = j then Option.some v else lk m j
  | [] => by by_cases h : k = j <;> simp [up, lk, h]
  | x :: r => by
    have ih := lk_up k j v r
    by_cases h : x.1 = k
    · by_cases e : k = j
      · simp [up, lk, h, e]
      · have : ¬ x.1 = j := by rw [h]; exact e
        simp [up, lk, h, e]
    · by_cases e : x.1 = j
      · have h1 : ¬ k = j := fun q => h (e.trans q.symm)
        have h2 : ¬ j = k := fun q => h1 q.symm
        simp [up, lk, e, h1, h2]
      · simp [up, lk, h, e, ih]

theorem written_snoc (l : List (Int × Bs)) (x : Int × Bs) : written (l ++ [x]) = wr1 (written l) x := by simp [written]
theorem written_count (k : Int) : ∀ n (l : List (Int × Bs)), l.length = n → (lk (written l) k).getD 0 = ((l.filter fun x => x.1 = k).length : Int)
  | 0, l, h => by
    have : l = [] := List.eq_nil_of_length_eq_zero h
    subst this; rfl
  | n + 1, l, h => by
    have hne : l ≠ [] := by rintro rfl; simp at h
    have e := List.dropLast_concat_getLast hne
    have ih := written_count k n l.dropLast (by simp [h])
    rw [← e, written_snoc, wr1, lk_up, List.filter_append]
    by_cases hk : (l.getLast hne).1 = k
    · simp [hk, ih]
    · simp [hk, ih]
theorem written_bound (l : List (Int × Bs)) (k : Int) : 0 ≤ (lk (written l) k).getD 0 ∧ (lk (written l) k).getD 0 ≤ l.length := by
  rw [written_count k _ l rfl]
  have := List.length_filter_le (fun x : Int × Bs => decide (x.1 = k)) l
  omega

def flat (l : List (Int × Value)) : List Value := l.flatMap fun x => [.int .i64 x.1, x.2]

/-- The ten cells of a device. -/
def dcells (K M : Nat) (W : Value) (d : Dv) : Array Value := #[.map (some K), W, .map (some M), .int .i64 d.sectors, .int .i64 d.quota, .int .i64 0, .int .i64 0, .int .i64 d.armed, .int .i64 d.turns, .bool d.down]

/-- At block B lies the device d, of the blocks S. -/
structure DevAt (w : World) (B : Nat) (S : Nat → Prop) (d : Dv) (K M : Nat) (W : Value) (ke we : List (Int × Value)) : Prop where
  hB : w.heap[B]? = some (.cells (dcells K M W d) 49 (0, 0))
  hK : w.heap[K]? = some (imap ke)
  hM : w.heap[M]? = some (imap (iv (written d.waiting)))
  kept : KVs w S ke d.kept
  row : w.ownsRow 0 78 2 W we.length (flat we)
  wait : KVs w S we d.waiting
  sB : S B
  sK : S K
  sM : S M
  sW : ∀ k, W.ownBlock = some k → S k
  ne : K ≠ M
  lt : ∀ k, S k → k < w.heap.size
  bound : d.waiting.length ≤ 1000000
  arm : 0 ≤ d.armed ∧ d.armed ≤ 9223372036854775807

def Dev (w : World) (B : Nat) (S : Nat → Prop) (d : Dv) : Prop := ∃ K M W ke we, DevAt w B S d K M W ke we

theorem DevAt.same {w w' : World} {B : Nat} {S : Nat → Prop} {d : Dv} {K M : Nat} {W : Value} {ke we : List (Int × Value)} (h : DevAt w B S d K M W ke we) (hs : Same S w w') (hl : w.heap.size ≤ w'.heap.size) : DevAt w' B S d K M W ke we := by
  have hb : ∀ k, S k → w'.heap[k]? = w.heap[k]? := fun k hk => hs k hk (h.lt k hk)
  exact ⟨by rw [hb _ h.sB]; exact h.hB, by rw [hb _ h.sK]; exact h.hK, by rw [hb _ h.sM]; exact h.hM, h.kept.same hs hl (fun _ hk _ => hk), own_same h.row (fun k hk => hb k (h.sW k hk)), h.wait.same hs hl (fun _ hk _ => hk),
    h.sB, h.sK, h.sM, h.sW, h.ne, fun k hk => Nat.lt_of_lt_of_le (h.lt k hk) hl, h.bound, h.arm⟩

theorem Dev.same {w w' : World} {B : Nat} {S : Nat → Prop} {d : Dv} (h : Dev w B S d) (hs : Same S w w') (hl : w.heap.size ≤ w'.heap.size) : Dev w' B S d := by
  obtain ⟨K, M, W, ke, we, h⟩ := h
  exact ⟨K, M, W, ke, we, h.same hs hl⟩

theorem zero56 (w : World) : (zeroValue 56).run Try.prog w = .ok (.slice none 0 0) w := by kernel_rfl
theorem zero3 (w : World) : (zeroValue 3).run Try.prog w = .ok (.int .i64 0) w := by kernel_rfl

section
variable {w : World} {B : Nat} {S : Nat → Prop} {d : Dv} {K M : Nat} {W : Value} {ke we : List (Int × Value)}

theorem DevAt.c0 (h : DevAt w B S d K M W ke we) : w.cell? ⟨B, 0, none⟩ = some (.map (some K)) := by rw [cellB h.hB]; rfl
theorem DevAt.c1 (h : DevAt w B S d K M W ke we) : w.cell? ⟨B, 1, none⟩ = some W := by rw [cellB h.hB]; rfl
theorem DevAt.c2 (h : DevAt w B S d K M W ke we) : w.cell? ⟨B, 2, none⟩ = some (.map (some M)) := by rw [cellB h.hB]; rfl
theorem DevAt.c3 (h : DevAt w B S d K M W ke we) : w.cell? ⟨B, 3, none⟩ = some (.int .i64 d.sectors) := by rw [cellB h.hB]; rfl
theorem DevAt.c4 (h : DevAt w B S d K M W ke we) : w.cell? ⟨B, 4, none⟩ = some (.int .i64 d.quota) := by rw [cellB h.hB]; rfl
theorem DevAt.c5 (h : DevAt w B S d K M W ke we) : w.cell? ⟨B, 5, none⟩ = some (.int .i64 0) := by rw [cellB h.hB]; rfl
theorem DevAt.c6 (h : DevAt w B S d K M W ke we) : w.cell? ⟨B, 6, none⟩ = some (.int .i64 0) := by rw [cellB h.hB]; rfl
theorem DevAt.c7 (h : DevAt w B S d K M W ke we) : w.cell? ⟨B, 7, none⟩ = some (.int .i64 d.armed) := by rw [cellB h.hB]; rfl
theorem DevAt.c8 (h : DevAt w B S d K M W ke we) : w.cell? ⟨B, 8, none⟩ = some (.int .i64 d.turns) := by rw [cellB h.hB]; rfl
theorem DevAt.c9 (h : DevAt w B S d K M W ke we) : w.cell? ⟨B, 9, none⟩ = some (.bool d.down) := by rw [cellB h.hB]; rfl
theorem DevAt.fz (h : DevAt w B S d K M W ke we) (i : Nat) : w.frozen? ⟨B, i, none⟩ = false := frozB h.hB i

theorem lookK (hk : w.heap[K]? = some (imap ke)) (k : Int) : (Instr.lookup 43 (.map (some K)) (.int .i64 k) true).run Try.prog w = .ok (.tuple #[(lk ke k).getD (.slice none 0 0), .bool (lk ke k).isSome]) w :=
  run_lookup_ok (K := 3) (E := 56) Try.underlying43 Try.underlying3 hk k (zero56 w)
theorem lookM {m : List (Int × Int)} (hm : w.heap[M]? = some (imap (iv m))) (k : Int) : (Instr.lookup 45 (.map (some M)) (.int .i64 k) false).run Try.prog w = .ok (.int .i64 ((lk m k).getD 0)) w := by
  rw [run_lookup (K := 3) (E := 3) Try.underlying45 Try.underlying3 hm k (zero3 w), iv_lk]
  cases lk m k <;> rfl

theorem fresh_calls (h : DevAt w B S d K M W ke we) (k : Int) : Calls Try.prog 43 #[.pointer (some ⟨B, 0, none⟩), .int .i64 k] w fun e w' => e = .returned (.bool (fresh d k)) ∧ w = w' := by
  have h0 := h.c0
  have h2 := h.c2
  have l1 := lookK h.hK k
  have l2 := lookM h.hM k
  cases hk : lk d.kept k with
  | none =>
    rw [h.kept.none hk] at l1
    have hf : fresh d k = ((lk (written d.waiting) k).getD 0 == 0) := by simp [fresh, hk]; rfl
    rw [hf]
    generalize (lk (written d.waiting) k).getD 0 = c at *
    clear hf hk h
    simp only [Option.isSome_none, Option.getD_none] at l1
    go_enter Try.func43, Try.ntmps43
    go_wp2
    go_ret
    exact ⟨rfl, rfl⟩
  | some bs =>
    obtain ⟨v, hv, _⟩ := h.kept.some hk
    rw [hv] at l1
    have hf : fresh d k = false := by simp [fresh, hk]
    rw [hf]
    clear hf hk h
    simp only [Option.isSome_some, Option.getD_some] at l1
    go_enter Try.func43, Try.ntmps43
    go_wp2
    go_ret
    exact ⟨rfl, rfl⟩
end
end Go.Proofs.Ytaaoabfmelpcpaa
