/- A handle that is a device or none; what may be of a device. -/
import Derived.Test.YtaaoabfmelpcpaaDevP
import Derived.Laws.BytesArg
namespace Go.Proofs.Ytaaoabfmelpcpaa
open Go.RowKit Go.Mo

/-- At most n rows, each of 256 bytes. -/
structure Inv (d : Dv) (n : Nat) : Prop where
  count : d.kept.length + d.waiting.length ≤ n
  kept : ∀ x ∈ d.kept, x.2.length = 256
  wait : ∀ x ∈ d.waiting, x.2.length = 256

theorem lk_mem {α : Type} {k : Int} {v : α} : ∀ {l : List (Int × α)}, lk l k = some v → ∃ x ∈ l, x.2 = v
  | [], h => by simp [lk] at h
  | x :: r, h => by
    by_cases e : x.1 = k
    · simp [lk, e] at h; exact ⟨x, by simp, h⟩
    · simp [lk, e] at h
      obtain ⟨y, hy, hv⟩ := lk_mem h
      exact ⟨y, by simp [hy], hv⟩
theorem up_mem {α : Type} {k : Int} {v : α} {P : α → Prop} (hv : P v) : ∀ {l : List (Int × α)}, (∀ x ∈ l, P x.2) → ∀ x ∈ up l k v, P x.2
  | [], _, x, hx => by simp [up] at hx; subst hx; exact hv
  | y :: r, h, x, hx => by
    by_cases e : y.1 = k
    · simp [up, e] at hx
      rcases hx with rfl | hx
      · exact hv
      · exact h x (by simp [hx])
    · simp [up, e] at hx
      rcases hx with rfl | hx
      · exact h x (by simp)
      · exact up_mem hv (fun z hz => h z (by simp [hz])) x hx
theorem last_length {d : Dv} {n : Nat} (h : Inv d n) (k : Int) : (last d k).length = 256 := by
  unfold last
  cases h1 : lk d.waiting.reverse k with
  | some b => obtain ⟨x, hx, e⟩ := lk_mem h1; subst e; exact h.wait x (by simpa using hx)
  | none =>
    cases h2 : lk d.kept k with
    | some b => obtain ⟨x, hx, e⟩ := lk_mem h2; subst e; exact h.kept x hx
    | none => exact zeros_length

theorem keepL_inv (p : Nat → Bool) : ∀ (l : List (Int × Bs)) (i : Nat) (acc : List (Int × Bs)), (∀ x ∈ acc, x.2.length = 256) → (∀ x ∈ l, x.2.length = 256) → (keepL p i l acc).length ≤ acc.length + l.length ∧ ∀ x ∈ keepL p i l acc, x.2.length = 256
  | [], _, acc, ha, _ => ⟨by simp [keepL], ha⟩
  | y :: r, i, acc, ha, hl => by
    have hy := hl y (by simp)
    have hr := fun x hx => hl x (List.mem_cons_of_mem y hx)
    simp only [keepL]
    by_cases q : p i
    · have ih := keepL_inv p r (i + 1) (up acc y.1 y.2) (up_mem (P := fun b : Bs => b.length = 256) hy ha) hr
      have := up_length y.1 y.2 acc
      simp only [q, if_true, List.length_cons]
      exact ⟨by omega, ih.2⟩
    · have ih := keepL_inv p r (i + 1) acc ha hr
      simp only [q, if_false, List.length_cons, Bool.false_eq_true]
      exact ⟨by omega, ih.2⟩

theorem Inv.mono {d : Dv} {n m : Nat} (h : Inv d n) (hm : n ≤ m) : Inv d m := ⟨Nat.le_trans h.count hm, h.kept, h.wait⟩
theorem Inv.turn {d : Dv} {n : Nat} (h : Inv d n) : Inv (turnD d) n := by
  unfold turnD; split <;> exact ⟨h.count, h.kept, h.wait⟩
theorem turnD_wait (d : Dv) : (turnD d).waiting = d.waiting := by unfold turnD; split <;> rfl
theorem turnD_kept (d : Dv) : (turnD d).kept = d.kept := by unfold turnD; split <;> rfl
theorem keep_inv {d : Dv} {n : Nat} (h : Inv d n) (p : Nat → Bool) (d' : Dv) (hk : d'.kept = keepTo p d d.waiting.length) (hw : d'.waiting = []) : Inv d' n := by
  have := keepL_inv p d.waiting 0 d.kept h.kept h.wait
  have e : keepTo p d d.waiting.length = keepL p 0 d.waiting d.kept := by simp [keepTo]
  have hc := h.count
  exact ⟨by rw [hk, hw, e]; simp; omega, by rw [hk, e]; exact this.2, by rw [hw]; simp⟩
theorem Inv.flush {d : Dv} {n : Nat} (h : Inv d n) : Inv (flushD d) n := by
  unfold flushD
  split
  · exact h
  · split
    · exact h.turn
    · exact keep_inv h.turn (fun _ => true) _ (by rw [turnD_wait]) rfl
theorem Inv.write {d : Dv} {n : Nat} (h : Inv d n) (k : Int) (bs : Bs) : Inv (writeD d k bs) (n + 1) := by
  unfold writeD
  split
  · rename_i hq
    refine Inv.turn ?_
    unfold putD
    split
    · exact h.mono (by omega)
    · have hc := h.count
      refine ⟨by simp; omega, h.kept, fun x hx => ?_⟩
      rcases List.mem_append.1 hx with hx | hx
      · exact h.wait x hx
      · simp at hx; subst hx; exact hq.2.2
  · exact h.mono (by omega)
theorem Inv.wake {d : Dv} {n : Nat} (h : Inv d n) (bits : List Bool) : Inv (wakeD d bits) n := by
  unfold wakeD
  split
  · exact keep_inv h (wakeP bits) _ rfl rfl
  · exact h
theorem Inv.arm {d : Dv} {n : Nat} (h : Inv d n) (a : Int) : Inv (armD d a) n := by
  unfold armD; split
  · exact ⟨h.count, h.kept, h.wait⟩
  · exact h
theorem Inv.crash {d : Dv} {n : Nat} (h : Inv d n) : Inv { d with down := true } n := ⟨h.count, h.kept, h.wait⟩

/-- A handle: a device of the blocks S, or none. -/
def Hd (w : World) (p : Value) (S : Nat → Prop) : Option Dv → Prop
  | some d => ∃ B, p = .pointer (some ⟨B, 0, none⟩) ∧ Dev w B S d
  | none => Bad w p ∧ (p = .pointer none ∨ ∃ B, p = .pointer (some ⟨B, 0, none⟩) ∧ S B) ∧ ∀ j, S j → j < w.heap.size

theorem Hd.lt {w : World} {p : Value} {S : Nat → Prop} {o : Option Dv} (h : Hd w p S o) : ∀ j, S j → j < w.heap.size := by
  cases o with
  | some d => obtain ⟨B, _, h⟩ := h; exact h.lt
  | none => exact h.2.2
theorem Hd.same {w w' : World} {p : Value} {S T : Nat → Prop} {o : Option Dv} (h : Hd w p S o) (hm : Mod T w w') (hd : ∀ j, S j → ¬ T j) : Hd w' p S o := by
  cases o with
  | some d => obtain ⟨B, e, h⟩ := h; exact ⟨B, e, h.same (hm.same hd) hm.size⟩
  | none =>
    obtain ⟨h1, h2, h3⟩ := h
    refine ⟨?_, h2, fun j hj => Nat.lt_of_lt_of_le (h3 j hj) hm.size⟩
    rcases h1 with rfl | ⟨B, rfl, hc⟩
    · exact .inl rfl
    · rcases h2 with e | ⟨B', e, hS⟩
      · cases e
      · cases e
        exact .inr ⟨B, rfl, (hm.cell (p := ⟨B, 0, none⟩) (h3 _ hS) (hd _ hS)).trans hc⟩
theorem Hd.mod {w w' : World} {p : Value} {S : Nat → Prop} {o : Option Dv} (h : Hd w p S o) (hm : Mod (fun _ => False) w w') : Hd w' p S o := h.same hm (fun _ _ q => q)
theorem Hd.ptr {w : World} {p : Value} {S : Nat → Prop} {o : Option Dv} (h : Hd w p S o) : p = .pointer none ∨ ∃ a, p = .pointer (some a) := by
  cases o with
  | some d => obtain ⟨B, e, _⟩ := h; exact .inr ⟨_, e⟩
  | none => exact h.2.1.imp id (fun ⟨B, e, _⟩ => ⟨_, e⟩)

/-- Behind a method. -/
def OpH (w w' : World) (p : Value) (S : Nat → Prop) (o : Option Dv) : Prop := ∃ S', Hd w' p S' o ∧ Mod S w w' ∧ ∀ j, S' j → S j ∨ w.heap.size ≤ j
theorem OpH.of {w w' : World} {B : Nat} {S : Nat → Prop} {d : Dv} (h : Op w w' B S d) : OpH w w' (.pointer (some ⟨B, 0, none⟩)) S (some d) := by
  obtain ⟨S', h1, h2, h3⟩ := h
  exact ⟨S', ⟨B, rfl, h1⟩, h2, h3⟩
theorem OpH.keep {w w' : World} {p : Value} {S : Nat → Prop} {o : Option Dv} (h : Hd w p S o) (hm : Mod (fun _ => False) w w') : OpH w w' p S o := ⟨S, h.mod hm, hm.any, fun _ hj => .inl hj⟩
/-- Ahead of it and behind it blocks were made, and such were written. -/
theorem OpH.wrap {w0 w w' w1 : World} {p : Value} {S : Nat → Prop} {o : Option Dv} (h : OpH w w' p S o) (hm : Mod (fun _ => False) w0 w) (T : Nat → Prop) (hm1 : Mod T w' w1) (hT : ∀ j, T j → w0.heap.size ≤ j ∧ j < w.heap.size) (hS : ∀ j, S j → j < w0.heap.size) : OpH w0 w1 p S o := by
  obtain ⟨S', h1, h2, h3⟩ := h
  refine ⟨S', h1.same hm1 (fun j hj q => ?_), (hm.any.tr h2).trans hm1 (fun j q l => by have := (hT j q).1; omega), fun j hj => (h3 j hj).imp id (fun q => Nat.le_trans hm.size q)⟩
  have := hT j q
  rcases h3 j hj with q | q
  · have := hS j q; omega
  · omega

def InvO (o : Option Dv) (n : Nat) : Prop := ∀ d, o = some d → Inv d n
def writeE' (o : Option Dv) (k : Int) (n : Nat) : Int := match o with | some d => writeE d k n | none => 1
def readE' (o : Option Dv) (k : Int) : Int := match o with | some d => readE d k | none => 1
def readB' (o : Option Dv) (k : Int) : Bs := match o with | some d => if readE d k = 0 then last d k else [] | none => []
def flushE' (o : Option Dv) : Int := match o with | some d => flushE d | none => 1
def freshO' (o : Option Dv) (k : Int) : Bool := match o with | some d => freshO d k | none => false
def statO (o : Option Dv) : Array Value := match o with | some d => statV d | none => #[.int .i64 0, .int .i64 0, .int .i64 0, .int .i64 0, .int .i64 0, .int .i64 0, .bool false]

section
variable {w : World} {p : Value} {S : Nat → Prop} {o : Option Dv} {n : Nat}

theorem flush_H (h : Hd w p S o) : Calls Try.prog 17 #[p] w fun e w' => e = .returned (.int .i64 (flushE' o)) ∧ OpH w w' p S (o.map flushD) := by
  cases o with
  | some d => obtain ⟨B, rfl, h⟩ := h; exact (flush_calls h).mono fun e w' ⟨a, b⟩ => ⟨a, OpH.of b⟩
  | none => exact (flush_bad h.1 h.ptr).mono fun e w' ⟨a, b⟩ => ⟨a, OpH.keep h b⟩
theorem write_H (h : Hd w p S o) (hi : InvO o n) (hn : n < 1000000) (k : Int) (v : Value) (bs : Bs) (T : Nat → Prop) (hv : (∃ a c, v = .slice a bs.length c) ∧ (bs.length = 256 → Byt w T v bs)) :
    Calls Try.prog 19 #[p, .int .i64 k, v] w fun e w' => e = .returned (.int .i64 (writeE' o k bs.length)) ∧ OpH w w' p S (o.map fun d => writeD d k bs) := by
  cases o with
  | some d =>
    obtain ⟨B, rfl, h⟩ := h
    have hc := (hi d rfl).count
    exact (write_calls h k v bs T hv (by omega) (by omega)).mono fun e w' ⟨a, b⟩ => ⟨a, OpH.of b⟩
  | none => obtain ⟨a, c, rfl⟩ := hv.1; exact (write_bad h.1 h.ptr k a _ c).mono fun e w' ⟨a, b⟩ => ⟨a, OpH.keep h b⟩
theorem read_H (h : Hd w p S o) (hi : InvO o n) (k : Int) : Calls Try.prog 20 #[p, .int .i64 k] w fun e w' => ∃ v, e = .returned (.tuple #[v, .int .i64 (readE' o k)]) ∧ (readB' o k = [] ∧ v = .slice none 0 0 ∨ Byt w' (fun j => w.heap.size ≤ j) v (readB' o k)) ∧ Mod (fun _ => False) w w' := by
  cases o with
  | some d =>
    obtain ⟨B, rfl, h⟩ := h
    refine (read_calls h k (last_length (hi d rfl) k)).mono ?_
    rintro e w' ⟨v, he, hb, hm⟩
    refine ⟨v, he, ?_, hm⟩
    by_cases q : readE d k = 0
    · rw [if_pos q] at hb; exact .inr (by simp only [readB', q, if_true]; exact hb)
    · rw [if_neg q] at hb; exact .inl ⟨by simp [readB', q], hb⟩
  | none => exact (read_bad h.1 h.ptr k).mono fun e w' ⟨a, b⟩ => ⟨_, a, .inl ⟨rfl, rfl⟩, b⟩
theorem arm_H (h : Hd w p S o) (a : Int) (ha : a ≤ 9223372036854775807) : Calls Try.prog 16 #[p, .int .i64 a] w fun e w' => e = ret0 ∧ OpH w w' p S (o.map fun d => armD d a) := by
  cases o with
  | some d => obtain ⟨B, rfl, h⟩ := h; exact (arm_calls h a ha).mono fun e w' ⟨a, b⟩ => ⟨a, OpH.of b⟩
  | none => exact (arm_bad h.1 a).mono fun e w' ⟨a, b⟩ => ⟨a, OpH.keep h (b ▸ Mod.refl _ _)⟩
theorem crash_H (h : Hd w p S o) : Calls Try.prog 21 #[p] w fun e w' => e = ret0 ∧ OpH w w' p S (o.map fun d => { d with down := true }) := by
  cases o with
  | some d => obtain ⟨B, rfl, h⟩ := h; exact (crash_calls h).mono fun e w' ⟨a, b⟩ => ⟨a, OpH.of b⟩
  | none => exact (crash_bad h.1).mono fun e w' ⟨a, b⟩ => ⟨a, OpH.keep h (b ▸ Mod.refl _ _)⟩
theorem wake_H (h : Hd w p S o) (v : Value) (bits : List Bool) (hl : bits.length ≤ 140737488355328) (hb : Bls w v bits) (hbS : ∀ k, v.ownBlock = some k → ¬ S k) : Calls Try.prog 22 #[p, v] w fun e w' => e = ret0 ∧ OpH w w' p S (o.map fun d => wakeD d bits) := by
  cases o with
  | some d => obtain ⟨B, rfl, h⟩ := h; exact (wake_calls h v bits hl hb hbS).mono fun e w' ⟨a, b⟩ => ⟨a, OpH.of b⟩
  | none => obtain ⟨a, c, rfl, _⟩ := hb; exact (wake_bad h.1 a _ c).mono fun e w' ⟨a, b⟩ => ⟨a, OpH.keep h b⟩
theorem fresh_H (h : Hd w p S o) (k : Int) : Calls Try.prog 23 #[p, .int .i64 k] w fun e w' => e = .returned (.bool (freshO' o k)) ∧ w = w' := by
  cases o with
  | some d => obtain ⟨B, rfl, h⟩ := h; exact freshO_calls h k
  | none => exact fresh_bad h.1 k
theorem stat_H (h : Hd w p S o) (hi : InvO o n) (hn : n ≤ 1000000) : Calls Try.prog 13 #[p] w fun e w' => e = .returned (.agg (statO o)) ∧ Mod (fun _ => False) w w' := by
  cases o with
  | some d => obtain ⟨B, rfl, h⟩ := h; have hc := (hi d rfl).count; exact stat_calls h (by omega)
  | none => exact stat_bad h.1
end
end Go.Proofs.Ytaaoabfmelpcpaa
