/- Arm, Crash, Fresh, New, Stat. -/
import Derived.Test.YtaaoabfmelpcpaaDevJ
namespace Go.Proofs.Ytaaoabfmelpcpaa
open Go.RowKit Go.Mo

def armD (d : Dv) (n : Int) : Dv := if 0 ≤ n then { d with armed := n } else d
def freshO (d : Dv) (k : Int) : Bool := decide (0 ≤ k) && decide (k < d.sectors) && fresh d k

section
variable {w : World} {B : Nat} {S : Nat → Prop} {d : Dv}

theorem arm_calls (h : Dev w B S d) (n : Int) (hn : n ≤ 9223372036854775807) : Calls Try.prog 16 #[.pointer (some ⟨B, 0, none⟩), .int .i64 n] w fun e w' => e = ret0 ∧ Op w w' B S (armD d n) := by
  obtain ⟨K, M, W, ke, we, h⟩ := h
  have c0 := h.c0
  have c7 := h.c7
  have f7 := h.fz 7
  by_cases h0 : 0 ≤ n
  · have hr := Lib.hid (h.reset (w' := w.setCell ⟨B, 7, none⟩ (.int .i64 n)) { d with armed := n } rfl rfl ⟨h0, hn⟩ (by rw [setB h.hB]; rfl) (setMB (modB w B) _ _))
    rw [show armD d n = { d with armed := n } by simp [armD, h0]]
    clear h
    go_enter Try.func16, Try.ntmps16
    go_wp2_with (go_at_call 31; refine (made_some B K _ c0).mono ?_; rintro e w' ⟨rfl, rfl⟩)
    go_returns
    exact ⟨rfl, Op.keep ⟨_, _, _, _, _, hr.out.1⟩ hr.out.2⟩
  · have hr := Lib.hid (Op.keep ⟨K, M, W, ke, we, h⟩ (Mod.refl S w))
    rw [show armD d n = d by simp [armD, h0]]
    clear h
    go_enter Try.func16, Try.ntmps16
    go_wp2_with (go_at_call 31; refine (made_some B K _ c0).mono ?_; rintro e w' ⟨rfl, rfl⟩)
    go_returns
    exact ⟨rfl, hr.out⟩

theorem crash_calls (h : Dev w B S d) : Calls Try.prog 21 #[.pointer (some ⟨B, 0, none⟩)] w fun e w' => e = ret0 ∧ Op w w' B S { d with down := true } := by
  obtain ⟨K, M, W, ke, we, h⟩ := h
  have c0 := h.c0
  have c9 := h.c9
  have f9 := h.fz 9
  have hr := Lib.hid (h.reset (w' := w.setCell ⟨B, 9, none⟩ (.bool true)) { d with down := true } rfl rfl h.arm (by rw [setB h.hB]; rfl) (setMB (modB w B) _ _))
  clear h
  go_enter Try.func21, Try.ntmps21
  go_wp2_with (go_at_call 31; refine (made_some B K _ c0).mono ?_; rintro e w' ⟨rfl, rfl⟩)
  go_returns
  exact ⟨rfl, Op.keep ⟨_, _, _, _, _, hr.out.1⟩ hr.out.2⟩

theorem freshO_calls (h : Dev w B S d) (k : Int) : Calls Try.prog 23 #[.pointer (some ⟨B, 0, none⟩), .int .i64 k] w fun e w' => e = .returned (.bool (freshO d k)) ∧ w = w' := by
  obtain ⟨K, M, W, ke, we, h⟩ := h
  have c0 := h.c0
  have c3 := h.c3
  have HF := Lib.hid (fresh_calls h k)
  clear h
  by_cases h0 : 0 ≤ k
  · by_cases h1 : k < d.sectors
    · rw [show freshO d k = fresh d k by simp [freshO, h0, h1]]
      go_enter Try.func23, Try.ntmps23
      go_wp2_with (first | (go_at_call 31; refine (made_some B K _ c0).mono ?_; rintro e w' ⟨rfl, rfl⟩) | (go_at_call 43; refine HF.out.mono ?_; rintro e w' ⟨rfl, rfl⟩))
      go_ret
      exact ⟨rfl, rfl⟩
    · rw [show freshO d k = false by simp [freshO, h1]]
      go_enter Try.func23, Try.ntmps23
      go_wp2_with (first | (go_at_call 31; refine (made_some B K _ c0).mono ?_; rintro e w' ⟨rfl, rfl⟩))
      go_ret
      exact ⟨rfl, rfl⟩
  · rw [show freshO d k = false by simp [freshO, h0]]
    go_enter Try.func23, Try.ntmps23
    go_wp2_with (first | (go_at_call 31; refine (made_some B K _ c0).mono ?_; rintro e w' ⟨rfl, rfl⟩))
    go_ret
    exact ⟨rfl, rfl⟩
end

def newD (s q : Int) : Dv := { sectors := s, quota := q, kept := [], waiting := [], armed := 0, turns := 0, down := false }
def badNew (s q : Int) : Prop := s < 1 ∨ s > 16384 ∨ q < 0 ∨ q > s

theorem new_bad (s q : Int) (h : badNew s q) (w : World) : Calls Try.prog 9 #[.int .i64 s, .int .i64 q] w fun e w' => e = .returned (.tuple #[.pointer none, .int .i64 2]) ∧ w = w' := by
  unfold badNew at h
  by_cases h1 : s < 1
  · clear h
    go_enter Try.func9, Try.ntmps9
    go_wp2
    go_ret2
    exact ⟨rfl, rfl⟩
  · by_cases h2 : s > 16384
    · clear h
      go_enter Try.func9, Try.ntmps9
      go_wp2
      go_ret2
      exact ⟨rfl, rfl⟩
    · by_cases h3 : q < 0
      · clear h
        go_enter Try.func9, Try.ntmps9
        go_wp2
        go_ret2
        exact ⟨rfl, rfl⟩
      · have h4 : s < q := by omega
        clear h
        go_enter Try.func9, Try.ntmps9
        go_wp2
        go_ret2
        exact ⟨rfl, rfl⟩

theorem run_makeMap43 (w : World) : (Instr.makeMap 43 none).run Try.prog w = .ok (.map (some w.heap.size)) (w.alloc (imap [])) := rfl

theorem new_ok (s q : Int) (h : ¬ badNew s q) (w : World) : Calls Try.prog 9 #[.int .i64 s, .int .i64 q] w fun e w' => ∃ B S, e = .returned (.tuple #[.pointer (some ⟨B, 0, none⟩), .int .i64 0]) ∧ Dev w' B S (newD s q) ∧ Mod (fun _ => False) w w' ∧ (∀ j, S j → w.heap.size ≤ j) := by
  unfold badNew at h
  have h1 : ¬ s < 1 := by omega
  have h2 : ¬ s > 16384 := by omega
  have h3 : ¬ q < 0 := by omega
  have h4 : ¬ s < q := by omega
  clear h
  have hm1 := run_makeMap43
  have hm2 := run_makeMap45
  go_enter Try.func9, Try.ntmps9
  go_wp2
  go_ret2
  have hK := allocB (allocB (newB w (imap [])) (imap [])) (.cells (dcells w.heap.size (w.heap.size + 1) (.slice none 0 0) (newD s q)) 49)
  have hM := allocB (newB (w.alloc (imap [])) (imap [])) (.cells (dcells w.heap.size (w.heap.size + 1) (.slice none 0 0) (newD s q)) 49)
  have hB := newB ((w.alloc (imap [])).alloc (imap [])) (.cells (dcells w.heap.size (w.heap.size + 1) (.slice none 0 0) (newD s q)) 49)
  simp only [World.size_alloc] at hM hB
  refine ⟨_, rfl, fun j => w.heap.size ≤ j ∧ j < w.heap.size + 3, ⟨w.heap.size, w.heap.size + 1, .slice none 0 0, [], [], ⟨hB, hK, hM, trivial, World.ownsRow_nil _ _ _ _, trivial, ?_, ?_, ?_, ?_, ?_, ?_, ?_, ?_⟩⟩, (((Mod.refl _ w).alloc _).alloc _).alloc _, fun j hj => hj.1⟩
  · constructor <;> omega
  · constructor <;> omega
  · constructor <;> omega
  · intro k hk; simp [Value.ownBlock] at hk
  · omega
  · intro k hk; have := hk.2; simp; omega
  · simp [newD]
  · simp [newD]
end Go.Proofs.Ytaaoabfmelpcpaa
