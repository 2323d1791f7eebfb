/- The device's small functions: contracts. -/
import Derived.Test.YtaaoabfmelpcpaaKit
import Derived.Test.YtaaoabfmelpcpaaProg
import Derived.Defers
import Derived.Recover
import Derived.Handy
import Derived.Lib.Hide
import Derived.WalkLawsBesides
namespace Go.Proofs.Ytaaoabfmelpcpaa
open Go.RowKit Go.Mo

abbrev ret0 : Ending := .returned (.tuple #[])
abbrev pan (n : Int) : Ending := .panicked [{ v := .iface 25 (.int .i64 n), recovered := false }]

theorem run_map_ne_nil (k : Nat) (w : World) : (binOp .neq 43 (.map (some k)) (.map none)).run Try.prog w = .ok (.bool true) w := by kernel_rfl
theorem run_map_nil_ne_nil (w : World) : (binOp .neq 43 (.map none) (.map none)).run Try.prog w = .ok (.bool false) w := by kernel_rfl

theorem must_ok (n : Int) (w : World) : Calls Try.prog 42 #[.bool true, .int .i64 n] w fun e w' => e = ret0 ∧ w = w' := by
  go_enter Try.func42, Try.ntmps42
  go_wp2
  go_returns
  exact ⟨rfl, rfl⟩

theorem must_no (n : Int) (w : World) : Calls Try.prog 42 #[.bool false, .int .i64 n] w fun e w' => e = pan n ∧ w = w' := by
  go_enter Try.func42, Try.ntmps42
  go_wp2
  exact ⟨rfl, rfl, rfl⟩

theorem made_nil (w : World) : Calls Try.prog 31 #[.pointer none] w fun e w' => e = .returned (.bool false) ∧ w = w' := by
  go_enter Try.func31, Try.ntmps31
  go_wp2
  go_ret
  exact ⟨rfl, rfl⟩

theorem made_zero (B : Nat) (w : World) (h0 : w.cell? ⟨B, 0, none⟩ = some (.map none)) : Calls Try.prog 31 #[.pointer (some ⟨B, 0, none⟩)] w fun e w' => e = .returned (.bool false) ∧ w = w' := by
  have hm := run_map_nil_ne_nil
  go_enter Try.func31, Try.ntmps31
  go_wp2
  go_ret
  exact ⟨rfl, rfl⟩

theorem made_some (B K : Nat) (w : World) (h0 : w.cell? ⟨B, 0, none⟩ = some (.map (some K))) : Calls Try.prog 31 #[.pointer (some ⟨B, 0, none⟩)] w fun e w' => e = .returned (.bool true) ∧ w = w' := by
  have hm := run_map_ne_nil K
  go_enter Try.func31, Try.ntmps31
  go_wp2
  go_ret
  exact ⟨rfl, rfl⟩

theorem up_nil (w : World) : Calls Try.prog 36 #[.pointer none] w fun e w' => e = pan 1 ∧ w = w' := by
  go_enter Try.func36, Try.ntmps36
  go_wp2_with (go_at_call 42; refine (must_no _ _).mono ?_; rintro e w' ⟨rfl, rfl⟩)
  exact ⟨rfl, rfl, rfl⟩

theorem up_zero (B : Nat) (w : World) (h0 : w.cell? ⟨B, 0, none⟩ = some (.map none)) : Calls Try.prog 36 #[.pointer (some ⟨B, 0, none⟩)] w fun e w' => e = pan 1 ∧ w = w' := by
  have hm := run_map_nil_ne_nil
  go_enter Try.func36, Try.ntmps36
  go_wp2_with (go_at_call 42; refine (must_no _ _).mono ?_; rintro e w' ⟨rfl, rfl⟩)
  exact ⟨rfl, rfl, rfl⟩

theorem up_down (B K : Nat) (w : World) (h0 : w.cell? ⟨B, 0, none⟩ = some (.map (some K))) (h9 : w.cell? ⟨B, 9, none⟩ = some (.bool true)) : Calls Try.prog 36 #[.pointer (some ⟨B, 0, none⟩)] w fun e w' => e = pan 8 ∧ w = w' := by
  have hm := run_map_ne_nil K
  go_enter Try.func36, Try.ntmps36
  go_wp2_with fail
  refine (must_ok _ _).mono ?_
  rintro e w' ⟨rfl, rfl⟩
  go_wp2_with fail
  refine (must_no _ _).mono ?_
  rintro e w' ⟨rfl, rfl⟩
  exact ⟨rfl, rfl, rfl⟩

theorem up_ok (B K : Nat) (w : World) (h0 : w.cell? ⟨B, 0, none⟩ = some (.map (some K))) (h9 : w.cell? ⟨B, 9, none⟩ = some (.bool false)) : Calls Try.prog 36 #[.pointer (some ⟨B, 0, none⟩)] w fun e w' => e = ret0 ∧ w = w' := by
  have hm := run_map_ne_nil K
  go_enter Try.func36, Try.ntmps36
  go_wp2_with fail
  refine (must_ok _ _).mono ?_
  rintro e w' ⟨rfl, rfl⟩
  go_wp2_with fail
  refine (must_ok _ _).mono ?_
  rintro e w' ⟨rfl, rfl⟩
  go_wp2
  go_returns
  exact ⟨rfl, rfl⟩

theorem there_ok (B : Nat) (at_ n : Int) (w : World) (h3 : w.cell? ⟨B, 3, none⟩ = some (.int .i64 n)) (h1 : 0 ≤ at_) (h2 : at_ < n) : Calls Try.prog 41 #[.pointer (some ⟨B, 0, none⟩), .int .i64 at_] w fun e w' => e = ret0 ∧ w = w' := by
  go_enter Try.func41, Try.ntmps41
  go_wp2_with fail
  refine (must_ok _ _).mono ?_
  rintro e w' ⟨rfl, rfl⟩
  go_wp2
  go_returns
  exact ⟨rfl, rfl⟩

theorem there_no (B : Nat) (at_ n : Int) (w : World) (h3 : w.cell? ⟨B, 3, none⟩ = some (.int .i64 n)) (h : ¬ (0 ≤ at_ ∧ at_ < n)) : Calls Try.prog 41 #[.pointer (some ⟨B, 0, none⟩), .int .i64 at_] w fun e w' => e = pan 7 ∧ w = w' := by
  by_cases h1 : 0 ≤ at_
  · have h2 : ¬ at_ < n := fun q => h ⟨h1, q⟩
    clear h
    go_enter Try.func41, Try.ntmps41
    go_wp2_with fail
    refine (must_no _ _).mono ?_
    rintro e w' ⟨rfl, rfl⟩
    exact ⟨rfl, rfl, rfl⟩
  · clear h
    go_enter Try.func41, Try.ntmps41
    go_wp2_with fail
    refine (must_no _ _).mono ?_
    rintro e w' ⟨rfl, rfl⟩
    exact ⟨rfl, rfl, rfl⟩

theorem turn_idle (B : Nat) (n : Int) (w : World) (h0 : w.cell? ⟨B, 8, none⟩ = some (.int .i64 n)) (h1 : w.cell? ⟨B, 7, none⟩ = some (.int .i64 0)) (f8 : w.frozen? ⟨B, 8, none⟩ = false) :
    Calls Try.prog 37 #[.pointer (some ⟨B, 0, none⟩)] w fun e w' => e = ret0 ∧ w.setCell ⟨B, 8, none⟩ (.int .i64 (wrap64 (n + 1))) = w' := by
  go_enter Try.func37, Try.ntmps37
  go_wp2
  go_returns
  exact ⟨rfl, rfl⟩

theorem turn_on (B : Nat) (n a : Int) (w : World) (h0 : w.cell? ⟨B, 8, none⟩ = some (.int .i64 n)) (h1 : w.cell? ⟨B, 7, none⟩ = some (.int .i64 a)) (h9 : w.cell? ⟨B, 9, none⟩ = some (.bool false))
    (f7 : w.frozen? ⟨B, 7, none⟩ = false) (f8 : w.frozen? ⟨B, 8, none⟩ = false) (f9 : w.frozen? ⟨B, 9, none⟩ = false) (ha : 1 < a) (ha' : a ≤ 9223372036854775807) :
    Calls Try.prog 37 #[.pointer (some ⟨B, 0, none⟩)] w fun e w' => e = ret0 ∧ ((w.setCell ⟨B, 8, none⟩ (.int .i64 (wrap64 (n + 1)))).setCell ⟨B, 7, none⟩ (.int .i64 (a - 1))).setCell ⟨B, 9, none⟩ (.bool false) = w' := by
  have e1 : (a == 0) = false := beq_eq_false_iff_ne.2 (by omega)
  have e2 : (a - 1 == 0) = false := beq_eq_false_iff_ne.2 (by omega)
  go_enter Try.func37, Try.ntmps37
  go_wp2_with fail
  refine (must_ok _ _).mono ?_
  rintro e w' ⟨rfl, rfl⟩
  go_wp2
  go_returns
  exact ⟨rfl, rfl⟩

theorem turn_crash (B : Nat) (n : Int) (w : World) (h0 : w.cell? ⟨B, 8, none⟩ = some (.int .i64 n)) (h1 : w.cell? ⟨B, 7, none⟩ = some (.int .i64 1)) (h9 : w.cell? ⟨B, 9, none⟩ = some (.bool false))
    (f7 : w.frozen? ⟨B, 7, none⟩ = false) (f8 : w.frozen? ⟨B, 8, none⟩ = false) (f9 : w.frozen? ⟨B, 9, none⟩ = false) :
    Calls Try.prog 37 #[.pointer (some ⟨B, 0, none⟩)] w fun e w' => e = pan 8 ∧ ((w.setCell ⟨B, 8, none⟩ (.int .i64 (wrap64 (n + 1)))).setCell ⟨B, 7, none⟩ (.int .i64 0)).setCell ⟨B, 9, none⟩ (.bool true) = w' := by
  go_enter Try.func37, Try.ntmps37
  go_wp2_with fail
  refine (must_no _ _).mono ?_
  rintro e w' ⟨rfl, rfl⟩
  exact ⟨rfl, rfl, rfl⟩
end Go.Proofs.Ytaaoabfmelpcpaa
