/- Numbers in their range: the reference's. No condition. -/
import Derived.Test.YtbfmeiooeaaibaaInts
namespace Go.Proofs.Ytbfmeiooeaaibaa
open Go.RowKit
set_option linter.unusedVariables false

theorem l1Max_any (a b : Int) (w : World) : Calls Try.prog 98 #[.int .i64 a, .int .i64 b] w fun e w' => e = .returned (.int .i64 (max a b)) ∧ w = w' := by
  by_cases h : b < a
  · skip
    go_enter Try.func98, Try.ntmps98
    go_wp2_with fail
    go_ret
    exact ⟨ret_int (by omega), rfl⟩
  · skip
    go_enter Try.func98, Try.ntmps98
    go_wp2_with fail
    go_ret
    exact ⟨ret_int (by omega), rfl⟩
theorem l1Min_any (a b : Int) (w : World) : Calls Try.prog 99 #[.int .i64 a, .int .i64 b] w fun e w' => e = .returned (.int .i64 (min a b)) ∧ w = w' := by
  by_cases h : a < b
  · skip
    go_enter Try.func99, Try.ntmps99
    go_wp2_with fail
    go_ret
    exact ⟨ret_int (by omega), rfl⟩
  · skip
    go_enter Try.func99, Try.ntmps99
    go_wp2_with fail
    go_ret
    exact ⟨ret_int (by omega), rfl⟩

def sat (n : Int) : Int := max (-1000000) (min 1000000 n)
theorem sat_iff {n : Int} : sat n = n ↔ -1000000 ≤ n ∧ n ≤ 1000000 := by unfold sat; omega

theorem specSat_any (n : Int) (w : World) : Calls Try.prog 94 #[.int .i64 n] w fun e w' => e = .returned (.int .i64 (sat n)) ∧ w = w' := by
  go_enter Try.func94, Try.ntmps94
  go_wp2_with fail
  refine (l1Min_any _ _ _).mono ?_
  rintro e w' ⟨rfl, rfl⟩
  go_wp2_with fail
  refine (l1Max_any _ _ _).mono ?_
  rintro e w' ⟨rfl, rfl⟩
  go_wp2_with fail
  go_ret
  exact ⟨ret_int rfl, rfl⟩

theorem specCoerce1_any (n : Int) (w : World) : Calls Try.prog 87 #[.int .i64 n, .int .i64 1] w fun e w' => e = .returned (.int .i64 (sat n)) ∧ w = w' := by
  go_enter Try.func87, Try.ntmps87
  go_wp2_with fail
  refine (specSat_any _ _).mono ?_
  rintro e w' ⟨rfl, rfl⟩
  go_wp2_with fail
  go_ret
  exact ⟨ret_int rfl, rfl⟩

theorem specNum_any (n : Int) (w : World) : Calls Try.prog 73 #[.int .i64 n, .int .i64 1] w fun e w' => e = .returned (.bool (decide (-1000000 ≤ n) && decide (n ≤ 1000000))) ∧ w = w' := by
  go_enter Try.func73, Try.ntmps73
  go_wp2_with fail
  refine (l1In_any _ _ _ _).mono ?_
  rintro e w' ⟨rfl, rfl⟩
  go_wp2_with fail
  refine (specCoerce1_any _ _).mono ?_
  rintro e w' ⟨rfl, rfl⟩
  go_wp2_with fail
  go_ret
  refine ⟨ret_bool ?_, rfl⟩
  rw [Bool.eq_iff_iff]
  simp
  exact sat_iff
end Go.Proofs.Ytbfmeiooeaaibaa
