/- Contracts of chapter 3: intervals (without the logarithm itself). -/
import Derived.Test.YtkhioplhmmjalaaU
import Derived.Test.YtkhioplhmmjalaaA1
namespace Go.Proofs.Ytkhioplhmmjalaa.C
open Go.RowKit Go.Proofs.Ytkhioplhmmjalaa.K
set_option linter.unusedVariables false

set_option maxHeartbeats 400000 in
theorem toInterval (a b : Int) (w : World) : Calls Try.prog 41 #[.agg #[.int .i64 a, .int .i64 b]] w fun e w' => e = .returned (.agg #[.int .i64 a, .int .i64 b]) ∧ Below w.heap.size w w' := by
  go_enter Try.func41, Try.ntmps41
  go_wp2
  go_returns
  exact ⟨rfl, by go_grown⟩
set_option maxHeartbeats 400000 in
theorem eqInterval_same (a b : Int) (w : World) : Calls Try.prog 20 #[.agg #[.int .i64 a, .int .i64 b], .agg #[.int .i64 a, .int .i64 b]] w fun e w' => e = .returned (.bool true) ∧ Below w.heap.size w w' := by
  go_enter Try.func20, Try.ntmps20
  go_wp2
  go_returns
  exact ⟨rfl, by go_grown⟩
set_option maxHeartbeats 400000 in
theorem IsInterval_spec (a b : Int) (w : World) : Calls Try.prog 70 #[.agg #[.int .i64 a, .int .i64 b]] w fun e w' => e = .returned (.bool (ivV a b)) ∧ Below w.heap.size w w' := by
  cases ha : isV a
  · have HR := Lib.hid (show false = ivV a b by simp [ivV, ha])
    go_enter Try.func70, Try.ntmps70
    go_wp2_with (go_at_call 90; refine (is_s _ _).mono ?_; rintro e w' ⟨rfl, rfl⟩)
    go_returns
    exact ⟨ret_bool HR.out, by go_grown⟩
  · cases hb : isV b
    · have HR := Lib.hid (show false = ivV a b by simp [ivV, hb])
      go_enter Try.func70, Try.ntmps70
      go_wp2_with (go_at_call 90; refine (is_s _ _).mono ?_; rintro e w' ⟨rfl, rfl⟩)
      go_returns
      exact ⟨ret_bool HR.out, by go_grown⟩
    · have HR := Lib.hid (show decide (a ≤ b) = ivV a b by simp [ivV, ha, hb])
      go_enter Try.func70, Try.ntmps70
      go_wp2_with (go_at_call 90; refine (is_s _ _).mono ?_; rintro e w' ⟨rfl, rfl⟩)
      go_returns
      exact ⟨ret_bool HR.out, by go_grown⟩
set_option maxHeartbeats 400000 in
theorem IsInterval_impl (a b : Int) (w : World) : Calls Try.prog 72 #[.agg #[.int .i64 a, .int .i64 b]] w fun e w' => e = .returned (.bool (ivV a b)) ∧ Below w.heap.size w w' := by
  cases ha : isV a
  · have HR := Lib.hid (show false = ivV a b by simp [ivV, ha])
    go_enter Try.func72, Try.ntmps72
    go_wp2_with (go_at_call 91; refine (is_i _ _).mono ?_; rintro e w' ⟨rfl, rfl⟩)
    go_returns
    exact ⟨ret_bool HR.out, by go_grown⟩
  · cases hb : isV b
    · have HR := Lib.hid (show false = ivV a b by simp [ivV, hb])
      go_enter Try.func72, Try.ntmps72
      go_wp2_with (go_at_call 91; refine (is_i _ _).mono ?_; rintro e w' ⟨rfl, rfl⟩)
      go_returns
      exact ⟨ret_bool HR.out, by go_grown⟩
    · have HR := Lib.hid (show decide (a ≤ b) = ivV a b by simp [ivV, ha, hb])
      go_enter Try.func72, Try.ntmps72
      go_wp2_with (go_at_call 91; refine (is_i _ _).mono ?_; rintro e w' ⟨rfl, rfl⟩)
      go_returns
      exact ⟨ret_bool HR.out, by go_grown⟩
end Go.Proofs.Ytkhioplhmmjalaa.C
