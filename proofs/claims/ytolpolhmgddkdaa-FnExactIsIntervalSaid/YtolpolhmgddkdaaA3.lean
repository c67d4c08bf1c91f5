/- Contracts of chapter 3: intervals (without the logarithm itself). -/
import Derived.Test.YtolpolhmgddkdaaU
import Derived.Test.YtolpolhmgddkdaaA1
namespace Go.Proofs.Ytolpolhmgddkdaa.C
open Go.RowKit Go.Proofs.Ytolpolhmgddkdaa.K
set_option linter.unusedVariables false

set_option maxHeartbeats 400000 in
theorem toInterval (a b : Int) (w : World) : Calls Try.prog 12 #[.agg #[.int .i64 a, .int .i64 b]] w fun e w' => e = .returned (.agg #[.int .i64 a, .int .i64 b]) ∧ Below w.heap.size w w' := by
  go_enter Try.func12, Try.ntmps12
  go_wp2
  go_returns
  exact ⟨rfl, by go_grown⟩
set_option maxHeartbeats 400000 in
theorem IsInterval_spec (a b : Int) (w : World) : Calls Try.prog 11 #[.agg #[.int .i64 a, .int .i64 b]] w fun e w' => e = .returned (.bool (ivV a b)) ∧ Below w.heap.size w w' := by
  cases ha : isV a
  · have HR := Lib.hid (show false = ivV a b by simp [ivV, ha])
    go_enter Try.func11, Try.ntmps11
    go_wp2_with (go_at_call 23; refine (is_s _ _).mono ?_; rintro e w' ⟨rfl, rfl⟩)
    go_returns
    exact ⟨ret_bool HR.out, by go_grown⟩
  · cases hb : isV b
    · have HR := Lib.hid (show false = ivV a b by simp [ivV, hb])
      go_enter Try.func11, Try.ntmps11
      go_wp2_with (go_at_call 23; refine (is_s _ _).mono ?_; rintro e w' ⟨rfl, rfl⟩)
      go_returns
      exact ⟨ret_bool HR.out, by go_grown⟩
    · have HR := Lib.hid (show decide (a ≤ b) = ivV a b by simp [ivV, ha, hb])
      go_enter Try.func11, Try.ntmps11
      go_wp2_with (go_at_call 23; refine (is_s _ _).mono ?_; rintro e w' ⟨rfl, rfl⟩)
      go_returns
      exact ⟨ret_bool HR.out, by go_grown⟩
set_option maxHeartbeats 400000 in
theorem IsInterval_impl (a b : Int) (w : World) : Calls Try.prog 13 #[.agg #[.int .i64 a, .int .i64 b]] w fun e w' => e = .returned (.bool (ivV a b)) ∧ Below w.heap.size w w' := by
  cases ha : isV a
  · have HR := Lib.hid (show false = ivV a b by simp [ivV, ha])
    go_enter Try.func13, Try.ntmps13
    go_wp2_with (go_at_call 24; refine (is_i _ _).mono ?_; rintro e w' ⟨rfl, rfl⟩)
    go_returns
    exact ⟨ret_bool HR.out, by go_grown⟩
  · cases hb : isV b
    · have HR := Lib.hid (show false = ivV a b by simp [ivV, hb])
      go_enter Try.func13, Try.ntmps13
      go_wp2_with (go_at_call 24; refine (is_i _ _).mono ?_; rintro e w' ⟨rfl, rfl⟩)
      go_returns
      exact ⟨ret_bool HR.out, by go_grown⟩
    · have HR := Lib.hid (show decide (a ≤ b) = ivV a b by simp [ivV, ha, hb])
      go_enter Try.func13, Try.ntmps13
      go_wp2_with (go_at_call 24; refine (is_i _ _).mono ?_; rintro e w' ⟨rfl, rfl⟩)
      go_returns
      exact ⟨ret_bool HR.out, by go_grown⟩
end Go.Proofs.Ytolpolhmgddkdaa.C
