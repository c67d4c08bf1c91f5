/- Contracts of chapter 2: figures, first part. -/
import Derived.Test.YtolpolhmgddkdaaA1
import Derived.Test.YtolpolhmgddkdaaU2
import Derived.Test.YtolpolhmgddkdaaPlain2
namespace Go.Proofs.Ytolpolhmgddkdaa.C
open Go.RowKit Go.Proofs.Ytolpolhmgddkdaa.K
set_option linter.unusedVariables false

set_option maxHeartbeats 400000 in
theorem toFigure (a b : Int) (w : World) : Calls Try.prog 15 #[.agg #[.int .i64 a, .int .i64 b]] w fun e w' => e = .returned (.agg #[.int .i64 a, .int .i64 b]) ∧ Below w.heap.size w w' := by
  go_enter Try.func15, Try.ntmps15
  go_wp2
  go_returns
  exact ⟨rfl, by go_grown⟩
set_option maxHeartbeats 400000 in
theorem IsFigure_spec (a b : Int) (w : World) : Calls Try.prog 14 #[.agg #[.int .i64 a, .int .i64 b]] w fun e w' => e = .returned (.bool (figV a b)) ∧ Below w.heap.size w w' := by
  cases ha : inB a 1000 9999
  · have HR := Lib.hid (show false = figV a b by simp [figV, ha])
    go_enter Try.func14, Try.ntmps14
    go_wp2_with (go_at_call 21; refine (in_s _ _ _ _).mono ?_; rintro e w' ⟨rfl, rfl⟩)
    go_returns
    exact ⟨ret_bool HR.out, by go_grown⟩
  · have HR := Lib.hid (show inB b (-30) 30 = figV a b by simp [figV, ha])
    go_enter Try.func14, Try.ntmps14
    go_wp2_with (go_at_call 21; refine (in_s _ _ _ _).mono ?_; rintro e w' ⟨rfl, rfl⟩)
    go_returns
    exact ⟨ret_bool HR.out, by go_grown⟩
set_option maxHeartbeats 400000 in
theorem IsFigure_impl (a b : Int) (w : World) : Calls Try.prog 16 #[.agg #[.int .i64 a, .int .i64 b]] w fun e w' => e = .returned (.bool (figV a b)) ∧ Below w.heap.size w w' := by
  cases ha : inB a 1000 9999
  · have HR := Lib.hid (show false = figV a b by simp [figV, ha])
    go_enter Try.func16, Try.ntmps16
    go_wp2_with (go_at_call 22; refine (in_i _ _ _ _).mono ?_; rintro e w' ⟨rfl, rfl⟩)
    go_returns
    exact ⟨ret_bool HR.out, by go_grown⟩
  · have HR := Lib.hid (show inB b (-30) 30 = figV a b by simp [figV, ha])
    go_enter Try.func16, Try.ntmps16
    go_wp2_with (go_at_call 22; refine (in_i _ _ _ _).mono ?_; rintro e w' ⟨rfl, rfl⟩)
    go_returns
    exact ⟨ret_bool HR.out, by go_grown⟩
end Go.Proofs.Ytolpolhmgddkdaa.C
