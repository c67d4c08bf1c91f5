/- Contracts of the functions of chapter 1 (numbers): what each call returns. -/
import Derived.Test.YtolpolhmgddkdaaRows
import Derived.Test.YtolpolhmgddkdaaPlain
import Derived.WalkKit
import Derived.ProofKit
import Derived.OpenShut
import Derived.Lib.Hide
import Derived.Outline
namespace Go.Proofs.Ytolpolhmgddkdaa.C
open Go.RowKit Go.Proofs.Ytolpolhmgddkdaa.K

theorem ret_bool {a b : Bool} (h : a = b) : Ending.returned (.bool a) = .returned (.bool b) := by rw [h]
theorem ret_two {a b c d : Int} (h : a = b) (k : c = d) : Ending.returned (.tuple #[.int .i64 a, .int .i64 c]) = .returned (.tuple #[.int .i64 b, .int .i64 d]) := by rw [h, k]
theorem ret_three {a b c d e f : Int} (h : a = b) (k : c = d) (l : e = f) : Ending.returned (.tuple #[.int .i64 a, .int .i64 c, .int .i64 e]) = .returned (.tuple #[.int .i64 b, .int .i64 d, .int .i64 f]) := by rw [h, k, l]
theorem ret_agg1 {a b c d e f : Int} (h : a = b) (k : c = d) (l : e = f) : Ending.returned (.tuple #[.agg #[.int .i64 a, .int .i64 c], .int .i64 e]) = .returned (.tuple #[.agg #[.int .i64 b, .int .i64 d], .int .i64 f]) := by rw [h, k, l]
theorem ret_agg {a b c d : Int} (h : a = b) (k : c = d) : Ending.returned (.agg #[.int .i64 a, .int .i64 c]) = .returned (.agg #[.int .i64 b, .int .i64 d]) := by rw [h, k]
theorem ret_int {k : IntKind} {a b : Int} (h : a = b) : Ending.returned (.int k a) = .returned (.int k b) := by rw [h]

set_option maxHeartbeats 400000 in
theorem in_s (n a b : Int) (w : World) : Calls Try.prog 21 #[.int .i64 n, .int .i64 a, .int .i64 b] w fun e w' => e = .returned (.bool (inB n a b)) ∧ w = w' := by
  by_cases h : a ≤ n
  · by_cases k : n ≤ b
    · have hr : true = inB n a b := (inB_mk h k).symm
      have HR := Lib.hid hr; clear hr
      go_enter Try.func21, Try.ntmps21
      go_wp2
      go_ret
      exact ⟨ret_bool HR.out, rfl⟩
    · have hr : false = inB n a b := (inB_false.2 (by omega)).symm
      have HR := Lib.hid hr; clear hr
      go_enter Try.func21, Try.ntmps21
      go_wp2
      go_ret
      exact ⟨ret_bool HR.out, rfl⟩
  · have hr : false = inB n a b := (inB_false.2 (by omega)).symm
    have HR := Lib.hid hr; clear hr
    go_enter Try.func21, Try.ntmps21
    go_wp2
    go_ret
    exact ⟨ret_bool HR.out, rfl⟩
set_option maxHeartbeats 400000 in
theorem in_i (n a b : Int) (w : World) : Calls Try.prog 22 #[.int .i64 n, .int .i64 a, .int .i64 b] w fun e w' => e = .returned (.bool (inB n a b)) ∧ w = w' := by
  by_cases h : a ≤ n
  · by_cases k : n ≤ b
    · have hr : true = inB n a b := (inB_mk h k).symm
      have HR := Lib.hid hr; clear hr
      go_enter Try.func22, Try.ntmps22
      go_wp2
      go_ret
      exact ⟨ret_bool HR.out, rfl⟩
    · have hr : false = inB n a b := (inB_false.2 (by omega)).symm
      have HR := Lib.hid hr; clear hr
      go_enter Try.func22, Try.ntmps22
      go_wp2
      go_ret
      exact ⟨ret_bool HR.out, rfl⟩
  · have hr : false = inB n a b := (inB_false.2 (by omega)).symm
    have HR := Lib.hid hr; clear hr
    go_enter Try.func22, Try.ntmps22
    go_wp2
    go_ret
    exact ⟨ret_bool HR.out, rfl⟩
set_option maxHeartbeats 400000 in
theorem is_s (n : Int) (w : World) : Calls Try.prog 23 #[.int .i64 n] w fun e w' => e = .returned (.bool (isV n)) ∧ w = w' := by
  go_enter Try.func23, Try.ntmps23
  go_wp2_with (go_at_call 21; refine (in_s _ _ _ _).mono ?_; rintro e w' ⟨rfl, rfl⟩)
  go_ret
  exact ⟨rfl, rfl⟩
set_option maxHeartbeats 400000 in
theorem is_i (n : Int) (w : World) : Calls Try.prog 24 #[.int .i64 n] w fun e w' => e = .returned (.bool (isV n)) ∧ w = w' := by
  by_cases h : -1000000000000 ≤ n
  · by_cases k : n ≤ 1000000000000
    · have hr : true = isV n := (isV_true.2 ⟨h, k⟩).symm
      have HR := Lib.hid hr; clear hr
      go_enter Try.func24, Try.ntmps24
      go_wp2
      go_ret
      exact ⟨ret_bool HR.out, rfl⟩
    · have hr : false = isV n := (inB_false.2 (by omega)).symm
      have HR := Lib.hid hr; clear hr
      go_enter Try.func24, Try.ntmps24
      go_wp2
      go_ret
      exact ⟨ret_bool HR.out, rfl⟩
  · have hr : false = isV n := (inB_false.2 (by omega)).symm
    have HR := Lib.hid hr; clear hr
    go_enter Try.func24, Try.ntmps24
    go_wp2
    go_ret
    exact ⟨ret_bool HR.out, rfl⟩
end Go.Proofs.Ytolpolhmgddkdaa.C
