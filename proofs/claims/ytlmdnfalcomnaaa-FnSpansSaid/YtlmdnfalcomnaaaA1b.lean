/- Contracts of the functions of chapter 1, second part: divisions, powers of ten, common divisors. -/
import Derived.Test.YtlmdnfalcomnaaaA1
import Derived.LoopTactic
import Derived.Below
import Derived.BigQuiet
import Derived.Deep.QuietTactic
import Derived.Deep.Draws
import Derived.WalkSmall
namespace Go.Proofs.Ytlmdnfalcomnaaa.C
open Go.RowKit Go.Proofs.Ytlmdnfalcomnaaa.K

set_option maxHeartbeats 400000 in
theorem ten_s (n : Int) (w : World) (h0 : 0 ≤ n) (h1 : n ≤ 15) : Calls Try.prog 131 #[.int .i64 n] w fun e w' => e = .returned (.int .i64 (tenV n)) ∧ w = w' := by
  go_enter Try.func131, Try.ntmps131
  go_wp2
  go_loop [0, 3] (fun a o => ∃ m : Int, 0 ≤ m ∧ m ≤ n ∧ a = .int .i64 m ∧ o = .int .i64 (tenV (n - m))) (fun a _ => (intOf a).toNat)
  case atStart => exact ⟨n, h0, Int.le_refl _, rfl, by rw [Int.sub_self]; rfl⟩
  case round =>
    obtain ⟨m, hm0, hm1, rfl, rfl⟩ := hrel
    have tb := tenV_bounds (n - m) (by omega) (by omega)
    have tb0 := tb.1
    have tb1 := tb.2
    clear tb
    by_cases hm : 0 < m
    · have HS := Lib.hid (tenV_succ (n - m) (by omega))
      go_wp2
      go_round
      case rel => exact ⟨m - 1, by omega, by omega, rfl, by rw [show n - (m - 1) = n - m + 1 by omega, HS.out]⟩
      case measure => simp [intOf]; omega
    · have HE := Lib.hid (show m = 0 by omega)
      go_wp2
      go_ret
      exact ⟨ret_int (by rw [HE.out, Int.sub_zero]), rfl⟩
set_option maxHeartbeats 400000 in
theorem ten_i (n : Int) (w : World) (h0 : 0 ≤ n) (h1 : n ≤ 15) : Calls Try.prog 110 #[.int .i64 n] w fun e w' => e = .returned (.int .i64 (tenV n)) ∧ w = w' := by
  go_enter Try.func110, Try.ntmps110
  go_wp2_with fail
  go_loop [3, 5] (fun o a => ∃ m : Int, 0 ≤ m ∧ m ≤ n ∧ a = .int .i64 m ∧ o = .int .i64 (tenV m)) (fun _ a => (n - intOf a).toNat)
  case atStart => exact ⟨0, Int.le_refl _, h0, rfl, rfl⟩
  case round =>
    obtain ⟨m, hm0, hm1, rfl, rfl⟩ := hrel
    have tb := tenV_bounds m (by omega) (by omega)
    have tb0 := tb.1
    have tb1 := tb.2
    clear tb
    by_cases hm : m < n
    · have HS := Lib.hid (tenV_succ' m (by omega))
      go_wp2
      go_round
      case rel => exact ⟨m + 1, by omega, by omega, rfl, by rw [HS.out]⟩
      case measure => simp [intOf]; omega
    · have HE := Lib.hid (show m = n by omega)
      go_wp2
      go_ret
      exact ⟨ret_int (by rw [HE.out]), rfl⟩
end Go.Proofs.Ytlmdnfalcomnaaa.C
