/- Contracts of the functions of chapter 1, second part: divisions, powers of ten, common divisors. -/
import Derived.Test.YthmmdcpodadjbaaA1
import Derived.LoopTactic
import Derived.Below
import Derived.BigQuiet
import Derived.Deep.QuietTactic
import Derived.Deep.Draws
import Derived.WalkSmall
namespace Go.Proofs.Ythmmdcpodadjbaa.C
open Go.RowKit Go.Proofs.Ythmmdcpodadjbaa.K

set_option maxHeartbeats 400000 in
theorem ten_s (n : Int) (w : World) (h0 : 0 ≤ n) (h1 : n ≤ 15) : Calls Try.prog 154 #[.int .i64 n] w fun e w' => e = .returned (.int .i64 (tenV n)) ∧ w = w' := by
  go_enter Try.func154, Try.ntmps154
  go_wp2
  go_loop [0, 3] (fun a o => ∃ m : Int, 0 ≤ m ∧ m ≤ n ∧ a = .int .i64 m ∧ o = .int .i64 (tenV (n - m))) (fun a _ => (intOf a).toNat)
  case atStart => exact ⟨n, h0, Int.le_refl _, rfl, by rw [Int.sub_self]; rfl⟩
  case round =>
    obtain ⟨m, hm0, hm1, rfl, rfl⟩ := hrel
    have tb := tenV_bounds (n - m) (by omega) (by omega)
    have tb0 := tb.1
    have tb1 := tb.2
    clear tb
    by_cases hm : 0 < m
    · have HS := Lib.hid (tenV_succ (n - m) (by omega))
      go_wp2
      go_round
      case rel => exact ⟨m - 1, by omega, by omega, rfl, by rw [show n - (m - 1) = n - m + 1 by omega, HS.out]⟩
      case measure => simp [intOf]; omega
    · have HE := Lib.hid (show m = 0 by omega)
      go_wp2
      go_ret
      exact ⟨ret_int (by rw [HE.out, Int.sub_zero]), rfl⟩
set_option maxHeartbeats 400000 in
theorem ten_i (n : Int) (w : World) (h0 : 0 ≤ n) (h1 : n ≤ 15) : Calls Try.prog 153 #[.int .i64 n] w fun e w' => e = .returned (.int .i64 (tenV n)) ∧ w = w' := by
  go_enter Try.func153, Try.ntmps153
  go_wp2_with fail
  go_loop [3, 5] (fun o a => ∃ m : Int, 0 ≤ m ∧ m ≤ n ∧ a = .int .i64 m ∧ o = .int .i64 (tenV m)) (fun _ a => (n - intOf a).toNat)
  case atStart => exact ⟨0, Int.le_refl _, h0, rfl, rfl⟩
  case round =>
    obtain ⟨m, hm0, hm1, rfl, rfl⟩ := hrel
    have tb := tenV_bounds m (by omega) (by omega)
    have tb0 := tb.1
    have tb1 := tb.2
    clear tb
    by_cases hm : m < n
    · have HS := Lib.hid (tenV_succ' m (by omega))
      go_wp2
      go_round
      case rel => exact ⟨m + 1, by omega, by omega, rfl, by rw [HS.out]⟩
      case measure => simp [intOf]; omega
    · have HE := Lib.hid (show m = n by omega)
      go_wp2
      go_ret
      exact ⟨ret_int (by rw [HE.out]), rfl⟩
set_option maxHeartbeats 400000 in
theorem MantissaOf_spec (u : Int) (w : World) : Calls Try.prog 31 #[.int .i64 u] w fun e w' => e = .returned (.tuple #[.int .i64 (maV u), .int .i64 (mbV u), .int .i64 (rgV (isV u))]) ∧ w = w' := by
  cases ha : isV u
  · have HR := Lib.hid (show 0 = maV u by simp [maV, ha])
    have HS := Lib.hid (show 0 = mbV u by simp [mbV, ha])
    go_enter Try.func31, Try.ntmps31
    go_wp2_with (go_at_call 103; refine (is_s _ _).mono ?_; rintro e w' ⟨rfl, rfl⟩)
    go_ret3
    exact ⟨ret_three HR.out HS.out rfl, rfl⟩
  · have HR := Lib.hid (show u % 1048576 = maV u by simp [maV, ha])
    have HS := Lib.hid (show u / 1048576 = mbV u by simp [mbV, ha])
    obtain ⟨h0, h1⟩ := isV_true.1 ha
    go_enter Try.func31, Try.ntmps31
    go_wp2_with (first | (go_at_call 103; refine (is_s _ _).mono ?_; rintro e w' ⟨rfl, rfl⟩) | (go_at_call 104; refine (mod_s _ _ _ (by omega) (by omega) (by omega) (by omega)).mono ?_; rintro e w' ⟨rfl, rfl⟩) | (go_at_call 105; refine (floor_s _ _ _ (by omega) (by omega) (by omega)).mono ?_; rintro e w' ⟨rfl, rfl⟩))
    go_ret3
    exact ⟨ret_three HR.out HS.out rfl, rfl⟩
set_option maxHeartbeats 400000 in
theorem MantissaOf_impl (u : Int) (w : World) : Calls Try.prog 30 #[.int .i64 u] w fun e w' => e = .returned (.tuple #[.int .i64 (maV u), .int .i64 (mbV u), .int .i64 (rgV (isV u))]) ∧ w = w' := by
  cases ha : isV u
  · have HR := Lib.hid (show 0 = maV u by simp [maV, ha])
    have HS := Lib.hid (show 0 = mbV u by simp [mbV, ha])
    go_enter Try.func30, Try.ntmps30
    go_wp2_with (go_at_call 100; refine (is_i _ _).mono ?_; rintro e w' ⟨rfl, rfl⟩)
    go_ret3
    exact ⟨ret_three HR.out HS.out rfl, rfl⟩
  · have HR := Lib.hid (show u % 1048576 = maV u by simp [maV, ha])
    have HS := Lib.hid (show u / 1048576 = mbV u by simp [mbV, ha])
    obtain ⟨h0, h1⟩ := isV_true.1 ha
    go_enter Try.func30, Try.ntmps30
    go_wp2_with (first | (go_at_call 100; refine (is_i _ _).mono ?_; rintro e w' ⟨rfl, rfl⟩) | (go_at_call 101; refine (modulo_i _ _ _ (by omega) (by omega) (by omega) (by omega)).mono ?_; rintro e w' ⟨rfl, rfl⟩) | (go_at_call 102; refine (down_i _ _ _ (by omega) (by omega) (by omega)).mono ?_; rintro e w' ⟨rfl, rfl⟩))
    go_ret3
    exact ⟨ret_three HR.out HS.out rfl, rfl⟩
end Go.Proofs.Ythmmdcpodadjbaa.C
