/- Contracts of the functions of chapter 1, second part: divisions, powers of ten, common divisors. -/
import Derived.Test.YtckpldpncknlnaaA1
import Derived.LoopTactic
import Derived.Below
import Derived.BigQuiet
import Derived.Deep.QuietTactic
import Derived.Deep.Draws
import Derived.WalkSmall
namespace Go.Proofs.Ytckpldpncknlnaa.C
open Go.RowKit Go.Proofs.Ytckpldpncknlnaa.K

set_option maxHeartbeats 400000 in
theorem code_s (a b : Int) (w : World) : Calls Try.prog 68 #[.int .i64 a, .int .i64 b] w fun e w' => e = .returned (.int .i64 (codeV a b)) ∧ w = w' := by
  cases ha : isV a
  · have HR := Lib.hid (show 2 = codeV a b by simp [codeV, ha])
    go_enter Try.func68, Try.ntmps68
    go_wp2_with (go_at_call 54; refine (is_s _ _).mono ?_; rintro e w' ⟨rfl, rfl⟩)
    go_ret
    exact ⟨ret_int HR.out, rfl⟩
  · cases hb : isV b
    · have HR := Lib.hid (show 2 = codeV a b by simp [codeV, hb])
      go_enter Try.func68, Try.ntmps68
      go_wp2_with (go_at_call 54; refine (is_s _ _).mono ?_; rintro e w' ⟨rfl, rfl⟩)
      go_ret
      exact ⟨ret_int HR.out, rfl⟩
    · by_cases hz : b = 0
      · have hz' : (b == 0) = true := beq_iff_eq.2 hz
        have HR := Lib.hid (show 5 = codeV a b by first | (rw [codeV, if_pos ⟨ha, hb⟩, if_pos hz]) | (rw [codeV, if_pos ⟨ha, hb⟩, if_neg hz]))
        clear hz
        go_enter Try.func68, Try.ntmps68
        go_wp2_with (go_at_call 54; refine (is_s _ _).mono ?_; rintro e w' ⟨rfl, rfl⟩)
        go_ret
        exact ⟨ret_int HR.out, rfl⟩
      · have hz' : (b == 0) = false := beq_eq_false_iff_ne.2 hz
        have HR := Lib.hid (show 0 = codeV a b by first | (rw [codeV, if_pos ⟨ha, hb⟩, if_pos hz]) | (rw [codeV, if_pos ⟨ha, hb⟩, if_neg hz]))
        clear hz
        go_enter Try.func68, Try.ntmps68
        go_wp2_with (go_at_call 54; refine (is_s _ _).mono ?_; rintro e w' ⟨rfl, rfl⟩)
        go_ret
        exact ⟨ret_int HR.out, rfl⟩
set_option maxHeartbeats 400000 in
theorem code_i (a b : Int) (w : World) : Calls Try.prog 69 #[.int .i64 a, .int .i64 b] w fun e w' => e = .returned (.int .i64 (codeV a b)) ∧ w = w' := by
  cases ha : isV a
  · have HR := Lib.hid (show 2 = codeV a b by simp [codeV, ha])
    go_enter Try.func69, Try.ntmps69
    go_wp2_with (go_at_call 56; refine (is_i _ _).mono ?_; rintro e w' ⟨rfl, rfl⟩)
    go_ret
    exact ⟨ret_int HR.out, rfl⟩
  · cases hb : isV b
    · have HR := Lib.hid (show 2 = codeV a b by simp [codeV, hb])
      go_enter Try.func69, Try.ntmps69
      go_wp2_with (go_at_call 56; refine (is_i _ _).mono ?_; rintro e w' ⟨rfl, rfl⟩)
      go_ret
      exact ⟨ret_int HR.out, rfl⟩
    · by_cases hz : b = 0
      · have hz' : (b == 0) = true := beq_iff_eq.2 hz
        have HR := Lib.hid (show 5 = codeV a b by first | (rw [codeV, if_pos ⟨ha, hb⟩, if_pos hz]) | (rw [codeV, if_pos ⟨ha, hb⟩, if_neg hz]))
        clear hz
        go_enter Try.func69, Try.ntmps69
        go_wp2_with (go_at_call 56; refine (is_i _ _).mono ?_; rintro e w' ⟨rfl, rfl⟩)
        go_ret
        exact ⟨ret_int HR.out, rfl⟩
      · have hz' : (b == 0) = false := beq_eq_false_iff_ne.2 hz
        have HR := Lib.hid (show 0 = codeV a b by first | (rw [codeV, if_pos ⟨ha, hb⟩, if_pos hz]) | (rw [codeV, if_pos ⟨ha, hb⟩, if_neg hz]))
        clear hz
        go_enter Try.func69, Try.ntmps69
        go_wp2_with (go_at_call 56; refine (is_i _ _).mono ?_; rintro e w' ⟨rfl, rfl⟩)
        go_ret
        exact ⟨ret_int HR.out, rfl⟩
set_option maxHeartbeats 400000 in
theorem DivideDown_spec (a b : Int) (w : World) : Calls Try.prog 33 #[.int .i64 a, .int .i64 b] w fun e w' => e = .returned (.tuple #[.int .i64 (ddV a b), .int .i64 (codeV a b)]) ∧ w = w' := by
  by_cases hc : codeV a b = 0
  · obtain ⟨a1, a2, b1, b2, hb0⟩ := codeV_zero hc
    have hc' : (codeV a b != 0) = false := by rw [hc]; rfl
    have HC := Lib.hid hc.symm
    rcases Int.lt_or_lt_of_ne hb0 with hb | hb
    · have HR := Lib.hid (ddV_n hc hb)
      clear hb0 hc
      go_enter Try.func33, Try.ntmps33
      go_wp2_with (first | (go_at_call 68; refine (code_s _ _ _).mono ?_; rintro e w' ⟨rfl, rfl⟩) | (go_at_call 59; refine (floor_sn _ _ _ (by omega) (by omega) (by omega) (by omega)).mono ?_; rintro e w' ⟨rfl, rfl⟩))
      go_ret2
      exact ⟨ret_two HR.out HC.out, rfl⟩
    · have HR := Lib.hid (ddV_p hc hb)
      clear hb0 hc
      go_enter Try.func33, Try.ntmps33
      go_wp2_with (first | (go_at_call 68; refine (code_s _ _ _).mono ?_; rintro e w' ⟨rfl, rfl⟩) | (go_at_call 59; refine (floor_s _ _ _ (by omega) (by omega) (by omega)).mono ?_; rintro e w' ⟨rfl, rfl⟩))
      go_ret2
      exact ⟨ret_two HR.out HC.out, rfl⟩
  · have hc' : (codeV a b != 0) = true := by rw [bne_iff_ne]; exact hc
    have HR := Lib.hid (show 0 = ddV a b by simp [ddV, hc])
    clear hc
    go_enter Try.func33, Try.ntmps33
    go_wp2_with (go_at_call 68; refine (code_s _ _ _).mono ?_; rintro e w' ⟨rfl, rfl⟩)
    go_ret2
    exact ⟨ret_two HR.out rfl, rfl⟩
set_option maxHeartbeats 400000 in
theorem DivideUp_spec (a b : Int) (w : World) : Calls Try.prog 35 #[.int .i64 a, .int .i64 b] w fun e w' => e = .returned (.tuple #[.int .i64 (duV a b), .int .i64 (codeV a b)]) ∧ w = w' := by
  by_cases hc : codeV a b = 0
  · obtain ⟨a1, a2, b1, b2, hb0⟩ := codeV_zero hc
    have hc' : (codeV a b != 0) = false := by rw [hc]; rfl
    have HC := Lib.hid hc.symm
    rcases Int.lt_or_lt_of_ne hb0 with hb | hb
    · have HR := Lib.hid (duV_n hc hb)
      clear hb0 hc
      go_enter Try.func35, Try.ntmps35
      go_wp2_with (first | (go_at_call 68; refine (code_s _ _ _).mono ?_; rintro e w' ⟨rfl, rfl⟩) | (go_at_call 70; refine (ceil_sn _ _ _ (by omega) (by omega) (by omega) (by omega)).mono ?_; rintro e w' ⟨rfl, rfl⟩))
      go_ret2
      exact ⟨ret_two HR.out HC.out, rfl⟩
    · have HR := Lib.hid (duV_p hc hb)
      clear hb0 hc
      go_enter Try.func35, Try.ntmps35
      go_wp2_with (first | (go_at_call 68; refine (code_s _ _ _).mono ?_; rintro e w' ⟨rfl, rfl⟩) | (go_at_call 70; refine (ceil_s _ _ _ (by omega) (by omega) (by omega)).mono ?_; rintro e w' ⟨rfl, rfl⟩))
      go_ret2
      exact ⟨ret_two HR.out HC.out, rfl⟩
  · have hc' : (codeV a b != 0) = true := by rw [bne_iff_ne]; exact hc
    have HR := Lib.hid (show 0 = duV a b by simp [duV, hc])
    clear hc
    go_enter Try.func35, Try.ntmps35
    go_wp2_with (go_at_call 68; refine (code_s _ _ _).mono ?_; rintro e w' ⟨rfl, rfl⟩)
    go_ret2
    exact ⟨ret_two HR.out rfl, rfl⟩
set_option maxHeartbeats 400000 in
theorem DivideDown_impl (a b : Int) (w : World) : Calls Try.prog 34 #[.int .i64 a, .int .i64 b] w fun e w' => e = .returned (.tuple #[.int .i64 (ddV a b), .int .i64 (codeV a b)]) ∧ w = w' := by
  by_cases hc : codeV a b = 0
  · obtain ⟨a1, a2, b1, b2, hb0⟩ := codeV_zero hc
    have hc' : (codeV a b != 0) = false := by rw [hc]; rfl
    have HC := Lib.hid hc.symm
    rcases Int.lt_or_lt_of_ne hb0 with hb | hb
    · have HR := Lib.hid (ddV_n hc hb)
      clear hb0 hc
      go_enter Try.func34, Try.ntmps34
      go_wp2_with (first | (go_at_call 69; refine (code_i _ _ _).mono ?_; rintro e w' ⟨rfl, rfl⟩) | (go_at_call 61; refine (down_in _ _ _ (by omega) (by omega) (by omega) (by omega)).mono ?_; rintro e w' ⟨rfl, rfl⟩))
      go_ret2
      exact ⟨ret_two HR.out HC.out, rfl⟩
    · have HR := Lib.hid (ddV_p hc hb)
      clear hb0 hc
      go_enter Try.func34, Try.ntmps34
      go_wp2_with (first | (go_at_call 69; refine (code_i _ _ _).mono ?_; rintro e w' ⟨rfl, rfl⟩) | (go_at_call 61; refine (down_i _ _ _ (by omega) (by omega) (by omega)).mono ?_; rintro e w' ⟨rfl, rfl⟩))
      go_ret2
      exact ⟨ret_two HR.out HC.out, rfl⟩
  · have hc' : (codeV a b != 0) = true := by rw [bne_iff_ne]; exact hc
    have HR := Lib.hid (show 0 = ddV a b by simp [ddV, hc])
    clear hc
    go_enter Try.func34, Try.ntmps34
    go_wp2_with (go_at_call 69; refine (code_i _ _ _).mono ?_; rintro e w' ⟨rfl, rfl⟩)
    go_ret2
    exact ⟨ret_two HR.out rfl, rfl⟩
set_option maxHeartbeats 400000 in
theorem DivideUp_impl (a b : Int) (w : World) : Calls Try.prog 36 #[.int .i64 a, .int .i64 b] w fun e w' => e = .returned (.tuple #[.int .i64 (duV a b), .int .i64 (codeV a b)]) ∧ w = w' := by
  by_cases hc : codeV a b = 0
  · obtain ⟨a1, a2, b1, b2, hb0⟩ := codeV_zero hc
    have hc' : (codeV a b != 0) = false := by rw [hc]; rfl
    have HC := Lib.hid hc.symm
    rcases Int.lt_or_lt_of_ne hb0 with hb | hb
    · have HR := Lib.hid (duV_n hc hb)
      clear hb0 hc
      go_enter Try.func36, Try.ntmps36
      go_wp2_with (first | (go_at_call 69; refine (code_i _ _ _).mono ?_; rintro e w' ⟨rfl, rfl⟩) | (go_at_call 71; refine (up_in _ _ _ (by omega) (by omega) (by omega) (by omega)).mono ?_; rintro e w' ⟨rfl, rfl⟩))
      go_ret2
      exact ⟨ret_two HR.out HC.out, rfl⟩
    · have HR := Lib.hid (duV_p hc hb)
      clear hb0 hc
      go_enter Try.func36, Try.ntmps36
      go_wp2_with (first | (go_at_call 69; refine (code_i _ _ _).mono ?_; rintro e w' ⟨rfl, rfl⟩) | (go_at_call 71; refine (up_i _ _ _ (by omega) (by omega) (by omega)).mono ?_; rintro e w' ⟨rfl, rfl⟩))
      go_ret2
      exact ⟨ret_two HR.out HC.out, rfl⟩
  · have hc' : (codeV a b != 0) = true := by rw [bne_iff_ne]; exact hc
    have HR := Lib.hid (show 0 = duV a b by simp [duV, hc])
    clear hc
    go_enter Try.func36, Try.ntmps36
    go_wp2_with (go_at_call 69; refine (code_i _ _ _).mono ?_; rintro e w' ⟨rfl, rfl⟩)
    go_ret2
    exact ⟨ret_two HR.out rfl, rfl⟩
set_option maxHeartbeats 400000 in
theorem DivideNear_spec (a b : Int) (w : World) : Calls Try.prog 37 #[.int .i64 a, .int .i64 b] w fun e w' => e = .returned (.tuple #[.int .i64 (dnV a b), .int .i64 (codeV a b)]) ∧ w = w' := by
  by_cases hc : codeV a b = 0
  · obtain ⟨a1, a2, b1, b2, hb0⟩ := codeV_zero hc
    have hc' : (codeV a b != 0) = false := by rw [hc]; rfl
    have HC := Lib.hid hc.symm
    rcases Int.lt_or_lt_of_ne hb0 with hb | hb
    · have HR := Lib.hid (dnV_n hc hb)
      clear hb0 hc
      go_enter Try.func37, Try.ntmps37
      go_wp2_with (first | (go_at_call 68; refine (code_s _ _ _).mono ?_; rintro e w' ⟨rfl, rfl⟩) | (go_at_call 72; refine (nearest_s _ _ _ (by omega) (by omega) (by omega) (by omega)).mono ?_; rintro e w' ⟨rfl, rfl⟩))
      go_ret2
      exact ⟨ret_two HR.out HC.out, rfl⟩
    · have HR := Lib.hid (dnV_p hc hb)
      clear hb0 hc
      go_enter Try.func37, Try.ntmps37
      go_wp2_with (first | (go_at_call 68; refine (code_s _ _ _).mono ?_; rintro e w' ⟨rfl, rfl⟩) | (go_at_call 72; refine (nearest_s _ _ _ (by omega) (by omega) (by omega) (by omega)).mono ?_; rintro e w' ⟨rfl, rfl⟩))
      go_ret2
      exact ⟨ret_two HR.out HC.out, rfl⟩
  · have hc' : (codeV a b != 0) = true := by rw [bne_iff_ne]; exact hc
    have HR := Lib.hid (show 0 = dnV a b by simp [dnV, hc])
    clear hc
    go_enter Try.func37, Try.ntmps37
    go_wp2_with (go_at_call 68; refine (code_s _ _ _).mono ?_; rintro e w' ⟨rfl, rfl⟩)
    go_ret2
    exact ⟨ret_two HR.out rfl, rfl⟩
set_option maxHeartbeats 400000 in
theorem DivideNear_impl (a b : Int) (w : World) : Calls Try.prog 38 #[.int .i64 a, .int .i64 b] w fun e w' => e = .returned (.tuple #[.int .i64 (dnV a b), .int .i64 (codeV a b)]) ∧ w = w' := by
  by_cases hc : codeV a b = 0
  · obtain ⟨a1, a2, b1, b2, hb0⟩ := codeV_zero hc
    have hc' : (codeV a b != 0) = false := by rw [hc]; rfl
    have HC := Lib.hid hc.symm
    rcases Int.lt_or_lt_of_ne hb0 with hb | hb
    · have HR := Lib.hid (dnV_n hc hb)
      clear hb0 hc
      go_enter Try.func38, Try.ntmps38
      go_wp2_with (first | (go_at_call 69; refine (code_i _ _ _).mono ?_; rintro e w' ⟨rfl, rfl⟩) | (go_at_call 73; refine (near_in _ _ _ (by omega) (by omega) (by omega) (by omega)).mono ?_; rintro e w' ⟨rfl, rfl⟩))
      go_ret2
      exact ⟨ret_two HR.out HC.out, rfl⟩
    · have HR := Lib.hid (dnV_p hc hb)
      clear hb0 hc
      go_enter Try.func38, Try.ntmps38
      go_wp2_with (first | (go_at_call 69; refine (code_i _ _ _).mono ?_; rintro e w' ⟨rfl, rfl⟩) | (go_at_call 73; refine (near_i _ _ _ (by omega) (by omega) (by omega) (by omega)).mono ?_; rintro e w' ⟨rfl, rfl⟩))
      go_ret2
      exact ⟨ret_two HR.out HC.out, rfl⟩
  · have hc' : (codeV a b != 0) = true := by rw [bne_iff_ne]; exact hc
    have HR := Lib.hid (show 0 = dnV a b by simp [dnV, hc])
    clear hc
    go_enter Try.func38, Try.ntmps38
    go_wp2_with (go_at_call 69; refine (code_i _ _ _).mono ?_; rintro e w' ⟨rfl, rfl⟩)
    go_ret2
    exact ⟨ret_two HR.out rfl, rfl⟩
set_option maxHeartbeats 400000 in
theorem ten_s (n : Int) (w : World) (h0 : 0 ≤ n) (h1 : n ≤ 15) : Calls Try.prog 51 #[.int .i64 n] w fun e w' => e = .returned (.int .i64 (tenV n)) ∧ w = w' := by
  go_enter Try.func51, Try.ntmps51
  go_wp2
  go_loop [0, 3] (fun a o => ∃ m : Int, 0 ≤ m ∧ m ≤ n ∧ a = .int .i64 m ∧ o = .int .i64 (tenV (n - m))) (fun a _ => (intOf a).toNat)
  case atStart => exact ⟨n, h0, Int.le_refl _, rfl, by rw [Int.sub_self]; rfl⟩
  case round =>
    obtain ⟨m, hm0, hm1, rfl, rfl⟩ := hrel
    have tb := tenV_bounds (n - m) (by omega) (by omega)
    have tb0 := tb.1
    have tb1 := tb.2
    clear tb
    by_cases hm : 0 < m
    · have HS := Lib.hid (tenV_succ (n - m) (by omega))
      go_wp2
      go_round
      case rel => exact ⟨m - 1, by omega, by omega, rfl, by rw [show n - (m - 1) = n - m + 1 by omega, HS.out]⟩
      case measure => simp [intOf]; omega
    · have HE := Lib.hid (show m = 0 by omega)
      go_wp2
      go_ret
      exact ⟨ret_int (by rw [HE.out, Int.sub_zero]), rfl⟩
set_option maxHeartbeats 400000 in
theorem ten_i (n : Int) (w : World) (h0 : 0 ≤ n) (h1 : n ≤ 15) : Calls Try.prog 53 #[.int .i64 n] w fun e w' => e = .returned (.int .i64 (tenV n)) ∧ w = w' := by
  go_enter Try.func53, Try.ntmps53
  go_wp2_with fail
  go_loop [3, 5] (fun o a => ∃ m : Int, 0 ≤ m ∧ m ≤ n ∧ a = .int .i64 m ∧ o = .int .i64 (tenV m)) (fun _ a => (n - intOf a).toNat)
  case atStart => exact ⟨0, Int.le_refl _, h0, rfl, rfl⟩
  case round =>
    obtain ⟨m, hm0, hm1, rfl, rfl⟩ := hrel
    have tb := tenV_bounds m (by omega) (by omega)
    have tb0 := tb.1
    have tb1 := tb.2
    clear tb
    by_cases hm : m < n
    · have HS := Lib.hid (tenV_succ' m (by omega))
      go_wp2
      go_round
      case rel => exact ⟨m + 1, by omega, by omega, rfl, by rw [HS.out]⟩
      case measure => simp [intOf]; omega
    · have HE := Lib.hid (show m = n by omega)
      go_wp2
      go_ret
      exact ⟨ret_int (by rw [HE.out]), rfl⟩
set_option maxHeartbeats 400000 in
theorem PowerOfTen_spec (n : Int) (w : World) : Calls Try.prog 22 #[.int .i64 n] w fun e w' => e = .returned (.tuple #[.int .i64 (ptV n), .int .i64 (rgV (inB n 0 12))]) ∧ w = w' := by
  cases hc : inB n 0 12
  · have HR := Lib.hid (show 0 = ptV n by simp [ptV, hc])
    go_enter Try.func22, Try.ntmps22
    go_wp2_with (go_at_call 50; refine (in_s _ _ _ _).mono ?_; rintro e w' ⟨rfl, rfl⟩)
    go_ret2
    exact ⟨ret_two HR.out rfl, rfl⟩
  · have HR := Lib.hid (show tenV n = ptV n by simp [ptV, hc])
    obtain ⟨h0, h1⟩ := inB_true.1 hc
    go_enter Try.func22, Try.ntmps22
    go_wp2_with (first | (go_at_call 50; refine (in_s _ _ _ _).mono ?_; rintro e w' ⟨rfl, rfl⟩) | (go_at_call 51; refine (ten_s _ _ (by omega) (by omega)).mono ?_; rintro e w' ⟨rfl, rfl⟩))
    go_ret2
    exact ⟨ret_two HR.out rfl, rfl⟩
set_option maxHeartbeats 400000 in
theorem PowerOfTen_impl (n : Int) (w : World) : Calls Try.prog 23 #[.int .i64 n] w fun e w' => e = .returned (.tuple #[.int .i64 (ptV n), .int .i64 (rgV (inB n 0 12))]) ∧ w = w' := by
  cases hc : inB n 0 12
  · have HR := Lib.hid (show 0 = ptV n by simp [ptV, hc])
    go_enter Try.func23, Try.ntmps23
    go_wp2_with (go_at_call 52; refine (in_i _ _ _ _).mono ?_; rintro e w' ⟨rfl, rfl⟩)
    go_ret2
    exact ⟨ret_two HR.out rfl, rfl⟩
  · have HR := Lib.hid (show tenV n = ptV n by simp [ptV, hc])
    obtain ⟨h0, h1⟩ := inB_true.1 hc
    go_enter Try.func23, Try.ntmps23
    go_wp2_with (first | (go_at_call 52; refine (in_i _ _ _ _).mono ?_; rintro e w' ⟨rfl, rfl⟩) | (go_at_call 53; refine (ten_i _ _ (by omega) (by omega)).mono ?_; rintro e w' ⟨rfl, rfl⟩))
    go_ret2
    exact ⟨ret_two HR.out rfl, rfl⟩
set_option maxHeartbeats 400000 in
theorem gcd_s (a b : Int) (w : World) (ha : -1000000000000 ≤ a) (ha2 : a ≤ 1000000000000) (hb : -1000000000000 ≤ b) (hb2 : b ≤ 1000000000000) : Calls Try.prog 55 #[.int .i64 a, .int .i64 b] w fun e w' => e = .returned (.int .i64 (Int.gcd a b : Int)) ∧ Below w.heap.size w w' := by
  go_enter Try.func55, Try.ntmps55
  go_wp2_with (go_at_call 76; refine (abs_s _ _ (by omega) (by omega)).mono ?_; rintro e w' ⟨rfl, rfl⟩)
  go_loopw [0, 1] (fun x y wr => ∃ m n : Nat, m ≤ 1000000000000 ∧ n ≤ 1000000000000 ∧ Nat.gcd m n = Int.gcd a b ∧ x = .int .i64 m ∧ y = .int .i64 n ∧ Below w.heap.size w wr) (fun _ y _ => (intOf y).toNat)
  case atStart => exact ⟨a.natAbs, b.natAbs, by omega, by omega, rfl, rfl, rfl, Below.refl _ _⟩
  case round =>
    obtain ⟨m, n, hm, hn, hg, rfl, rfl, hbel⟩ := hrel
    have HG := Lib.hid hg; clear hg
    by_cases h0 : n = 0
    · subst h0
      go_wp2
      go_ret
      exact ⟨ret_int (by rw [← HG.out, Nat.gcd_zero_right]), hbel⟩
    · have ht : ((n : Int) != 0) = true := by rw [bne_iff_ne]; omega
      have ht' : ((n : Int) == 0) = false := beq_eq_false_iff_ne.2 (by omega)
      have hl : m % n < n := Nat.mod_lt _ (by omega)
      go_wp2
      go_quiet (fail)
      go_wp2
      go_roundw
      case rel => exact ⟨n, m % n, hn, by omega, by rw [← HG.out, Nat.gcd_comm m n]; exact (Nat.gcd_rec n m).symm ▸ (Nat.gcd_comm _ _), rfl, rfl, below_drewN hbel _⟩
      case measure => simp [intOf]; omega
set_option maxHeartbeats 400000 in
theorem gcd_i (a b : Int) (w : World) (ha : -1000000000000 ≤ a) (ha2 : a ≤ 1000000000000) (hb : -1000000000000 ≤ b) (hb2 : b ≤ 1000000000000) : Calls Try.prog 57 #[.int .i64 a, .int .i64 b] w fun e w' => e = .returned (.int .i64 (Int.gcd a b : Int)) ∧ Below w.heap.size w w' := by
  go_enter Try.func57, Try.ntmps57
  go_wp2
  go_loopw [0, 1] (fun x y wr => ∃ m n : Int, -1000000000000 ≤ m ∧ m ≤ 1000000000000 ∧ -1000000000000 ≤ n ∧ n ≤ 1000000000000 ∧ Int.gcd m n = Int.gcd a b ∧ x = .int .i64 m ∧ y = .int .i64 n ∧ Below w.heap.size w wr) (fun _ y _ => (intOf y).natAbs)
  case atStart => exact ⟨a, b, ha, ha2, hb, hb2, rfl, rfl, rfl, Below.refl _ _⟩
  case round =>
    obtain ⟨m, n, hm, hm2, hn, hn2, hg, rfl, rfl, hbel⟩ := hrel
    have HG := Lib.hid hg; clear hg
    by_cases h0 : n = 0
    · subst h0
      by_cases hs : 0 ≤ m
      · have g : ¬ m < -m := by omega
        go_wp2
        go_ret
        exact ⟨ret_int (by rw [← HG.out, Int.gcd_zero_right]; omega), hbel⟩
      · have g : m < -m := by omega
        go_wp2
        go_ret
        exact ⟨ret_int (by rw [← HG.out, Int.gcd_zero_right]; omega), hbel⟩
    · have ht : (n != 0) = true := by rw [bne_iff_ne]; omega
      have ht' : (n == 0) = false := beq_eq_false_iff_ne.2 (by omega)
      have tb := tmod_abs m h0
      have HE := Lib.hid tb.2
      have hl := tb.1
      clear tb
      by_cases hs : 0 ≤ m
      · have he : m % n = m.tmod n := (IntWalk.rem_in m n hs).symm
        have HX := Lib.hid he
        rw [← he] at hl
        clear he
        go_wp2
        go_quiet (fail)
        go_wp2
        go_roundw
        case rel => exact ⟨n, m % n, hn, hn2, by omega, by omega, by rw [HX.out, HE.out]; exact HG.out, rfl, rfl, below_drewN hbel _⟩
        case measure => simp [intOf]; omega
      · have hl1 : -1000000000000 ≤ m.tmod n := by omega
        have hl2 : m.tmod n ≤ 1000000000000 := by omega
        have HL := Lib.hid hl
        clear hl
        go_wp2
        go_quiet (fail)
        go_wp2
        have hl := HL.out
        go_roundw
        case rel => exact ⟨n, m.tmod n, hn, hn2, by omega, by omega, by rw [HE.out]; exact HG.out, rfl, rfl, below_drewN hbel _⟩
        case measure => exact hl
set_option maxHeartbeats 400000 in
theorem CommonDivisor_spec (a b : Int) (w : World) : Calls Try.prog 24 #[.int .i64 a, .int .i64 b] w fun e w' => e = .returned (.tuple #[.int .i64 (cdV a b), .int .i64 (rgV (isV a && isV b))]) ∧ Below w.heap.size w w' := by
  cases ha : isV a
  · have HR := Lib.hid (show 0 = cdV a b by simp [cdV, ha])
    go_enter Try.func24, Try.ntmps24
    go_wp2_with (go_at_call 54; refine (is_s _ _).mono ?_; rintro e w' ⟨rfl, rfl⟩)
    go_ret2
    exact ⟨ret_two HR.out rfl, Below.refl _ _⟩
  · cases hb : isV b
    · have HR := Lib.hid (show 0 = cdV a b by simp [cdV, hb])
      go_enter Try.func24, Try.ntmps24
      go_wp2_with (go_at_call 54; refine (is_s _ _).mono ?_; rintro e w' ⟨rfl, rfl⟩)
      go_ret2
      exact ⟨ret_two HR.out rfl, Below.refl _ _⟩
    · have HR := Lib.hid (show (Int.gcd a b : Int) = cdV a b by simp [cdV, ha, hb])
      obtain ⟨h0, h1⟩ := isV_true.1 ha
      obtain ⟨h2, h3⟩ := isV_true.1 hb
      go_enter Try.func24, Try.ntmps24
      go_wp2_with (first | (go_at_call 54; refine (is_s _ _).mono ?_; rintro e w' ⟨rfl, rfl⟩) | (go_at_call 55; refine (gcd_s _ _ _ (by omega) (by omega) (by omega) (by omega)).mono ?_; rintro e w1 ⟨rfl, hbel⟩))
      go_ret2
      exact ⟨ret_two HR.out rfl, hbel⟩
set_option maxHeartbeats 400000 in
theorem CommonDivisor_impl (a b : Int) (w : World) : Calls Try.prog 25 #[.int .i64 a, .int .i64 b] w fun e w' => e = .returned (.tuple #[.int .i64 (cdV a b), .int .i64 (rgV (isV a && isV b))]) ∧ Below w.heap.size w w' := by
  cases ha : isV a
  · have HR := Lib.hid (show 0 = cdV a b by simp [cdV, ha])
    go_enter Try.func25, Try.ntmps25
    go_wp2_with (go_at_call 56; refine (is_i _ _).mono ?_; rintro e w' ⟨rfl, rfl⟩)
    go_ret2
    exact ⟨ret_two HR.out rfl, Below.refl _ _⟩
  · cases hb : isV b
    · have HR := Lib.hid (show 0 = cdV a b by simp [cdV, hb])
      go_enter Try.func25, Try.ntmps25
      go_wp2_with (go_at_call 56; refine (is_i _ _).mono ?_; rintro e w' ⟨rfl, rfl⟩)
      go_ret2
      exact ⟨ret_two HR.out rfl, Below.refl _ _⟩
    · have HR := Lib.hid (show (Int.gcd a b : Int) = cdV a b by simp [cdV, ha, hb])
      obtain ⟨h0, h1⟩ := isV_true.1 ha
      obtain ⟨h2, h3⟩ := isV_true.1 hb
      go_enter Try.func25, Try.ntmps25
      go_wp2_with (first | (go_at_call 56; refine (is_i _ _).mono ?_; rintro e w' ⟨rfl, rfl⟩) | (go_at_call 57; refine (gcd_i _ _ _ (by omega) (by omega) (by omega) (by omega)).mono ?_; rintro e w1 ⟨rfl, hbel⟩))
      go_ret2
      exact ⟨ret_two HR.out rfl, hbel⟩
set_option maxHeartbeats 400000 in
theorem MantissaOf_spec (u : Int) (w : World) : Calls Try.prog 26 #[.int .i64 u] w fun e w' => e = .returned (.tuple #[.int .i64 (maV u), .int .i64 (mbV u), .int .i64 (rgV (isV u))]) ∧ w = w' := by
  cases ha : isV u
  · have HR := Lib.hid (show 0 = maV u by simp [maV, ha])
    have HS := Lib.hid (show 0 = mbV u by simp [mbV, ha])
    go_enter Try.func26, Try.ntmps26
    go_wp2_with (go_at_call 54; refine (is_s _ _).mono ?_; rintro e w' ⟨rfl, rfl⟩)
    go_ret3
    exact ⟨ret_three HR.out HS.out rfl, rfl⟩
  · have HR := Lib.hid (show u % 1048576 = maV u by simp [maV, ha])
    have HS := Lib.hid (show u / 1048576 = mbV u by simp [mbV, ha])
    obtain ⟨h0, h1⟩ := isV_true.1 ha
    go_enter Try.func26, Try.ntmps26
    go_wp2_with (first | (go_at_call 54; refine (is_s _ _).mono ?_; rintro e w' ⟨rfl, rfl⟩) | (go_at_call 58; refine (mod_s _ _ _ (by omega) (by omega) (by omega) (by omega)).mono ?_; rintro e w' ⟨rfl, rfl⟩) | (go_at_call 59; refine (floor_s _ _ _ (by omega) (by omega) (by omega)).mono ?_; rintro e w' ⟨rfl, rfl⟩))
    go_ret3
    exact ⟨ret_three HR.out HS.out rfl, rfl⟩
set_option maxHeartbeats 400000 in
theorem MantissaOf_impl (u : Int) (w : World) : Calls Try.prog 27 #[.int .i64 u] w fun e w' => e = .returned (.tuple #[.int .i64 (maV u), .int .i64 (mbV u), .int .i64 (rgV (isV u))]) ∧ w = w' := by
  cases ha : isV u
  · have HR := Lib.hid (show 0 = maV u by simp [maV, ha])
    have HS := Lib.hid (show 0 = mbV u by simp [mbV, ha])
    go_enter Try.func27, Try.ntmps27
    go_wp2_with (go_at_call 56; refine (is_i _ _).mono ?_; rintro e w' ⟨rfl, rfl⟩)
    go_ret3
    exact ⟨ret_three HR.out HS.out rfl, rfl⟩
  · have HR := Lib.hid (show u % 1048576 = maV u by simp [maV, ha])
    have HS := Lib.hid (show u / 1048576 = mbV u by simp [mbV, ha])
    obtain ⟨h0, h1⟩ := isV_true.1 ha
    go_enter Try.func27, Try.ntmps27
    go_wp2_with (first | (go_at_call 56; refine (is_i _ _).mono ?_; rintro e w' ⟨rfl, rfl⟩) | (go_at_call 60; refine (modulo_i _ _ _ (by omega) (by omega) (by omega) (by omega)).mono ?_; rintro e w' ⟨rfl, rfl⟩) | (go_at_call 61; refine (down_i _ _ _ (by omega) (by omega) (by omega)).mono ?_; rintro e w' ⟨rfl, rfl⟩))
    go_ret3
    exact ⟨ret_three HR.out HS.out rfl, rfl⟩
end Go.Proofs.Ytckpldpncknlnaa.C
