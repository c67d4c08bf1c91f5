/- Contracts of the functions of chapter 1, second part: divisions, powers of ten, common divisors. -/
import Derived.Test.YtjfhaahdjkiciaaA1
import Derived.LoopTactic
import Derived.Below
import Derived.BigQuiet
import Derived.Deep.QuietTactic
import Derived.Deep.Draws
import Derived.WalkSmall
namespace Go.Proofs.Ytjfhaahdjkiciaa.C
open Go.RowKit Go.Proofs.Ytjfhaahdjkiciaa.K

set_option maxHeartbeats 400000 in
theorem code_s (a b : Int) (w : World) : Calls Try.prog 76 #[.int .i64 a, .int .i64 b] w fun e w' => e = .returned (.int .i64 (codeV a b)) ∧ w = w' := by
  cases ha : isV a
  · have HR := Lib.hid (show 2 = codeV a b by simp [codeV, ha])
    go_enter Try.func76, Try.ntmps76
    go_wp2_with (go_at_call 103; refine (is_s _ _).mono ?_; rintro e w' ⟨rfl, rfl⟩)
    go_ret
    exact ⟨ret_int HR.out, rfl⟩
  · cases hb : isV b
    · have HR := Lib.hid (show 2 = codeV a b by simp [codeV, hb])
      go_enter Try.func76, Try.ntmps76
      go_wp2_with (go_at_call 103; refine (is_s _ _).mono ?_; rintro e w' ⟨rfl, rfl⟩)
      go_ret
      exact ⟨ret_int HR.out, rfl⟩
    · by_cases hz : b = 0
      · have hz' : (b == 0) = true := beq_iff_eq.2 hz
        have HR := Lib.hid (show 5 = codeV a b by first | (rw [codeV, if_pos ⟨ha, hb⟩, if_pos hz]) | (rw [codeV, if_pos ⟨ha, hb⟩, if_neg hz]))
        clear hz
        go_enter Try.func76, Try.ntmps76
        go_wp2_with (go_at_call 103; refine (is_s _ _).mono ?_; rintro e w' ⟨rfl, rfl⟩)
        go_ret
        exact ⟨ret_int HR.out, rfl⟩
      · have hz' : (b == 0) = false := beq_eq_false_iff_ne.2 hz
        have HR := Lib.hid (show 0 = codeV a b by first | (rw [codeV, if_pos ⟨ha, hb⟩, if_pos hz]) | (rw [codeV, if_pos ⟨ha, hb⟩, if_neg hz]))
        clear hz
        go_enter Try.func76, Try.ntmps76
        go_wp2_with (go_at_call 103; refine (is_s _ _).mono ?_; rintro e w' ⟨rfl, rfl⟩)
        go_ret
        exact ⟨ret_int HR.out, rfl⟩
set_option maxHeartbeats 400000 in
theorem code_i (a b : Int) (w : World) : Calls Try.prog 74 #[.int .i64 a, .int .i64 b] w fun e w' => e = .returned (.int .i64 (codeV a b)) ∧ w = w' := by
  cases ha : isV a
  · have HR := Lib.hid (show 2 = codeV a b by simp [codeV, ha])
    go_enter Try.func74, Try.ntmps74
    go_wp2_with (go_at_call 101; refine (is_i _ _).mono ?_; rintro e w' ⟨rfl, rfl⟩)
    go_ret
    exact ⟨ret_int HR.out, rfl⟩
  · cases hb : isV b
    · have HR := Lib.hid (show 2 = codeV a b by simp [codeV, hb])
      go_enter Try.func74, Try.ntmps74
      go_wp2_with (go_at_call 101; refine (is_i _ _).mono ?_; rintro e w' ⟨rfl, rfl⟩)
      go_ret
      exact ⟨ret_int HR.out, rfl⟩
    · by_cases hz : b = 0
      · have hz' : (b == 0) = true := beq_iff_eq.2 hz
        have HR := Lib.hid (show 5 = codeV a b by first | (rw [codeV, if_pos ⟨ha, hb⟩, if_pos hz]) | (rw [codeV, if_pos ⟨ha, hb⟩, if_neg hz]))
        clear hz
        go_enter Try.func74, Try.ntmps74
        go_wp2_with (go_at_call 101; refine (is_i _ _).mono ?_; rintro e w' ⟨rfl, rfl⟩)
        go_ret
        exact ⟨ret_int HR.out, rfl⟩
      · have hz' : (b == 0) = false := beq_eq_false_iff_ne.2 hz
        have HR := Lib.hid (show 0 = codeV a b by first | (rw [codeV, if_pos ⟨ha, hb⟩, if_pos hz]) | (rw [codeV, if_pos ⟨ha, hb⟩, if_neg hz]))
        clear hz
        go_enter Try.func74, Try.ntmps74
        go_wp2_with (go_at_call 101; refine (is_i _ _).mono ?_; rintro e w' ⟨rfl, rfl⟩)
        go_ret
        exact ⟨ret_int HR.out, rfl⟩
set_option maxHeartbeats 400000 in
theorem DivideDown_spec (a b : Int) (w : World) : Calls Try.prog 13 #[.int .i64 a, .int .i64 b] w fun e w' => e = .returned (.tuple #[.int .i64 (ddV a b), .int .i64 (codeV a b)]) ∧ w = w' := by
  by_cases hc : codeV a b = 0
  · obtain ⟨a1, a2, b1, b2, hb0⟩ := codeV_zero hc
    have hc' : (codeV a b != 0) = false := by rw [hc]; rfl
    have HC := Lib.hid hc.symm
    rcases Int.lt_or_lt_of_ne hb0 with hb | hb
    · have HR := Lib.hid (ddV_n hc hb)
      clear hb0 hc
      go_enter Try.func13, Try.ntmps13
      go_wp2_with (first | (go_at_call 76; refine (code_s _ _ _).mono ?_; rintro e w' ⟨rfl, rfl⟩) | (go_at_call 77; refine (floor_sn _ _ _ (by omega) (by omega) (by omega) (by omega)).mono ?_; rintro e w' ⟨rfl, rfl⟩))
      go_ret2
      exact ⟨ret_two HR.out HC.out, rfl⟩
    · have HR := Lib.hid (ddV_p hc hb)
      clear hb0 hc
      go_enter Try.func13, Try.ntmps13
      go_wp2_with (first | (go_at_call 76; refine (code_s _ _ _).mono ?_; rintro e w' ⟨rfl, rfl⟩) | (go_at_call 77; refine (floor_s _ _ _ (by omega) (by omega) (by omega)).mono ?_; rintro e w' ⟨rfl, rfl⟩))
      go_ret2
      exact ⟨ret_two HR.out HC.out, rfl⟩
  · have hc' : (codeV a b != 0) = true := by rw [bne_iff_ne]; exact hc
    have HR := Lib.hid (show 0 = ddV a b by simp [ddV, hc])
    clear hc
    go_enter Try.func13, Try.ntmps13
    go_wp2_with (go_at_call 76; refine (code_s _ _ _).mono ?_; rintro e w' ⟨rfl, rfl⟩)
    go_ret2
    exact ⟨ret_two HR.out rfl, rfl⟩
set_option maxHeartbeats 400000 in
theorem DivideUp_spec (a b : Int) (w : World) : Calls Try.prog 15 #[.int .i64 a, .int .i64 b] w fun e w' => e = .returned (.tuple #[.int .i64 (duV a b), .int .i64 (codeV a b)]) ∧ w = w' := by
  by_cases hc : codeV a b = 0
  · obtain ⟨a1, a2, b1, b2, hb0⟩ := codeV_zero hc
    have hc' : (codeV a b != 0) = false := by rw [hc]; rfl
    have HC := Lib.hid hc.symm
    rcases Int.lt_or_lt_of_ne hb0 with hb | hb
    · have HR := Lib.hid (duV_n hc hb)
      clear hb0 hc
      go_enter Try.func15, Try.ntmps15
      go_wp2_with (first | (go_at_call 76; refine (code_s _ _ _).mono ?_; rintro e w' ⟨rfl, rfl⟩) | (go_at_call 79; refine (ceil_sn _ _ _ (by omega) (by omega) (by omega) (by omega)).mono ?_; rintro e w' ⟨rfl, rfl⟩))
      go_ret2
      exact ⟨ret_two HR.out HC.out, rfl⟩
    · have HR := Lib.hid (duV_p hc hb)
      clear hb0 hc
      go_enter Try.func15, Try.ntmps15
      go_wp2_with (first | (go_at_call 76; refine (code_s _ _ _).mono ?_; rintro e w' ⟨rfl, rfl⟩) | (go_at_call 79; refine (ceil_s _ _ _ (by omega) (by omega) (by omega)).mono ?_; rintro e w' ⟨rfl, rfl⟩))
      go_ret2
      exact ⟨ret_two HR.out HC.out, rfl⟩
  · have hc' : (codeV a b != 0) = true := by rw [bne_iff_ne]; exact hc
    have HR := Lib.hid (show 0 = duV a b by simp [duV, hc])
    clear hc
    go_enter Try.func15, Try.ntmps15
    go_wp2_with (go_at_call 76; refine (code_s _ _ _).mono ?_; rintro e w' ⟨rfl, rfl⟩)
    go_ret2
    exact ⟨ret_two HR.out rfl, rfl⟩
set_option maxHeartbeats 400000 in
theorem DivideDown_impl (a b : Int) (w : World) : Calls Try.prog 12 #[.int .i64 a, .int .i64 b] w fun e w' => e = .returned (.tuple #[.int .i64 (ddV a b), .int .i64 (codeV a b)]) ∧ w = w' := by
  by_cases hc : codeV a b = 0
  · obtain ⟨a1, a2, b1, b2, hb0⟩ := codeV_zero hc
    have hc' : (codeV a b != 0) = false := by rw [hc]; rfl
    have HC := Lib.hid hc.symm
    rcases Int.lt_or_lt_of_ne hb0 with hb | hb
    · have HR := Lib.hid (ddV_n hc hb)
      clear hb0 hc
      go_enter Try.func12, Try.ntmps12
      go_wp2_with (first | (go_at_call 74; refine (code_i _ _ _).mono ?_; rintro e w' ⟨rfl, rfl⟩) | (go_at_call 75; refine (down_in _ _ _ (by omega) (by omega) (by omega) (by omega)).mono ?_; rintro e w' ⟨rfl, rfl⟩))
      go_ret2
      exact ⟨ret_two HR.out HC.out, rfl⟩
    · have HR := Lib.hid (ddV_p hc hb)
      clear hb0 hc
      go_enter Try.func12, Try.ntmps12
      go_wp2_with (first | (go_at_call 74; refine (code_i _ _ _).mono ?_; rintro e w' ⟨rfl, rfl⟩) | (go_at_call 75; refine (down_i _ _ _ (by omega) (by omega) (by omega)).mono ?_; rintro e w' ⟨rfl, rfl⟩))
      go_ret2
      exact ⟨ret_two HR.out HC.out, rfl⟩
  · have hc' : (codeV a b != 0) = true := by rw [bne_iff_ne]; exact hc
    have HR := Lib.hid (show 0 = ddV a b by simp [ddV, hc])
    clear hc
    go_enter Try.func12, Try.ntmps12
    go_wp2_with (go_at_call 74; refine (code_i _ _ _).mono ?_; rintro e w' ⟨rfl, rfl⟩)
    go_ret2
    exact ⟨ret_two HR.out rfl, rfl⟩
set_option maxHeartbeats 400000 in
theorem DivideUp_impl (a b : Int) (w : World) : Calls Try.prog 14 #[.int .i64 a, .int .i64 b] w fun e w' => e = .returned (.tuple #[.int .i64 (duV a b), .int .i64 (codeV a b)]) ∧ w = w' := by
  by_cases hc : codeV a b = 0
  · obtain ⟨a1, a2, b1, b2, hb0⟩ := codeV_zero hc
    have hc' : (codeV a b != 0) = false := by rw [hc]; rfl
    have HC := Lib.hid hc.symm
    rcases Int.lt_or_lt_of_ne hb0 with hb | hb
    · have HR := Lib.hid (duV_n hc hb)
      clear hb0 hc
      go_enter Try.func14, Try.ntmps14
      go_wp2_with (first | (go_at_call 74; refine (code_i _ _ _).mono ?_; rintro e w' ⟨rfl, rfl⟩) | (go_at_call 78; refine (up_in _ _ _ (by omega) (by omega) (by omega) (by omega)).mono ?_; rintro e w' ⟨rfl, rfl⟩))
      go_ret2
      exact ⟨ret_two HR.out HC.out, rfl⟩
    · have HR := Lib.hid (duV_p hc hb)
      clear hb0 hc
      go_enter Try.func14, Try.ntmps14
      go_wp2_with (first | (go_at_call 74; refine (code_i _ _ _).mono ?_; rintro e w' ⟨rfl, rfl⟩) | (go_at_call 78; refine (up_i _ _ _ (by omega) (by omega) (by omega)).mono ?_; rintro e w' ⟨rfl, rfl⟩))
      go_ret2
      exact ⟨ret_two HR.out HC.out, rfl⟩
  · have hc' : (codeV a b != 0) = true := by rw [bne_iff_ne]; exact hc
    have HR := Lib.hid (show 0 = duV a b by simp [duV, hc])
    clear hc
    go_enter Try.func14, Try.ntmps14
    go_wp2_with (go_at_call 74; refine (code_i _ _ _).mono ?_; rintro e w' ⟨rfl, rfl⟩)
    go_ret2
    exact ⟨ret_two HR.out rfl, rfl⟩
set_option maxHeartbeats 400000 in
theorem DivideNear_spec (a b : Int) (w : World) : Calls Try.prog 17 #[.int .i64 a, .int .i64 b] w fun e w' => e = .returned (.tuple #[.int .i64 (dnV a b), .int .i64 (codeV a b)]) ∧ w = w' := by
  by_cases hc : codeV a b = 0
  · obtain ⟨a1, a2, b1, b2, hb0⟩ := codeV_zero hc
    have hc' : (codeV a b != 0) = false := by rw [hc]; rfl
    have HC := Lib.hid hc.symm
    rcases Int.lt_or_lt_of_ne hb0 with hb | hb
    · have HR := Lib.hid (dnV_n hc hb)
      clear hb0 hc
      go_enter Try.func17, Try.ntmps17
      go_wp2_with (first | (go_at_call 76; refine (code_s _ _ _).mono ?_; rintro e w' ⟨rfl, rfl⟩) | (go_at_call 81; refine (nearest_s _ _ _ (by omega) (by omega) (by omega) (by omega)).mono ?_; rintro e w' ⟨rfl, rfl⟩))
      go_ret2
      exact ⟨ret_two HR.out HC.out, rfl⟩
    · have HR := Lib.hid (dnV_p hc hb)
      clear hb0 hc
      go_enter Try.func17, Try.ntmps17
      go_wp2_with (first | (go_at_call 76; refine (code_s _ _ _).mono ?_; rintro e w' ⟨rfl, rfl⟩) | (go_at_call 81; refine (nearest_s _ _ _ (by omega) (by omega) (by omega) (by omega)).mono ?_; rintro e w' ⟨rfl, rfl⟩))
      go_ret2
      exact ⟨ret_two HR.out HC.out, rfl⟩
  · have hc' : (codeV a b != 0) = true := by rw [bne_iff_ne]; exact hc
    have HR := Lib.hid (show 0 = dnV a b by simp [dnV, hc])
    clear hc
    go_enter Try.func17, Try.ntmps17
    go_wp2_with (go_at_call 76; refine (code_s _ _ _).mono ?_; rintro e w' ⟨rfl, rfl⟩)
    go_ret2
    exact ⟨ret_two HR.out rfl, rfl⟩
set_option maxHeartbeats 400000 in
theorem DivideNear_impl (a b : Int) (w : World) : Calls Try.prog 16 #[.int .i64 a, .int .i64 b] w fun e w' => e = .returned (.tuple #[.int .i64 (dnV a b), .int .i64 (codeV a b)]) ∧ w = w' := by
  by_cases hc : codeV a b = 0
  · obtain ⟨a1, a2, b1, b2, hb0⟩ := codeV_zero hc
    have hc' : (codeV a b != 0) = false := by rw [hc]; rfl
    have HC := Lib.hid hc.symm
    rcases Int.lt_or_lt_of_ne hb0 with hb | hb
    · have HR := Lib.hid (dnV_n hc hb)
      clear hb0 hc
      go_enter Try.func16, Try.ntmps16
      go_wp2_with (first | (go_at_call 74; refine (code_i _ _ _).mono ?_; rintro e w' ⟨rfl, rfl⟩) | (go_at_call 80; refine (near_in _ _ _ (by omega) (by omega) (by omega) (by omega)).mono ?_; rintro e w' ⟨rfl, rfl⟩))
      go_ret2
      exact ⟨ret_two HR.out HC.out, rfl⟩
    · have HR := Lib.hid (dnV_p hc hb)
      clear hb0 hc
      go_enter Try.func16, Try.ntmps16
      go_wp2_with (first | (go_at_call 74; refine (code_i _ _ _).mono ?_; rintro e w' ⟨rfl, rfl⟩) | (go_at_call 80; refine (near_i _ _ _ (by omega) (by omega) (by omega) (by omega)).mono ?_; rintro e w' ⟨rfl, rfl⟩))
      go_ret2
      exact ⟨ret_two HR.out HC.out, rfl⟩
  · have hc' : (codeV a b != 0) = true := by rw [bne_iff_ne]; exact hc
    have HR := Lib.hid (show 0 = dnV a b by simp [dnV, hc])
    clear hc
    go_enter Try.func16, Try.ntmps16
    go_wp2_with (go_at_call 74; refine (code_i _ _ _).mono ?_; rintro e w' ⟨rfl, rfl⟩)
    go_ret2
    exact ⟨ret_two HR.out rfl, rfl⟩
set_option maxHeartbeats 400000 in
theorem ten_s (n : Int) (w : World) (h0 : 0 ≤ n) (h1 : n ≤ 15) : Calls Try.prog 128 #[.int .i64 n] w fun e w' => e = .returned (.int .i64 (tenV n)) ∧ w = w' := by
  go_enter Try.func128, Try.ntmps128
  go_wp2
  go_loop [0, 3] (fun a o => ∃ m : Int, 0 ≤ m ∧ m ≤ n ∧ a = .int .i64 m ∧ o = .int .i64 (tenV (n - m))) (fun a _ => (intOf a).toNat)
  case atStart => exact ⟨n, h0, Int.le_refl _, rfl, by rw [Int.sub_self]; rfl⟩
  case round =>
    obtain ⟨m, hm0, hm1, rfl, rfl⟩ := hrel
    have tb := tenV_bounds (n - m) (by omega) (by omega)
    have tb0 := tb.1
    have tb1 := tb.2
    clear tb
    by_cases hm : 0 < m
    · have HS := Lib.hid (tenV_succ (n - m) (by omega))
      go_wp2
      go_round
      case rel => exact ⟨m - 1, by omega, by omega, rfl, by rw [show n - (m - 1) = n - m + 1 by omega, HS.out]⟩
      case measure => simp [intOf]; omega
    · have HE := Lib.hid (show m = 0 by omega)
      go_wp2
      go_ret
      exact ⟨ret_int (by rw [HE.out, Int.sub_zero]), rfl⟩
set_option maxHeartbeats 400000 in
theorem ten_i (n : Int) (w : World) (h0 : 0 ≤ n) (h1 : n ≤ 15) : Calls Try.prog 127 #[.int .i64 n] w fun e w' => e = .returned (.int .i64 (tenV n)) ∧ w = w' := by
  go_enter Try.func127, Try.ntmps127
  go_wp2_with fail
  go_loop [3, 5] (fun o a => ∃ m : Int, 0 ≤ m ∧ m ≤ n ∧ a = .int .i64 m ∧ o = .int .i64 (tenV m)) (fun _ a => (n - intOf a).toNat)
  case atStart => exact ⟨0, Int.le_refl _, h0, rfl, rfl⟩
  case round =>
    obtain ⟨m, hm0, hm1, rfl, rfl⟩ := hrel
    have tb := tenV_bounds m (by omega) (by omega)
    have tb0 := tb.1
    have tb1 := tb.2
    clear tb
    by_cases hm : m < n
    · have HS := Lib.hid (tenV_succ' m (by omega))
      go_wp2
      go_round
      case rel => exact ⟨m + 1, by omega, by omega, rfl, by rw [HS.out]⟩
      case measure => simp [intOf]; omega
    · have HE := Lib.hid (show m = n by omega)
      go_wp2
      go_ret
      exact ⟨ret_int (by rw [HE.out]), rfl⟩
set_option maxHeartbeats 400000 in
theorem MantissaOf_spec (u : Int) (w : World) : Calls Try.prog 39 #[.int .i64 u] w fun e w' => e = .returned (.tuple #[.int .i64 (maV u), .int .i64 (mbV u), .int .i64 (rgV (isV u))]) ∧ w = w' := by
  cases ha : isV u
  · have HR := Lib.hid (show 0 = maV u by simp [maV, ha])
    have HS := Lib.hid (show 0 = mbV u by simp [mbV, ha])
    go_enter Try.func39, Try.ntmps39
    go_wp2_with (go_at_call 103; refine (is_s _ _).mono ?_; rintro e w' ⟨rfl, rfl⟩)
    go_ret3
    exact ⟨ret_three HR.out HS.out rfl, rfl⟩
  · have HR := Lib.hid (show u % 1048576 = maV u by simp [maV, ha])
    have HS := Lib.hid (show u / 1048576 = mbV u by simp [mbV, ha])
    obtain ⟨h0, h1⟩ := isV_true.1 ha
    go_enter Try.func39, Try.ntmps39
    go_wp2_with (first | (go_at_call 103; refine (is_s _ _).mono ?_; rintro e w' ⟨rfl, rfl⟩) | (go_at_call 104; refine (mod_s _ _ _ (by omega) (by omega) (by omega) (by omega)).mono ?_; rintro e w' ⟨rfl, rfl⟩) | (go_at_call 77; refine (floor_s _ _ _ (by omega) (by omega) (by omega)).mono ?_; rintro e w' ⟨rfl, rfl⟩))
    go_ret3
    exact ⟨ret_three HR.out HS.out rfl, rfl⟩
set_option maxHeartbeats 400000 in
theorem MantissaOf_impl (u : Int) (w : World) : Calls Try.prog 38 #[.int .i64 u] w fun e w' => e = .returned (.tuple #[.int .i64 (maV u), .int .i64 (mbV u), .int .i64 (rgV (isV u))]) ∧ w = w' := by
  cases ha : isV u
  · have HR := Lib.hid (show 0 = maV u by simp [maV, ha])
    have HS := Lib.hid (show 0 = mbV u by simp [mbV, ha])
    go_enter Try.func38, Try.ntmps38
    go_wp2_with (go_at_call 101; refine (is_i _ _).mono ?_; rintro e w' ⟨rfl, rfl⟩)
    go_ret3
    exact ⟨ret_three HR.out HS.out rfl, rfl⟩
  · have HR := Lib.hid (show u % 1048576 = maV u by simp [maV, ha])
    have HS := Lib.hid (show u / 1048576 = mbV u by simp [mbV, ha])
    obtain ⟨h0, h1⟩ := isV_true.1 ha
    go_enter Try.func38, Try.ntmps38
    go_wp2_with (first | (go_at_call 101; refine (is_i _ _).mono ?_; rintro e w' ⟨rfl, rfl⟩) | (go_at_call 102; refine (modulo_i _ _ _ (by omega) (by omega) (by omega) (by omega)).mono ?_; rintro e w' ⟨rfl, rfl⟩) | (go_at_call 75; refine (down_i _ _ _ (by omega) (by omega) (by omega)).mono ?_; rintro e w' ⟨rfl, rfl⟩))
    go_ret3
    exact ⟨ret_three HR.out HS.out rfl, rfl⟩
end Go.Proofs.Ytjfhaahdjkiciaa.C
