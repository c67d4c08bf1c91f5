/- Contracts of the functions of chapter 1, second part: divisions, powers of ten, common divisors. -/
import Derived.Test.YtlijleemogpifaaDoorA1
import Derived.LoopTactic
import Derived.Below
import Derived.BigQuiet
import Derived.Deep.QuietTactic
import Derived.Deep.Draws
import Derived.WalkSmall
namespace Go.Proofs.YtlijleemogpifaaDoor.C
open Go.RowKit Go.Proofs.YtlijleemogpifaaDoor.K

set_option maxHeartbeats 400000 in
theorem ten_s (n : Int) (w : World) (h0 : 0 ≤ n) (h1 : n ≤ 15) : Calls Tryd.prog 59 #[.int .i64 n] w fun e w' => e = .returned (.int .i64 (tenV n)) ∧ w = w' := by
  go_enter Tryd.func59, Tryd.ntmps59
  go_wp2
  go_loop [0, 3] (fun a o => ∃ m : Int, 0 ≤ m ∧ m ≤ n ∧ a = .int .i64 m ∧ o = .int .i64 (tenV (n - m))) (fun a _ => (intOf a).toNat)
  case atStart => exact ⟨n, h0, Int.le_refl _, rfl, by rw [Int.sub_self]; rfl⟩
  case round =>
    obtain ⟨m, hm0, hm1, rfl, rfl⟩ := hrel
    have tb := tenV_bounds (n - m) (by omega) (by omega)
    have tb0 := tb.1
    have tb1 := tb.2
    clear tb
    by_cases hm : 0 < m
    · have HS := Lib.hid (tenV_succ (n - m) (by omega))
      go_wp2
      go_round
      case rel => exact ⟨m - 1, by omega, by omega, rfl, by rw [show n - (m - 1) = n - m + 1 by omega, HS.out]⟩
      case measure => simp [intOf]; omega
    · have HE := Lib.hid (show m = 0 by omega)
      go_wp2
      go_ret
      exact ⟨ret_int (by rw [HE.out, Int.sub_zero]), rfl⟩
set_option maxHeartbeats 400000 in
theorem ten_i (n : Int) (w : World) (h0 : 0 ≤ n) (h1 : n ≤ 15) : Calls Tryd.prog 58 #[.int .i64 n] w fun e w' => e = .returned (.int .i64 (tenV n)) ∧ w = w' := by
  go_enter Tryd.func58, Tryd.ntmps58
  go_wp2_with fail
  go_loop [3, 5] (fun o a => ∃ m : Int, 0 ≤ m ∧ m ≤ n ∧ a = .int .i64 m ∧ o = .int .i64 (tenV m)) (fun _ a => (n - intOf a).toNat)
  case atStart => exact ⟨0, Int.le_refl _, h0, rfl, rfl⟩
  case round =>
    obtain ⟨m, hm0, hm1, rfl, rfl⟩ := hrel
    have tb := tenV_bounds m (by omega) (by omega)
    have tb0 := tb.1
    have tb1 := tb.2
    clear tb
    by_cases hm : m < n
    · have HS := Lib.hid (tenV_succ' m (by omega))
      go_wp2
      go_round
      case rel => exact ⟨m + 1, by omega, by omega, rfl, by rw [HS.out]⟩
      case measure => simp [intOf]; omega
    · have HE := Lib.hid (show m = n by omega)
      go_wp2
      go_ret
      exact ⟨ret_int (by rw [HE.out]), rfl⟩
set_option maxHeartbeats 400000 in
theorem PowerOfTen_spec (n : Int) (w : World) : Calls Tryd.prog 23 #[.int .i64 n] w fun e w' => e = .returned (.tuple #[.int .i64 (ptV n), .int .i64 (rgV (inB n 0 12))]) ∧ w = w' := by
  cases hc : inB n 0 12
  · have HR := Lib.hid (show 0 = ptV n by simp [ptV, hc])
    go_enter Tryd.func23, Tryd.ntmps23
    go_wp2_with (go_at_call 44; refine (in_s _ _ _ _).mono ?_; rintro e w' ⟨rfl, rfl⟩)
    go_ret2
    exact ⟨ret_two HR.out rfl, rfl⟩
  · have HR := Lib.hid (show tenV n = ptV n by simp [ptV, hc])
    obtain ⟨h0, h1⟩ := inB_true.1 hc
    go_enter Tryd.func23, Tryd.ntmps23
    go_wp2_with (first | (go_at_call 44; refine (in_s _ _ _ _).mono ?_; rintro e w' ⟨rfl, rfl⟩) | (go_at_call 59; refine (ten_s _ _ (by omega) (by omega)).mono ?_; rintro e w' ⟨rfl, rfl⟩))
    go_ret2
    exact ⟨ret_two HR.out rfl, rfl⟩
set_option maxHeartbeats 400000 in
theorem PowerOfTen_impl (n : Int) (w : World) : Calls Tryd.prog 22 #[.int .i64 n] w fun e w' => e = .returned (.tuple #[.int .i64 (ptV n), .int .i64 (rgV (inB n 0 12))]) ∧ w = w' := by
  cases hc : inB n 0 12
  · have HR := Lib.hid (show 0 = ptV n by simp [ptV, hc])
    go_enter Tryd.func22, Tryd.ntmps22
    go_wp2_with (go_at_call 46; refine (in_i _ _ _ _).mono ?_; rintro e w' ⟨rfl, rfl⟩)
    go_ret2
    exact ⟨ret_two HR.out rfl, rfl⟩
  · have HR := Lib.hid (show tenV n = ptV n by simp [ptV, hc])
    obtain ⟨h0, h1⟩ := inB_true.1 hc
    go_enter Tryd.func22, Tryd.ntmps22
    go_wp2_with (first | (go_at_call 46; refine (in_i _ _ _ _).mono ?_; rintro e w' ⟨rfl, rfl⟩) | (go_at_call 58; refine (ten_i _ _ (by omega) (by omega)).mono ?_; rintro e w' ⟨rfl, rfl⟩))
    go_ret2
    exact ⟨ret_two HR.out rfl, rfl⟩
set_option maxHeartbeats 400000 in
theorem gcd_s (a b : Int) (w : World) (ha : -1000000000000 ≤ a) (ha2 : a ≤ 1000000000000) (hb : -1000000000000 ≤ b) (hb2 : b ≤ 1000000000000) : Calls Tryd.prog 64 #[.int .i64 a, .int .i64 b] w fun e w' => e = .returned (.int .i64 (Int.gcd a b : Int)) ∧ Below w.heap.size w w' := by
  go_enter Tryd.func64, Tryd.ntmps64
  go_wp2_with (go_at_call 84; refine (abs_s _ _ (by omega) (by omega)).mono ?_; rintro e w' ⟨rfl, rfl⟩)
  go_loopw [0, 1] (fun x y wr => ∃ m n : Nat, m ≤ 1000000000000 ∧ n ≤ 1000000000000 ∧ Nat.gcd m n = Int.gcd a b ∧ x = .int .i64 m ∧ y = .int .i64 n ∧ Below w.heap.size w wr) (fun _ y _ => (intOf y).toNat)
  case atStart => exact ⟨a.natAbs, b.natAbs, by omega, by omega, rfl, rfl, rfl, Below.refl _ _⟩
  case round =>
    obtain ⟨m, n, hm, hn, hg, rfl, rfl, hbel⟩ := hrel
    have HG := Lib.hid hg; clear hg
    by_cases h0 : n = 0
    · subst h0
      go_wp2
      go_ret
      exact ⟨ret_int (by rw [← HG.out, Nat.gcd_zero_right]), hbel⟩
    · have ht : ((n : Int) != 0) = true := by rw [bne_iff_ne]; omega
      have ht' : ((n : Int) == 0) = false := beq_eq_false_iff_ne.2 (by omega)
      have hl : m % n < n := Nat.mod_lt _ (by omega)
      go_wp2
      go_quiet (fail)
      go_wp2
      go_roundw
      case rel => exact ⟨n, m % n, hn, by omega, by rw [← HG.out, Nat.gcd_comm m n]; exact (Nat.gcd_rec n m).symm ▸ (Nat.gcd_comm _ _), rfl, rfl, below_drewN hbel _⟩
      case measure => simp [intOf]; omega
set_option maxHeartbeats 400000 in
theorem gcd_i (a b : Int) (w : World) (ha : -1000000000000 ≤ a) (ha2 : a ≤ 1000000000000) (hb : -1000000000000 ≤ b) (hb2 : b ≤ 1000000000000) : Calls Tryd.prog 62 #[.int .i64 a, .int .i64 b] w fun e w' => e = .returned (.int .i64 (Int.gcd a b : Int)) ∧ Below w.heap.size w w' := by
  go_enter Tryd.func62, Tryd.ntmps62
  go_wp2
  go_loopw [0, 1] (fun x y wr => ∃ m n : Int, -1000000000000 ≤ m ∧ m ≤ 1000000000000 ∧ -1000000000000 ≤ n ∧ n ≤ 1000000000000 ∧ Int.gcd m n = Int.gcd a b ∧ x = .int .i64 m ∧ y = .int .i64 n ∧ Below w.heap.size w wr) (fun _ y _ => (intOf y).natAbs)
  case atStart => exact ⟨a, b, ha, ha2, hb, hb2, rfl, rfl, rfl, Below.refl _ _⟩
  case round =>
    obtain ⟨m, n, hm, hm2, hn, hn2, hg, rfl, rfl, hbel⟩ := hrel
    have HG := Lib.hid hg; clear hg
    by_cases h0 : n = 0
    · subst h0
      by_cases hs : 0 ≤ m
      · have g : ¬ m < -m := by omega
        go_wp2
        go_ret
        exact ⟨ret_int (by rw [← HG.out, Int.gcd_zero_right]; omega), hbel⟩
      · have g : m < -m := by omega
        go_wp2
        go_ret
        exact ⟨ret_int (by rw [← HG.out, Int.gcd_zero_right]; omega), hbel⟩
    · have ht : (n != 0) = true := by rw [bne_iff_ne]; omega
      have ht' : (n == 0) = false := beq_eq_false_iff_ne.2 (by omega)
      have tb := tmod_abs m h0
      have HE := Lib.hid tb.2
      have hl := tb.1
      clear tb
      by_cases hs : 0 ≤ m
      · have he : m % n = m.tmod n := (IntWalk.rem_in m n hs).symm
        have HX := Lib.hid he
        rw [← he] at hl
        clear he
        go_wp2
        go_quiet (fail)
        go_wp2
        go_roundw
        case rel => exact ⟨n, m % n, hn, hn2, by omega, by omega, by rw [HX.out, HE.out]; exact HG.out, rfl, rfl, below_drewN hbel _⟩
        case measure => simp [intOf]; omega
      · have hl1 : -1000000000000 ≤ m.tmod n := by omega
        have hl2 : m.tmod n ≤ 1000000000000 := by omega
        have HL := Lib.hid hl
        clear hl
        go_wp2
        go_quiet (fail)
        go_wp2
        have hl := HL.out
        go_roundw
        case rel => exact ⟨n, m.tmod n, hn, hn2, by omega, by omega, by rw [HE.out]; exact HG.out, rfl, rfl, below_drewN hbel _⟩
        case measure => exact hl
set_option maxHeartbeats 400000 in
theorem CommonDivisor_spec (a b : Int) (w : World) : Calls Tryd.prog 27 #[.int .i64 a, .int .i64 b] w fun e w' => e = .returned (.tuple #[.int .i64 (cdV a b), .int .i64 (rgV (isV a && isV b))]) ∧ Below w.heap.size w w' := by
  cases ha : isV a
  · have HR := Lib.hid (show 0 = cdV a b by simp [cdV, ha])
    go_enter Tryd.func27, Tryd.ntmps27
    go_wp2_with (go_at_call 63; refine (is_s _ _).mono ?_; rintro e w' ⟨rfl, rfl⟩)
    go_ret2
    exact ⟨ret_two HR.out rfl, Below.refl _ _⟩
  · cases hb : isV b
    · have HR := Lib.hid (show 0 = cdV a b by simp [cdV, hb])
      go_enter Tryd.func27, Tryd.ntmps27
      go_wp2_with (go_at_call 63; refine (is_s _ _).mono ?_; rintro e w' ⟨rfl, rfl⟩)
      go_ret2
      exact ⟨ret_two HR.out rfl, Below.refl _ _⟩
    · have HR := Lib.hid (show (Int.gcd a b : Int) = cdV a b by simp [cdV, ha, hb])
      obtain ⟨h0, h1⟩ := isV_true.1 ha
      obtain ⟨h2, h3⟩ := isV_true.1 hb
      go_enter Tryd.func27, Tryd.ntmps27
      go_wp2_with (first | (go_at_call 63; refine (is_s _ _).mono ?_; rintro e w' ⟨rfl, rfl⟩) | (go_at_call 64; refine (gcd_s _ _ _ (by omega) (by omega) (by omega) (by omega)).mono ?_; rintro e w1 ⟨rfl, hbel⟩))
      go_ret2
      exact ⟨ret_two HR.out rfl, hbel⟩
set_option maxHeartbeats 400000 in
theorem CommonDivisor_impl (a b : Int) (w : World) : Calls Tryd.prog 26 #[.int .i64 a, .int .i64 b] w fun e w' => e = .returned (.tuple #[.int .i64 (cdV a b), .int .i64 (rgV (isV a && isV b))]) ∧ Below w.heap.size w w' := by
  cases ha : isV a
  · have HR := Lib.hid (show 0 = cdV a b by simp [cdV, ha])
    go_enter Tryd.func26, Tryd.ntmps26
    go_wp2_with (go_at_call 54; refine (is_i _ _).mono ?_; rintro e w' ⟨rfl, rfl⟩)
    go_ret2
    exact ⟨ret_two HR.out rfl, Below.refl _ _⟩
  · cases hb : isV b
    · have HR := Lib.hid (show 0 = cdV a b by simp [cdV, hb])
      go_enter Tryd.func26, Tryd.ntmps26
      go_wp2_with (go_at_call 54; refine (is_i _ _).mono ?_; rintro e w' ⟨rfl, rfl⟩)
      go_ret2
      exact ⟨ret_two HR.out rfl, Below.refl _ _⟩
    · have HR := Lib.hid (show (Int.gcd a b : Int) = cdV a b by simp [cdV, ha, hb])
      obtain ⟨h0, h1⟩ := isV_true.1 ha
      obtain ⟨h2, h3⟩ := isV_true.1 hb
      go_enter Tryd.func26, Tryd.ntmps26
      go_wp2_with (first | (go_at_call 54; refine (is_i _ _).mono ?_; rintro e w' ⟨rfl, rfl⟩) | (go_at_call 62; refine (gcd_i _ _ _ (by omega) (by omega) (by omega) (by omega)).mono ?_; rintro e w1 ⟨rfl, hbel⟩))
      go_ret2
      exact ⟨ret_two HR.out rfl, hbel⟩
end Go.Proofs.YtlijleemogpifaaDoor.C
