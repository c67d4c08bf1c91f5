/- Contracts of chapter 3: logarithms by squaring. -/
import Derived.Test.YthmmdcpodadjbaaA2
import Derived.Test.YthmmdcpodadjbaaPlain3
import Derived.LoopTactic
namespace Go.Proofs.Ythmmdcpodadjbaa.C
open Go.RowKit Go.Proofs.Ythmmdcpodadjbaa.K
set_option linter.unusedVariables false

set_option maxHeartbeats 3200000 in
theorem log_impl (x : Int) (w : World) (x0 : 100000000 ≤ x) (x1 : x ≤ 999999999) : Calls Try.prog 155 #[.int .i64 x] w fun e w' => e = .returned (.agg #[.int .i64 (lgL x), .int .i64 (lgH x)]) ∧ Below w.heap.size w w' := by
  go_enter Try.func155, Try.ntmps155
  go_wp2_with fail
  go_loopw [3, 4, 9] (fun a b c wr => ∃ (i : Nat) (p q n m : Int), i ≤ 20 ∧ LoR x i p n ∧ HiR x i q m ∧ a = .int .i64 p ∧ b = .int .i64 q ∧ c = .int .i64 i ∧
    wr = (w.alloc (.cells #[.int .i64 0, .int .i64 0] 41)).alloc (.cells #[.int .i64 n, .int .i64 m] 41)) (fun _ _ c _ => (20 - intOf c).toNat)
  case atStart => exact ⟨0, x, x, 0, 0, by omega, LoR.start x0 x1, HiR.start x0 x1, rfl, rfl, rfl, rfl⟩
  case round =>
    obtain ⟨i, p, q, n, m, hi, hL, hH, rfl, rfl, rfl, rfl⟩ := hrel
    obtain ⟨p0, p1, n0, n1⟩ := hL.bounds hi
    obtain ⟨q0, q1, m0, m1⟩ := hH.bounds hi
    by_cases hlt : i < 20
    · have HL := Lib.hid (hL.step hlt)
      have HH := Lib.hid (hH.step hlt)
      obtain ⟨s0, s1⟩ := sq_bounds p0 p1
      obtain ⟨u0, u1⟩ := sq_bounds q0 q1
      clear hL hH
      by_cases hp : 1000000000 ≤ p * p / 100000000
      · have e1 := Lib.hid (show p * p / 100000000 / 10 = loS p by unfold loS; rw [if_pos (show 1000000000 ≤ loX p from hp)]; rfl)
        have e2 := Lib.hid (show n * 2 + 1 = 2 * n + loB p by unfold loB; rw [if_pos (show 1000000000 ≤ loX p from hp)]; omega)
        by_cases hq : 1000000000 ≤ -((-(q * q)) / 100000000)
        · have e3 := Lib.hid (show -((-(q * q)) / 100000000 / 10) = hiS q by unfold hiS; rw [if_pos (show 1000000000 ≤ hiX q from hq)]; unfold hiX; rw [Int.neg_neg])
          have e4 := Lib.hid (show m * 2 + 1 = 2 * m + hiB q by unfold hiB; rw [if_pos (show 1000000000 ≤ hiX q from hq)]; omega)
          go_wp2_with (first | (go_at_call 102; refine (down_i _ _ _ (by omega) (by omega) (by omega)).mono ?_; rintro e w' ⟨rfl, rfl⟩) | (go_at_call 149; refine (up_i _ _ _ (by omega) (by omega) (by omega)).mono ?_; rintro e w' ⟨rfl, rfl⟩))
          go_roundw
          case rel => exact ⟨i + 1, loS p, hiS q, 2 * n + loB p, 2 * m + hiB q, by omega, HL.out, HH.out, by rw [← e1.out], by rw [← e3.out], by go_num, by rw [← e2.out, ← e4.out]⟩
          case measure => simp [intOf]; omega
        · have e3 := Lib.hid (show -((-(q * q)) / 100000000) = hiS q by unfold hiS; rw [if_neg (show ¬ 1000000000 ≤ hiX q from hq)]; rfl)
          have e4 := Lib.hid (show m * 2 = 2 * m + hiB q by unfold hiB; rw [if_neg (show ¬ 1000000000 ≤ hiX q from hq)]; omega)
          go_wp2_with (first | (go_at_call 102; refine (down_i _ _ _ (by omega) (by omega) (by omega)).mono ?_; rintro e w' ⟨rfl, rfl⟩) | (go_at_call 149; refine (up_i _ _ _ (by omega) (by omega) (by omega)).mono ?_; rintro e w' ⟨rfl, rfl⟩))
          go_roundw
          case rel => exact ⟨i + 1, loS p, hiS q, 2 * n + loB p, 2 * m + hiB q, by omega, HL.out, HH.out, by rw [← e1.out], by rw [← e3.out], by go_num, by rw [← e2.out, ← e4.out]⟩
          case measure => simp [intOf]; omega
      · have e1 := Lib.hid (show p * p / 100000000 = loS p by unfold loS; rw [if_neg (show ¬ 1000000000 ≤ loX p from hp)]; rfl)
        have e2 := Lib.hid (show n * 2 = 2 * n + loB p by unfold loB; rw [if_neg (show ¬ 1000000000 ≤ loX p from hp)]; omega)
        by_cases hq : 1000000000 ≤ -((-(q * q)) / 100000000)
        · have e3 := Lib.hid (show -((-(q * q)) / 100000000 / 10) = hiS q by unfold hiS; rw [if_pos (show 1000000000 ≤ hiX q from hq)]; unfold hiX; rw [Int.neg_neg])
          have e4 := Lib.hid (show m * 2 + 1 = 2 * m + hiB q by unfold hiB; rw [if_pos (show 1000000000 ≤ hiX q from hq)]; omega)
          go_wp2_with (first | (go_at_call 102; refine (down_i _ _ _ (by omega) (by omega) (by omega)).mono ?_; rintro e w' ⟨rfl, rfl⟩) | (go_at_call 149; refine (up_i _ _ _ (by omega) (by omega) (by omega)).mono ?_; rintro e w' ⟨rfl, rfl⟩))
          go_roundw
          case rel => exact ⟨i + 1, loS p, hiS q, 2 * n + loB p, 2 * m + hiB q, by omega, HL.out, HH.out, by rw [← e1.out], by rw [← e3.out], by go_num, by rw [← e2.out, ← e4.out]⟩
          case measure => simp [intOf]; omega
        · have e3 := Lib.hid (show -((-(q * q)) / 100000000) = hiS q by unfold hiS; rw [if_neg (show ¬ 1000000000 ≤ hiX q from hq)]; rfl)
          have e4 := Lib.hid (show m * 2 = 2 * m + hiB q by unfold hiB; rw [if_neg (show ¬ 1000000000 ≤ hiX q from hq)]; omega)
          go_wp2_with (first | (go_at_call 102; refine (down_i _ _ _ (by omega) (by omega) (by omega)).mono ?_; rintro e w' ⟨rfl, rfl⟩) | (go_at_call 149; refine (up_i _ _ _ (by omega) (by omega) (by omega)).mono ?_; rintro e w' ⟨rfl, rfl⟩))
          go_roundw
          case rel => exact ⟨i + 1, loS p, hiS q, 2 * n + loB p, 2 * m + hiB q, by omega, HL.out, HH.out, by rw [← e1.out], by rw [← e3.out], by go_num, by rw [← e2.out, ← e4.out]⟩
          case measure => simp [intOf]; omega
    · obtain rfl : i = 20 := by omega
      have e1 := Lib.hid hL.done
      have e2 := Lib.hid hH.done
      clear hL hH
      go_wp2
      go_returns
      exact ⟨ret_agg e1.out e2.out, by go_grown⟩
set_option maxHeartbeats 3200000 in
theorem bits_lo (x : Int) (w : World) (x0 : 100000000 ≤ x) (x1 : x ≤ 999999999) : Calls Try.prog 168 #[.int .i64 x, .bool false] w fun e w' => e = .returned (.int .i64 (lgL x)) ∧ w = w' := by
  go_enter Try.func168, Try.ntmps168
  go_wp2_with fail
  go_loop [0, 5, 6] (fun a b c => ∃ (i : Nat) (p n : Int), i ≤ 20 ∧ LoR x i p n ∧ a = .int .i64 p ∧ b = .int .i64 n ∧ c = .int .i64 i) (fun _ _ c => (20 - intOf c).toNat)
  case atStart => exact ⟨0, x, 0, by omega, LoR.start x0 x1, rfl, rfl, rfl⟩
  case round =>
    obtain ⟨i, p, n, hi, hL, rfl, rfl, rfl⟩ := hrel
    obtain ⟨p0, p1, n0, n1⟩ := hL.bounds hi
    by_cases hlt : i < 20
    · have HL := Lib.hid (hL.step hlt)
      obtain ⟨s0, s1⟩ := sq_bounds p0 p1
      clear hL
      by_cases hp : 1000000000 ≤ p * p / 100000000
      · have e1 := Lib.hid (show p * p / 100000000 / 10 = loS p by unfold loS; rw [if_pos (show 1000000000 ≤ loX p from hp)]; rfl)
        have e2 := Lib.hid (show 2 * n + 1 = 2 * n + loB p by unfold loB; rw [if_pos (show 1000000000 ≤ loX p from hp)])
        go_wp2
        go_round
        case rel => exact ⟨i + 1, loS p, 2 * n + loB p, by omega, HL.out, by rw [← e1.out], by rw [← e2.out], by go_num⟩
        case measure => simp [intOf]; omega
      · have e1 := Lib.hid (show p * p / 100000000 = loS p by unfold loS; rw [if_neg (show ¬ 1000000000 ≤ loX p from hp)]; rfl)
        have e2 := Lib.hid (show 2 * n = 2 * n + loB p by unfold loB; rw [if_neg (show ¬ 1000000000 ≤ loX p from hp)]; omega)
        go_wp2
        go_round
        case rel => exact ⟨i + 1, loS p, 2 * n + loB p, by omega, HL.out, by rw [← e1.out], by rw [← e2.out], by go_num⟩
        case measure => simp [intOf]; omega
    · obtain rfl : i = 20 := by omega
      have e1 := Lib.hid hL.done
      clear hL
      go_wp2
      go_ret
      exact ⟨ret_int e1.out, rfl⟩
set_option maxHeartbeats 3200000 in
theorem bits_hi (x : Int) (w : World) (x0 : 100000000 ≤ x) (x1 : x ≤ 999999999) : Calls Try.prog 168 #[.int .i64 x, .bool true] w fun e w' => e = .returned (.int .i64 (lgH x - 1)) ∧ w = w' := by
  go_enter Try.func168, Try.ntmps168
  go_wp2_with fail
  go_loop [0, 5, 6] (fun a b c => ∃ (i : Nat) (p n : Int), i ≤ 20 ∧ HiR x i p n ∧ a = .int .i64 p ∧ b = .int .i64 n ∧ c = .int .i64 i) (fun _ _ c => (20 - intOf c).toNat)
  case atStart => exact ⟨0, x, 0, by omega, HiR.start x0 x1, rfl, rfl, rfl⟩
  case round =>
    obtain ⟨i, p, n, hi, hL, rfl, rfl, rfl⟩ := hrel
    obtain ⟨p0, p1, n0, n1⟩ := hL.bounds hi
    by_cases hlt : i < 20
    · have HL := Lib.hid (hL.step hlt)
      obtain ⟨s0, s1⟩ := sq_bounds p0 p1
      clear hL
      by_cases hp : 1000000000 ≤ -((-(p * p)) / 100000000)
      · have e1 := Lib.hid (show -((-(p * p)) / 100000000 / 10) = hiS p by unfold hiS; rw [if_pos (show 1000000000 ≤ hiX p from hp)]; unfold hiX; rw [Int.neg_neg])
        have e2 := Lib.hid (show 2 * n + 1 = 2 * n + hiB p by unfold hiB; rw [if_pos (show 1000000000 ≤ hiX p from hp)])
        go_wp2_with (go_at_call 150; refine (ceil_s _ _ _ (by omega) (by omega) (by omega)).mono ?_; rintro e w' ⟨rfl, rfl⟩)
        go_round
        case rel => exact ⟨i + 1, hiS p, 2 * n + hiB p, by omega, HL.out, by rw [← e1.out], by rw [← e2.out], by go_num⟩
        case measure => simp [intOf]; omega
      · have e1 := Lib.hid (show -((-(p * p)) / 100000000) = hiS p by unfold hiS; rw [if_neg (show ¬ 1000000000 ≤ hiX p from hp)]; rfl)
        have e2 := Lib.hid (show 2 * n = 2 * n + hiB p by unfold hiB; rw [if_neg (show ¬ 1000000000 ≤ hiX p from hp)]; omega)
        go_wp2_with (go_at_call 150; refine (ceil_s _ _ _ (by omega) (by omega) (by omega)).mono ?_; rintro e w' ⟨rfl, rfl⟩)
        go_round
        case rel => exact ⟨i + 1, hiS p, 2 * n + hiB p, by omega, HL.out, by rw [← e1.out], by rw [← e2.out], by go_num⟩
        case measure => simp [intOf]; omega
    · obtain rfl : i = 20 := by omega
      have e1 := Lib.hid hL.done
      clear hL
      go_wp2
      go_ret
      exact ⟨ret_int (by have := e1.out; omega), rfl⟩
theorem bits_spec (x : Int) (u : Bool) (w : World) (x0 : 100000000 ≤ x) (x1 : x ≤ 999999999) : Calls Try.prog 168 #[.int .i64 x, .bool u] w fun e w' => e = .returned (.int .i64 (bitsV u x)) ∧ w = w' := by
  cases u
  · exact bits_lo x w x0 x1
  · exact bits_hi x w x0 x1
set_option maxHeartbeats 800000 in
theorem log_spec (x : Int) (w : World) (x0 : 100000000 ≤ x) (x1 : x ≤ 999999999) : Calls Try.prog 158 #[.int .i64 x] w fun e w' => e = .returned (.agg #[.int .i64 (lgL x), .int .i64 (lgH x)]) ∧ Below w.heap.size w w' := by
  obtain ⟨b0, b1, b2, b3⟩ := lg_bounds x0 x1
  have h0 : 0 ≤ bitsV true x := by show 0 ≤ lgH x - 1; omega
  have h1 : bitsV true x ≤ 1048575 := by show lgH x - 1 ≤ 1048575; omega
  have HL := Lib.hid (show bitsV false x = lgL x from rfl)
  have HH := Lib.hid (show bitsV true x + 1 = lgH x by show lgH x - 1 + 1 = lgH x; omega)
  clear b0 b1 b2 b3
  go_enter Try.func158, Try.ntmps158
  go_wp2_with (go_at_call 168; refine (bits_spec _ _ _ (by omega) (by omega)).mono ?_; rintro e w' ⟨rfl, rfl⟩)
  go_returns
  exact ⟨ret_agg HL.out HH.out, (by repeat (first | (with_reducible exact Below.refl _ _) | (with_reducible assumption) | (with_reducible refine below_alloc ?_ _) | (with_reducible refine Below.setCell ?_ (by first | omega | (simp; done) | (simp; omega)) _) | (with_reducible refine below_drewN ?_ _) | (with_reducible refine Below.drew ?_) | (with_reducible refine below_tr ?_ (by assumption))))⟩
set_option maxHeartbeats 800000 in
theorem flog_spec (d t : Int) (w : World) (d0 : 1000 ≤ d) (d1 : d ≤ 9999) (t0 : -100 ≤ t) (t1 : t ≤ 100) : Calls Try.prog 132 #[.agg #[.int .i64 d, .int .i64 t]] w fun e w' => e = .returned (.agg #[.int .i64 (fgL d t), .int .i64 (fgH d t)]) ∧ Below w.heap.size w w' := by
  obtain ⟨b0, b1, b2, b3⟩ := lg_bounds (x := d * 100000) (by omega) (by omega)
  have HL := Lib.hid (show lgL (d * 100000) + t * 1048576 = fgL d t from rfl)
  have HH := Lib.hid (show lgH (d * 100000) + t * 1048576 = fgH d t from rfl)
  go_enter Try.func132, Try.ntmps132
  go_wp2_with (go_at_call 158; refine (log_spec _ _ (by omega) (by omega)).mono ?_; rintro e w1 ⟨rfl, hb⟩; obtain ⟨hc, hf⟩ := bcell hb; (try simp only [World.size_drew, World.cell?_drew] at hc); (try simp only [World.size_drew, World.frozen?_drew] at hf); have hz := hb.size; (try simp at hz); (try (have hz0 : w.heap.size < w1.heap.size := by omega)); (try (have hz1 : w.heap.size + 1 < w1.heap.size := by omega)); (try (have hz2 : w.heap.size + 1 + 1 < w1.heap.size := by omega)); (try (have hz3 : w.heap.size + 1 + 1 + 1 < w1.heap.size := by omega)); (try (have r7 := Nat.lt_of_lt_of_le r5 (show _ ≤ w1.heap.size by omega))); (try (have r6 := Nat.lt_of_lt_of_le r4 (show _ ≤ w1.heap.size by omega))); (try (have r5 := Nat.lt_of_lt_of_le r3 (show _ ≤ w1.heap.size by omega))); (try (have r4 := Nat.lt_of_lt_of_le r2 (show _ ≤ w1.heap.size by omega))); (try (have r3 := Nat.lt_of_lt_of_le r1 (show _ ≤ w1.heap.size by omega))); (try (have r2 := Nat.lt_of_succ_le (Nat.le_of_succ_le hz))); (try (have r1 := Nat.lt_of_succ_le hz)); (try (have hg1 := Nat.lt_of_lt_of_le hg1 (show _ ≤ w1.heap.size by omega))); (try (have hg2 := Nat.lt_of_lt_of_le hg2 (show _ ≤ w1.heap.size by omega))); (try (have hg3 := Nat.lt_of_lt_of_le hg3 (show _ ≤ w1.heap.size by omega))); (try (first | have hK := S1.below hK hb | have hK := S1.below (S1.alloc hK _) hb | have hK := S1.below (S1.alloc (S1.alloc hK _) _) hb | have hK := S1.below (S1.drewN hK _) hb)); (try (first | have hK2 := S1.below hK2 hb | have hK2 := S1.below (S1.alloc hK2 _) hb | have hK2 := S1.below (S1.alloc (S1.alloc hK2 _) _) hb | have hK2 := S1.below (S1.drewN hK2 _) hb)); (try (first | have hK3 := S1.below hK3 hb | have hK3 := S1.below (S1.alloc hK3 _) hb | have hK3 := S1.below (S1.alloc (S1.alloc hK3 _) _) hb | have hK3 := S1.below (S1.drewN hK3 _) hb)); (try (first | have hK4 := S1.below hK4 hb | have hK4 := S1.below (S1.alloc hK4 _) hb | have hK4 := S1.below (S1.alloc (S1.alloc hK4 _) _) hb | have hK4 := S1.below (S1.drewN hK4 _) hb)))
  refine bodyPost_ret (by simp [results, Try.results132, go_sem, *]; try rfl) rfl ?_
  exact ⟨ret_agg HL.out HH.out, (by repeat (first | (with_reducible exact Below.refl _ _) | (with_reducible assumption) | (with_reducible refine below_alloc ?_ _) | (with_reducible refine Below.setCell ?_ (by first | omega | (simp; done) | (simp; omega)) _) | (with_reducible refine below_drewN ?_ _) | (with_reducible refine Below.drew ?_) | (with_reducible refine below_tr ?_ (by assumption))))⟩
set_option maxHeartbeats 800000 in
theorem flog_impl (d t : Int) (w : World) (d0 : 1000 ≤ d) (d1 : d ≤ 9999) (t0 : -100 ≤ t) (t1 : t ≤ 100) : Calls Try.prog 115 #[.agg #[.int .i64 d, .int .i64 t]] w fun e w' => e = .returned (.agg #[.int .i64 (fgL d t), .int .i64 (fgH d t)]) ∧ Below w.heap.size w w' := by
  obtain ⟨b0, b1, b2, b3⟩ := lg_bounds (x := d * 100000) (by omega) (by omega)
  have HL := Lib.hid (show lgL (d * 100000) + t * 1048576 = fgL d t from rfl)
  have HH := Lib.hid (show lgH (d * 100000) + t * 1048576 = fgH d t from rfl)
  go_enter Try.func115, Try.ntmps115
  go_wp2_with (go_at_call 155; refine (log_impl _ _ (by omega) (by omega)).mono ?_; rintro e w1 ⟨rfl, hb⟩; obtain ⟨hc, hf⟩ := bcell hb; (try simp only [World.size_drew, World.cell?_drew] at hc); (try simp only [World.size_drew, World.frozen?_drew] at hf); have hz := hb.size; (try simp at hz); (try (have hz0 : w.heap.size < w1.heap.size := by omega)); (try (have hz1 : w.heap.size + 1 < w1.heap.size := by omega)); (try (have hz2 : w.heap.size + 1 + 1 < w1.heap.size := by omega)); (try (have hz3 : w.heap.size + 1 + 1 + 1 < w1.heap.size := by omega)); (try (have r7 := Nat.lt_of_lt_of_le r5 (show _ ≤ w1.heap.size by omega))); (try (have r6 := Nat.lt_of_lt_of_le r4 (show _ ≤ w1.heap.size by omega))); (try (have r5 := Nat.lt_of_lt_of_le r3 (show _ ≤ w1.heap.size by omega))); (try (have r4 := Nat.lt_of_lt_of_le r2 (show _ ≤ w1.heap.size by omega))); (try (have r3 := Nat.lt_of_lt_of_le r1 (show _ ≤ w1.heap.size by omega))); (try (have r2 := Nat.lt_of_succ_le (Nat.le_of_succ_le hz))); (try (have r1 := Nat.lt_of_succ_le hz)); (try (have hg1 := Nat.lt_of_lt_of_le hg1 (show _ ≤ w1.heap.size by omega))); (try (have hg2 := Nat.lt_of_lt_of_le hg2 (show _ ≤ w1.heap.size by omega))); (try (have hg3 := Nat.lt_of_lt_of_le hg3 (show _ ≤ w1.heap.size by omega))); (try (first | have hK := S1.below hK hb | have hK := S1.below (S1.alloc hK _) hb | have hK := S1.below (S1.alloc (S1.alloc hK _) _) hb | have hK := S1.below (S1.drewN hK _) hb)); (try (first | have hK2 := S1.below hK2 hb | have hK2 := S1.below (S1.alloc hK2 _) hb | have hK2 := S1.below (S1.alloc (S1.alloc hK2 _) _) hb | have hK2 := S1.below (S1.drewN hK2 _) hb)); (try (first | have hK3 := S1.below hK3 hb | have hK3 := S1.below (S1.alloc hK3 _) hb | have hK3 := S1.below (S1.alloc (S1.alloc hK3 _) _) hb | have hK3 := S1.below (S1.drewN hK3 _) hb)); (try (first | have hK4 := S1.below hK4 hb | have hK4 := S1.below (S1.alloc hK4 _) hb | have hK4 := S1.below (S1.alloc (S1.alloc hK4 _) _) hb | have hK4 := S1.below (S1.drewN hK4 _) hb)))
  refine bodyPost_ret (by simp [results, Try.results115, go_sem, *]; try rfl) rfl ?_
  exact ⟨ret_agg HL.out HH.out, (by repeat (first | (with_reducible exact Below.refl _ _) | (with_reducible assumption) | (with_reducible refine below_alloc ?_ _) | (with_reducible refine Below.setCell ?_ (by first | omega | (simp; done) | (simp; omega)) _) | (with_reducible refine below_drewN ?_ _) | (with_reducible refine Below.drew ?_) | (with_reducible refine below_tr ?_ (by assumption))))⟩
set_option maxHeartbeats 800000 in
theorem FigureLog_impl (d t : Int) (w : World) : Calls Try.prog 53 #[.agg #[.int .i64 d, .int .i64 t]] w fun e w' => e = .returned (.tuple #[.agg #[.int .i64 (rsV (ioV (figV d t)) (fgL d t)), .int .i64 (rsV (ioV (figV d t)) (fgH d t))], .int .i64 (ioV (figV d t))]) ∧ Below w.heap.size w w' := by
  cases hx : figV d t
  · go_enter Try.func53, Try.ntmps53
    go_wp2_with (go_at_call 24; refine (IsFigure_impl _ _ _).mono ?_; rintro e w1 ⟨rfl, hb⟩; obtain ⟨hc, hf⟩ := bcell hb; (try simp only [World.size_drew, World.cell?_drew] at hc); (try simp only [World.size_drew, World.frozen?_drew] at hf); have hz := hb.size; (try simp at hz); (try (have hz0 : w.heap.size < w1.heap.size := by omega)); (try (have hz1 : w.heap.size + 1 < w1.heap.size := by omega)); (try (have hz2 : w.heap.size + 1 + 1 < w1.heap.size := by omega)); (try (have hz3 : w.heap.size + 1 + 1 + 1 < w1.heap.size := by omega)); (try (have r7 := Nat.lt_of_lt_of_le r5 (show _ ≤ w1.heap.size by omega))); (try (have r6 := Nat.lt_of_lt_of_le r4 (show _ ≤ w1.heap.size by omega))); (try (have r5 := Nat.lt_of_lt_of_le r3 (show _ ≤ w1.heap.size by omega))); (try (have r4 := Nat.lt_of_lt_of_le r2 (show _ ≤ w1.heap.size by omega))); (try (have r3 := Nat.lt_of_lt_of_le r1 (show _ ≤ w1.heap.size by omega))); (try (have r2 := Nat.lt_of_succ_le (Nat.le_of_succ_le hz))); (try (have r1 := Nat.lt_of_succ_le hz)); (try (have hg1 := Nat.lt_of_lt_of_le hg1 (show _ ≤ w1.heap.size by omega))); (try (have hg2 := Nat.lt_of_lt_of_le hg2 (show _ ≤ w1.heap.size by omega))); (try (have hg3 := Nat.lt_of_lt_of_le hg3 (show _ ≤ w1.heap.size by omega))); (try (first | have hK := S1.below hK hb | have hK := S1.below (S1.alloc hK _) hb | have hK := S1.below (S1.alloc (S1.alloc hK _) _) hb | have hK := S1.below (S1.drewN hK _) hb)); (try (first | have hK2 := S1.below hK2 hb | have hK2 := S1.below (S1.alloc hK2 _) hb | have hK2 := S1.below (S1.alloc (S1.alloc hK2 _) _) hb | have hK2 := S1.below (S1.drewN hK2 _) hb)); (try (first | have hK3 := S1.below hK3 hb | have hK3 := S1.below (S1.alloc hK3 _) hb | have hK3 := S1.below (S1.alloc (S1.alloc hK3 _) _) hb | have hK3 := S1.below (S1.drewN hK3 _) hb)); (try (first | have hK4 := S1.below hK4 hb | have hK4 := S1.below (S1.alloc hK4 _) hb | have hK4 := S1.below (S1.alloc (S1.alloc hK4 _) _) hb | have hK4 := S1.below (S1.drewN hK4 _) hb)))
    refine bodyPost_ret (by simp [results, Try.results53, go_sem, *]; try rfl) rfl ?_
    exact ⟨by rfl, (by repeat (first | (with_reducible exact Below.refl _ _) | (with_reducible assumption) | (with_reducible refine below_alloc ?_ _) | (with_reducible refine Below.setCell ?_ (by first | omega | (simp; done) | (simp; omega)) _) | (with_reducible refine below_drewN ?_ _) | (with_reducible refine Below.drew ?_) | (with_reducible refine below_tr ?_ (by assumption))))⟩
  · obtain ⟨d0, d1, t0, t1⟩ := figV_true.1 hx
    go_enter Try.func53, Try.ntmps53
    go_wp2_with (first | (go_at_call 24; refine (IsFigure_impl _ _ _).mono ?_; rintro e w1 ⟨rfl, hb⟩; obtain ⟨hc, hf⟩ := bcell hb; (try simp only [World.size_drew, World.cell?_drew] at hc); (try simp only [World.size_drew, World.frozen?_drew] at hf); have hz := hb.size; (try simp at hz); (try (have hz0 : w.heap.size < w1.heap.size := by omega)); (try (have hz1 : w.heap.size + 1 < w1.heap.size := by omega)); (try (have hz2 : w.heap.size + 1 + 1 < w1.heap.size := by omega)); (try (have hz3 : w.heap.size + 1 + 1 + 1 < w1.heap.size := by omega)); (try (have r7 := Nat.lt_of_lt_of_le r5 (show _ ≤ w1.heap.size by omega))); (try (have r6 := Nat.lt_of_lt_of_le r4 (show _ ≤ w1.heap.size by omega))); (try (have r5 := Nat.lt_of_lt_of_le r3 (show _ ≤ w1.heap.size by omega))); (try (have r4 := Nat.lt_of_lt_of_le r2 (show _ ≤ w1.heap.size by omega))); (try (have r3 := Nat.lt_of_lt_of_le r1 (show _ ≤ w1.heap.size by omega))); (try (have r2 := Nat.lt_of_succ_le (Nat.le_of_succ_le hz))); (try (have r1 := Nat.lt_of_succ_le hz)); (try (have hg1 := Nat.lt_of_lt_of_le hg1 (show _ ≤ w1.heap.size by omega))); (try (have hg2 := Nat.lt_of_lt_of_le hg2 (show _ ≤ w1.heap.size by omega))); (try (have hg3 := Nat.lt_of_lt_of_le hg3 (show _ ≤ w1.heap.size by omega))); (try (first | have hK := S1.below hK hb | have hK := S1.below (S1.alloc hK _) hb | have hK := S1.below (S1.alloc (S1.alloc hK _) _) hb | have hK := S1.below (S1.drewN hK _) hb)); (try (first | have hK2 := S1.below hK2 hb | have hK2 := S1.below (S1.alloc hK2 _) hb | have hK2 := S1.below (S1.alloc (S1.alloc hK2 _) _) hb | have hK2 := S1.below (S1.drewN hK2 _) hb)); (try (first | have hK3 := S1.below hK3 hb | have hK3 := S1.below (S1.alloc hK3 _) hb | have hK3 := S1.below (S1.alloc (S1.alloc hK3 _) _) hb | have hK3 := S1.below (S1.drewN hK3 _) hb)); (try (first | have hK4 := S1.below hK4 hb | have hK4 := S1.below (S1.alloc hK4 _) hb | have hK4 := S1.below (S1.alloc (S1.alloc hK4 _) _) hb | have hK4 := S1.below (S1.drewN hK4 _) hb))) | (go_at_call 115; refine (flog_impl _ _ _ (by omega) (by omega) (by omega) (by omega)).mono ?_; rintro e w1 ⟨rfl, hb⟩; obtain ⟨hc, hf⟩ := bcell hb; (try simp only [World.size_drew, World.cell?_drew] at hc); (try simp only [World.size_drew, World.frozen?_drew] at hf); have hz := hb.size; (try simp at hz); (try (have hz0 : w.heap.size < w1.heap.size := by omega)); (try (have hz1 : w.heap.size + 1 < w1.heap.size := by omega)); (try (have hz2 : w.heap.size + 1 + 1 < w1.heap.size := by omega)); (try (have hz3 : w.heap.size + 1 + 1 + 1 < w1.heap.size := by omega)); (try (have r7 := Nat.lt_of_lt_of_le r5 (show _ ≤ w1.heap.size by omega))); (try (have r6 := Nat.lt_of_lt_of_le r4 (show _ ≤ w1.heap.size by omega))); (try (have r5 := Nat.lt_of_lt_of_le r3 (show _ ≤ w1.heap.size by omega))); (try (have r4 := Nat.lt_of_lt_of_le r2 (show _ ≤ w1.heap.size by omega))); (try (have r3 := Nat.lt_of_lt_of_le r1 (show _ ≤ w1.heap.size by omega))); (try (have r2 := Nat.lt_of_succ_le (Nat.le_of_succ_le hz))); (try (have r1 := Nat.lt_of_succ_le hz)); (try (have hg1 := Nat.lt_of_lt_of_le hg1 (show _ ≤ w1.heap.size by omega))); (try (have hg2 := Nat.lt_of_lt_of_le hg2 (show _ ≤ w1.heap.size by omega))); (try (have hg3 := Nat.lt_of_lt_of_le hg3 (show _ ≤ w1.heap.size by omega))); (try (first | have hK := S1.below hK hb | have hK := S1.below (S1.alloc hK _) hb | have hK := S1.below (S1.alloc (S1.alloc hK _) _) hb | have hK := S1.below (S1.drewN hK _) hb)); (try (first | have hK2 := S1.below hK2 hb | have hK2 := S1.below (S1.alloc hK2 _) hb | have hK2 := S1.below (S1.alloc (S1.alloc hK2 _) _) hb | have hK2 := S1.below (S1.drewN hK2 _) hb)); (try (first | have hK3 := S1.below hK3 hb | have hK3 := S1.below (S1.alloc hK3 _) hb | have hK3 := S1.below (S1.alloc (S1.alloc hK3 _) _) hb | have hK3 := S1.below (S1.drewN hK3 _) hb)); (try (first | have hK4 := S1.below hK4 hb | have hK4 := S1.below (S1.alloc hK4 _) hb | have hK4 := S1.below (S1.alloc (S1.alloc hK4 _) _) hb | have hK4 := S1.below (S1.drewN hK4 _) hb))))
    refine bodyPost_ret (by simp [results, Try.results53, go_sem, *]; try rfl) rfl ?_
    exact ⟨by simp, (by repeat (first | (with_reducible exact Below.refl _ _) | (with_reducible assumption) | (with_reducible refine below_alloc ?_ _) | (with_reducible refine Below.setCell ?_ (by first | omega | (simp; done) | (simp; omega)) _) | (with_reducible refine below_drewN ?_ _) | (with_reducible refine Below.drew ?_) | (with_reducible refine below_tr ?_ (by assumption))))⟩
end Go.Proofs.Ythmmdcpodadjbaa.C
