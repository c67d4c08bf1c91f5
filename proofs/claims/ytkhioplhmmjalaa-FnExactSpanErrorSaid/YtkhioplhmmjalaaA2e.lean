/- Contracts of chapter 2: fewer digits, relative errors. -/
import Derived.Test.YtkhioplhmmjalaaA2d
import Derived.Test.YtkhioplhmmjalaaPlain4
namespace Go.Proofs.Ytkhioplhmmjalaa.C
open Go.RowKit Go.Proofs.Ytkhioplhmmjalaa.K
set_option linter.unusedVariables false

theorem ten0 : tenV 0 = 1 := by decide
theorem ten1 : tenV 1 = 10 := by decide
theorem ten2 : tenV 2 = 100 := by decide
theorem ten3 : tenV 3 = 1000 := by decide
theorem ten4 : tenV 4 = 10000 := by decide
theorem ten5 : tenV 5 = 100000 := by decide
theorem ten6 : tenV 6 = 1000000 := by decide
theorem ten7 : tenV 7 = 10000000 := by decide
set_option maxHeartbeats 1600000 in
theorem cut_impl (d t k : Int) (w : World) (d0 : 1000 ≤ d) (d1 : d ≤ 9999) (t0 : -30 ≤ t) (t1 : t ≤ 30) (hk : inB k 1 4 = true) : Calls Try.prog 58 #[.agg #[.int .i64 d, .int .i64 t], .int .i64 k] w fun e w' => e = .returned (.agg #[.int .i64 (rfD d k), .int .i64 (rfT d t k)]) ∧ Below w.heap.size w w' := by
  have hk4 : k = 1 ∨ k = 2 ∨ k = 3 ∨ k = 4 := by have := inB_true.1 hk; omega
  clear hk
  have e0 := ten0
  have e1 := ten1
  have e2 := ten2
  have e3 := ten3
  rcases hk4 with rfl | rfl | rfl | rfl
  · have HQ := Lib.hid (show (2 * d + 1000) / 2000 * 1000 = rfQ d 1 by unfold rfQ rfU; simp)
    by_cases hq : (2 * d + 1000) / 2000 * 1000 = 10000
    · have ht : ((2 * d + 1000) / 2000 * 1000 == 10000) = true := beq_iff_eq.2 hq
      have HT := Lib.hid hq
      clear hq
      go_enter Try.func58, Try.ntmps58
      go_wp2_with (first | (go_at_call 82; refine (ten_i _ _ (by omega) (by omega)).mono ?_; rintro e w' ⟨rfl, rfl⟩) | (go_at_call 77; refine (down_i _ _ _ (by omega) (by omega) (by omega)).mono ?_; rintro e w' ⟨rfl, rfl⟩))
      go_returns
      exact ⟨ret_agg (by unfold rfD; rw [← HQ.out, HT.out]; rfl) (by unfold rfT; rw [← HQ.out, HT.out]; rfl), (by repeat (first | exact Below.refl _ _ | assumption | refine below_alloc ?_ _ | refine Below.setCell ?_ (by first | omega | (simp; done) | (simp; omega)) _ | refine below_drewN ?_ _ | refine Below.drew ?_ | refine below_tr ?_ (by assumption)))⟩
    · have ht : ((2 * d + 1000) / 2000 * 1000 == 10000) = false := beq_eq_false_iff_ne.2 hq
      have HT := Lib.hid hq
      clear hq
      go_enter Try.func58, Try.ntmps58
      go_wp2_with (first | (go_at_call 82; refine (ten_i _ _ (by omega) (by omega)).mono ?_; rintro e w' ⟨rfl, rfl⟩) | (go_at_call 77; refine (down_i _ _ _ (by omega) (by omega) (by omega)).mono ?_; rintro e w' ⟨rfl, rfl⟩))
      go_returns
      exact ⟨ret_agg (by unfold rfD; rw [← HQ.out, if_neg HT.out]) (by unfold rfT; rw [← HQ.out, if_neg HT.out]), (by repeat (first | exact Below.refl _ _ | assumption | refine below_alloc ?_ _ | refine Below.setCell ?_ (by first | omega | (simp; done) | (simp; omega)) _ | refine below_drewN ?_ _ | refine Below.drew ?_ | refine below_tr ?_ (by assumption)))⟩
  · have HQ := Lib.hid (show (2 * d + 100) / 200 * 100 = rfQ d 2 by unfold rfQ rfU; simp)
    by_cases hq : (2 * d + 100) / 200 * 100 = 10000
    · have ht : ((2 * d + 100) / 200 * 100 == 10000) = true := beq_iff_eq.2 hq
      have HT := Lib.hid hq
      clear hq
      go_enter Try.func58, Try.ntmps58
      go_wp2_with (first | (go_at_call 82; refine (ten_i _ _ (by omega) (by omega)).mono ?_; rintro e w' ⟨rfl, rfl⟩) | (go_at_call 77; refine (down_i _ _ _ (by omega) (by omega) (by omega)).mono ?_; rintro e w' ⟨rfl, rfl⟩))
      go_returns
      exact ⟨ret_agg (by unfold rfD; rw [← HQ.out, HT.out]; rfl) (by unfold rfT; rw [← HQ.out, HT.out]; rfl), (by repeat (first | exact Below.refl _ _ | assumption | refine below_alloc ?_ _ | refine Below.setCell ?_ (by first | omega | (simp; done) | (simp; omega)) _ | refine below_drewN ?_ _ | refine Below.drew ?_ | refine below_tr ?_ (by assumption)))⟩
    · have ht : ((2 * d + 100) / 200 * 100 == 10000) = false := beq_eq_false_iff_ne.2 hq
      have HT := Lib.hid hq
      clear hq
      go_enter Try.func58, Try.ntmps58
      go_wp2_with (first | (go_at_call 82; refine (ten_i _ _ (by omega) (by omega)).mono ?_; rintro e w' ⟨rfl, rfl⟩) | (go_at_call 77; refine (down_i _ _ _ (by omega) (by omega) (by omega)).mono ?_; rintro e w' ⟨rfl, rfl⟩))
      go_returns
      exact ⟨ret_agg (by unfold rfD; rw [← HQ.out, if_neg HT.out]) (by unfold rfT; rw [← HQ.out, if_neg HT.out]), (by repeat (first | exact Below.refl _ _ | assumption | refine below_alloc ?_ _ | refine Below.setCell ?_ (by first | omega | (simp; done) | (simp; omega)) _ | refine below_drewN ?_ _ | refine Below.drew ?_ | refine below_tr ?_ (by assumption)))⟩
  · have HQ := Lib.hid (show (2 * d + 10) / 20 * 10 = rfQ d 3 by unfold rfQ rfU; simp)
    by_cases hq : (2 * d + 10) / 20 * 10 = 10000
    · have ht : ((2 * d + 10) / 20 * 10 == 10000) = true := beq_iff_eq.2 hq
      have HT := Lib.hid hq
      clear hq
      go_enter Try.func58, Try.ntmps58
      go_wp2_with (first | (go_at_call 82; refine (ten_i _ _ (by omega) (by omega)).mono ?_; rintro e w' ⟨rfl, rfl⟩) | (go_at_call 77; refine (down_i _ _ _ (by omega) (by omega) (by omega)).mono ?_; rintro e w' ⟨rfl, rfl⟩))
      go_returns
      exact ⟨ret_agg (by unfold rfD; rw [← HQ.out, HT.out]; rfl) (by unfold rfT; rw [← HQ.out, HT.out]; rfl), (by repeat (first | exact Below.refl _ _ | assumption | refine below_alloc ?_ _ | refine Below.setCell ?_ (by first | omega | (simp; done) | (simp; omega)) _ | refine below_drewN ?_ _ | refine Below.drew ?_ | refine below_tr ?_ (by assumption)))⟩
    · have ht : ((2 * d + 10) / 20 * 10 == 10000) = false := beq_eq_false_iff_ne.2 hq
      have HT := Lib.hid hq
      clear hq
      go_enter Try.func58, Try.ntmps58
      go_wp2_with (first | (go_at_call 82; refine (ten_i _ _ (by omega) (by omega)).mono ?_; rintro e w' ⟨rfl, rfl⟩) | (go_at_call 77; refine (down_i _ _ _ (by omega) (by omega) (by omega)).mono ?_; rintro e w' ⟨rfl, rfl⟩))
      go_returns
      exact ⟨ret_agg (by unfold rfD; rw [← HQ.out, if_neg HT.out]) (by unfold rfT; rw [← HQ.out, if_neg HT.out]), (by repeat (first | exact Below.refl _ _ | assumption | refine below_alloc ?_ _ | refine Below.setCell ?_ (by first | omega | (simp; done) | (simp; omega)) _ | refine below_drewN ?_ _ | refine Below.drew ?_ | refine below_tr ?_ (by assumption)))⟩
  · have HQ := Lib.hid (show (2 * d + 1) / 2 = rfQ d 4 by unfold rfQ rfU; simp)
    by_cases hq : (2 * d + 1) / 2 = 10000
    · have ht : ((2 * d + 1) / 2 == 10000) = true := beq_iff_eq.2 hq
      have HT := Lib.hid hq
      clear hq
      go_enter Try.func58, Try.ntmps58
      go_wp2_with (first | (go_at_call 82; refine (ten_i _ _ (by omega) (by omega)).mono ?_; rintro e w' ⟨rfl, rfl⟩) | (go_at_call 77; refine (down_i _ _ _ (by omega) (by omega) (by omega)).mono ?_; rintro e w' ⟨rfl, rfl⟩))
      go_returns
      exact ⟨ret_agg (by unfold rfD; rw [← HQ.out, HT.out]; rfl) (by unfold rfT; rw [← HQ.out, HT.out]; rfl), (by repeat (first | exact Below.refl _ _ | assumption | refine below_alloc ?_ _ | refine Below.setCell ?_ (by first | omega | (simp; done) | (simp; omega)) _ | refine below_drewN ?_ _ | refine Below.drew ?_ | refine below_tr ?_ (by assumption)))⟩
    · have ht : ((2 * d + 1) / 2 == 10000) = false := beq_eq_false_iff_ne.2 hq
      have HT := Lib.hid hq
      clear hq
      go_enter Try.func58, Try.ntmps58
      go_wp2_with (first | (go_at_call 82; refine (ten_i _ _ (by omega) (by omega)).mono ?_; rintro e w' ⟨rfl, rfl⟩) | (go_at_call 77; refine (down_i _ _ _ (by omega) (by omega) (by omega)).mono ?_; rintro e w' ⟨rfl, rfl⟩))
      go_returns
      exact ⟨ret_agg (by unfold rfD; rw [← HQ.out, if_neg HT.out]) (by unfold rfT; rw [← HQ.out, if_neg HT.out]), (by repeat (first | exact Below.refl _ _ | assumption | refine below_alloc ?_ _ | refine Below.setCell ?_ (by first | omega | (simp; done) | (simp; omega)) _ | refine below_drewN ?_ _ | refine Below.drew ?_ | refine below_tr ?_ (by assumption)))⟩
set_option maxHeartbeats 1600000 in
theorem cut_spec (d t k : Int) (w : World) (d0 : 1000 ≤ d) (d1 : d ≤ 9999) (t0 : -30 ≤ t) (t1 : t ≤ 30) (hk : inB k 1 4 = true) : Calls Try.prog 56 #[.agg #[.int .i64 d, .int .i64 t], .int .i64 k] w fun e w' => e = .returned (.agg #[.int .i64 (rfD d k), .int .i64 (rfT d t k)]) ∧ Below w.heap.size w w' := by
  have hk4 : k = 1 ∨ k = 2 ∨ k = 3 ∨ k = 4 := by have := inB_true.1 hk; omega
  clear hk
  have e0 := ten0
  have e1 := ten1
  have e2 := ten2
  have e3 := ten3
  rcases hk4 with rfl | rfl | rfl | rfl
  · have HQ := Lib.hid (show 1000 * ((2 * d + 1000) / 2000) = rfQ d 1 by unfold rfQ rfU; simp; omega)
    by_cases hq : 1000 * ((2 * d + 1000) / 2000) = 10000
    · have ht : (1000 * ((2 * d + 1000) / 2000) == 10000) = true := beq_iff_eq.2 hq
      have HT := Lib.hid hq
      clear hq
      go_enter Try.func56, Try.ntmps56
      go_wp2_with (first | (go_at_call 81; refine (ten_s _ _ (by omega) (by omega)).mono ?_; rintro e w' ⟨rfl, rfl⟩) | (go_at_call 79; refine (nearest_s _ _ _ (by omega) (by omega) (by omega) (by omega)).mono ?_; rintro e w' ⟨rfl, rfl⟩))
      go_returns
      exact ⟨ret_agg (by unfold rfD; rw [← HQ.out, HT.out]; rfl) (by unfold rfT; rw [← HQ.out, HT.out]; rfl), (by repeat (first | exact Below.refl _ _ | assumption | refine below_alloc ?_ _ | refine Below.setCell ?_ (by first | omega | (simp; done) | (simp; omega)) _ | refine below_drewN ?_ _ | refine Below.drew ?_ | refine below_tr ?_ (by assumption)))⟩
    · have ht : (1000 * ((2 * d + 1000) / 2000) == 10000) = false := beq_eq_false_iff_ne.2 hq
      have HT := Lib.hid hq
      clear hq
      go_enter Try.func56, Try.ntmps56
      go_wp2_with (first | (go_at_call 81; refine (ten_s _ _ (by omega) (by omega)).mono ?_; rintro e w' ⟨rfl, rfl⟩) | (go_at_call 79; refine (nearest_s _ _ _ (by omega) (by omega) (by omega) (by omega)).mono ?_; rintro e w' ⟨rfl, rfl⟩))
      go_returns
      exact ⟨ret_agg (by unfold rfD; rw [← HQ.out, if_neg HT.out]) (by unfold rfT; rw [← HQ.out, if_neg HT.out]), (by repeat (first | exact Below.refl _ _ | assumption | refine below_alloc ?_ _ | refine Below.setCell ?_ (by first | omega | (simp; done) | (simp; omega)) _ | refine below_drewN ?_ _ | refine Below.drew ?_ | refine below_tr ?_ (by assumption)))⟩
  · have HQ := Lib.hid (show 100 * ((2 * d + 100) / 200) = rfQ d 2 by unfold rfQ rfU; simp; omega)
    by_cases hq : 100 * ((2 * d + 100) / 200) = 10000
    · have ht : (100 * ((2 * d + 100) / 200) == 10000) = true := beq_iff_eq.2 hq
      have HT := Lib.hid hq
      clear hq
      go_enter Try.func56, Try.ntmps56
      go_wp2_with (first | (go_at_call 81; refine (ten_s _ _ (by omega) (by omega)).mono ?_; rintro e w' ⟨rfl, rfl⟩) | (go_at_call 79; refine (nearest_s _ _ _ (by omega) (by omega) (by omega) (by omega)).mono ?_; rintro e w' ⟨rfl, rfl⟩))
      go_returns
      exact ⟨ret_agg (by unfold rfD; rw [← HQ.out, HT.out]; rfl) (by unfold rfT; rw [← HQ.out, HT.out]; rfl), (by repeat (first | exact Below.refl _ _ | assumption | refine below_alloc ?_ _ | refine Below.setCell ?_ (by first | omega | (simp; done) | (simp; omega)) _ | refine below_drewN ?_ _ | refine Below.drew ?_ | refine below_tr ?_ (by assumption)))⟩
    · have ht : (100 * ((2 * d + 100) / 200) == 10000) = false := beq_eq_false_iff_ne.2 hq
      have HT := Lib.hid hq
      clear hq
      go_enter Try.func56, Try.ntmps56
      go_wp2_with (first | (go_at_call 81; refine (ten_s _ _ (by omega) (by omega)).mono ?_; rintro e w' ⟨rfl, rfl⟩) | (go_at_call 79; refine (nearest_s _ _ _ (by omega) (by omega) (by omega) (by omega)).mono ?_; rintro e w' ⟨rfl, rfl⟩))
      go_returns
      exact ⟨ret_agg (by unfold rfD; rw [← HQ.out, if_neg HT.out]) (by unfold rfT; rw [← HQ.out, if_neg HT.out]), (by repeat (first | exact Below.refl _ _ | assumption | refine below_alloc ?_ _ | refine Below.setCell ?_ (by first | omega | (simp; done) | (simp; omega)) _ | refine below_drewN ?_ _ | refine Below.drew ?_ | refine below_tr ?_ (by assumption)))⟩
  · have HQ := Lib.hid (show 10 * ((2 * d + 10) / 20) = rfQ d 3 by unfold rfQ rfU; simp; omega)
    by_cases hq : 10 * ((2 * d + 10) / 20) = 10000
    · have ht : (10 * ((2 * d + 10) / 20) == 10000) = true := beq_iff_eq.2 hq
      have HT := Lib.hid hq
      clear hq
      go_enter Try.func56, Try.ntmps56
      go_wp2_with (first | (go_at_call 81; refine (ten_s _ _ (by omega) (by omega)).mono ?_; rintro e w' ⟨rfl, rfl⟩) | (go_at_call 79; refine (nearest_s _ _ _ (by omega) (by omega) (by omega) (by omega)).mono ?_; rintro e w' ⟨rfl, rfl⟩))
      go_returns
      exact ⟨ret_agg (by unfold rfD; rw [← HQ.out, HT.out]; rfl) (by unfold rfT; rw [← HQ.out, HT.out]; rfl), (by repeat (first | exact Below.refl _ _ | assumption | refine below_alloc ?_ _ | refine Below.setCell ?_ (by first | omega | (simp; done) | (simp; omega)) _ | refine below_drewN ?_ _ | refine Below.drew ?_ | refine below_tr ?_ (by assumption)))⟩
    · have ht : (10 * ((2 * d + 10) / 20) == 10000) = false := beq_eq_false_iff_ne.2 hq
      have HT := Lib.hid hq
      clear hq
      go_enter Try.func56, Try.ntmps56
      go_wp2_with (first | (go_at_call 81; refine (ten_s _ _ (by omega) (by omega)).mono ?_; rintro e w' ⟨rfl, rfl⟩) | (go_at_call 79; refine (nearest_s _ _ _ (by omega) (by omega) (by omega) (by omega)).mono ?_; rintro e w' ⟨rfl, rfl⟩))
      go_returns
      exact ⟨ret_agg (by unfold rfD; rw [← HQ.out, if_neg HT.out]) (by unfold rfT; rw [← HQ.out, if_neg HT.out]), (by repeat (first | exact Below.refl _ _ | assumption | refine below_alloc ?_ _ | refine Below.setCell ?_ (by first | omega | (simp; done) | (simp; omega)) _ | refine below_drewN ?_ _ | refine Below.drew ?_ | refine below_tr ?_ (by assumption)))⟩
  · have HQ := Lib.hid (show (2 * d + 1) / 2 = rfQ d 4 by unfold rfQ rfU; simp)
    by_cases hq : (2 * d + 1) / 2 = 10000
    · have ht : ((2 * d + 1) / 2 == 10000) = true := beq_iff_eq.2 hq
      have HT := Lib.hid hq
      clear hq
      go_enter Try.func56, Try.ntmps56
      go_wp2_with (first | (go_at_call 81; refine (ten_s _ _ (by omega) (by omega)).mono ?_; rintro e w' ⟨rfl, rfl⟩) | (go_at_call 79; refine (nearest_s _ _ _ (by omega) (by omega) (by omega) (by omega)).mono ?_; rintro e w' ⟨rfl, rfl⟩))
      go_returns
      exact ⟨ret_agg (by unfold rfD; rw [← HQ.out, HT.out]; rfl) (by unfold rfT; rw [← HQ.out, HT.out]; rfl), (by repeat (first | exact Below.refl _ _ | assumption | refine below_alloc ?_ _ | refine Below.setCell ?_ (by first | omega | (simp; done) | (simp; omega)) _ | refine below_drewN ?_ _ | refine Below.drew ?_ | refine below_tr ?_ (by assumption)))⟩
    · have ht : ((2 * d + 1) / 2 == 10000) = false := beq_eq_false_iff_ne.2 hq
      have HT := Lib.hid hq
      clear hq
      go_enter Try.func56, Try.ntmps56
      go_wp2_with (first | (go_at_call 81; refine (ten_s _ _ (by omega) (by omega)).mono ?_; rintro e w' ⟨rfl, rfl⟩) | (go_at_call 79; refine (nearest_s _ _ _ (by omega) (by omega) (by omega) (by omega)).mono ?_; rintro e w' ⟨rfl, rfl⟩))
      go_returns
      exact ⟨ret_agg (by unfold rfD; rw [← HQ.out, if_neg HT.out]) (by unfold rfT; rw [← HQ.out, if_neg HT.out]), (by repeat (first | exact Below.refl _ _ | assumption | refine below_alloc ?_ _ | refine Below.setCell ?_ (by first | omega | (simp; done) | (simp; omega)) _ | refine below_drewN ?_ _ | refine Below.drew ?_ | refine below_tr ?_ (by assumption)))⟩
set_option maxHeartbeats 800000 in
theorem RoundFigure_spec (d t k : Int) (w : World) : Calls Try.prog 24 #[.agg #[.int .i64 d, .int .i64 t], .int .i64 k] w fun e w' => e = .returned (.tuple #[.agg #[.int .i64 (rsV (rfC d t k) (rfD d k)), .int .i64 (rsV (rfC d t k) (rfT d t k))], .int .i64 (rfC d t k)]) ∧ Below w.heap.size w w' := by
  cases hf : figV d t
  · have HR := Lib.hid (show 1 = rfC d t k by simp [rfC, hf])
    go_enter Try.func24, Try.ntmps24
    go_wp2_with (go_at_call 54; refine (IsFigure_spec _ _ _).mono ?_; rintro e w1 ⟨rfl, hb⟩; obtain ⟨hc, hf⟩ := bcell hb; have hz := hb.size; (try simp at hz); (try (have hz0 : w.heap.size < w1.heap.size := by omega)); (try (have hz1 : w.heap.size + 1 < w1.heap.size := by omega)); (try (have hz2 : w.heap.size + 1 + 1 < w1.heap.size := by omega)); (try (have hz3 : w.heap.size + 1 + 1 + 1 < w1.heap.size := by omega)); (try (have r7 := Nat.lt_of_lt_of_le r5 (show _ ≤ w1.heap.size by omega))); (try (have r6 := Nat.lt_of_lt_of_le r4 (show _ ≤ w1.heap.size by omega))); (try (have r5 := Nat.lt_of_lt_of_le r3 (show _ ≤ w1.heap.size by omega))); (try (have r4 := Nat.lt_of_lt_of_le r2 (show _ ≤ w1.heap.size by omega))); (try (have r3 := Nat.lt_of_lt_of_le r1 (show _ ≤ w1.heap.size by omega))); (try (have r2 := Nat.lt_of_succ_le (Nat.le_of_succ_le hz))); (try (have r1 := Nat.lt_of_succ_le hz)); (try (have hg1 := Nat.lt_of_lt_of_le hg1 (show _ ≤ w1.heap.size by omega))); (try (have hg2 := Nat.lt_of_lt_of_le hg2 (show _ ≤ w1.heap.size by omega))); (try (have hg3 := Nat.lt_of_lt_of_le hg3 (show _ ≤ w1.heap.size by omega))))
    refine bodyPost_ret (by simp [results, Try.results24, go_sem, *]; try rfl) rfl ?_
    exact ⟨by rw [← HR.out]; rfl, (by repeat (first | exact Below.refl _ _ | assumption | refine below_alloc ?_ _ | refine Below.setCell ?_ (by first | omega | (simp; done) | (simp; omega)) _ | refine below_drewN ?_ _ | refine Below.drew ?_ | refine below_tr ?_ (by assumption)))⟩
  · cases hk : inB k 1 4
    · have HR := Lib.hid (show 2 = rfC d t k by simp [rfC, hf, hk])
      go_enter Try.func24, Try.ntmps24
      go_wp2_with (first | (go_at_call 54; refine (IsFigure_spec _ _ _).mono ?_; rintro e w1 ⟨rfl, hb⟩; obtain ⟨hc, hf⟩ := bcell hb; have hz := hb.size; (try simp at hz); (try (have hz0 : w.heap.size < w1.heap.size := by omega)); (try (have hz1 : w.heap.size + 1 < w1.heap.size := by omega)); (try (have hz2 : w.heap.size + 1 + 1 < w1.heap.size := by omega)); (try (have hz3 : w.heap.size + 1 + 1 + 1 < w1.heap.size := by omega)); (try (have r7 := Nat.lt_of_lt_of_le r5 (show _ ≤ w1.heap.size by omega))); (try (have r6 := Nat.lt_of_lt_of_le r4 (show _ ≤ w1.heap.size by omega))); (try (have r5 := Nat.lt_of_lt_of_le r3 (show _ ≤ w1.heap.size by omega))); (try (have r4 := Nat.lt_of_lt_of_le r2 (show _ ≤ w1.heap.size by omega))); (try (have r3 := Nat.lt_of_lt_of_le r1 (show _ ≤ w1.heap.size by omega))); (try (have r2 := Nat.lt_of_succ_le (Nat.le_of_succ_le hz))); (try (have r1 := Nat.lt_of_succ_le hz)); (try (have hg1 := Nat.lt_of_lt_of_le hg1 (show _ ≤ w1.heap.size by omega))); (try (have hg2 := Nat.lt_of_lt_of_le hg2 (show _ ≤ w1.heap.size by omega))); (try (have hg3 := Nat.lt_of_lt_of_le hg3 (show _ ≤ w1.heap.size by omega)))) | (go_at_call 47; refine (in_s _ _ _ _).mono ?_; rintro e w' ⟨rfl, rfl⟩))
      refine bodyPost_ret (by simp [results, Try.results24, go_sem, *]; try rfl) rfl ?_
      exact ⟨by rw [← HR.out]; rfl, (by repeat (first | exact Below.refl _ _ | assumption | refine below_alloc ?_ _ | refine Below.setCell ?_ (by first | omega | (simp; done) | (simp; omega)) _ | refine below_drewN ?_ _ | refine Below.drew ?_ | refine below_tr ?_ (by assumption)))⟩
    · have HR := Lib.hid (show liV (figV (rfD d k) (rfT d t k)) = rfC d t k by simp [rfC, hf, hk])
      obtain ⟨d0, d1, t0, t1⟩ := figV_true.1 hf
      go_enter Try.func24, Try.ntmps24
      go_wp2_with (first | (go_at_call 54; refine (IsFigure_spec _ _ _).mono ?_; rintro e w1 ⟨rfl, hb⟩; obtain ⟨hc, hf⟩ := bcell hb; have hz := hb.size; (try simp at hz); (try (have hz0 : w.heap.size < w1.heap.size := by omega)); (try (have hz1 : w.heap.size + 1 < w1.heap.size := by omega)); (try (have hz2 : w.heap.size + 1 + 1 < w1.heap.size := by omega)); (try (have hz3 : w.heap.size + 1 + 1 + 1 < w1.heap.size := by omega)); (try (have r7 := Nat.lt_of_lt_of_le r5 (show _ ≤ w1.heap.size by omega))); (try (have r6 := Nat.lt_of_lt_of_le r4 (show _ ≤ w1.heap.size by omega))); (try (have r5 := Nat.lt_of_lt_of_le r3 (show _ ≤ w1.heap.size by omega))); (try (have r4 := Nat.lt_of_lt_of_le r2 (show _ ≤ w1.heap.size by omega))); (try (have r3 := Nat.lt_of_lt_of_le r1 (show _ ≤ w1.heap.size by omega))); (try (have r2 := Nat.lt_of_succ_le (Nat.le_of_succ_le hz))); (try (have r1 := Nat.lt_of_succ_le hz)); (try (have hg1 := Nat.lt_of_lt_of_le hg1 (show _ ≤ w1.heap.size by omega))); (try (have hg2 := Nat.lt_of_lt_of_le hg2 (show _ ≤ w1.heap.size by omega))); (try (have hg3 := Nat.lt_of_lt_of_le hg3 (show _ ≤ w1.heap.size by omega)))) | (go_at_call 47; refine (in_s _ _ _ _).mono ?_; rintro e w' ⟨rfl, rfl⟩) | (go_at_call 56; refine (cut_spec _ _ _ _ (by omega) (by omega) (by omega) (by omega) hk).mono ?_; rintro e w1 ⟨rfl, hb⟩; obtain ⟨hc, hf⟩ := bcell hb; have hz := hb.size; (try simp at hz); (try (have hz0 : w.heap.size < w1.heap.size := by omega)); (try (have hz1 : w.heap.size + 1 < w1.heap.size := by omega)); (try (have hz2 : w.heap.size + 1 + 1 < w1.heap.size := by omega)); (try (have hz3 : w.heap.size + 1 + 1 + 1 < w1.heap.size := by omega)); (try (have r7 := Nat.lt_of_lt_of_le r5 (show _ ≤ w1.heap.size by omega))); (try (have r6 := Nat.lt_of_lt_of_le r4 (show _ ≤ w1.heap.size by omega))); (try (have r5 := Nat.lt_of_lt_of_le r3 (show _ ≤ w1.heap.size by omega))); (try (have r4 := Nat.lt_of_lt_of_le r2 (show _ ≤ w1.heap.size by omega))); (try (have r3 := Nat.lt_of_lt_of_le r1 (show _ ≤ w1.heap.size by omega))); (try (have r2 := Nat.lt_of_succ_le (Nat.le_of_succ_le hz))); (try (have r1 := Nat.lt_of_succ_le hz)); (try (have hg1 := Nat.lt_of_lt_of_le hg1 (show _ ≤ w1.heap.size by omega))); (try (have hg2 := Nat.lt_of_lt_of_le hg2 (show _ ≤ w1.heap.size by omega))); (try (have hg3 := Nat.lt_of_lt_of_le hg3 (show _ ≤ w1.heap.size by omega)))) | (go_at_call 55; refine (limited_spec _ _ _).mono ?_; rintro e w1 ⟨rfl, hb⟩; obtain ⟨hc, hf⟩ := bcell hb; have hz := hb.size; (try simp at hz); (try (have hz0 : w.heap.size < w1.heap.size := by omega)); (try (have hz1 : w.heap.size + 1 < w1.heap.size := by omega)); (try (have hz2 : w.heap.size + 1 + 1 < w1.heap.size := by omega)); (try (have hz3 : w.heap.size + 1 + 1 + 1 < w1.heap.size := by omega)); (try (have r7 := Nat.lt_of_lt_of_le r5 (show _ ≤ w1.heap.size by omega))); (try (have r6 := Nat.lt_of_lt_of_le r4 (show _ ≤ w1.heap.size by omega))); (try (have r5 := Nat.lt_of_lt_of_le r3 (show _ ≤ w1.heap.size by omega))); (try (have r4 := Nat.lt_of_lt_of_le r2 (show _ ≤ w1.heap.size by omega))); (try (have r3 := Nat.lt_of_lt_of_le r1 (show _ ≤ w1.heap.size by omega))); (try (have r2 := Nat.lt_of_succ_le (Nat.le_of_succ_le hz))); (try (have r1 := Nat.lt_of_succ_le hz)); (try (have hg1 := Nat.lt_of_lt_of_le hg1 (show _ ≤ w1.heap.size by omega))); (try (have hg2 := Nat.lt_of_lt_of_le hg2 (show _ ≤ w1.heap.size by omega))); (try (have hg3 := Nat.lt_of_lt_of_le hg3 (show _ ≤ w1.heap.size by omega)))))
      refine bodyPost_ret (by simp [results, Try.results24, go_sem, *]; try rfl) rfl ?_
      exact ⟨by rw [← HR.out], (by repeat (first | exact Below.refl _ _ | assumption | refine below_alloc ?_ _ | refine Below.setCell ?_ (by first | omega | (simp; done) | (simp; omega)) _ | refine below_drewN ?_ _ | refine Below.drew ?_ | refine below_tr ?_ (by assumption)))⟩
set_option maxHeartbeats 800000 in
theorem RoundFigure_impl (d t k : Int) (w : World) : Calls Try.prog 25 #[.agg #[.int .i64 d, .int .i64 t], .int .i64 k] w fun e w' => e = .returned (.tuple #[.agg #[.int .i64 (rsV (rfC d t k) (rfD d k)), .int .i64 (rsV (rfC d t k) (rfT d t k))], .int .i64 (rfC d t k)]) ∧ Below w.heap.size w w' := by
  cases hf : figV d t
  · have HR := Lib.hid (show 1 = rfC d t k by simp [rfC, hf])
    go_enter Try.func25, Try.ntmps25
    go_wp2_with (go_at_call 57; refine (IsFigure_impl _ _ _).mono ?_; rintro e w1 ⟨rfl, hb⟩; obtain ⟨hc, hf⟩ := bcell hb; have hz := hb.size; (try simp at hz); (try (have hz0 : w.heap.size < w1.heap.size := by omega)); (try (have hz1 : w.heap.size + 1 < w1.heap.size := by omega)); (try (have hz2 : w.heap.size + 1 + 1 < w1.heap.size := by omega)); (try (have hz3 : w.heap.size + 1 + 1 + 1 < w1.heap.size := by omega)); (try (have r7 := Nat.lt_of_lt_of_le r5 (show _ ≤ w1.heap.size by omega))); (try (have r6 := Nat.lt_of_lt_of_le r4 (show _ ≤ w1.heap.size by omega))); (try (have r5 := Nat.lt_of_lt_of_le r3 (show _ ≤ w1.heap.size by omega))); (try (have r4 := Nat.lt_of_lt_of_le r2 (show _ ≤ w1.heap.size by omega))); (try (have r3 := Nat.lt_of_lt_of_le r1 (show _ ≤ w1.heap.size by omega))); (try (have r2 := Nat.lt_of_succ_le (Nat.le_of_succ_le hz))); (try (have r1 := Nat.lt_of_succ_le hz)); (try (have hg1 := Nat.lt_of_lt_of_le hg1 (show _ ≤ w1.heap.size by omega))); (try (have hg2 := Nat.lt_of_lt_of_le hg2 (show _ ≤ w1.heap.size by omega))); (try (have hg3 := Nat.lt_of_lt_of_le hg3 (show _ ≤ w1.heap.size by omega))))
    refine bodyPost_ret (by simp [results, Try.results25, go_sem, *]; try rfl) rfl ?_
    exact ⟨by rw [← HR.out]; rfl, (by repeat (first | exact Below.refl _ _ | assumption | refine below_alloc ?_ _ | refine Below.setCell ?_ (by first | omega | (simp; done) | (simp; omega)) _ | refine below_drewN ?_ _ | refine Below.drew ?_ | refine below_tr ?_ (by assumption)))⟩
  · cases hk : inB k 1 4
    · have HR := Lib.hid (show 2 = rfC d t k by simp [rfC, hf, hk])
      go_enter Try.func25, Try.ntmps25
      go_wp2_with (first | (go_at_call 57; refine (IsFigure_impl _ _ _).mono ?_; rintro e w1 ⟨rfl, hb⟩; obtain ⟨hc, hf⟩ := bcell hb; have hz := hb.size; (try simp at hz); (try (have hz0 : w.heap.size < w1.heap.size := by omega)); (try (have hz1 : w.heap.size + 1 < w1.heap.size := by omega)); (try (have hz2 : w.heap.size + 1 + 1 < w1.heap.size := by omega)); (try (have hz3 : w.heap.size + 1 + 1 + 1 < w1.heap.size := by omega)); (try (have r7 := Nat.lt_of_lt_of_le r5 (show _ ≤ w1.heap.size by omega))); (try (have r6 := Nat.lt_of_lt_of_le r4 (show _ ≤ w1.heap.size by omega))); (try (have r5 := Nat.lt_of_lt_of_le r3 (show _ ≤ w1.heap.size by omega))); (try (have r4 := Nat.lt_of_lt_of_le r2 (show _ ≤ w1.heap.size by omega))); (try (have r3 := Nat.lt_of_lt_of_le r1 (show _ ≤ w1.heap.size by omega))); (try (have r2 := Nat.lt_of_succ_le (Nat.le_of_succ_le hz))); (try (have r1 := Nat.lt_of_succ_le hz)); (try (have hg1 := Nat.lt_of_lt_of_le hg1 (show _ ≤ w1.heap.size by omega))); (try (have hg2 := Nat.lt_of_lt_of_le hg2 (show _ ≤ w1.heap.size by omega))); (try (have hg3 := Nat.lt_of_lt_of_le hg3 (show _ ≤ w1.heap.size by omega)))) | (go_at_call 49; refine (in_i _ _ _ _).mono ?_; rintro e w' ⟨rfl, rfl⟩))
      refine bodyPost_ret (by simp [results, Try.results25, go_sem, *]; try rfl) rfl ?_
      exact ⟨by rw [← HR.out]; rfl, (by repeat (first | exact Below.refl _ _ | assumption | refine below_alloc ?_ _ | refine Below.setCell ?_ (by first | omega | (simp; done) | (simp; omega)) _ | refine below_drewN ?_ _ | refine Below.drew ?_ | refine below_tr ?_ (by assumption)))⟩
    · have HR := Lib.hid (show liV (figV (rfD d k) (rfT d t k)) = rfC d t k by simp [rfC, hf, hk])
      obtain ⟨d0, d1, t0, t1⟩ := figV_true.1 hf
      go_enter Try.func25, Try.ntmps25
      go_wp2_with (first | (go_at_call 57; refine (IsFigure_impl _ _ _).mono ?_; rintro e w1 ⟨rfl, hb⟩; obtain ⟨hc, hf⟩ := bcell hb; have hz := hb.size; (try simp at hz); (try (have hz0 : w.heap.size < w1.heap.size := by omega)); (try (have hz1 : w.heap.size + 1 < w1.heap.size := by omega)); (try (have hz2 : w.heap.size + 1 + 1 < w1.heap.size := by omega)); (try (have hz3 : w.heap.size + 1 + 1 + 1 < w1.heap.size := by omega)); (try (have r7 := Nat.lt_of_lt_of_le r5 (show _ ≤ w1.heap.size by omega))); (try (have r6 := Nat.lt_of_lt_of_le r4 (show _ ≤ w1.heap.size by omega))); (try (have r5 := Nat.lt_of_lt_of_le r3 (show _ ≤ w1.heap.size by omega))); (try (have r4 := Nat.lt_of_lt_of_le r2 (show _ ≤ w1.heap.size by omega))); (try (have r3 := Nat.lt_of_lt_of_le r1 (show _ ≤ w1.heap.size by omega))); (try (have r2 := Nat.lt_of_succ_le (Nat.le_of_succ_le hz))); (try (have r1 := Nat.lt_of_succ_le hz)); (try (have hg1 := Nat.lt_of_lt_of_le hg1 (show _ ≤ w1.heap.size by omega))); (try (have hg2 := Nat.lt_of_lt_of_le hg2 (show _ ≤ w1.heap.size by omega))); (try (have hg3 := Nat.lt_of_lt_of_le hg3 (show _ ≤ w1.heap.size by omega)))) | (go_at_call 49; refine (in_i _ _ _ _).mono ?_; rintro e w' ⟨rfl, rfl⟩) | (go_at_call 58; refine (cut_impl _ _ _ _ (by omega) (by omega) (by omega) (by omega) hk).mono ?_; rintro e w1 ⟨rfl, hb⟩; obtain ⟨hc, hf⟩ := bcell hb; have hz := hb.size; (try simp at hz); (try (have hz0 : w.heap.size < w1.heap.size := by omega)); (try (have hz1 : w.heap.size + 1 < w1.heap.size := by omega)); (try (have hz2 : w.heap.size + 1 + 1 < w1.heap.size := by omega)); (try (have hz3 : w.heap.size + 1 + 1 + 1 < w1.heap.size := by omega)); (try (have r7 := Nat.lt_of_lt_of_le r5 (show _ ≤ w1.heap.size by omega))); (try (have r6 := Nat.lt_of_lt_of_le r4 (show _ ≤ w1.heap.size by omega))); (try (have r5 := Nat.lt_of_lt_of_le r3 (show _ ≤ w1.heap.size by omega))); (try (have r4 := Nat.lt_of_lt_of_le r2 (show _ ≤ w1.heap.size by omega))); (try (have r3 := Nat.lt_of_lt_of_le r1 (show _ ≤ w1.heap.size by omega))); (try (have r2 := Nat.lt_of_succ_le (Nat.le_of_succ_le hz))); (try (have r1 := Nat.lt_of_succ_le hz)); (try (have hg1 := Nat.lt_of_lt_of_le hg1 (show _ ≤ w1.heap.size by omega))); (try (have hg2 := Nat.lt_of_lt_of_le hg2 (show _ ≤ w1.heap.size by omega))); (try (have hg3 := Nat.lt_of_lt_of_le hg3 (show _ ≤ w1.heap.size by omega)))) | (go_at_call 52; refine (limited_impl _ _ _).mono ?_; rintro e w1 ⟨rfl, hb⟩; obtain ⟨hc, hf⟩ := bcell hb; have hz := hb.size; (try simp at hz); (try (have hz0 : w.heap.size < w1.heap.size := by omega)); (try (have hz1 : w.heap.size + 1 < w1.heap.size := by omega)); (try (have hz2 : w.heap.size + 1 + 1 < w1.heap.size := by omega)); (try (have hz3 : w.heap.size + 1 + 1 + 1 < w1.heap.size := by omega)); (try (have r7 := Nat.lt_of_lt_of_le r5 (show _ ≤ w1.heap.size by omega))); (try (have r6 := Nat.lt_of_lt_of_le r4 (show _ ≤ w1.heap.size by omega))); (try (have r5 := Nat.lt_of_lt_of_le r3 (show _ ≤ w1.heap.size by omega))); (try (have r4 := Nat.lt_of_lt_of_le r2 (show _ ≤ w1.heap.size by omega))); (try (have r3 := Nat.lt_of_lt_of_le r1 (show _ ≤ w1.heap.size by omega))); (try (have r2 := Nat.lt_of_succ_le (Nat.le_of_succ_le hz))); (try (have r1 := Nat.lt_of_succ_le hz)); (try (have hg1 := Nat.lt_of_lt_of_le hg1 (show _ ≤ w1.heap.size by omega))); (try (have hg2 := Nat.lt_of_lt_of_le hg2 (show _ ≤ w1.heap.size by omega))); (try (have hg3 := Nat.lt_of_lt_of_le hg3 (show _ ≤ w1.heap.size by omega)))))
      refine bodyPost_ret (by simp [results, Try.results25, go_sem, *]; try rfl) rfl ?_
      exact ⟨by rw [← HR.out], (by repeat (first | exact Below.refl _ _ | assumption | refine below_alloc ?_ _ | refine Below.setCell ?_ (by first | omega | (simp; done) | (simp; omega)) _ | refine below_drewN ?_ _ | refine Below.drew ?_ | refine below_tr ?_ (by assumption)))⟩
end Go.Proofs.Ytkhioplhmmjalaa.C
