/- Contracts of chapter 3: intervals (without the logarithm itself). -/
import Derived.Test.YtlmdnfalcomnaaaU
import Derived.Test.YtlmdnfalcomnaaaA1
namespace Go.Proofs.Ytlmdnfalcomnaaa.C
open Go.RowKit Go.Proofs.Ytlmdnfalcomnaaa.K
set_option linter.unusedVariables false

set_option maxHeartbeats 400000 in
theorem IsInterval_spec (a b : Int) (w : World) : Calls Try.prog 89 #[.agg #[.int .i64 a, .int .i64 b]] w fun e w' => e = .returned (.bool (ivV a b)) ∧ Below w.heap.size w w' := by
  cases ha : isV a
  · have HR := Lib.hid (show false = ivV a b by simp [ivV, ha])
    go_enter Try.func89, Try.ntmps89
    go_wp2_with (go_at_call 120; refine (is_s _ _).mono ?_; rintro e w' ⟨rfl, rfl⟩)
    go_returns
    exact ⟨ret_bool HR.out, by go_grown⟩
  · cases hb : isV b
    · have HR := Lib.hid (show false = ivV a b by simp [ivV, hb])
      go_enter Try.func89, Try.ntmps89
      go_wp2_with (go_at_call 120; refine (is_s _ _).mono ?_; rintro e w' ⟨rfl, rfl⟩)
      go_returns
      exact ⟨ret_bool HR.out, by go_grown⟩
    · have HR := Lib.hid (show decide (a ≤ b) = ivV a b by simp [ivV, ha, hb])
      go_enter Try.func89, Try.ntmps89
      go_wp2_with (go_at_call 120; refine (is_s _ _).mono ?_; rintro e w' ⟨rfl, rfl⟩)
      go_returns
      exact ⟨ret_bool HR.out, by go_grown⟩
set_option maxHeartbeats 400000 in
theorem IsInterval_impl (a b : Int) (w : World) : Calls Try.prog 88 #[.agg #[.int .i64 a, .int .i64 b]] w fun e w' => e = .returned (.bool (ivV a b)) ∧ Below w.heap.size w w' := by
  cases ha : isV a
  · have HR := Lib.hid (show false = ivV a b by simp [ivV, ha])
    go_enter Try.func88, Try.ntmps88
    go_wp2_with (go_at_call 119; refine (is_i _ _).mono ?_; rintro e w' ⟨rfl, rfl⟩)
    go_returns
    exact ⟨ret_bool HR.out, by go_grown⟩
  · cases hb : isV b
    · have HR := Lib.hid (show false = ivV a b by simp [ivV, hb])
      go_enter Try.func88, Try.ntmps88
      go_wp2_with (go_at_call 119; refine (is_i _ _).mono ?_; rintro e w' ⟨rfl, rfl⟩)
      go_returns
      exact ⟨ret_bool HR.out, by go_grown⟩
    · have HR := Lib.hid (show decide (a ≤ b) = ivV a b by simp [ivV, ha, hb])
      go_enter Try.func88, Try.ntmps88
      go_wp2_with (go_at_call 119; refine (is_i _ _).mono ?_; rintro e w' ⟨rfl, rfl⟩)
      go_returns
      exact ⟨ret_bool HR.out, by go_grown⟩
set_option maxHeartbeats 400000 in
theorem sum_spec (a b c d : Int) (w : World) (a0 : -2000000000000 ≤ a) (a1 : a ≤ 2000000000000) (b0 : -2000000000000 ≤ b) (b1 : b ≤ 2000000000000) (c0 : -2000000000000 ≤ c) (c1 : c ≤ 2000000000000) (d0 : -2000000000000 ≤ d) (d1 : d ≤ 2000000000000) :
    Calls Try.prog 85 #[.agg #[.int .i64 a, .int .i64 b], .agg #[.int .i64 c, .int .i64 d]] w fun e w' => e = .returned (.agg #[.int .i64 (a + c), .int .i64 (b + d)]) ∧ Below w.heap.size w w' := by
  go_enter Try.func85, Try.ntmps85
  go_wp2
  go_returns
  exact ⟨rfl, by go_grown⟩
set_option maxHeartbeats 400000 in
theorem diff_spec (a b c d : Int) (w : World) (a0 : -2000000000000 ≤ a) (a1 : a ≤ 2000000000000) (b0 : -2000000000000 ≤ b) (b1 : b ≤ 2000000000000) (c0 : -2000000000000 ≤ c) (c1 : c ≤ 2000000000000) (d0 : -2000000000000 ≤ d) (d1 : d ≤ 2000000000000) :
    Calls Try.prog 73 #[.agg #[.int .i64 a, .int .i64 b], .agg #[.int .i64 c, .int .i64 d]] w fun e w' => e = .returned (.agg #[.int .i64 (a - d), .int .i64 (b - c)]) ∧ Below w.heap.size w w' := by
  go_enter Try.func73, Try.ntmps73
  go_wp2
  go_returns
  exact ⟨rfl, by go_grown⟩
set_option maxHeartbeats 400000 in
theorem sum_impl (a b c d : Int) (w : World) (a0 : -2000000000000 ≤ a) (a1 : a ≤ 2000000000000) (b0 : -2000000000000 ≤ b) (b1 : b ≤ 2000000000000) (c0 : -2000000000000 ≤ c) (c1 : c ≤ 2000000000000) (d0 : -2000000000000 ≤ d) (d1 : d ≤ 2000000000000) :
    Calls Try.prog 83 #[.agg #[.int .i64 a, .int .i64 b], .agg #[.int .i64 c, .int .i64 d]] w fun e w' => e = .returned (.agg #[.int .i64 (a + c), .int .i64 (b + d)]) ∧ Below w.heap.size w w' := by
  go_enter Try.func83, Try.ntmps83
  go_wp2
  go_returns
  exact ⟨rfl, by go_grown⟩
set_option maxHeartbeats 400000 in
theorem diff_impl (a b c d : Int) (w : World) (a0 : -2000000000000 ≤ a) (a1 : a ≤ 2000000000000) (b0 : -2000000000000 ≤ b) (b1 : b ≤ 2000000000000) (c0 : -2000000000000 ≤ c) (c1 : c ≤ 2000000000000) (d0 : -2000000000000 ≤ d) (d1 : d ≤ 2000000000000) :
    Calls Try.prog 71 #[.agg #[.int .i64 a, .int .i64 b], .agg #[.int .i64 c, .int .i64 d]] w fun e w' => e = .returned (.agg #[.int .i64 (a - d), .int .i64 (b - c)]) ∧ Below w.heap.size w w' := by
  go_enter Try.func71, Try.ntmps71
  go_wp2
  go_returns
  exact ⟨rfl, by go_grown⟩
set_option maxHeartbeats 400000 in
theorem valued_spec (a b : Int) (w : World) (hab : a ≤ b) : Calls Try.prog 122 #[.agg #[.int .i64 a, .int .i64 b]] w fun e w' => e = .returned (.tuple #[.agg #[.int .i64 (rsV (lmV true a b) a), .int .i64 (rsV (lmV true a b) b)], .int .i64 (lmV true a b)]) ∧ Below w.heap.size w w' := by
  cases hi : ivV a b
  · have HR := Lib.hid (show 3 = lmV true a b by simp [lmV]; simp [ivV, hab] at hi; exact hi)
    go_enter Try.func122, Try.ntmps122
    go_wp2_with (go_at_call 89; refine (IsInterval_spec _ _ _).mono ?_; rintro e w1 ⟨rfl, hb⟩; obtain ⟨hc, hf⟩ := bcell hb; (try simp only [World.size_drew, World.cell?_drew] at hc); (try simp only [World.size_drew, World.frozen?_drew] at hf); have hz := hb.size; (try simp at hz); (try (have hz0 : w.heap.size < w1.heap.size := by omega)); (try (have hz1 : w.heap.size + 1 < w1.heap.size := by omega)); (try (have hz2 : w.heap.size + 1 + 1 < w1.heap.size := by omega)); (try (have hz3 : w.heap.size + 1 + 1 + 1 < w1.heap.size := by omega)); (try (have r7 := Nat.lt_of_lt_of_le r5 (show _ ≤ w1.heap.size by omega))); (try (have r6 := Nat.lt_of_lt_of_le r4 (show _ ≤ w1.heap.size by omega))); (try (have r5 := Nat.lt_of_lt_of_le r3 (show _ ≤ w1.heap.size by omega))); (try (have r4 := Nat.lt_of_lt_of_le r2 (show _ ≤ w1.heap.size by omega))); (try (have r3 := Nat.lt_of_lt_of_le r1 (show _ ≤ w1.heap.size by omega))); (try (have r2 := Nat.lt_of_succ_le (Nat.le_of_succ_le hz))); (try (have r1 := Nat.lt_of_succ_le hz)); (try (have hg1 := Nat.lt_of_lt_of_le hg1 (show _ ≤ w1.heap.size by omega))); (try (have hg2 := Nat.lt_of_lt_of_le hg2 (show _ ≤ w1.heap.size by omega))); (try (have hg3 := Nat.lt_of_lt_of_le hg3 (show _ ≤ w1.heap.size by omega))))
    refine bodyPost_ret (by simp [results, Try.results122, go_sem, *]; try rfl) rfl ?_
    exact ⟨by rw [← HR.out]; rfl, (by repeat (first | (with_reducible exact Below.refl _ _) | (with_reducible assumption) | (with_reducible refine below_alloc ?_ _) | (with_reducible refine Below.setCell ?_ (by first | omega | (simp; done) | (simp; omega)) _) | (with_reducible refine below_drewN ?_ _) | (with_reducible refine Below.drew ?_) | (with_reducible refine below_tr ?_ (by assumption))))⟩
  · have HR := Lib.hid (show 0 = lmV true a b by simp [lmV]; simp [ivV, hab] at hi; exact hi)
    go_enter Try.func122, Try.ntmps122
    go_wp2_with (go_at_call 89; refine (IsInterval_spec _ _ _).mono ?_; rintro e w1 ⟨rfl, hb⟩; obtain ⟨hc, hf⟩ := bcell hb; (try simp only [World.size_drew, World.cell?_drew] at hc); (try simp only [World.size_drew, World.frozen?_drew] at hf); have hz := hb.size; (try simp at hz); (try (have hz0 : w.heap.size < w1.heap.size := by omega)); (try (have hz1 : w.heap.size + 1 < w1.heap.size := by omega)); (try (have hz2 : w.heap.size + 1 + 1 < w1.heap.size := by omega)); (try (have hz3 : w.heap.size + 1 + 1 + 1 < w1.heap.size := by omega)); (try (have r7 := Nat.lt_of_lt_of_le r5 (show _ ≤ w1.heap.size by omega))); (try (have r6 := Nat.lt_of_lt_of_le r4 (show _ ≤ w1.heap.size by omega))); (try (have r5 := Nat.lt_of_lt_of_le r3 (show _ ≤ w1.heap.size by omega))); (try (have r4 := Nat.lt_of_lt_of_le r2 (show _ ≤ w1.heap.size by omega))); (try (have r3 := Nat.lt_of_lt_of_le r1 (show _ ≤ w1.heap.size by omega))); (try (have r2 := Nat.lt_of_succ_le (Nat.le_of_succ_le hz))); (try (have r1 := Nat.lt_of_succ_le hz)); (try (have hg1 := Nat.lt_of_lt_of_le hg1 (show _ ≤ w1.heap.size by omega))); (try (have hg2 := Nat.lt_of_lt_of_le hg2 (show _ ≤ w1.heap.size by omega))); (try (have hg3 := Nat.lt_of_lt_of_le hg3 (show _ ≤ w1.heap.size by omega))))
    refine bodyPost_ret (by simp [results, Try.results122, go_sem, *]; try rfl) rfl ?_
    exact ⟨by rw [← HR.out]; rfl, (by repeat (first | (with_reducible exact Below.refl _ _) | (with_reducible assumption) | (with_reducible refine below_alloc ?_ _) | (with_reducible refine Below.setCell ?_ (by first | omega | (simp; done) | (simp; omega)) _) | (with_reducible refine below_drewN ?_ _) | (with_reducible refine Below.drew ?_) | (with_reducible refine below_tr ?_ (by assumption))))⟩
end Go.Proofs.Ytlmdnfalcomnaaa.C
