/- Plain facts: a quotient times the divisor; the logarithm of a product; figures multiplied in both orders. -/
import Derived.Test.YthmmdcpodadjbaaPlain11
namespace Go.Proofs.Ythmmdcpodadjbaa.K
open Go.RowKit
set_option linter.unusedVariables false
set_option linter.unusedSimpArgs false

/-- nearest integer: both bounds -/
theorem near_both {m u : Int} (hu : 1 ≤ u) : 2 * ((2 * m + u) / (2 * u) * u) ≤ 2 * m + u ∧ 2 * m + u < 2 * ((2 * m + u) / (2 * u) * u) + 2 * u := by
  have a := Int.ediv_mul_le (2 * m + u) (show 2 * u ≠ 0 by omega)
  have b := Int.lt_ediv_add_one_mul_self (2 * m + u) (show 0 < 2 * u by omega)
  rw [Int.mul_left_comm] at a
  rw [Int.mul_left_comm, Int.add_mul, Int.one_mul, Int.mul_add] at b
  exact ⟨a, b⟩
theorem reN_near {a b c d : Int} (h : b - d = 0) (c0 : 1 ≤ c) (h1 : 1000000 * (a - c) ≤ 1100 * c) (h2 : 1000000 * (c - a) ≤ 1100 * c) : reN a b c d ≤ 1100 := by
  by_cases k : a < c
  · rw [reN_lt h k]; exact up_le c0 _ h2
  · rw [reN_ge h k]; exact up_le c0 _ h1
/-- a quotient times the divisor is near to the number -/
theorem quot_back {a b c d : Int} (a0 : 1000 ≤ a) (a1 : a ≤ 9999) (c0 : 1000 ≤ c) (c1 : c ≤ 9999) :
    reN (rdD (rdD a c * c) 1) (rdT (rdD a c * c) 1 (rdT a c (b - d) + d - 6)) a b ≤ 1100 := by
  rcases quot_cases (n := a) (d := c) (b - d) a0 a1 c0 c1 with ⟨h, hq, q0, q1, e1, e2⟩ | ⟨h, hq, q0, q1, e1, e2⟩
  · obtain ⟨m1, m2⟩ := near_both (m := a * 1000) (u := c) (by omega)
    rw [← hq] at m1 m2
    rw [e1, e2]
    obtain ⟨n0, n1⟩ := prod_bounds q0 (by omega : rdQ a c ≤ 9999) c0 c1
    generalize hN : rdQ a c * c = N at *
    rw [show b - d + d - 6 = b - 6 by omega]
    rcases prod_cases (n := N) b n0 n1 with ⟨k, kq, k1, f1, f2⟩ | ⟨k, kq, k1, f1, f2⟩ | ⟨k, kq, k1, f1, f2⟩
    · rw [f1, f2]
      refine reN_near (by omega) (by omega) ?_ ?_ <;> omega
    · rw [f1, f2, reN_one (by omega)]
      refine up_le (by omega) _ ?_
      omega
    · rw [f1, f2, reN_one (by omega)]
      refine up_le (by omega) _ ?_
      omega
  · obtain ⟨m1, m2⟩ := near_both (m := a * 10000) (u := c) (by omega)
    rw [← hq] at m1 m2
    rw [e1, e2]
    obtain ⟨n0, n1⟩ := prod_bounds q0 (by omega : rdQ a c ≤ 9999) c0 c1
    generalize hN : rdQ a c * c = N at *
    rw [show b - d - 1 + d - 6 = b - 1 - 6 by omega]
    rcases prod_cases (n := N) (b - 1) n0 n1 with ⟨k, kq, k1, f1, f2⟩ | ⟨k, kq, k1, f1, f2⟩ | ⟨k, kq, k1, f1, f2⟩
    · rw [f1, f2, reN_neg (by omega) (by omega), show b - (b - 1) = 1 by omega, show tenV 1 = 10 by decide]
      refine up_le (by omega) _ ?_
      omega
    · rw [f1, f2]
      refine reN_near (by omega) (by omega) ?_ ?_ <;> omega
    · rw [f1, f2]
      refine reN_near (by omega) (by omega) ?_ ?_ <;> omega
theorem ac1 (x p a b c : Nat) : x * a * p * (b * a) * c = x * (p * b) * c * (a * a) := by simp only [Nat.mul_comm, Nat.mul_left_comm, Nat.mul_assoc]
theorem ac2 (x y a c : Nat) : c * (x * a * (y * a)) = c * (x * y) * (a * a) := by simp only [Nat.mul_comm, Nat.mul_left_comm, Nat.mul_assoc]
theorem ac3 (x p a b c : Nat) : c * (x * a * p * (b * a)) = c * (x * (p * b)) * (a * a) := by simp only [Nat.mul_comm, Nat.mul_left_comm, Nat.mul_assoc]
theorem ac4 (x y a c : Nat) : x * a * (y * a) * c = x * y * c * (a * a) := by simp only [Nat.mul_comm, Nat.mul_left_comm, Nat.mul_assoc]
/-- half of a unit of the last digit, in logarithms -/
theorem half_logs_n {x a c j : Nat} (x0 : 1000 ≤ x) (x1 : x ≤ 9999) (a0 : 1000 ≤ a) (a1 : a ≤ 9999) (c0 : 1000 ≤ c) (c1 : c ≤ 9999)
    (h1 : x * (10 ^ j * 1000) * 2000 ≤ 2001 * (a * c)) (h2 : a * c * 2000 ≤ 2001 * (x * (10 ^ j * 1000))) :
    lgL ((x : Int) * 100000) + j * 1048576 ≤ lgH ((a : Int) * 100000) + lgH ((c : Int) * 100000) + 228 ∧ lgL ((a : Int) * 100000) + lgL ((c : Int) * 100000) ≤ lgH ((x : Int) * 100000) + j * 1048576 + 228 := by
  have bs : ∀ n : Nat, 1000 ≤ n → n ≤ 9999 → 100000000 ≤ n * 100000 ∧ n * 100000 ≤ 999999999 := fun n h k => by clear h1 h2; omega
  obtain ⟨bx0, bx1⟩ := bs x x0 x1
  obtain ⟨ba0, ba1⟩ := bs a a0 a1
  obtain ⟨bc0, bc1⟩ := bs c c0 c1
  have u := half_up (j := j) bx0 bx1 ba0 ba1 bc0 bc1 (by
    have e : x * 100000 * 10 ^ j * 100000000 * 2000 = x * (10 ^ j * 1000) * 2000 * 10000000000 := ac1 x (10 ^ j) 100000 1000 2000
    have e2 : 2001 * (a * 100000 * (c * 100000)) = 2001 * (a * c) * 10000000000 := ac2 a c 100000 2001
    rw [e, e2]; exact Nat.mul_le_mul_right _ h1)
  have v := half_dn (j := j) bx0 bx1 ba0 ba1 bc0 bc1 (by
    have e : 2001 * (x * 100000 * 10 ^ j * 100000000) = 2001 * (x * (10 ^ j * 1000)) * 10000000000 := ac3 x (10 ^ j) 100000 1000 2001
    have e2 : a * 100000 * (c * 100000) * 2000 = a * c * 2000 * 10000000000 := ac4 a c 100000 2000
    rw [e, e2]; exact Nat.mul_le_mul_right _ h2)
  clear h1 h2
  have ex : ∀ n : Nat, (n : Int) * 100000 = ((n * 100000 : Nat) : Int) := fun n => by omega
  rw [ex x, ex a, ex c]
  simp only [lgL_cast, lgH_cast]
  rw [PW_eq] at u v
  omega
theorem half_logs {x t a b c d : Int} (j : Nat) (hj : j ≤ 1) (x0 : 1000 ≤ x) (x1 : x ≤ 9999) (a0 : 1000 ≤ a) (a1 : a ≤ 9999) (c0 : 1000 ≤ c) (c1 : c ≤ 9999) (ht : t = b + d + j)
    (h1 : x * ((10 : Int) ^ j * 1000) * 2000 ≤ 2001 * (a * c)) (h2 : a * c * 2000 ≤ 2001 * (x * ((10 : Int) ^ j * 1000))) :
    fgL x t - (fgH a b + fgH c d) ≤ 228 ∧ fgL a b + fgL c d - fgH x t ≤ 228 := by
  obtain ⟨x, rfl⟩ := Int.eq_ofNat_of_zero_le (show 0 ≤ x by omega)
  obtain ⟨a, rfl⟩ := Int.eq_ofNat_of_zero_le (show 0 ≤ a by omega)
  obtain ⟨c, rfl⟩ := Int.eq_ofNat_of_zero_le (show 0 ≤ c by omega)
  have k := half_logs_n (x := x) (a := a) (c := c) (j := j) (by omega) (by omega) (by omega) (by omega) (by omega) (by omega) (Int.ofNat_le.1 (by simp only [Int.natCast_mul, Int.natCast_pow]; exact h1)) (Int.ofNat_le.1 (by simp only [Int.natCast_mul, Int.natCast_pow]; exact h2))
  unfold fgL fgH
  obtain ⟨k1, k2⟩ := k
  subst ht
  omega
theorem prod_logs {a b c d : Int} (a0 : 1000 ≤ a) (a1 : a ≤ 9999) (c0 : 1000 ≤ c) (c1 : c ≤ 9999) :
    fgL (rdD (a * c) 1) (rdT (a * c) 1 (b + d - 6)) - (fgH a b + fgH c d) ≤ 228 ∧ fgL a b + fgL c d - fgH (rdD (a * c) 1) (rdT (a * c) 1 (b + d - 6)) ≤ 228 := by
  obtain ⟨n0, n1⟩ := prod_bounds a0 a1 c0 c1
  have hr := rd_bounds (n := a * c) (d := 1) (b + d - 6) (by omega) (by omega) (by omega) (by omega)
  rcases prod_cases (n := a * c) (b + d) n0 n1 with ⟨k, kq, k1, f1, f2⟩ | ⟨k, kq, k1, f1, f2⟩ | ⟨k, kq, k1, f1, f2⟩
  · refine half_logs 0 (by omega) hr.1 hr.2.1 a0 a1 c0 c1 (by rw [f2]; omega) ?_ ?_
    · rw [f1, show (10 : Int) ^ 0 = 1 by decide]; omega
    · rw [show (10 : Int) ^ 0 = 1 by decide]; have := hr.1; rw [f1] at this ⊢; omega
  · refine half_logs 1 (by omega) hr.1 hr.2.1 a0 a1 c0 c1 (by rw [f2]; omega) ?_ ?_
    · rw [f1, show (10 : Int) ^ 1 = 10 by decide]; omega
    · rw [f1, show (10 : Int) ^ 1 = 10 by decide]; omega
  · refine half_logs 1 (by omega) hr.1 hr.2.1 a0 a1 c0 c1 (by rw [f2]; omega) ?_ ?_
    · rw [f1, show (10 : Int) ^ 1 = 10 by decide]; omega
    · rw [show (10 : Int) ^ 1 = 10 by decide]; have := hr.1; rw [f1] at this ⊢; omega
/-- a rounded product is off by at most half of a unit of its last digit -/
theorem prod_half {a b c d : Int} (a0 : 1000 ≤ a) (a1 : a ≤ 9999) (c0 : 1000 ≤ c) (c1 : c ≤ 9999) :
    (b + d < rdT (a * c) 1 (b + d - 6) → 2 * (rdD (a * c) 1 * 10000 - a * c) ≤ 10000 ∧ 2 * (a * c - rdD (a * c) 1 * 10000) ≤ 10000) ∧
    (¬ b + d < rdT (a * c) 1 (b + d - 6) → 2 * (rdD (a * c) 1 * 1000 - a * c) ≤ 1000 ∧ 2 * (a * c - rdD (a * c) 1 * 1000) ≤ 1000) := by
  obtain ⟨n0, n1⟩ := prod_bounds a0 a1 c0 c1
  rcases prod_cases (n := a * c) (b + d) n0 n1 with ⟨k, kq, k1, f1, f2⟩ | ⟨k, kq, k1, f1, f2⟩ | ⟨k, kq, k1, f1, f2⟩
  · rw [f1, f2]; exact ⟨fun h => by omega, fun _ => by omega⟩
  · rw [f1, f2]; exact ⟨fun _ => by omega, fun h => by omega⟩
  · rw [f1, f2]; exact ⟨fun _ => by omega, fun h => by omega⟩
end Go.Proofs.Ythmmdcpodadjbaa.K
