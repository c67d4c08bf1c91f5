/- Plain facts: logarithms of products and quotients. No program in sight. -/
import Derived.Test.YthmmdcpodadjbaaPlain8
namespace Go.Proofs.Ythmmdcpodadjbaa.K
set_option linter.unusedVariables false
set_option linter.unusedSimpArgs false

theorem pow_le_root {x y : Nat} (h : x ^ PW ≤ y ^ PW) : x ≤ y := by
  rcases Nat.lt_or_ge y x with k | k
  · exact absurd (Nat.pow_lt_pow_left k PW_ne) (by omega)
  · exact k
theorem ten_PW (j : Nat) : (10 ^ j) ^ PW = 10 ^ (j * PW) := (Nat.pow_mul 10 j PW).symm
/-- a logarithm at most the sum of two -/
theorem log_mul_n {x y z j : Nat} (x0 : 100000000 ≤ x) (x1 : x ≤ 999999999) (y0 : 100000000 ≤ y) (y1 : y ≤ 999999999) (z0 : 100000000 ≤ z) (z1 : z ≤ 999999999)
    (h : vN 20 x 0 + 1 + j * PW ≤ uN 20 y 0 + uN 20 z 0) : x * 10 ^ j * 100000000 ≤ y * z := by
  have a := lgH_hi x0 x1
  have b := lgL_lo y0 y1
  have c := lgL_lo z0 z1
  have hp : 10 ^ (vN 20 x 0 + 1 + j * PW) ≤ 10 ^ (uN 20 y 0 + uN 20 z 0) := Nat.pow_le_pow_right (by decide) h
  refine pow_le_root ?_
  rw [Nat.mul_pow, Nat.mul_pow, Nat.mul_pow, ten_PW]
  rw [Nat.pow_add 10 _ (j * PW), Nat.pow_add 10 (uN 20 y 0)] at hp
  generalize 100000000 ^ PW = A at *
  generalize 10 ^ (vN 20 x 0 + 1) = V at *
  generalize 10 ^ uN 20 y 0 = U at *
  generalize 10 ^ uN 20 z 0 = T at *
  generalize 10 ^ (j * PW) = J at *
  calc x ^ PW * J * A ≤ V * A * J * A := Nat.mul_le_mul_right _ (Nat.mul_le_mul_right _ a)
    _ = V * J * (A * A) := by simp only [Nat.mul_comm, Nat.mul_left_comm, Nat.mul_assoc]
    _ ≤ U * T * (A * A) := Nat.mul_le_mul_right _ hp
    _ = U * A * (T * A) := by simp only [Nat.mul_comm, Nat.mul_left_comm, Nat.mul_assoc]
    _ ≤ y ^ PW * z ^ PW := Nat.mul_le_mul b c
/-- the sum of two logarithms at most a third -/
theorem mul_log_n {x w y j : Nat} (x0 : 100000000 ≤ x) (x1 : x ≤ 999999999) (w0 : 100000000 ≤ w) (w1 : w ≤ 999999999) (y0 : 100000000 ≤ y) (y1 : y ≤ 999999999)
    (h : vN 20 x 0 + 1 + (vN 20 w 0 + 1) ≤ uN 20 y 0 + j * PW) : x * w ≤ y * 10 ^ j * 100000000 := by
  have a := lgH_hi x0 x1
  have b := lgH_hi w0 w1
  have c := lgL_lo y0 y1
  have hp : 10 ^ (vN 20 x 0 + 1 + (vN 20 w 0 + 1)) ≤ 10 ^ (uN 20 y 0 + j * PW) := Nat.pow_le_pow_right (by decide) h
  refine pow_le_root ?_
  rw [Nat.mul_pow, Nat.mul_pow, Nat.mul_pow, ten_PW]
  rw [Nat.pow_add 10 (vN 20 x 0 + 1) (vN 20 w 0 + 1), Nat.pow_add 10 (uN 20 y 0)] at hp
  generalize 100000000 ^ PW = A at *
  generalize 10 ^ (vN 20 x 0 + 1) = V at *
  generalize 10 ^ (vN 20 w 0 + 1) = T at *
  generalize 10 ^ uN 20 y 0 = U at *
  generalize 10 ^ (j * PW) = J at *
  calc x ^ PW * w ^ PW ≤ V * A * (T * A) := Nat.mul_le_mul a b
    _ = V * T * (A * A) := by simp only [Nat.mul_comm, Nat.mul_left_comm, Nat.mul_assoc]
    _ ≤ U * J * (A * A) := Nat.mul_le_mul_right _ hp
    _ = U * A * J * A := by simp only [Nat.mul_comm, Nat.mul_left_comm, Nat.mul_assoc]
    _ ≤ y ^ PW * J * A := Nat.mul_le_mul_right _ (Nat.mul_le_mul_right _ c)
theorem PW_eq : PW = 1048576 := by decide
/-- of figures: the digits -/
theorem log_mul {x y z : Int} (j : Nat) (x0 : 1000 ≤ x) (x1 : x ≤ 9999) (y0 : 1000 ≤ y) (y1 : y ≤ 9999) (z0 : 1000 ≤ z) (z1 : z ≤ 9999)
    (h : lgH (x * 100000) + j * 1048576 ≤ lgL (y * 100000) + lgL (z * 100000)) : x * (10 ^ j * 1000) ≤ y * z := by
  obtain ⟨a, rfl⟩ := Int.eq_ofNat_of_zero_le (show 0 ≤ x by omega)
  obtain ⟨b, rfl⟩ := Int.eq_ofNat_of_zero_le (show 0 ≤ y by omega)
  obtain ⟨c, rfl⟩ := Int.eq_ofNat_of_zero_le (show 0 ≤ z by omega)
  rw [show (a : Int) * 100000 = ((a * 100000 : Nat) : Int) by omega, show (b : Int) * 100000 = ((b * 100000 : Nat) : Int) by omega, show (c : Int) * 100000 = ((c * 100000 : Nat) : Int) by omega, lgH_cast, lgL_cast, lgL_cast] at h
  have k := log_mul_n (x := a * 100000) (y := b * 100000) (z := c * 100000) (j := j) (by omega) (by omega) (by omega) (by omega) (by omega) (by omega) (by rw [PW_eq]; omega)
  have e1 : a * 100000 * 10 ^ j * 100000000 = a * (10 ^ j * 1000) * 10000000000 := by
    rw [show a * 100000 * 10 ^ j = a * 10 ^ j * 100000 from mul3 _ _ _, ← Nat.mul_assoc]; omega
  have e2 : b * 100000 * (c * 100000) = b * c * 10000000000 := by
    rw [show b * 100000 * (c * 100000) = b * c * (100000 * 100000) by simp only [Nat.mul_comm, Nat.mul_left_comm, Nat.mul_assoc]]
  rw [e1, e2] at k
  have k2 := Int.ofNat_le.2 (Nat.le_of_mul_le_mul_right k (by decide))
  rw [Int.natCast_mul, Int.natCast_mul, Int.natCast_mul, Int.natCast_pow] at k2
  exact k2
theorem mul_log {x w y : Int} (j : Nat) (x0 : 1000 ≤ x) (x1 : x ≤ 9999) (w0 : 1000 ≤ w) (w1 : w ≤ 9999) (y0 : 1000 ≤ y) (y1 : y ≤ 9999)
    (h : lgH (x * 100000) + lgH (w * 100000) ≤ lgL (y * 100000) + j * 1048576) : x * w ≤ y * (10 ^ j * 1000) := by
  obtain ⟨a, rfl⟩ := Int.eq_ofNat_of_zero_le (show 0 ≤ x by omega)
  obtain ⟨b, rfl⟩ := Int.eq_ofNat_of_zero_le (show 0 ≤ w by omega)
  obtain ⟨c, rfl⟩ := Int.eq_ofNat_of_zero_le (show 0 ≤ y by omega)
  rw [show (a : Int) * 100000 = ((a * 100000 : Nat) : Int) by omega, show (b : Int) * 100000 = ((b * 100000 : Nat) : Int) by omega, show (c : Int) * 100000 = ((c * 100000 : Nat) : Int) by omega, lgH_cast, lgH_cast, lgL_cast] at h
  have k := mul_log_n (x := a * 100000) (w := b * 100000) (y := c * 100000) (j := j) (by omega) (by omega) (by omega) (by omega) (by omega) (by omega) (by rw [PW_eq]; omega)
  have e1 : c * 100000 * 10 ^ j * 100000000 = c * (10 ^ j * 1000) * 10000000000 := by
    rw [show c * 100000 * 10 ^ j = c * 10 ^ j * 100000 from mul3 _ _ _, ← Nat.mul_assoc]; omega
  have e2 : a * 100000 * (b * 100000) = a * b * 10000000000 := by
    rw [show a * 100000 * (b * 100000) = a * b * (100000 * 100000) by simp only [Nat.mul_comm, Nat.mul_left_comm, Nat.mul_assoc]]
  rw [e1, e2] at k
  have k2 := Int.ofNat_le.2 (Nat.le_of_mul_le_mul_right k (by decide))
  rw [Int.natCast_mul, Int.natCast_mul, Int.natCast_mul, Int.natCast_pow] at k2
  exact k2
/-- a product near to a number: the logarithms -/
theorem half_up {x y z j : Nat} (x0 : 100000000 ≤ x) (x1 : x ≤ 999999999) (y0 : 100000000 ≤ y) (y1 : y ≤ 999999999) (z0 : 100000000 ≤ z) (z1 : z ≤ 999999999)
    (h : x * 10 ^ j * 100000000 * 2000 ≤ 2001 * (y * z)) : uN 20 x 0 + j * PW ≤ vN 20 y 0 + 1 + (vN 20 z 0 + 1) + 228 := by
  have a := lgL_lo x0 x1
  have b := lgH_hi y0 y1
  have c := lgH_hi z0 z1
  have g := num_half
  have hp := Nat.pow_le_pow_left h PW
  rw [Nat.mul_pow, Nat.mul_pow, Nat.mul_pow, Nat.mul_pow, Nat.mul_pow, ten_PW] at hp
  have hA : 0 < 100000000 ^ PW := Nat.pow_pos (by decide)
  have hK : 0 < 2000 ^ PW := Nat.pow_pos (by decide)
  refine ten_le ?_
  rw [Nat.pow_add 10 (uN 20 x 0), Nat.pow_add 10 _ 228, Nat.pow_add 10 (vN 20 y 0 + 1)]
  generalize 100000000 ^ PW = A at *
  generalize 2000 ^ PW = K at *
  generalize 2001 ^ PW = L at *
  generalize 10 ^ (vN 20 y 0 + 1) = V at *
  generalize 10 ^ (vN 20 z 0 + 1) = T at *
  generalize 10 ^ uN 20 x 0 = U at *
  generalize 10 ^ (j * PW) = J at *
  generalize 10 ^ 228 = H at *
  have e : U * J * (A * A * K) ≤ V * T * H * (A * A * K) := by
    calc U * J * (A * A * K) = U * A * J * A * K := by simp only [Nat.mul_comm, Nat.mul_left_comm, Nat.mul_assoc]
      _ ≤ x ^ PW * J * A * K := Nat.mul_le_mul_right _ (Nat.mul_le_mul_right _ (Nat.mul_le_mul_right _ a))
      _ ≤ L * (y ^ PW * z ^ PW) := hp
      _ ≤ H * K * (V * A * (T * A)) := Nat.mul_le_mul g (Nat.mul_le_mul b c)
      _ = V * T * H * (A * A * K) := by simp only [Nat.mul_comm, Nat.mul_left_comm, Nat.mul_assoc]
  exact Nat.le_of_mul_le_mul_right e (Nat.mul_pos (Nat.mul_pos hA hA) hK)
theorem half_dn {x y z j : Nat} (x0 : 100000000 ≤ x) (x1 : x ≤ 999999999) (y0 : 100000000 ≤ y) (y1 : y ≤ 999999999) (z0 : 100000000 ≤ z) (z1 : z ≤ 999999999)
    (h : y * z * 2000 ≤ 2001 * (x * 10 ^ j * 100000000)) : uN 20 y 0 + uN 20 z 0 ≤ vN 20 x 0 + 1 + j * PW + 228 := by
  have a := lgH_hi x0 x1
  have b := lgL_lo y0 y1
  have c := lgL_lo z0 z1
  have g := num_half
  have hp := Nat.pow_le_pow_left h PW
  rw [Nat.mul_pow, Nat.mul_pow, Nat.mul_pow, Nat.mul_pow, Nat.mul_pow, ten_PW] at hp
  have hA : 0 < 100000000 ^ PW := Nat.pow_pos (by decide)
  have hK : 0 < 2000 ^ PW := Nat.pow_pos (by decide)
  refine ten_le ?_
  rw [Nat.pow_add 10 _ 228, Nat.pow_add 10 (vN 20 x 0 + 1), Nat.pow_add 10 (uN 20 y 0)]
  generalize 100000000 ^ PW = A at *
  generalize 2000 ^ PW = K at *
  generalize 2001 ^ PW = L at *
  generalize 10 ^ (vN 20 x 0 + 1) = V at *
  generalize 10 ^ uN 20 y 0 = U at *
  generalize 10 ^ uN 20 z 0 = T at *
  generalize 10 ^ (j * PW) = J at *
  generalize 10 ^ 228 = H at *
  have e : U * T * (A * A * K) ≤ V * J * H * (A * A * K) := by
    calc U * T * (A * A * K) = U * A * (T * A) * K := by simp only [Nat.mul_comm, Nat.mul_left_comm, Nat.mul_assoc]
      _ ≤ y ^ PW * z ^ PW * K := Nat.mul_le_mul_right _ (Nat.mul_le_mul b c)
      _ ≤ L * (x ^ PW * J * A) := hp
      _ ≤ H * K * (V * A * J * A) := Nat.mul_le_mul g (Nat.mul_le_mul_right _ (Nat.mul_le_mul_right _ a))
      _ = V * J * H * (A * A * K) := by simp only [Nat.mul_comm, Nat.mul_left_comm, Nat.mul_assoc]
  exact Nat.le_of_mul_le_mul_right e (Nat.mul_pos (Nat.mul_pos hA hA) hK)

end Go.Proofs.Ythmmdcpodadjbaa.K
