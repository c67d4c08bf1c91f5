/- Plain facts on logarithms by squaring: what the bounds enclose, how wide they are, how far neighbours lie apart. No program in sight. -/
import Derived.Test.YthmmdcpodadjbaaPlain6
namespace Go.Proofs.Ythmmdcpodadjbaa.K
set_option linter.unusedVariables false
set_option linter.unusedSimpArgs false

def uX (x : Nat) : Nat := x * x / 100000000
def uS (x : Nat) : Nat := if 1000000000 ≤ uX x then uX x / 10 else uX x
def uB (x : Nat) : Nat := if 1000000000 ≤ uX x then 1 else 0
def vX (x : Nat) : Nat := x * x / 100000000 + (if x * x % 100000000 = 0 then 0 else 1)
def vS (x : Nat) : Nat := if 1000000000 ≤ vX x then (vX x + 9) / 10 else vX x
def vB (x : Nat) : Nat := if 1000000000 ≤ vX x then 1 else 0
def uN : Nat → Nat → Nat → Nat
  | 0, _, n => n
  | k + 1, x, n => uN k (uS x) (2 * n + uB x)
def vN : Nat → Nat → Nat → Nat
  | 0, _, n => n
  | k + 1, x, n => vN k (vS x) (2 * n + vB x)
theorem uN_succ (k x n : Nat) : uN (k + 1) x n = uN k (uS x) (2 * n + uB x) := by rw [uN]
theorem vN_succ (k x n : Nat) : vN (k + 1) x n = vN k (vS x) (2 * n + vB x) := by rw [vN]
theorem loN_succ (k : Nat) (x n : Int) : loN (k + 1) x n = loN k (loS x) (2 * n + loB x) := by rw [loN]
theorem hiN_succ (k : Nat) (x n : Int) : hiN (k + 1) x n = hiN k (hiS x) (2 * n + hiB x) := by rw [hiN]
theorem sq_n {x : Nat} (h0 : 100000000 ≤ x) (h1 : x ≤ 999999999) : 10000000000000000 ≤ x * x ∧ x * x ≤ 999999998000000001 :=
  ⟨by have := Nat.mul_le_mul h0 h0; omega, by have := Nat.mul_le_mul h1 h1; omega⟩
theorem u_step {x : Nat} (h0 : 100000000 ≤ x) (h1 : x ≤ 999999999) :
    uS x * 10 ^ uB x * 100000000 ≤ x * x ∧ x * x ≤ uS x * 10 ^ uB x * 100000002 ∧ 100000000 ≤ uS x ∧ uS x ≤ 999999999 := by
  obtain ⟨s0, s1⟩ := sq_n h0 h1
  unfold uS uB uX
  generalize x * x = q at *
  by_cases h : 1000000000 ≤ q / 100000000
  · rw [if_pos h, if_pos h]; simp only [Nat.pow_one]; omega
  · rw [if_neg h, if_neg h]; simp only [Nat.pow_zero, Nat.mul_one]; omega
theorem v_step {x : Nat} (h0 : 100000000 ≤ x) (h1 : x ≤ 999999999) :
    x * x ≤ vS x * 10 ^ vB x * 100000000 ∧ vS x * 10 ^ vB x * 99999998 ≤ x * x ∧ 100000000 ≤ vS x ∧ vS x ≤ 999999999 := by
  obtain ⟨s0, s1⟩ := sq_n h0 h1
  have e : 100000000 * vX x ≤ x * x + 99999999 ∧ x * x ≤ 100000000 * vX x := by unfold vX; split <;> omega
  unfold vS vB
  generalize vX x = v at *
  generalize x * x = q at *
  by_cases h : 1000000000 ≤ v
  · rw [if_pos h, if_pos h]; simp only [Nat.pow_one]; omega
  · rw [if_neg h, if_neg h]; simp only [Nat.pow_zero, Nat.mul_one]; omega
/-- the same numbers -/
theorem lo_cast : ∀ (k x n : Nat), loN k (x : Int) (n : Int) = (uN k x n : Int)
  | 0, x, n => rfl
  | k + 1, x, n => by
    have hX : loX (x : Int) = (uX x : Int) := by unfold loX uX; rw [← Int.natCast_mul]; omega
    have hS : loS (x : Int) = (uS x : Int) := by unfold loS uS; rw [hX]; split <;> split <;> omega
    have hB : loB (x : Int) = (uB x : Int) := by unfold loB uB; rw [hX]; split <;> split <;> omega
    rw [loN_succ, uN_succ, hS, hB, show (2 * (n : Int) + (uB x : Int)) = ((2 * n + uB x : Nat) : Int) by omega]
    exact lo_cast k _ _
theorem hi_cast : ∀ (k x n : Nat), hiN k (x : Int) (n : Int) = (vN k x n : Int)
  | 0, x, n => rfl
  | k + 1, x, n => by
    have hX : hiX (x : Int) = (vX x : Int) := by unfold hiX vX; rw [← Int.natCast_mul]; split <;> omega
    have hS : hiS (x : Int) = (vS x : Int) := by unfold hiS vS; rw [hX]; split <;> split <;> omega
    have hB : hiB (x : Int) = (vB x : Int) := by unfold hiB vB; rw [hX]; split <;> split <;> omega
    rw [hiN_succ, vN_succ, hS, hB, show (2 * (n : Int) + (vB x : Int)) = ((2 * n + vB x : Nat) : Int) by omega]
    exact hi_cast k _ _
theorem lgL_cast (x : Nat) : lgL (x : Int) = (uN 20 x 0 : Int) := lo_cast 20 x 0
theorem lgH_cast (x : Nat) : lgH (x : Int) = ((vN 20 x 0 + 1 : Nat) : Int) := by
  have h : hiN 20 (x : Int) 0 = (vN 20 x 0 : Int) := hi_cast 20 x 0
  show hiN 20 x 0 + 1 = _
  omega
/-- x * 10^n -/
def sc (x n : Nat) : Nat := x * 10 ^ n
theorem sc_step (x y n b : Nat) : sc y (2 * n + b) = y * 10 ^ b * (10 ^ n * 10 ^ n) := by
  unfold sc
  rw [Nat.pow_add, show 2 * n = n + n by omega, Nat.pow_add]
  simp only [Nat.mul_comm, Nat.mul_left_comm, Nat.mul_assoc]
theorem sc_sq (x n : Nat) : sc x n * sc x n = x * x * (10 ^ n * 10 ^ n) := by
  unfold sc
  simp only [Nat.mul_comm, Nat.mul_left_comm, Nat.mul_assoc]
theorem mul3 (x y z : Nat) : x * y * z = x * z * y := by simp only [Nat.mul_comm, Nat.mul_left_comm, Nat.mul_assoc]
theorem pow_two_succ (x k : Nat) : x ^ (2 ^ (k + 1)) = (x * x) ^ (2 ^ k) := by
  rw [Nat.pow_succ 2 k, Nat.mul_comm (2 ^ k) 2, Nat.pow_mul, Nat.pow_two]
theorem base_lo (x n b : Nat) (h : b ≤ x) : 10 ^ n * b ≤ sc x n := by
  unfold sc
  rw [Nat.mul_comm]
  exact Nat.mul_le_mul_right _ h
theorem base_hi (x n b : Nat) (h : x ≤ 10 * b) : sc x n ≤ 10 ^ (n + 1) * b := by
  unfold sc
  rw [Nat.pow_succ, Nat.mul_assoc, Nat.mul_comm (10 ^ n)]
  exact Nat.mul_le_mul_right _ h
/-- from below -/
theorem u_lo : ∀ (k x n : Nat), 100000000 ≤ x → x ≤ 999999999 → 10 ^ uN k x n * 100000000 ^ (2 ^ k) ≤ sc x n ^ (2 ^ k)
  | 0, x, n, h0, h1 => by
    rw [Nat.pow_zero, Nat.pow_one, Nat.pow_one]
    exact base_lo x n 100000000 h0
  | k + 1, x, n, h0, h1 => by
    obtain ⟨a, _, b0, b1⟩ := u_step h0 h1
    have ih := u_lo k (uS x) (2 * n + uB x) b0 b1
    rw [uN_succ, pow_two_succ, pow_two_succ, Nat.mul_pow 100000000 100000000, ← Nat.mul_assoc]
    refine Nat.le_trans (Nat.mul_le_mul_right _ ih) ?_
    rw [← Nat.mul_pow]
    refine Nat.pow_le_pow_left ?_ _
    rw [sc_step x, sc_sq, mul3]
    exact Nat.mul_le_mul_right _ a
theorem u_hi : ∀ (k x n : Nat), 100000000 ≤ x → x ≤ 999999999 → sc x n ^ (2 ^ k) ≤ 10 ^ (uN k x n + 1) * 100000002 ^ (2 ^ k)
  | 0, x, n, h0, h1 => by
    rw [Nat.pow_zero, Nat.pow_one, Nat.pow_one]
    exact base_hi x n 100000002 (by omega)
  | k + 1, x, n, h0, h1 => by
    obtain ⟨_, a, b0, b1⟩ := u_step h0 h1
    have ih := u_hi k (uS x) (2 * n + uB x) b0 b1
    rw [uN_succ, pow_two_succ, pow_two_succ, Nat.mul_pow 100000002 100000002, ← Nat.mul_assoc]
    refine Nat.le_trans ?_ (Nat.mul_le_mul_right _ ih)
    rw [← Nat.mul_pow]
    refine Nat.pow_le_pow_left ?_ _
    rw [sc_step x, sc_sq, mul3 (uS x * 10 ^ uB x)]
    exact Nat.mul_le_mul_right _ a
theorem v_hi : ∀ (k x n : Nat), 100000000 ≤ x → x ≤ 999999999 → sc x n ^ (2 ^ k) ≤ 10 ^ (vN k x n + 1) * 100000000 ^ (2 ^ k)
  | 0, x, n, h0, h1 => by
    rw [Nat.pow_zero, Nat.pow_one, Nat.pow_one]
    exact base_hi x n 100000000 (by omega)
  | k + 1, x, n, h0, h1 => by
    obtain ⟨a, _, b0, b1⟩ := v_step h0 h1
    have ih := v_hi k (vS x) (2 * n + vB x) b0 b1
    rw [vN_succ, pow_two_succ, pow_two_succ, Nat.mul_pow 100000000 100000000, ← Nat.mul_assoc]
    refine Nat.le_trans ?_ (Nat.mul_le_mul_right _ ih)
    rw [← Nat.mul_pow]
    refine Nat.pow_le_pow_left ?_ _
    rw [sc_step x, sc_sq, mul3 (vS x * 10 ^ vB x)]
    exact Nat.mul_le_mul_right _ a
theorem v_lo : ∀ (k x n : Nat), 100000000 ≤ x → x ≤ 999999999 → 10 ^ vN k x n * 99999998 ^ (2 ^ k) ≤ sc x n ^ (2 ^ k)
  | 0, x, n, h0, h1 => by
    rw [Nat.pow_zero, Nat.pow_one, Nat.pow_one]
    exact base_lo x n 99999998 (by omega)
  | k + 1, x, n, h0, h1 => by
    obtain ⟨_, a, b0, b1⟩ := v_step h0 h1
    have ih := v_lo k (vS x) (2 * n + vB x) b0 b1
    rw [vN_succ, pow_two_succ, pow_two_succ, Nat.mul_pow 99999998 99999998, ← Nat.mul_assoc]
    refine Nat.le_trans (Nat.mul_le_mul_right _ ih) ?_
    rw [← Nat.mul_pow]
    refine Nat.pow_le_pow_left ?_ _
    rw [sc_step x, sc_sq, mul3 (vS x * 10 ^ vB x)]
    exact Nat.mul_le_mul_right _ a
/-- the number of steps of a decade -/
def PW : Nat := 2 ^ 20
theorem PW20 : (2 : Nat) ^ 20 = PW := rfl
theorem sc0 (x : Nat) : sc x 0 = x := by unfold sc; rw [Nat.pow_zero, Nat.mul_one]
theorem num_wide : 100000002 ^ PW < 10 * 99999998 ^ PW := by decide +kernel
theorem num_gap : 100000 * 9999 ^ PW < 10000 ^ PW := by decide +kernel
theorem num_half : 2001 ^ PW ≤ 10 ^ 228 * 2000 ^ PW := by decide +kernel
theorem PW_ne : PW ≠ 0 := by decide
theorem lgL_lo {x : Nat} (h0 : 100000000 ≤ x) (h1 : x ≤ 999999999) : 10 ^ uN 20 x 0 * 100000000 ^ PW ≤ x ^ PW := by
  have h := u_lo 20 x 0 h0 h1
  rw [sc0, PW20] at h
  exact h
theorem lgL_hi {x : Nat} (h0 : 100000000 ≤ x) (h1 : x ≤ 999999999) : x ^ PW ≤ 10 ^ (uN 20 x 0 + 1) * 100000002 ^ PW := by
  have h := u_hi 20 x 0 h0 h1
  rw [sc0, PW20] at h
  exact h
theorem lgH_lo {x : Nat} (h0 : 100000000 ≤ x) (h1 : x ≤ 999999999) : 10 ^ vN 20 x 0 * 99999998 ^ PW ≤ x ^ PW := by
  have h := v_lo 20 x 0 h0 h1
  rw [sc0, PW20] at h
  exact h
theorem lgH_hi {x : Nat} (h0 : 100000000 ≤ x) (h1 : x ≤ 999999999) : x ^ PW ≤ 10 ^ (vN 20 x 0 + 1) * 100000000 ^ PW := by
  have h := v_hi 20 x 0 h0 h1
  rw [sc0, PW20] at h
  exact h
theorem ten_lt {m n : Nat} (h : 10 ^ m < 10 ^ n) : m < n := by
  rcases Nat.lt_or_ge m n with k | k
  · exact k
  · exact absurd (Nat.pow_le_pow_right (show 10 > 0 by decide) k) (by omega)
theorem ten_le {m n : Nat} (h : 10 ^ m ≤ 10 ^ n) : m ≤ n := by
  rcases Nat.lt_or_ge n m with k | k
  · exact absurd (Nat.pow_lt_pow_right (show 1 < 10 by decide) k) (by omega)
  · exact k
theorem wide_n {x : Nat} (h0 : 100000000 ≤ x) (h1 : x ≤ 999999999) : vN 20 x 0 ≤ uN 20 x 0 + 1 := by
  have a := lgL_hi h0 h1
  have b := lgH_lo h0 h1
  have c := num_wide
  have hc : 0 < 99999998 ^ PW := Nat.pow_pos (by decide)
  have e : 10 ^ vN 20 x 0 * 99999998 ^ PW < 10 ^ (uN 20 x 0 + 2) * 99999998 ^ PW := by
    refine Nat.lt_of_le_of_lt (Nat.le_trans b a) ?_
    rw [show uN 20 x 0 + 2 = uN 20 x 0 + 1 + 1 by omega, Nat.pow_succ 10 (uN 20 x 0 + 1), Nat.mul_assoc]
    exact (Nat.mul_lt_mul_left (Nat.pow_pos (by decide))).2 c
  have := ten_lt (Nat.lt_of_mul_lt_mul_right e)
  omega
/-- the bounds lie at most 2 apart -/
theorem lg_wide {x : Int} (h0 : 100000000 ≤ x) (h1 : x ≤ 999999999) : lgH x ≤ lgL x + 2 := by
  obtain ⟨n, rfl⟩ := Int.eq_ofNat_of_zero_le (show 0 ≤ x by omega)
  rw [lgH_cast, lgL_cast]
  have := wide_n (x := n) (by omega) (by omega)
  omega
theorem gap_n {d : Nat} (h0 : 1000 ≤ d) (h1 : d ≤ 9998) : vN 20 (d * 100000) 0 + 4 ≤ uN 20 ((d + 1) * 100000) 0 := by
  rcases Nat.lt_or_ge (uN 20 ((d + 1) * 100000) 0) (vN 20 (d * 100000) 0 + 4) with k | k
  · exfalso
    have a := lgL_hi (x := (d + 1) * 100000) (by omega) (by omega)
    have b := lgH_lo (x := d * 100000) (by omega) (by omega)
    have c := num_wide
    have g := num_gap
    have hk : 10 ^ (uN 20 ((d + 1) * 100000) 0 + 1) ≤ 10 ^ (vN 20 (d * 100000) 0 + 4) := Nat.pow_le_pow_right (by decide) (by omega)
    rw [Nat.mul_pow] at a b
    have hpos : 0 < 100000 ^ PW := Nat.pow_pos (by decide)
    have hdp : 0 < d ^ PW := Nat.pow_pos (by omega)
    have hcp : 0 < 99999998 ^ PW := Nat.pow_pos (by decide)
    have m : (10000 * d) ^ PW ≤ ((d + 1) * 9999) ^ PW := Nat.pow_le_pow_left (by omega) _
    rw [Nat.mul_pow, Nat.mul_pow] at m
    generalize 100000 ^ PW = H at *
    generalize 100000002 ^ PW = B at *
    generalize 99999998 ^ PW = C at *
    generalize 10000 ^ PW = T at *
    generalize 9999 ^ PW = N at *
    generalize hD : d ^ PW = D at *
    generalize (d + 1) ^ PW = E at *
    generalize 10 ^ (uN 20 ((d + 1) * 100000) 0 + 1) = U at *
    rw [Nat.pow_add] at hk
    generalize 10 ^ vN 20 (d * 100000) 0 = V at *
    -- E H ≤ U B, U ≤ 10000 V, V C ≤ D H, B < 10 C, 100000 N < T, T D ≤ E N
    have e1 : E * H * C ≤ 100000 * (D * H) * C := by
      calc E * H * C ≤ U * B * C := Nat.mul_le_mul_right _ a
        _ ≤ V * 10 ^ 4 * B * C := Nat.mul_le_mul_right _ (Nat.mul_le_mul_right _ hk)
        _ = 10 ^ 4 * B * (V * C) := by simp only [Nat.mul_comm, Nat.mul_left_comm, Nat.mul_assoc]
        _ ≤ 10 ^ 4 * B * (D * H) := Nat.mul_le_mul_left _ b
        _ ≤ 10 ^ 4 * (10 * C) * (D * H) := Nat.mul_le_mul_right _ (Nat.mul_le_mul_left _ (Nat.le_of_lt c))
        _ = 100000 * (D * H) * C := by rw [show (10 : Nat) ^ 4 = 10000 by decide]; rw [show 10000 * (10 * C) = 100000 * C by omega]; simp only [Nat.mul_comm, Nat.mul_left_comm, Nat.mul_assoc]
    have e2 : E * H ≤ 100000 * (D * H) := Nat.le_of_mul_le_mul_right e1 hcp
    rw [← Nat.mul_assoc] at e2
    have e3 : E ≤ 100000 * D := Nat.le_of_mul_le_mul_right e2 hpos
    have e4 : T * D ≤ 100000 * N * D := by
      calc T * D ≤ E * N := m
        _ ≤ 100000 * D * N := Nat.mul_le_mul_right _ e3
        _ = 100000 * N * D := mul3 _ _ _
    have e5 : T ≤ 100000 * N := Nat.le_of_mul_le_mul_right e4 hdp
    omega
  · exact k
/-- neighbours lie at least 3 apart -/
theorem lg_gap {d : Int} (h0 : 1000 ≤ d) (h1 : d ≤ 9998) : lgH (d * 100000) + 3 ≤ lgL ((d + 1) * 100000) := by
  obtain ⟨n, rfl⟩ := Int.eq_ofNat_of_zero_le (show 0 ≤ d by omega)
  have := gap_n (d := n) (by omega) (by omega)
  rw [show (n : Int) * 100000 = ((n * 100000 : Nat) : Int) by omega, show ((n : Int) + 1) * 100000 = (((n + 1) * 100000 : Nat) : Int) by omega, lgH_cast, lgL_cast]
  omega

end Go.Proofs.Ythmmdcpodadjbaa.K
