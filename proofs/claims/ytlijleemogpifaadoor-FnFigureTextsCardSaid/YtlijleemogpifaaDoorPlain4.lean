/- Plain definitions and lemmas: fewer digits, relative errors. -/
import Derived.Test.YtlijleemogpifaaDoorPlain2
namespace Go.Proofs.YtlijleemogpifaaDoor.K
open Go.RowKit

def rfU (k : Int) : Int := if k = 1 then 1000 else if k = 2 then 100 else if k = 3 then 10 else 1
def rfQ (d k : Int) : Int := (2 * d + rfU k) / (2 * rfU k) * rfU k
def rfD (d k : Int) : Int := if rfQ d k = 10000 then 1000 else rfQ d k
def rfT (d t k : Int) : Int := if rfQ d k = 10000 then t + 1 else t
def rfC (d t k : Int) : Int := if figV d t then (if inB k 1 4 then liV (figV (rfD d k) (rfT d t k)) else 2) else 1
/-- a relative error in millionths -/
def reN (a b c d : Int) : Int :=
  if 2 ≤ b - d then 9000001
  else if b - d = 1 then -((-(1000000 * (a * 10 - c))) / c)
  else if b - d = 0 then (if a < c then -((-(1000000 * (c - a))) / c) else -((-(1000000 * (a - c))) / c))
  else if b - d < -6 then 1000000
  else -((-(1000000 * (c * tenV (d - b) - a))) / (c * tenV (d - b)))
def reC (a b c d : Int) : Int := if 9000000 < reN a b c d then 3 else 0
theorem reN_two {a b c d : Int} (h : 2 ≤ b - d) : reN a b c d = 9000001 := by unfold reN; rw [if_pos h]
theorem reN_one {a b c d : Int} (h : b - d = 1) : reN a b c d = -((-(1000000 * (a * 10 - c))) / c) := by unfold reN; rw [if_neg (by omega), if_pos h]
theorem reN_lt {a b c d : Int} (h : b - d = 0) (k : a < c) : reN a b c d = -((-(1000000 * (c - a))) / c) := by unfold reN; rw [if_neg (by omega), if_neg (by omega), if_pos h, if_pos k]
theorem reN_ge {a b c d : Int} (h : b - d = 0) (k : ¬ a < c) : reN a b c d = -((-(1000000 * (a - c))) / c) := by unfold reN; rw [if_neg (by omega), if_neg (by omega), if_pos h, if_neg k]
theorem reN_far {a b c d : Int} (h : b - d < -6) : reN a b c d = 1000000 := by unfold reN; rw [if_neg (by omega), if_neg (by omega), if_neg (by omega), if_pos h]
theorem reN_neg {a b c d : Int} (h : b - d < 0) (k : ¬ b - d < -6) : reN a b c d = -((-(1000000 * (c * tenV (d - b) - a))) / (c * tenV (d - b))) := by unfold reN; rw [if_neg (by omega), if_neg (by omega), if_neg (by omega), if_neg k]
theorem up_le {n d : Int} (hd : 1 ≤ d) (L : Int) (h : n ≤ L * d) : -((-n) / d) ≤ L := by
  have : -L ≤ (-n) / d := (Int.le_ediv_iff_mul_le (by omega)).2 (by rw [Int.neg_mul]; omega)
  omega
theorem up_ge {n d : Int} (hd : 1 ≤ d) (h : 0 ≤ n) : 0 ≤ -((-n) / d) := by
  have : (-n) / d ≤ 0 := by
    have : (-n) / d < 1 := (Int.ediv_lt_iff_lt_mul (by omega)).2 (by omega)
    omega
  omega
theorem up_far {a D : Int} (h0 : 0 ≤ a) (hD : 1 ≤ D) (h : 1000000 * a < D) : -((-(1000000 * (D - a))) / D) = 1000000 := by
  have : (-(1000000 * (D - a))) / D = -1000000 := by
    have e : -(1000000 * (D - a)) = 1000000 * a + D * (-1000000) := by omega
    rw [e, Int.add_mul_ediv_left _ _ (by omega), Int.ediv_eq_zero_of_lt (by omega) h]; omega
  omega
theorem ct_bounds {c s : Int} (c0 : 1000 ≤ c) (c1 : c ≤ 9999) (s0 : 1 ≤ s) (s1 : s ≤ 7) : 10000 ≤ c * tenV s ∧ c * tenV s ≤ 99990000000 := by
  have h : s = 1 ∨ s = 2 ∨ s = 3 ∨ s = 4 ∨ s = 5 ∨ s = 6 ∨ s = 7 := by omega
  have e1 : tenV 1 = 10 := by decide
  have e2 : tenV 2 = 100 := by decide
  have e3 : tenV 3 = 1000 := by decide
  have e4 : tenV 4 = 10000 := by decide
  have e5 : tenV 5 = 100000 := by decide
  have e6 : tenV 6 = 1000000 := by decide
  have e7 : tenV 7 = 10000000 := by decide
  rcases h with rfl | rfl | rfl | rfl | rfl | rfl | rfl <;> simp only [e1, e2, e3, e4, e5, e6, e7] <;> omega
def reK (a b c d : Int) : Int := if twoV a b c d then reC a b c d else 1
def seK (a b c d : Int) : Int := if twoV a b c d then (if cpV c d a b < 0 then 5 else reC c d a b) else 1

end Go.Proofs.YtlijleemogpifaaDoor.K
