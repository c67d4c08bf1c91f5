/- Plain definitions and lemmas on integers: no program in sight. -/
import Derived.WalkKit
namespace Go.Proofs.YtlijleemogpifaaDoor.K
open Go.RowKit

/-- a range test -/
def inB (n a b : Int) : Bool := decide (a ≤ n ∧ n ≤ b)
theorem inB_true {n a b : Int} : inB n a b = true ↔ a ≤ n ∧ n ≤ b := by unfold inB; exact decide_eq_true_iff
theorem inB_false {n a b : Int} : inB n a b = false ↔ ¬ (a ≤ n ∧ n ≤ b) := by unfold inB; exact decide_eq_false_iff_not
theorem inB_mk {n a b : Int} (h : a ≤ n) (k : n ≤ b) : inB n a b = true := inB_true.2 ⟨h, k⟩
/-- a value of chapter 1 -/
def isV (n : Int) : Bool := inB n (-1000000000000) 1000000000000
theorem isV_true {n : Int} : isV n = true ↔ -1000000000000 ≤ n ∧ n ≤ 1000000000000 := inB_true

/-- the quotient rounded down, for every divisor but 0 -/
def flo (a b : Int) : Int := if b < 0 then (-a) / (-b) else a / b
def cei (a b : Int) : Int := - flo (-a) b
theorem flo_pos {a b : Int} (h : 1 ≤ b) : flo a b = a / b := by unfold flo; rw [if_neg (by omega)]
theorem flo_neg {a b : Int} (h : b < 0) : flo a b = (-a) / (-b) := by unfold flo; rw [if_pos h]

theorem div_bounds {a b : Int} (hb : 1 ≤ b) (L : Int) (h0 : 0 ≤ L) (h1 : -L ≤ a) (h2 : a ≤ L) : -L ≤ a / b ∧ a / b ≤ L := by
  constructor
  · have : -L ≤ a / b ↔ -L * b ≤ a := Int.le_ediv_iff_mul_le (by omega)
    rw [this]
    have : L * 1 ≤ L * b := Int.mul_le_mul_of_nonneg_left hb h0
    have e : -L * b = -(L * b) := Int.neg_mul _ _
    omega
  · have : a / b < L + 1 ↔ a < (L + 1) * b := Int.ediv_lt_iff_lt_mul (by omega)
    have h : a < (L + 1) * b := by
      have : (L + 1) * 1 ≤ (L + 1) * b := Int.mul_le_mul_of_nonneg_left hb (by omega)
      omega
    have := this.2 h
    omega

theorem tdiv_bounds (a b : Int) (L : Int) (h1 : -L ≤ a) (h2 : a ≤ L) : -L ≤ a.tdiv b ∧ a.tdiv b ≤ L := by
  have h : (a.tdiv b).natAbs = a.natAbs / b.natAbs := Int.natAbs_tdiv a b
  have : (a.natAbs / b.natAbs) ≤ a.natAbs := Nat.div_le_self _ _
  have h3 : a.natAbs ≤ L.natAbs := by omega
  omega

/-- Go's quotient and remainder, rounded down: a positive divisor, a negative number. -/
theorem down_neg {a b : Int} (hb : 1 ≤ b) (ha : a < 0) : (a.tmod b = 0 → a.tdiv b = a / b) ∧ (a.tmod b ≠ 0 → a.tdiv b - 1 = a / b) := by
  have e := Int.mul_tdiv_add_tmod a b
  have hm : -b < a.tmod b ∧ a.tmod b ≤ 0 := by
    constructor
    · have := Int.lt_tmod_of_pos a (show 0 < b by omega); omega
    · have h2 := Int.neg_tmod a b
      have h3 := Int.tmod_nonneg b (show 0 ≤ -a by omega)
      rw [Int.neg_tmod] at h3; omega
  constructor
  · intro h; rw [h] at e
    symm; apply (Int.ediv_emod_unique (a := a) (b := b) (r := 0) (q := a.tdiv b) (by omega)).2 _ |>.1
    refine ⟨by omega, by omega, by omega⟩
  · intro h
    have : a / b = a.tdiv b - 1 ∧ a % b = a.tmod b + b := by
      apply (Int.ediv_emod_unique (by omega)).2
      refine ⟨?_, by omega, by omega⟩
      rw [Int.mul_sub]; omega
    exact this.1.symm

theorem tmod_np {a : Int} (ha : a ≤ 0) (b : Int) : a.tmod b ≤ 0 := by
  have h3 := Int.tmod_nonneg b (show 0 ≤ -a by omega)
  rw [Int.neg_tmod] at h3; omega

theorem down_nd {b : Int} (hb : b < 0) (a : Int) : (0 ≤ a → (a.tmod b = 0 → a.tdiv b = flo a b) ∧ (a.tmod b ≠ 0 → a.tdiv b - 1 = flo a b)) ∧ (a < 0 → a.tdiv b = flo a b) := by
  have e1 : a.tdiv b = (-a).tdiv (-b) := by rw [Int.neg_tdiv_neg]
  have e2 : a.tmod b = - ((-a).tmod (-b)) := by rw [Int.tmod_neg, Int.neg_tmod]; omega
  rw [flo_neg hb, e1]
  refine ⟨fun h => ?_, fun h => ?_⟩
  · by_cases h0 : a = 0
    · subst h0; simp
    · have D := down_neg (a := -a) (b := -b) (by omega) (by omega)
      exact ⟨fun k => D.1 (by omega), fun k => D.2 (by omega)⟩
  · exact Int.tdiv_eq_ediv_of_nonneg (by omega)

theorem flo_bounds {a b : Int} (hb : b < 0) (L : Int) (h0 : 0 ≤ L) (h1 : -L ≤ a) (h2 : a ≤ L) : -L ≤ flo a b ∧ flo a b ≤ L := by
  rw [flo_neg hb]; exact div_bounds (by omega) L h0 (by omega) (by omega)

theorem tmod_bounds {a m : Int} (ha : a ≤ 0) (hm : 1 ≤ m) : -m < a.tmod m ∧ a.tmod m ≤ 0 ∧ (a.tmod m + m) % m = a % m := by
  refine ⟨?_, tmod_np ha m, ?_⟩
  · have := Int.lt_tmod_of_pos a (show 0 < m by omega); omega
  · rw [Int.add_emod_right]
    have e := Int.mul_tdiv_add_tmod a m
    have : a % m = (a.tmod m + m * a.tdiv m) % m := by rw [show a.tmod m + m * a.tdiv m = a by omega]
    rw [this, Int.add_mul_emod_self_left]

/-- the code of a division -/
def codeV (a b : Int) : Int := if isV a = true ∧ isV b = true then (if b = 0 then 5 else 0) else 2
theorem codeV_zero {a b : Int} (h : codeV a b = 0) : -1000000000000 ≤ a ∧ a ≤ 1000000000000 ∧ -1000000000000 ≤ b ∧ b ≤ 1000000000000 ∧ b ≠ 0 := by
  unfold codeV at h
  split at h
  · rename_i k
    split at h
    · omega
    · have := isV_true.1 k.1; have := isV_true.1 k.2; omega
  · omega
def ddV (a b : Int) : Int := if codeV a b = 0 then flo a b else 0
def duV (a b : Int) : Int := if codeV a b = 0 then -(flo (-a) b) else 0
def dnV (a b : Int) : Int := if codeV a b = 0 then (if b < 0 then (2 * (-a) + -b) / (2 * (-b)) else (2 * a + b) / (2 * b)) else 0
theorem ddV_n {a b : Int} (h : codeV a b = 0) (_ : b < 0) : flo a b = ddV a b := by simp [ddV, h]
theorem ddV_p {a b : Int} (h : codeV a b = 0) (k : 0 < b) : a / b = ddV a b := by simp [ddV, h]; rw [flo_pos (by omega)]
theorem duV_n {a b : Int} (h : codeV a b = 0) (_ : b < 0) : -(flo (-a) b) = duV a b := by simp [duV, h]
theorem duV_p {a b : Int} (h : codeV a b = 0) (k : 0 < b) : -((-a) / b) = duV a b := by simp [duV, h]; rw [flo_pos (by omega)]
theorem dnV_n {a b : Int} (h : codeV a b = 0) (k : b < 0) : (2 * (-a) + -b) / (2 * (-b)) = dnV a b := by unfold dnV; rw [if_pos h, if_pos k]
theorem dnV_p {a b : Int} (h : codeV a b = 0) (k : 0 < b) : (2 * a + b) / (2 * b) = dnV a b := by unfold dnV; rw [if_pos h, if_neg (by omega)]

/-- powers of ten -/
def tenV (n : Int) : Int := (10 : Int) ^ n.toNat
theorem tenV_succ (n : Int) (h : 0 ≤ n) : 10 * tenV n = tenV (n + 1) := by
  unfold tenV
  rw [show (n + 1).toNat = n.toNat + 1 by omega, Int.pow_succ, Int.mul_comm]
theorem tenV_succ' (n : Int) (h : 0 ≤ n) : tenV n * 10 = tenV (n + 1) := by rw [Int.mul_comm]; exact tenV_succ n h
theorem tenV_bounds (n : Int) (h : 0 ≤ n) (k : n ≤ 15) : 1 ≤ tenV n ∧ tenV n ≤ 1000000000000000 := by
  unfold tenV
  obtain ⟨m, rfl⟩ := Int.eq_ofNat_of_zero_le h
  have hm : m ≤ 15 := by omega
  rw [Int.toNat_natCast]
  have : ∀ m : Nat, m ≤ 15 → 1 ≤ (10 : Int) ^ m ∧ (10 : Int) ^ m ≤ 1000000000000000 := by decide
  exact this m hm
def ptV (n : Int) : Int := if inB n 0 12 then tenV n else 0
theorem tmod_abs (m : Int) {n : Int} (h : n ≠ 0) : (m.tmod n).natAbs < n.natAbs ∧ Int.gcd n (m.tmod n) = Int.gcd m n := by
  have e : (m.tmod n).natAbs = m.natAbs % n.natAbs := Int.natAbs_tmod m n
  constructor
  · rw [e]; exact Nat.mod_lt _ (by omega)
  · unfold Int.gcd
    rw [e, Nat.gcd_comm m.natAbs, Nat.gcd_rec n.natAbs m.natAbs, Nat.gcd_comm]
def cdV (a b : Int) : Int := if isV a = true ∧ isV b = true then (Int.gcd a b : Int) else 0
/-- the code of a range test -/
def rgV (b : Bool) : Int := if b then 0 else 2
@[simp] theorem rgV_true : rgV true = 0 := rfl
@[simp] theorem rgV_false : rgV false = 2 := rfl
def maV (u : Int) : Int := if isV u then u % 1048576 else 0
def mbV (u : Int) : Int := if isV u then u / 1048576 else 0
/-- an interval -/
def ivV (a b : Int) : Bool := isV a && isV b && decide (a ≤ b)
theorem ivV_true {a b : Int} : ivV a b = true ↔ isV a = true ∧ isV b = true ∧ a ≤ b := by unfold ivV; simp [and_assoc]
/-- the code of an interval that was computed -/
def lmV (ok : Bool) (lo hi : Int) : Int := if ok then (if isV lo && isV hi then 0 else 3) else 1
/-- a bound, 0 if the code is not 0 -/
def rsV (c x : Int) : Int := if c = 0 then x else 0
@[simp] theorem rsV_zero (x : Int) : rsV 0 x = x := rfl
def slL (a b n d : Int) : Int := (min (a * n) (b * n)) / d
def slH (a b n d : Int) : Int := -((-(max (a * n) (b * n))) / d)
def slC (a b n d : Int) : Int := if ivV a b then (if inB n (-12) 12 && inB d 1 12 then lmV true (slL a b n d) (slH a b n d) else 2) else 1
def lwV (a b : Int) : Int := if ivV a b then b - a else 0
/-- the code of a test of validity -/
def ioV (b : Bool) : Int := if b then 0 else 1
@[simp] theorem ioV_true : ioV true = 0 := rfl
@[simp] theorem ioV_false : ioV false = 1 := rfl
theorem mul_bounds {a n : Int} (A N : Int) (h0 : -A ≤ a) (h1 : a ≤ A) (n0 : -N ≤ n) (n1 : n ≤ N) : -(A * N) ≤ a * n ∧ a * n ≤ A * N := by
  have h : (a * n).natAbs ≤ A.natAbs * N.natAbs := by
    rw [Int.natAbs_mul]
    exact Nat.mul_le_mul (by omega) (by omega)
  have e : A * N = ((A.natAbs * N.natAbs : Nat) : Int) := by
    rw [Int.natCast_mul, Int.natAbs_of_nonneg (by omega), Int.natAbs_of_nonneg (by omega)]
  omega
theorem slL_le_slH (a b n : Int) {d : Int} (hd : 1 ≤ d) : slL a b n d ≤ slH a b n d := by
  unfold slL slH
  have h : min (a * n) (b * n) ≤ max (a * n) (b * n) := by omega
  generalize min (a * n) (b * n) = x at *
  generalize max (a * n) (b * n) = y at *
  have h1 : x / d ≤ y / d := Int.ediv_le_ediv (by omega) h
  have h2 : (-y) / d ≤ -(y / d) := by
    have : (-y) / d < -(y / d) + 1 ↔ -y < (-(y / d) + 1) * d := Int.ediv_lt_iff_lt_mul (by omega)
    have e := Int.mul_ediv_add_emod y d
    have e2 := Int.emod_lt_of_pos y (show 0 < d by omega)
    have e1 := Int.emod_nonneg y (show d ≠ 0 by omega)
    have h3 : -y < (-(y / d) + 1) * d := by
      rw [Int.add_mul, Int.neg_mul, Int.mul_comm (y / d) d, Int.one_mul]; omega
    have := this.2 h3
    omega
  omega

end Go.Proofs.YtlijleemogpifaaDoor.K
