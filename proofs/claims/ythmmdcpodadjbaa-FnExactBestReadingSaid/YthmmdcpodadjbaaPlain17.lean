/- Plain definitions: the figures of a scale in order, those that may be at a point, the nearest. -/
import Derived.Test.YthmmdcpodadjbaaPlain11
import Derived.Test.YthmmdcpodadjbaaA5
namespace Go.Proofs.Ythmmdcpodadjbaa.K
open Go.RowKit Go.Proofs.Ythmmdcpodadjbaa.C
set_option linter.unusedVariables false

/-- the figure with a number -/
def rnD (n : Int) : Int := 1000 + 10 * (n % 900)
def rnT (n : Int) : Int := n / 900
theorem rn_bounds {n : Int} (h0 : 0 ≤ n) (h1 : n < 2700) : 1000 ≤ rnD n ∧ rnD n ≤ 9999 ∧ 0 ≤ rnT n ∧ rnT n ≤ 2 := by unfold rnD rnT; omega
theorem rn_at {t j : Nat} (h : j < 900) : rnD ((900 * t + j : Nat) : Int) = 1000 + 10 * j ∧ rnT ((900 * t + j : Nat) : Int) = t := by unfold rnD rnT; omega
/-- may it be at the point -/
def mbB (s l p e n : Int) : Bool := decide (plL s (rnD n) (rnT n) l - e ≤ p) && decide (p ≤ plH s (rnD n) (rnT n) l + e)
/-- how many of the first k -/
def cnR (s l p e : Int) : Nat → Nat
  | 0 => 0
  | k + 1 => cnR s l p e k + (if mbB s l p e k then 1 else 0)
theorem cnR_yes {s l p e : Int} {k : Nat} (h : mbB s l p e k = true) : cnR s l p e (k + 1) = cnR s l p e k + 1 := by rw [cnR, if_pos h]
theorem cnR_no {s l p e : Int} {k : Nat} (h : mbB s l p e k = false) : cnR s l p e (k + 1) = cnR s l p e k := by rw [cnR, if_neg (by rw [h]; decide)]; rfl
theorem cnR_le (s l p e : Int) : ∀ k, cnR s l p e k ≤ k
  | 0 => Nat.le_refl _
  | k + 1 => by have := cnR_le s l p e k; rw [cnR]; split <;> omega
/-- are a scale, a length, a point and an eye in range -/
def ptB (s l p e : Int) : Bool := inB s 0 5 && inB l 1 100000 && inB p 0 l && inB e 0 200
theorem ptB_true {s l p e : Int} (h : ptB s l p e = true) : inB s 0 5 = true ∧ inB l 1 100000 = true ∧ inB p 0 l = true ∧ inB e 0 200 = true := by
  unfold ptB at h
  simp only [Bool.and_eq_true] at h
  exact ⟨h.1.1.1, h.1.1.2, h.1.2, h.2⟩
/-- how many figures a scale shows -/
def nfS (s : Int) : Nat := 900 * (dcV s).toNat
theorem dcV_cases (s : Int) : dcV s = 1 ∨ dcV s = 2 ∨ dcV s = 3 := by
  unfold dcV
  by_cases h1 : s = 1
  · rw [if_pos h1]; exact .inr (.inl rfl)
  · by_cases h2 : s = 2
    · rw [if_neg h1, if_pos h2]; exact .inr (.inr rfl)
    · rw [if_neg h1, if_neg h2]; exact .inl rfl
theorem nfS_eq (s : Int) : (nfS s : Int) = 900 * dcV s ∧ 900 ≤ nfS s ∧ nfS s ≤ 2700 := by
  unfold nfS
  rcases dcV_cases s with h | h | h <;> rw [h] <;> decide
def crV (s l p e : Int) : Int := if ptB s l p e then (cnR s l p e (nfS s) : Int) else 0
/-- how far a place is from the point, twice -/
def awV (s l p n : Int) : Int := (plL s (rnD n) (rnT n) l + plH s (rnD n) (rnT n) l - 2 * p).natAbs
/-- the nearest of the first k: its number, and how far it is -/
def beR (s l p : Int) : Nat → Int × Int
  | 0 => (0, -1)
  | k + 1 => if (beR s l p k).2 < 0 ∨ awV s l p k < (beR s l p k).2 then (k, awV s l p k) else beR s l p k
end Go.Proofs.Ythmmdcpodadjbaa.K
