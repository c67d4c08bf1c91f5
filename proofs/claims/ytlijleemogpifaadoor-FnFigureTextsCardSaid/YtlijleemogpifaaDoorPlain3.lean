/- Plain definitions and lemmas on logarithms by squaring: no program in sight. -/
import Derived.Test.YtlijleemogpifaaDoorPlain2
namespace Go.Proofs.YtlijleemogpifaaDoor.K
open Go.RowKit

def loX (x : Int) : Int := x * x / 100000000
def loS (x : Int) : Int := if 1000000000 ≤ loX x then loX x / 10 else loX x
def loB (x : Int) : Int := if 1000000000 ≤ loX x then 1 else 0
def hiX (x : Int) : Int := -((-(x * x)) / 100000000)
def hiS (x : Int) : Int := if 1000000000 ≤ hiX x then -((-(hiX x)) / 10) else hiX x
def hiB (x : Int) : Int := if 1000000000 ≤ hiX x then 1 else 0
/-- the bits of the lower bound, from a state on -/
def loN : Nat → Int → Int → Int
  | 0, _, n => n
  | k + 1, x, n => loN k (loS x) (2 * n + loB x)
def hiN : Nat → Int → Int → Int
  | 0, _, n => n
  | k + 1, x, n => hiN k (hiS x) (2 * n + hiB x)
/-- the logarithm's bounds -/
def lgL (x : Int) : Int := loN 20 x 0
def lgH (x : Int) : Int := hiN 20 x 0 + 1

theorem sq_bounds {x : Int} (h0 : 100000000 ≤ x) (h1 : x ≤ 999999999) : 10000000000000000 ≤ x * x ∧ x * x ≤ 999999998000000001 :=
  ⟨by have : 100000000 * 100000000 ≤ x * x := Int.mul_le_mul h0 h0 (by omega) (by omega)
      omega,
   by have : x * x ≤ 999999999 * 999999999 := Int.mul_le_mul h1 h1 (by omega) (by omega)
      omega⟩
theorem loX_bounds {x : Int} (h0 : 100000000 ≤ x) (h1 : x ≤ 999999999) : 100000000 ≤ loX x ∧ loX x ≤ 9999999980 := by
  have h := sq_bounds h0 h1
  unfold loX; omega
theorem hiX_bounds {x : Int} (h0 : 100000000 ≤ x) (h1 : x ≤ 999999999) : 100000000 ≤ hiX x ∧ hiX x ≤ 9999999981 := by
  have h := sq_bounds h0 h1
  unfold hiX; omega
theorem loS_bounds {x : Int} (h0 : 100000000 ≤ x) (h1 : x ≤ 999999999) : 100000000 ≤ loS x ∧ loS x ≤ 999999999 := by
  have h := loX_bounds h0 h1
  unfold loS; split <;> omega
theorem hiS_bounds {x : Int} (h0 : 100000000 ≤ x) (h1 : x ≤ 999999999) : 100000000 ≤ hiS x ∧ hiS x ≤ 999999999 := by
  have h := hiX_bounds h0 h1
  unfold hiS; split <;> omega
theorem loB_bounds (x : Int) : 0 ≤ loB x ∧ loB x ≤ 1 := by unfold loB; split <;> omega
theorem hiB_bounds (x : Int) : 0 ≤ hiB x ∧ hiB x ≤ 1 := by unfold hiB; split <;> omega
theorem two_pow_le {i : Nat} (h : i ≤ 20) : (2 : Int) ^ i ≤ 1048576 := by
  have : ∀ j : Nat, j ≤ 20 → (2 : Int) ^ j ≤ 1048576 := by decide
  exact this i h
/-- the state of the loop for the lower bound, behind i rounds -/
def LoR (x0 : Int) (i : Nat) (x n : Int) : Prop := 100000000 ≤ x ∧ x ≤ 999999999 ∧ 0 ≤ n ∧ n + 1 ≤ (2 : Int) ^ i ∧ loN (20 - i) x n = loN 20 x0 0
def HiR (x0 : Int) (i : Nat) (x n : Int) : Prop := 100000000 ≤ x ∧ x ≤ 999999999 ∧ 0 ≤ n ∧ n + 1 ≤ (2 : Int) ^ i ∧ hiN (20 - i) x n = hiN 20 x0 0
theorem LoR.start {x : Int} (h0 : 100000000 ≤ x) (h1 : x ≤ 999999999) : LoR x 0 x 0 := ⟨h0, h1, by omega, by simp, rfl⟩
theorem HiR.start {x : Int} (h0 : 100000000 ≤ x) (h1 : x ≤ 999999999) : HiR x 0 x 0 := ⟨h0, h1, by omega, by simp, rfl⟩
theorem LoR.bounds {x0 x n : Int} {i : Nat} (h : LoR x0 i x n) (hi : i ≤ 20) : 100000000 ≤ x ∧ x ≤ 999999999 ∧ 0 ≤ n ∧ n ≤ 1048575 := by
  have := two_pow_le hi
  obtain ⟨a, b, c, d, _⟩ := h; omega
theorem HiR.bounds {x0 x n : Int} {i : Nat} (h : HiR x0 i x n) (hi : i ≤ 20) : 100000000 ≤ x ∧ x ≤ 999999999 ∧ 0 ≤ n ∧ n ≤ 1048575 := by
  have := two_pow_le hi
  obtain ⟨a, b, c, d, _⟩ := h; omega
theorem LoR.step {x0 x n : Int} {i : Nat} (h : LoR x0 i x n) (hi : i < 20) : LoR x0 (i + 1) (loS x) (2 * n + loB x) := by
  obtain ⟨a, b, c, d, e⟩ := h
  have hs := loS_bounds a b
  have hb := loB_bounds x
  refine ⟨hs.1, hs.2, by omega, by rw [Int.pow_succ]; omega, ?_⟩
  rw [show 20 - i = (20 - (i + 1)) + 1 by omega] at e
  exact e
theorem HiR.step {x0 x n : Int} {i : Nat} (h : HiR x0 i x n) (hi : i < 20) : HiR x0 (i + 1) (hiS x) (2 * n + hiB x) := by
  obtain ⟨a, b, c, d, e⟩ := h
  have hs := hiS_bounds a b
  have hb := hiB_bounds x
  refine ⟨hs.1, hs.2, by omega, by rw [Int.pow_succ]; omega, ?_⟩
  rw [show 20 - i = (20 - (i + 1)) + 1 by omega] at e
  exact e
theorem LoR.done {x0 x n : Int} (h : LoR x0 20 x n) : n = lgL x0 := h.2.2.2.2
theorem HiR.done {x0 x n : Int} (h : HiR x0 20 x n) : n + 1 = lgH x0 := by
  have : n = hiN 20 x0 0 := h.2.2.2.2
  unfold lgH; omega
theorem lgL_bounds_aux : ∀ (k i : Nat) (x0 x n : Int), k + i = 20 → LoR x0 i x n → 0 ≤ loN 20 x0 0 ∧ loN 20 x0 0 ≤ 1048575
  | 0, i, x0, x, n, hk, h => by
    obtain rfl : i = 20 := by omega
    have hd : n = loN 20 x0 0 := h.2.2.2.2
    have hb := h.bounds (by omega)
    omega
  | k + 1, i, x0, x, n, hk, h => lgL_bounds_aux k (i + 1) x0 _ _ (by omega) (h.step (by omega))
theorem lgH_bounds_aux : ∀ (k i : Nat) (x0 x n : Int), k + i = 20 → HiR x0 i x n → 0 ≤ hiN 20 x0 0 ∧ hiN 20 x0 0 ≤ 1048575
  | 0, i, x0, x, n, hk, h => by
    obtain rfl : i = 20 := by omega
    have hd : n = hiN 20 x0 0 := h.2.2.2.2
    have hb := h.bounds (by omega)
    omega
  | k + 1, i, x0, x, n, hk, h => lgH_bounds_aux k (i + 1) x0 _ _ (by omega) (h.step (by omega))
theorem lg_bounds {x : Int} (h0 : 100000000 ≤ x) (h1 : x ≤ 999999999) : 0 ≤ lgL x ∧ lgL x ≤ 1048575 ∧ 1 ≤ lgH x ∧ lgH x ≤ 1048576 := by
  have a := lgL_bounds_aux 20 0 x x 0 rfl (LoR.start h0 h1)
  have b := lgH_bounds_aux 20 0 x x 0 rfl (HiR.start h0 h1)
  unfold lgL lgH
  omega
/-- the logarithm of a figure -/
def fgL (d t : Int) : Int := lgL (d * 100000) + t * 1048576
def fgH (d t : Int) : Int := lgH (d * 100000) + t * 1048576
theorem fg_bounds {d t : Int} (h0 : 1000 ≤ d) (h1 : d ≤ 9999) (t0 : -100 ≤ t) (t1 : t ≤ 100) : -104857600 ≤ fgL d t ∧ fgL d t ≤ 105906175 ∧ -104857600 ≤ fgH d t ∧ fgH d t ≤ 105906176 := by
  have h := lg_bounds (x := d * 100000) (by omega) (by omega)
  unfold fgL fgH; omega
def loC (x : Int) : Int := if inB x 100000000 999999999 then 0 else 2
def bitsV (u : Bool) (x : Int) : Int := match u with
  | true => lgH x - 1
  | false => lgL x

end Go.Proofs.YtlijleemogpifaaDoor.K
