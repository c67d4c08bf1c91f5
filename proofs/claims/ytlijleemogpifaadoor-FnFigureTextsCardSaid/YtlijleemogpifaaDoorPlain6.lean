/- Plain definitions and lemmas on spans of products, quotients and powers. -/
import Derived.Test.YtlijleemogpifaaDoorPlain5
namespace Go.Proofs.YtlijleemogpifaaDoor.K
open Go.RowKit

theorem loX_le_hiX {x y : Int} (h0 : 0 ≤ x) (h : x ≤ y) : loX x ≤ hiX y := by
  have := sq_mono h0 h
  unfold loX hiX; omega
theorem lohi : ∀ (k : Nat) (x y n m : Int), 100000000 ≤ x → x ≤ 999999999 → 100000000 ≤ y → y ≤ 999999999 → (n < m ∨ (n = m ∧ x ≤ y)) → loN k x n ≤ hiN k y m
  | 0, x, y, n, m, _, _, _, _, h => by show n ≤ m; omega
  | k + 1, x, y, n, m, x0, x1, y0, y1, h => by
    have bx := loB_bounds x
    have by' := hiB_bounds y
    have sx := loS_bounds x0 x1
    have sy := hiS_bounds y0 y1
    refine lohi k _ _ _ _ sx.1 sx.2 sy.1 sy.2 ?_
    rcases h with h | ⟨rfl, h⟩
    · left; omega
    · have hm := loX_le_hiX (by omega) h
      unfold loB loS hiB hiS
      by_cases hx : 1000000000 ≤ loX x
      · have hy : 1000000000 ≤ hiX y := by omega
        rw [if_pos hx, if_pos hy, if_pos hx, if_pos hy]; right; exact ⟨rfl, by omega⟩
      · by_cases hy : 1000000000 ≤ hiX y
        · rw [if_neg hx, if_pos hy]; left; omega
        · rw [if_neg hx, if_neg hy, if_neg hx, if_neg hy]; right; exact ⟨rfl, hm⟩
theorem lg_lt {x : Int} (x0 : 100000000 ≤ x) (x1 : x ≤ 999999999) : lgL x < lgH x := by
  have := lohi 20 x x 0 0 x0 x1 x0 x1 (.inr ⟨rfl, Int.le_refl _⟩)
  unfold lgL lgH; omega
theorem fg_lt {d t : Int} (d0 : 1000 ≤ d) (d1 : d ≤ 9999) : fgL d t < fgH d t := by
  have := lg_lt (x := d * 100000) (by omega) (by omega)
  unfold fgL fgH; omega
def psC (ok : Bool) (lo hi : Int) : Int := if ok then spC lo hi else 1
@[simp] theorem psC_true (lo hi : Int) : psC true lo hi = spC lo hi := rfl
@[simp] theorem psC_false (lo hi : Int) : psC false lo hi = 1 := rfl
/-- the code of a power's span -/
def pwC (a t n d : Int) : Int := if figV a t then (if inB n (-12) 12 && inB d 1 12 then spC (slL (fgL a t) (fgH a t) n d) (slH (fgL a t) (fgH a t) n d) else 2) else 1
theorem sl_bounds {a b n d : Int} (L : Int) (h0 : 0 ≤ L) (a0 : -L ≤ a) (a1 : a ≤ L) (b0 : -L ≤ b) (b1 : b ≤ L) (n0 : -12 ≤ n) (n1 : n ≤ 12) (d0 : 1 ≤ d) : -(L * 12) ≤ slL a b n d ∧ slH a b n d ≤ L * 12 := by
  obtain ⟨p0, p1⟩ := mul_bounds (a := a) (n := n) L 12 a0 a1 n0 n1
  obtain ⟨q0, q1⟩ := mul_bounds (a := b) (n := n) L 12 b0 b1 n0 n1
  unfold slL slH
  have h1 := div_bounds (a := min (a * n) (b * n)) (b := d) d0 (L * 12) (by omega) (by omega) (by omega)
  have h2 := div_bounds (a := -(max (a * n) (b * n))) (b := d) d0 (L * 12) (by omega) (by omega) (by omega)
  omega
theorem pw_ok {a t n d : Int} (a0 : 1000 ≤ a) (a1 : a ≤ 9999) (t0 : -30 ≤ t) (t1 : t ≤ 30) (n0 : -12 ≤ n) (n1 : n ≤ 12) (d0 : 1 ≤ d) :
    ivV (fgL a t) (fgH a t) = true ∧ lmV true (slL (fgL a t) (fgH a t) n d) (slH (fgL a t) (fgH a t) n d) = 0 := by
  have hb := fg_bounds (d := a) (t := t) a0 a1 (by omega) (by omega)
  have hl := fg_lt (t := t) a0 a1
  have hs := sl_bounds (a := fgL a t) (b := fgH a t) (n := n) (d := d) 106000000 (by omega) (by omega) (by omega) (by omega) (by omega) n0 n1 d0
  have hle := slL_le_slH (fgL a t) (fgH a t) n d0
  refine ⟨ivV_true.2 ⟨isV_true.2 (by omega), isV_true.2 (by omega), by omega⟩, ?_⟩
  unfold lmV
  rw [if_pos rfl, isV_true.2 (by omega), isV_true.2 (by omega)]; rfl
/-- the units in the middle of two figures -/
def miU (a b c d : Int) : Int := (fgL a b + fgH c d) / 2
def miC (a b c d : Int) : Int := if twoV a b c d then (if cpV c d a b < 0 then 5 else abC (miU a b c d)) else 1

end Go.Proofs.YtlijleemogpifaaDoor.K
