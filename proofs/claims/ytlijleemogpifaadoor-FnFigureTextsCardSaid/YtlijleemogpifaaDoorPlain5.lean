/- Plain definitions and lemmas on antilogarithms: figures below and above a number of units. No program in sight. -/
import Derived.Test.YtlijleemogpifaaDoorPlain3
namespace Go.Proofs.YtlijleemogpifaaDoor.K
open Go.RowKit

theorem sq_mono {x y : Int} (h0 : 0 ≤ x) (h : x ≤ y) : x * x ≤ y * y := Int.mul_le_mul h h h0 (by omega)
theorem loX_mono {x y : Int} (h0 : 0 ≤ x) (h : x ≤ y) : loX x ≤ loX y := by
  have := sq_mono h0 h
  unfold loX; omega
theorem hiX_mono {x y : Int} (h0 : 0 ≤ x) (h : x ≤ y) : hiX x ≤ hiX y := by
  have := sq_mono h0 h
  unfold hiX; omega
theorem lo_mono : ∀ (k : Nat) (x y n m : Int), 100000000 ≤ x → x ≤ 999999999 → 100000000 ≤ y → y ≤ 999999999 → (n < m ∨ (n = m ∧ x ≤ y)) → loN k x n ≤ loN k y m
  | 0, x, y, n, m, _, _, _, _, h => by show n ≤ m; omega
  | k + 1, x, y, n, m, x0, x1, y0, y1, h => by
    have bx := loB_bounds x
    have by' := loB_bounds y
    have sx := loS_bounds x0 x1
    have sy := loS_bounds y0 y1
    refine lo_mono k _ _ _ _ sx.1 sx.2 sy.1 sy.2 ?_
    rcases h with h | ⟨rfl, h⟩
    · left; omega
    · have hm := loX_mono (by omega) h
      unfold loB loS
      by_cases hx : 1000000000 ≤ loX x
      · have hy : 1000000000 ≤ loX y := by omega
        rw [if_pos hx, if_pos hy, if_pos hx, if_pos hy]; right; exact ⟨rfl, by omega⟩
      · by_cases hy : 1000000000 ≤ loX y
        · rw [if_neg hx, if_pos hy]; left; omega
        · rw [if_neg hx, if_neg hy, if_neg hx, if_neg hy]; right; exact ⟨rfl, hm⟩
theorem hi_mono : ∀ (k : Nat) (x y n m : Int), 100000000 ≤ x → x ≤ 999999999 → 100000000 ≤ y → y ≤ 999999999 → (n < m ∨ (n = m ∧ x ≤ y)) → hiN k x n ≤ hiN k y m
  | 0, x, y, n, m, _, _, _, _, h => by show n ≤ m; omega
  | k + 1, x, y, n, m, x0, x1, y0, y1, h => by
    have bx := hiB_bounds x
    have by' := hiB_bounds y
    have sx := hiS_bounds x0 x1
    have sy := hiS_bounds y0 y1
    refine hi_mono k _ _ _ _ sx.1 sx.2 sy.1 sy.2 ?_
    rcases h with h | ⟨rfl, h⟩
    · left; omega
    · have hm := hiX_mono (by omega) h
      unfold hiB hiS
      by_cases hx : 1000000000 ≤ hiX x
      · have hy : 1000000000 ≤ hiX y := by omega
        rw [if_pos hx, if_pos hy, if_pos hx, if_pos hy]; right; exact ⟨rfl, by omega⟩
      · by_cases hy : 1000000000 ≤ hiX y
        · rw [if_neg hx, if_pos hy]; left; omega
        · rw [if_neg hx, if_neg hy, if_neg hx, if_neg hy]; right; exact ⟨rfl, hm⟩
theorem lgL_mono {x y : Int} (x0 : 100000000 ≤ x) (h : x ≤ y) (y1 : y ≤ 999999999) : lgL x ≤ lgL y := lo_mono 20 x y 0 0 x0 (by omega) (by omega) y1 (.inr ⟨rfl, h⟩)
theorem lgH_mono {x y : Int} (x0 : 100000000 ≤ x) (h : x ≤ y) (y1 : y ≤ 999999999) : lgH x ≤ lgH y := by
  have := hi_mono 20 x y 0 0 x0 (by omega) (by omega) y1 (.inr ⟨rfl, h⟩)
  unfold lgH; omega
theorem lgL_one : lgL 100000000 = 0 := by decide +kernel
theorem lgH_one : lgH 100000000 = 1 := by decide +kernel

/-- the number of a figure, its digits and tens -/
def atD (n : Int) : Int := 1000 + n % 9000
def atT (n : Int) : Int := n / 9000
theorem atD_bounds (n : Int) : 1000 ≤ atD n ∧ atD n ≤ 9999 := by unfold atD; omega
theorem at_of {d t : Int} (h0 : 1000 ≤ d) (h1 : d ≤ 9999) : atD (9000 * t + (d - 1000)) = d ∧ atT (9000 * t + (d - 1000)) = t := by unfold atD atT; omega
def hoV (hi : Bool) (u d t : Int) : Bool := match hi with
  | true => decide (u < fgH d t)
  | false => decide (u ≤ fgL d t)
def hoA (hi : Bool) (u n : Int) : Bool := hoV hi u (atD n) (atT n)
theorem fg_mono {d t e s : Int} (d0 : 1000 ≤ d) (d1 : d ≤ 9999) (e0 : 1000 ≤ e) (e1 : e ≤ 9999) (h : t < s ∨ (t = s ∧ d ≤ e)) : fgL d t ≤ fgL e s ∧ fgH d t ≤ fgH e s := by
  have b := lg_bounds (x := d * 100000) (by omega) (by omega)
  have c := lg_bounds (x := e * 100000) (by omega) (by omega)
  unfold fgL fgH
  rcases h with h | ⟨rfl, h⟩
  · omega
  · have m := lgL_mono (x := d * 100000) (y := e * 100000) (by omega) (by omega) (by omega)
    have k := lgH_mono (x := d * 100000) (y := e * 100000) (by omega) (by omega) (by omega)
    omega
theorem hoA_mono {hi : Bool} {u n m : Int} (h : n ≤ m) (k : hoA hi u n = true) : hoA hi u m = true := by
  have bn := atD_bounds n
  have bm := atD_bounds m
  have hh : atT n < atT m ∨ (atT n = atT m ∧ atD n ≤ atD m) := by unfold atT atD; omega
  have f := fg_mono bn.1 bn.2 bm.1 bm.2 hh
  unfold hoA hoV at *
  cases hi <;> simp at * <;> omega
/-- the reference's search -/
def bsV (hi : Bool) (u : Int) : Nat → Int → Int → Int
  | 0, _, top => top
  | k + 1, low, top => if 1 < top - low then (if hoA hi u ((low + top) / 2) then bsV hi u k low ((low + top) / 2) else bsV hi u k ((low + top) / 2) top) else top
def firstV (hi : Bool) (u : Int) : Int := bsV hi u 20 (-270001) 279000
/-- the program's search -/
def ssV (hi : Bool) (u t : Int) : Nat → Int → Int → Int
  | 0, i, _ => i
  | k + 1, i, j => if i < j then (if hoV hi u (1000 + (i + j) / 2) t then ssV hi u t k i ((i + j) / 2) else ssV hi u t k ((i + j) / 2 + 1) j) else i
theorem bsV_yes {hi : Bool} {u low top : Int} {k : Nat} (h : 1 < top - low) (hm : hoA hi u ((low + top) / 2) = true) : bsV hi u (k + 1) low top = bsV hi u k low ((low + top) / 2) := by rw [bsV, if_pos h, if_pos hm]
theorem bsV_no {hi : Bool} {u low top : Int} {k : Nat} (h : 1 < top - low) (hm : hoA hi u ((low + top) / 2) = false) : bsV hi u (k + 1) low top = bsV hi u k ((low + top) / 2) top := by rw [bsV, if_pos h, if_neg (by rw [hm]; decide)]
theorem bsV_end {hi : Bool} {u low top : Int} {k : Nat} (h : ¬ 1 < top - low) : bsV hi u k low top = top := by
  cases k with
  | zero => rfl
  | succ k => rw [bsV, if_neg h]
theorem bs_spec (hi : Bool) (u : Int) (k : Nat) : ∀ (low top : Int), top - low ≤ (2 : Int) ^ k → low < top → hoA hi u low = false → hoA hi u top = true →
    hoA hi u (bsV hi u k low top) = true ∧ hoA hi u (bsV hi u k low top - 1) = false := by
  induction k with
  | zero =>
    intro low top h hl h0 h1
    have e : top - 1 = low := by simp at h; omega
    rw [bsV_end (by omega), e]
    exact ⟨h1, h0⟩
  | succ k ih =>
    intro low top h hl h0 h1
    rw [Int.pow_succ] at h
    by_cases hd : 1 < top - low
    · cases hm : hoA hi u ((low + top) / 2)
      · rw [bsV_no hd hm]; exact ih _ _ (by omega) (by omega) hm h1
      · rw [bsV_yes hd hm]; exact ih _ _ (by omega) (by omega) h0 hm
    · have e : top - 1 = low := by omega
      rw [bsV_end hd, e]
      exact ⟨h1, h0⟩
theorem ho_first_hi {u t : Int} : hoV true u 1000 t = decide (u < 1 + t * 1048576) := by unfold hoV fgH; rw [show (1000 : Int) * 100000 = 100000000 by decide, lgH_one]
theorem ho_first_lo {u t : Int} : hoV false u 1000 t = decide (u ≤ t * 1048576) := by unfold hoV fgL; rw [show (1000 : Int) * 100000 = 100000000 by decide, lgL_one, Int.zero_add]
theorem ho_last_lo {u t : Int} (h : (t + 1) * 1048576 ≤ u) : hoV false u 9999 t = false := by
  have b := lg_bounds (x := 9999 * 100000) (by decide) (by decide)
  refine decide_eq_false ?_
  unfold fgL; omega
theorem ho_last_hi {u t : Int} (h : (t + 1) * 1048576 ≤ u) : hoV true u 9999 t = false := by
  have b := lg_bounds (x := 9999 * 100000) (by decide) (by decide)
  refine decide_eq_false ?_
  unfold fgH; omega
/-- a number of units that is not too great -/
def unB (u : Int) : Bool := inB u (-31457280) 31457280
theorem first_spec (hi : Bool) {u : Int} (hu : unB u = true) : hoA hi u (firstV hi u) = true ∧ hoA hi u (firstV hi u - 1) = false := by
  obtain ⟨u0, u1⟩ := inB_true.1 hu
  refine bs_spec hi u 20 (-270001) 279000 (by decide) (by decide) ?_ ?_
  · have e1 : atD (-270001) = 9999 := by decide
    have e2 : atT (-270001) = -31 := by decide
    unfold hoA; rw [e1, e2]
    cases hi
    · exact ho_last_lo (by omega)
    · exact ho_last_hi (by omega)
  · have e1 : atD 279000 = 1000 := by decide
    have e2 : atT 279000 = 31 := by decide
    unfold hoA; rw [e1, e2]
    cases hi
    · rw [ho_first_lo]; exact decide_eq_true (by omega)
    · rw [ho_first_hi]; exact decide_eq_true (by omega)
theorem first_unique {hi : Bool} {u n : Int} (hu : unB u = true) (h1 : hoA hi u n = true) (h0 : hoA hi u (n - 1) = false) : firstV hi u = n := by
  obtain ⟨a, b⟩ := first_spec hi hu
  rcases Int.lt_trichotomy (firstV hi u) n with h | h | h
  · have := hoA_mono (m := n - 1) (by omega) a; rw [h0] at this; cases this
  · exact h
  · have := hoA_mono (m := firstV hi u - 1) (by omega) h1; rw [b] at this; cases this
/-- what the program's search finds -/
theorem ss_spec (hi : Bool) (u t : Int) : ∀ (k : Nat) (i j : Int), j - i < (2 : Int) ^ k → 0 ≤ i → i ≤ j → j ≤ 9000 →
    (∀ x, 0 ≤ x → x < i → hoV hi u (1000 + x) t = false) → (∀ x, j ≤ x → x < 9000 → hoV hi u (1000 + x) t = true) →
    (∀ x y, 0 ≤ x → x ≤ y → y < 9000 → hoV hi u (1000 + x) t = true → hoV hi u (1000 + y) t = true) →
    0 ≤ ssV hi u t k i j ∧ ssV hi u t k i j ≤ 9000 ∧ (∀ x, 0 ≤ x → x < ssV hi u t k i j → hoV hi u (1000 + x) t = false) ∧ (∀ x, ssV hi u t k i j ≤ x → x < 9000 → hoV hi u (1000 + x) t = true)
  | 0, i, j, h, h0, hij, hj, hl, hr, hm => by
    have : i = j := by simp at h; omega
    subst this
    exact ⟨h0, hj, hl, hr⟩
  | k + 1, i, j, h, h0, hij, hj, hl, hr, hm => by
    rw [Int.pow_succ] at h
    unfold ssV
    by_cases hd : i < j
    · rw [if_pos hd]
      by_cases hp : hoV hi u (1000 + (i + j) / 2) t = true
      · rw [if_pos hp]
        refine ss_spec hi u t k _ _ (by omega) h0 (by omega) (by omega) hl (fun x hx hx2 => ?_) hm
        exact hm _ x (by omega) hx hx2 hp
      · rw [if_neg hp]
        refine ss_spec hi u t k _ _ (by omega) (by omega) (by omega) hj (fun x hx hx2 => ?_) hr hm
        cases hc : hoV hi u (1000 + x) t
        · rfl
        · exact absurd (hm x ((i + j) / 2) hx (by omega) (by omega) hc) hp
    · rw [if_neg hd]
      have : i = j := by omega
      subst this
      exact ⟨h0, hj, hl, hr⟩
theorem ho_mono (hi : Bool) (u t : Int) : ∀ x y, 0 ≤ x → x ≤ y → y < 9000 → hoV hi u (1000 + x) t = true → hoV hi u (1000 + y) t = true := by
  intro x y hx hxy hy h
  have f := fg_mono (d := 1000 + x) (t := t) (e := 1000 + y) (s := t) (by omega) (by omega) (by omega) (by omega) (.inr ⟨rfl, by omega⟩)
  unfold hoV at *
  cases hi <;> simp at * <;> omega
def srV (hi : Bool) (u t : Int) : Int := ssV hi u t 14 0 9000
theorem sr_spec (hi : Bool) (u t : Int) : 0 ≤ srV hi u t ∧ srV hi u t ≤ 9000 ∧ (∀ x, 0 ≤ x → x < srV hi u t → hoV hi u (1000 + x) t = false) ∧ (∀ x, srV hi u t ≤ x → x < 9000 → hoV hi u (1000 + x) t = true) :=
  ss_spec hi u t 14 0 9000 (by decide) (by omega) (by omega) (by omega) (fun x _ _ => by omega) (fun x _ _ => by omega) (ho_mono hi u t)
theorem hoA_at (hi : Bool) (u t : Int) {x : Int} (h0 : 0 ≤ x) (h1 : x < 9000) : hoA hi u (9000 * t + x) = hoV hi u (1000 + x) t := by
  have e1 : atD (9000 * t + x) = 1000 + x := by unfold atD; omega
  have e2 : atT (9000 * t + x) = t := by unfold atT; omega
  unfold hoA; rw [e1, e2]
/-- the figure below -/
theorem below_spec {u : Int} (hu : unB u = true) : firstV true u = 9000 * ((u - 1) / 1048576) + srV true u ((u - 1) / 1048576) ∧ 1 ≤ srV true u ((u - 1) / 1048576) := by
  obtain ⟨s0, s1, s2, s3⟩ := sr_spec true u ((u - 1) / 1048576)
  have hd : (u - 1) / 1048576 * 1048576 ≤ u - 1 ∧ u - 1 < ((u - 1) / 1048576 + 1) * 1048576 := by omega
  generalize (u - 1) / 1048576 = t at *
  have h0 : hoV true u (1000 + 0) t = false := by rw [show (1000 : Int) + 0 = 1000 by decide, ho_first_hi]; simp; omega
  have hr : 1 ≤ srV true u t := by
    rcases Int.lt_or_le (srV true u t) 1 with h | h
    · have := s3 0 (by omega) (by omega); rw [h0] at this; cases this
    · exact h
  refine ⟨first_unique hu ?_ ?_, hr⟩
  · rcases Int.lt_or_le (srV true u t) 9000 with h | h
    · rw [hoA_at _ _ _ (by omega) h]; exact s3 _ (Int.le_refl _) h
    · have e : 9000 * t + srV true u t = 9000 * (t + 1) + 0 := by omega
      rw [e, hoA_at _ _ _ (by omega) (by omega), show (1000 : Int) + 0 = 1000 by decide, ho_first_hi]; simp; omega
  · have e : 9000 * t + srV true u t - 1 = 9000 * t + (srV true u t - 1) := by omega
    rw [e, hoA_at _ _ _ (by omega) (by omega)]; exact s2 _ (by omega) (by omega)
/-- the figure above -/
theorem above_spec {u : Int} (hu : unB u = true) : firstV false u = 9000 * (u / 1048576) + srV false u (u / 1048576) := by
  obtain ⟨s0, s1, s2, s3⟩ := sr_spec false u (u / 1048576)
  have hd : u / 1048576 * 1048576 ≤ u ∧ u < (u / 1048576 + 1) * 1048576 := by omega
  generalize u / 1048576 = t at *
  refine first_unique hu ?_ ?_
  · rcases Int.lt_or_le (srV false u t) 9000 with h | h
    · rw [hoA_at _ _ _ (by omega) h]; exact s3 _ (Int.le_refl _) h
    · have e : 9000 * t + srV false u t = 9000 * (t + 1) + 0 := by omega
      rw [e, hoA_at _ _ _ (by omega) (by omega), show (1000 : Int) + 0 = 1000 by decide, ho_first_lo]; simp; omega
  · rcases Int.lt_or_le 0 (srV false u t) with h | h
    · have e : 9000 * t + srV false u t - 1 = 9000 * t + (srV false u t - 1) := by omega
      rw [e, hoA_at _ _ _ (by omega) (by omega)]; exact s2 _ (by omega) (by omega)
    · have e : 9000 * t + srV false u t - 1 = 9000 * (t - 1) + 8999 := by omega
      rw [e, hoA_at _ _ _ (by omega) (by omega), show (1000 : Int) + 8999 = 9999 by decide]
      exact ho_last_lo (by omega)
/-- the digits and tens of the figures below and above -/
def bwD (u : Int) : Int := atD (firstV true u - 1)
def bwT (u : Int) : Int := atT (firstV true u - 1)
def abD (u : Int) : Int := atD (firstV false u)
def abT (u : Int) : Int := atT (firstV false u)
theorem bw_of {u : Int} (hu : unB u = true) : 999 + srV true u ((u - 1) / 1048576) = bwD u ∧ (u - 1) / 1048576 = bwT u := by
  obtain ⟨h, k⟩ := below_spec hu
  obtain ⟨s0, s1, _, _⟩ := sr_spec true u ((u - 1) / 1048576)
  unfold bwD bwT; rw [h]; unfold atD atT; omega
theorem ab_of {u : Int} (hu : unB u = true) : (srV false u (u / 1048576) = 9000 → (1000 = abD u ∧ u / 1048576 + 1 = abT u)) ∧ (srV false u (u / 1048576) ≠ 9000 → (1000 + srV false u (u / 1048576) = abD u ∧ u / 1048576 = abT u)) := by
  have h := above_spec hu
  obtain ⟨s0, s1, _, _⟩ := sr_spec false u (u / 1048576)
  unfold abD abT; rw [h]; unfold atD atT; omega
def bwB (u : Int) : Bool := figV (bwD u) (bwT u)
def abB (u : Int) : Bool := figV (abD u) (abT u)
theorem bwB_of {u : Int} (hu : unB u = true) : bwB u = decide (-30 ≤ (u - 1) / 1048576) := by
  obtain ⟨h1, h2⟩ := bw_of hu
  obtain ⟨u0, u1⟩ := inB_true.1 hu
  have b := atD_bounds (firstV true u - 1)
  have bd : 1000 ≤ bwD u ∧ bwD u ≤ 9999 := b
  unfold bwB
  by_cases h : -30 ≤ (u - 1) / 1048576
  · rw [decide_eq_true h]; exact figV_true.2 ⟨bd.1, bd.2, by omega, by omega⟩
  · rw [decide_eq_false h]
    cases hf : figV (bwD u) (bwT u)
    · rfl
    · have := figV_true.1 hf; omega
def nfV (b : Bool) : Int := if b then 0 else 4
@[simp] theorem nfV_true : nfV true = 0 := rfl
@[simp] theorem nfV_false : nfV false = 4 := rfl
def bwC (u : Int) : Int := if unB u then nfV (bwB u) else 2
def abC (u : Int) : Int := if unB u then nfV (abB u) else 2
theorem first_bounds (hi : Bool) {u : Int} (hu : unB u = true) : -270001 ≤ firstV hi u ∧ firstV hi u ≤ 279000 := by
  obtain ⟨a, b⟩ := first_spec hi hu
  obtain ⟨u0, u1⟩ := inB_true.1 hu
  constructor
  · rcases Int.lt_or_le (firstV hi u) (-270001) with h | h
    · have k : hoA hi u (-270001) = true := hoA_mono (m := -270001) (by omega) a
      have e1 : atD (-270001) = 9999 := by decide
      have e2 : atT (-270001) = -31 := by decide
      unfold hoA at k; rw [e1, e2] at k
      cases hi
      · rw [ho_last_lo (by omega)] at k; cases k
      · rw [ho_last_hi (by omega)] at k; cases k
    · exact h
  · rcases Int.lt_or_le 279000 (firstV hi u) with h | h
    · have k : hoA hi u 279000 = true := by
        have e1 : atD 279000 = 1000 := by decide
        have e2 : atT 279000 = 31 := by decide
        unfold hoA; rw [e1, e2]
        cases hi
        · rw [ho_first_lo]; exact decide_eq_true (by omega)
        · rw [ho_first_hi]; exact decide_eq_true (by omega)
      have := hoA_mono (m := firstV hi u - 1) (by omega) k; rw [b] at this; cases this
    · exact h
def gtV (b : Bool) (x : Int) : Int := if b then x else 0
@[simp] theorem gtV_true (x : Int) : gtV true x = x := rfl
@[simp] theorem gtV_false (x : Int) : gtV false x = 0 := rfl
/-- the code of a span -/
def spC (a b : Int) : Int := if unB a && unB b then (if bwB a && abB b then 0 else 4) else 2
def soC (a b : Int) : Int := if ivV a b then spC a b else 1

end Go.Proofs.YtlijleemogpifaaDoor.K
