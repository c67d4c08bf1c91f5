/- Plain facts for the laws of chapters 4 and 5: figures below and above, powers, scales, places. No program in sight. -/
import Derived.Test.YthmmdcpodadjbaaPlain10
import Derived.Test.YthmmdcpodadjbaaPlain7
namespace Go.Proofs.Ythmmdcpodadjbaa.K
set_option linter.unusedVariables false
set_option linter.unusedSimpArgs false

theorem cp_at {n m : Int} (h : n ≤ m) : cpV (atD n) (atT n) (atD m) (atT m) ≤ 0 := by
  rw [cp_le]; unfold atD atT; omega
theorem ho_below {u : Int} (hu : unB u = true) : fgH (bwD u) (bwT u) ≤ u ∧ u < fgH (atD (firstV true u)) (atT (firstV true u)) := by
  obtain ⟨a, b⟩ := first_spec true hu
  unfold hoA hoV at a b
  simp only [decide_eq_true_eq, decide_eq_false_iff_not] at a b
  exact ⟨by unfold bwD bwT; omega, a⟩
theorem ho_above {u : Int} (hu : unB u = true) : u ≤ fgL (abD u) (abT u) ∧ fgL (atD (firstV false u - 1)) (atT (firstV false u - 1)) < u := by
  obtain ⟨a, b⟩ := first_spec false hu
  unfold hoA hoV at a b
  simp only [decide_eq_true_eq, decide_eq_false_iff_not] at a b
  exact ⟨a, by omega⟩
theorem fg_at_mono {n m : Int} (h : n ≤ m) : fgL (atD n) (atT n) ≤ fgL (atD m) (atT m) ∧ fgH (atD n) (atT n) ≤ fgH (atD m) (atT m) := by
  obtain ⟨a0, a1⟩ := atD_bounds n
  obtain ⟨b0, b1⟩ := atD_bounds m
  exact fg_mono a0 a1 b0 b1 (by unfold atD atT; omega)
theorem fg_at_lt (n : Int) : fgL (atD n) (atT n) < fgH (atD n) (atT n) := fg_lt (atD_bounds n).1 (atD_bounds n).2
theorem fg_at_gap (n : Int) : fgH (atD n) (atT n) ≤ fgL (atD (n + 1)) (atT (n + 1)) := by
  obtain ⟨a0, a1⟩ := atD_bounds n
  by_cases h : n % 9000 = 8999
  · have e1 : atD n = 9999 := by unfold atD; omega
    have e2 : atD (n + 1) = 1000 := by unfold atD; omega
    have e3 : atT (n + 1) = atT n + 1 := by unfold atT; omega
    rw [e1, e2, e3]
    have b := lg_bounds (x := 9999 * 100000) (by decide) (by decide)
    unfold fgH fgL
    rw [show (1000 : Int) * 100000 = 100000000 by decide, lgL_one]
    omega
  · have e2 : atD (n + 1) = atD n + 1 := by unfold atD; omega
    have e3 : atT (n + 1) = atT n := by unfold atT; omega
    have e4 : atD n ≤ 9998 := by unfold atD; omega
    rw [e2, e3]
    have g := lg_gap a0 e4
    unfold fgH fgL
    omega
/-- the numbers of the figures below and above -/
theorem first_lt {u v : Int} (hu : unB u = true) (hv : unB v = true) (h : u ≤ v) : firstV true u - 1 < firstV false v := by
  have a := (ho_below hu).1
  have b := (ho_above hv).1
  rcases Int.lt_or_le (firstV true u - 1) (firstV false v) with k | k
  · exact k
  · exfalso
    have m := (fg_at_mono k).1
    have l := fg_at_lt (firstV true u - 1)
    unfold bwD bwT at a
    unfold abD abT at b
    omega
theorem first_near {u : Int} (hu : unB u = true) : firstV false u ≤ firstV true u + 1 := by
  have a := (ho_below hu).2
  have b := (ho_above hu).2
  rcases Int.lt_or_le (firstV true u + 1) (firstV false u) with k | k
  · exfalso
    have g := fg_at_gap (firstV true u)
    have m := (fg_at_mono (n := firstV true u + 1) (m := firstV false u - 1) (by omega)).1
    omega
  · exact k
theorem first_mono (hi : Bool) {u v : Int} (hu : unB u = true) (hv : unB v = true) (h : u ≤ v) : firstV hi u ≤ firstV hi v := by
  obtain ⟨a, b⟩ := first_spec hi hu
  obtain ⟨c, d⟩ := first_spec hi hv
  rcases Int.lt_or_le (firstV hi v) (firstV hi u) with k | k
  · exfalso
    have m : hoA hi v (firstV hi u - 1) = true := hoA_mono (by omega) c
    have : hoA hi u (firstV hi u - 1) = true := by
      cases hi
      · unfold hoA hoV at *; simp only [decide_eq_true_eq] at *; omega
      · unfold hoA hoV at *; simp only [decide_eq_true_eq] at *; omega
    rw [b] at this
    exact Bool.noConfusion this
  · exact k
theorem bw_ab {u v : Int} (hu : unB u = true) (hv : unB v = true) (h : u ≤ v) : cpV (bwD u) (bwT u) (abD v) (abT v) ≤ 0 := cp_at (Int.le_of_lt (first_lt hu hv h))
theorem bw_bw {u v : Int} (hu : unB u = true) (hv : unB v = true) (h : u ≤ v) : cpV (bwD u) (bwT u) (bwD v) (bwT v) ≤ 0 := cp_at (by have := first_mono true hu hv h; omega)
theorem ab_ab {u v : Int} (hu : unB u = true) (hv : unB v = true) (h : u ≤ v) : cpV (abD u) (abT u) (abD v) (abT v) ≤ 0 := cp_at (first_mono false hu hv h)
theorem cp_self (a b : Int) : cpV a b a b ≤ 0 := by rw [cp_le]; omega
/-- a figure whose logarithm lies above a figure below -/
theorem bw_fig {u d t : Int} (hu : unB u = true) (d0 : 1000 ≤ d) (d1 : d ≤ 9999) (h : u < fgH d t) : cpV (bwD u) (bwT u) d t ≤ 0 := by
  have a := (ho_below hu).1
  obtain ⟨e1, e2⟩ := at_of (t := t) d0 d1
  have k : firstV true u - 1 ≤ 9000 * t + (d - 1000) := by
    rcases Int.lt_or_le (9000 * t + (d - 1000)) (firstV true u - 1) with k | k
    · exfalso
      have m := (fg_at_mono (Int.le_of_lt k)).2
      rw [e1, e2] at m
      unfold bwD bwT at a
      omega
    · exact k
  have := cp_at k
  rw [e1, e2] at this
  exact this
theorem ab_fig {u d t : Int} (hu : unB u = true) (d0 : 1000 ≤ d) (d1 : d ≤ 9999) (h : fgL d t < u) : cpV d t (abD u) (abT u) ≤ 0 := by
  have a := (ho_above hu).1
  obtain ⟨e1, e2⟩ := at_of (t := t) d0 d1
  have k : 9000 * t + (d - 1000) ≤ firstV false u := by
    rcases Int.lt_or_le (firstV false u) (9000 * t + (d - 1000)) with k | k
    · exfalso
      have m := (fg_at_mono (Int.le_of_lt k)).1
      rw [e1, e2] at m
      unfold abD abT at a
      omega
    · exact k
  have := cp_at k
  rw [e1, e2] at this
  exact this
/-- how near the figures below and above are to each other -/
theorem near_err {u : Int} (hu : unB u = true) : reN (abD u) (abT u) (bwD u) (bwT u) ≤ 2100 ∧ 0 ≤ reN (abD u) (abT u) (bwD u) (bwT u) := by
  have h1 := first_lt hu hu (Int.le_refl u)
  have h2 := first_near hu
  obtain ⟨b0, b1⟩ := atD_bounds (firstV true u - 1)
  have hs : (abT u - bwT u = 0 ∧ bwD u ≤ abD u ∧ abD u ≤ bwD u + 2) ∨ (abT u - bwT u = 1 ∧ bwD u ≤ abD u * 10 ∧ abD u * 10 ≤ bwD u + 12 ∧ 9998 ≤ bwD u) := by
    unfold abT bwT abD bwD atD atT; omega
  have hb0 : 1000 ≤ bwD u := b0
  have hb1 : bwD u ≤ 9999 := b1
  rcases hs with ⟨e1, e2, e3⟩ | ⟨e1, e2, e3, e4⟩
  · rw [reN_ge e1 (by omega)]
    exact ⟨up_le (by omega) _ (by omega), up_ge (by omega) (by omega)⟩
  · rw [reN_one e1]
    exact ⟨up_le (by omega) _ (by omega), up_ge (by omega) (by omega)⟩
/-- spans and back -/
theorem sl_pos {a b n d : Int} (hn : 1 ≤ n) (hab : a ≤ b) : slL a b n d = a * n / d ∧ slH a b n d = -((-(b * n)) / d) := by
  have h : a * n ≤ b * n := Int.mul_le_mul_of_nonneg_right hab (by omega)
  unfold slL slH
  rw [Int.min_eq_left h, Int.max_eq_right h]; exact ⟨rfl, rfl⟩
theorem sl_neg {a b n d : Int} (hn : n ≤ -1) (hab : a ≤ b) : slL a b n d = b * n / d ∧ slH a b n d = -((-(a * n)) / d) := by
  have h : b * n ≤ a * n := Int.mul_le_mul_of_nonpos_right hab (by omega)
  unfold slL slH
  rw [Int.min_eq_right h, Int.max_eq_left h]; exact ⟨rfl, rfl⟩
theorem fl_mul (a : Int) {d : Int} (hd : 1 ≤ d) : a / d * d ≤ a := Int.ediv_mul_le a (by omega)
theorem ce_mul (a : Int) {d : Int} (hd : 1 ≤ d) : a ≤ -((-a) / d) * d := by
  have := Int.ediv_mul_le (-a) (show d ≠ 0 by omega)
  rw [Int.neg_mul]; omega
theorem fl_le {a b d : Int} (hd : 1 ≤ d) (h : a ≤ b * d) : a / d ≤ b := by
  have : a / d < b + 1 := (Int.ediv_lt_iff_lt_mul (by omega)).2 (by rw [Int.add_mul]; omega)
  omega
theorem ce_ge {a b d : Int} (hd : 1 ≤ d) (h : b * d ≤ a) : b ≤ -((-a) / d) := by
  have : (-a) / d < -b + 1 := (Int.ediv_lt_iff_lt_mul (by omega)).2 (by rw [Int.add_mul, Int.neg_mul]; omega)
  omega
/-- scaling by a fraction and back -/
theorem sl_back {a b n d : Int} (hn : 1 ≤ n) (hd : 1 ≤ d) (hab : a ≤ b) :
    slL (slL a b n d) (slH a b n d) d n ≤ a ∧ b ≤ slH (slL a b n d) (slH a b n d) d n := by
  have hle := slL_le_slH a b n hd
  obtain ⟨e1, e2⟩ := sl_pos (d := d) hn hab
  obtain ⟨f1, f2⟩ := sl_pos (d := n) hd hle
  rw [f1, f2, e1, e2]
  exact ⟨fl_le hn (fl_mul _ hd), ce_ge hn (ce_mul _ hd)⟩
theorem sl_back_neg {a b n d : Int} (hn : n ≤ -1) (hd : 1 ≤ d) (hab : a ≤ b) :
    slL (slL a b n d) (slH a b n d) (-d) (-n) ≤ a ∧ b ≤ slH (slL a b n d) (slH a b n d) (-d) (-n) := by
  have hle := slL_le_slH a b n hd
  obtain ⟨e1, e2⟩ := sl_neg (d := d) hn hab
  obtain ⟨f1, f2⟩ := sl_neg (n := -d) (d := -n) (by omega) hle
  rw [f1, f2, e1, e2]
  have p := ce_mul (a * n) hd
  have q := fl_mul (b * n) hd
  refine ⟨fl_le (by omega) ?_, ce_ge (by omega) ?_⟩
  · rw [Int.mul_neg, Int.mul_neg]; omega
  · rw [Int.mul_neg, Int.mul_neg]; omega
/-- scales: neighbours -/
theorem lg_up {d : Int} (h0 : 1000 ≤ d) (h1 : d ≤ 9998) : lgL (d * 100000) + 4 ≤ lgL ((d + 1) * 100000) ∧ lgH (d * 100000) + 4 ≤ lgH ((d + 1) * 100000) := by
  have g := lg_gap h0 h1
  have a := lg_lt (x := d * 100000) (by omega) (by omega)
  have b := lg_lt (x := (d + 1) * 100000) (by omega) (by omega)
  omega
theorem pm_next {d t m : Int} (h0 : 1000 ≤ d) (h1 : d ≤ 9998) (hm : m = 2 ∨ m = 3) : pmL d t m < pmL (d + 1) t m := by
  obtain ⟨g, _⟩ := lg_up h0 h1
  have a := lg_lt (x := d * 100000) (by omega) (by omega)
  have b := lg_lt (x := (d + 1) * 100000) (by omega) (by omega)
  unfold pmL
  rw [(sl_pos (by omega) (by omega)).1, (sl_pos (by omega) (by omega)).1, Int.mul_one, Int.mul_one]
  rcases hm with rfl | rfl <;> omega
theorem cf_next {d : Int} (h0 : 1000 ≤ d) (h1 : d ≤ 9998) (h : d ≠ 3142) : cfL d < cfL (d + 1) := by
  obtain ⟨g, _⟩ := lg_up h0 h1
  have c := lg_lt (x := 314200000) (by decide) (by decide)
  unfold cfL
  rcases Int.lt_or_gt_of_ne h with k | k
  · have m1 := lgL_mono (x := d * 100000) (y := 314200000) (by omega) (by omega) (by omega)
    have m2 := lgL_mono (x := (d + 1) * 100000) (y := 314200000) (by omega) (by omega) (by omega)
    rw [if_pos (by omega), if_pos (by omega)]; omega
  · have gg := lg_gap (d := 3142) (by decide) (by decide)
    have e1 : (3142 : Int) * 100000 = 314200000 := by decide
    have e2 : ((3142 : Int) + 1) * 100000 = 314300000 := by decide
    rw [e1, e2] at gg
    have m1 := lgL_mono (x := 314300000) (y := d * 100000) (by omega) (by omega) (by omega)
    have m2 := lgL_mono (x := 314300000) (y := (d + 1) * 100000) (by omega) (by omega) (by omega)
    rw [if_neg (by omega), if_neg (by omega)]; omega
theorem po_next {s d t : Int} (hs : inB s 0 5 = true) (h0 : 1000 ≤ d) (h1 : d ≤ 9998) (h : ¬ (s = 4 ∧ d = 3142)) :
    (s ≠ 3 → poL s d t < poL s (d + 1) t) ∧ (s = 3 → poL s (d + 1) t < poL s d t) := by
  obtain ⟨g, g2⟩ := lg_up h0 h1
  have p2 := pm_next (t := t) h0 h1 (.inl rfl : (2 : Int) = 2 ∨ (2 : Int) = 3)
  have p3 := pm_next (t := t) h0 h1 (.inr rfl : (3 : Int) = 2 ∨ (3 : Int) = 3)
  have hc : s = 0 ∨ s = 1 ∨ s = 2 ∨ s = 3 ∨ s = 4 ∨ s = 5 := by have := inB_true.1 hs; omega
  unfold poL
  rcases hc with rfl | rfl | rfl | rfl | rfl | rfl
  · simp; omega
  · simp; omega
  · simp; omega
  · simp; omega
  · have := cf_next h0 h1 (fun e => h ⟨rfl, e⟩)
    simp; omega
  · simp; omega
theorem po_root (d t : Int) (h0 : 1000 ≤ d) (h1 : d ≤ 9999) : 2 * poL 1 d 0 ≤ poL 0 d t ∧ poH 0 d t ≤ 2 * poH 1 d 0 := by
  have a := lg_lt (x := d * 100000) (by omega) (by omega)
  have e1 : poL 1 d 0 = (lgL (d * 100000) + 1048576 * (0 % 2)) * 1 / 2 := by
    show pmL d 0 2 = _
    unfold pmL; rw [(sl_pos (by omega) (by omega)).1]
  have e2 : poH 1 d 0 = -((-((lgH (d * 100000) + 1048576 * (0 % 2)) * 1)) / 2) := by
    show pmH d 0 2 = _
    unfold pmH; rw [(sl_pos (by omega) (by omega)).2]
  have e3 : poL 0 d t = lgL (d * 100000) := by simp [poL]
  have e4 : poH 0 d t = lgH (d * 100000) := by simp [poH]
  rw [e1, e2, e3, e4]
  omega
/-- places lie on the rule -/
theorem po_top {s d t : Int} (h0 : 1000 ≤ d) (h1 : d ≤ 9999) : poH s d t ≤ 1048580 := by
  have b := lg_bounds (x := d * 100000) (by omega) (by omega)
  have hl := lg_lt (x := d * 100000) (by omega) (by omega)
  have p2 := pm_bounds (t := t) h0 h1 (.inl rfl : (2 : Int) = 2 ∨ (2 : Int) = 3)
  have p3 := pm_bounds (t := t) h0 h1 (.inr rfl : (3 : Int) = 2 ∨ (3 : Int) = 3)
  have hw := lg_wide (x := d * 100000) (by omega) (by omega)
  have hc := lg_wide (x := 314200000) (by decide) (by decide)
  have c := lg_bounds (x := 314200000) (by decide) (by decide)
  have hcf : cfH d ≤ 1048580 := by unfold cfH; split <;> omega
  unfold poH
  repeat' split
  all_goals omega
theorem pl_rule {s d t l : Int} (h0 : 1000 ≤ d) (h1 : d ≤ 9999) (l0 : 1 ≤ l) (l1 : l ≤ 100000) : 0 ≤ plL s d t l ∧ plH s d t l ≤ l + 1 ∧ plL s d t l ≤ plH s d t l := by
  obtain ⟨a, b, c, e, f⟩ := po_bounds (s := s) t h0 h1
  have g := po_top (s := s) (t := t) h0 h1
  have m : poH s d t * l ≤ 1048580 * l := Int.mul_le_mul_of_nonneg_right g (by omega)
  have m2 : poL s d t * l ≤ poH s d t * l := Int.mul_le_mul_of_nonneg_right f (by omega)
  have m3 : 0 ≤ poL s d t * l := Int.mul_nonneg a (by omega)
  unfold plL plH
  omega

end Go.Proofs.Ythmmdcpodadjbaa.K
