/- Plain facts of the laws on quotients, on logarithms of products, on powers. -/
import Derived.Test.YthmmdcpodadjbaaPlain13
import Derived.Test.YthmmdcpodadjbaaPlain6
namespace Go.Proofs.Ythmmdcpodadjbaa.K
open Go.RowKit
set_option linter.unusedVariables false
set_option linter.unusedSimpArgs false

theorem two_swap {a b c d : Int} (h : twoV a b c d = true) : twoV c d a b = true := twoV_true.2 ⟨(twoV_true.1 h).2, (twoV_true.1 h).1⟩
theorem liV_cases (b : Bool) : liV b = 0 ∨ liV b = 3 := by cases b <;> simp
theorem liV_zero {b : Bool} (h : liV b = 0) : b = true := by cases b <;> simp_all
theorem piC_zero {ok : Bool} {d t : Int} (h : piC ok d t = 0) : ok = true ∧ figV d t = true := by
  cases ok
  · simp at h
  · exact ⟨rfl, liV_zero (by simpa using h)⟩
/-- the law on quotients -/
theorem qt_facts {a b c d : Int} (h : piC (twoV a b c d) (rdD a c) (rdT a c (b - d)) = 0) :
    (piC (twoV (rdD a c) (rdT a c (b - d)) c d) (rdD (rdD a c * c) 1) (rdT (rdD a c * c) 1 (rdT a c (b - d) + d - 6)) = 0 ∧ reK (rdD (rdD a c * c) 1) (rdT (rdD a c * c) 1 (rdT a c (b - d) + d - 6)) a b = 0 ∧ reN (rdD (rdD a c * c) 1) (rdT (rdD a c * c) 1 (rdT a c (b - d) + d - 6)) a b ≤ 1100) ∨
    piC (twoV (rdD a c) (rdT a c (b - d)) c d) (rdD (rdD a c * c) 1) (rdT (rdD a c * c) 1 (rdT a c (b - d) + d - 6)) = 3 := by
  obtain ⟨hv, hq⟩ := piC_zero h
  obtain ⟨h1, h2⟩ := twoV_true.1 hv
  obtain ⟨a0, a1, _, _⟩ := figV_true.1 h1
  obtain ⟨c0, c1, _, _⟩ := figV_true.1 h2
  rw [twoV_true.2 ⟨hq, h2⟩, piC_true]
  have n := quot_back (b := b) (d := d) a0 a1 c0 c1
  cases hf : figV (rdD (rdD a c * c) 1) (rdT (rdD a c * c) 1 (rdT a c (b - d) + d - 6))
  · exact .inr rfl
  · refine .inl ⟨rfl, ?_, n⟩
    unfold reK
    rw [twoV_true.2 ⟨hf, h1⟩, if_pos rfl]
    unfold reC
    rw [if_neg (by omega)]
/-- comparing back -/
theorem cm_back {a b c d : Int} (h : twoV a b c d = true) : ioV (twoV a b c d) = 0 ∧ ioV (twoV c d a b) = 0 ∧ IntKind.i64.wrap (-(cmV a b c d)) = cmV c d a b ∧ (cmV a b c d = 0 ↔ a = c ∧ b = d) := by
  have h' := two_swap h
  have e1 : cmV a b c d = cpV a b c d := by unfold cmV; rw [h, if_pos rfl]
  have e2 : cmV c d a b = cpV c d a b := by unfold cmV; rw [h', if_pos rfl]
  have hb : -1 ≤ cpV a b c d ∧ cpV a b c d ≤ 1 := by unfold cpV sgV; repeat (split <;> try omega)
  refine ⟨by rw [h]; rfl, by rw [h']; rfl, ?_, ?_⟩
  · rw [e1, e2, cp_anti (a := a)]; exact IntWalk.i64_in _ (by omega)
  · rw [e1]; exact cp_zero
/-- the law on the logarithms of products: sums and back -/
theorem lmV_zero {ok : Bool} {x y : Int} (h : lmV ok x y = 0) : ok = true ∧ isV x = true ∧ isV y = true := by
  unfold lmV at h
  cases ok
  · simp at h
  · cases h1 : isV x <;> cases h2 : isV y <;> simp [h1, h2] at h ⊢
theorem lmV_cases {x y : Int} : lmV true x y = 0 ∨ lmV true x y = 3 := by
  unfold lmV
  cases h1 : isV x <;> cases h2 : isV y <;> simp [h1, h2]
theorem lg_back {a b c d : Int} (h : lmV (ivV a b && ivV c d) (a + c) (b + d) = 0) :
    (lmV (ivV (a + c) (b + d) && ivV c d) (a + c - d) (b + d - c) = 0 ∨ lmV (ivV (a + c) (b + d) && ivV c d) (a + c - d) (b + d - c) = 3) ∧ a + c - d ≤ a ∧ b ≤ b + d - c := by
  obtain ⟨hv, h1, h2⟩ := lmV_zero h
  obtain ⟨i1, i2⟩ := Bool.and_eq_true_iff.1 hv
  have k1 := (ivV_true.1 i1).2.2
  have k2 := (ivV_true.1 i2).2.2
  rw [i2, ivV_true.2 ⟨h1, h2, by omega⟩]
  exact ⟨lmV_cases, by omega, by omega⟩
theorem lp_facts {a b c d : Int} (h : piC (twoV a b c d) (rdD (a * c) 1) (rdT (a * c) 1 (b + d - 6)) = 0) :
    ioV (figV a b) = 0 ∧ ioV (figV c d) = 0 ∧ ioV (figV (rdD (a * c) 1) (rdT (a * c) 1 (b + d - 6))) = 0 ∧ lmV (ivV (fgL a b) (fgH a b) && ivV (fgL c d) (fgH c d)) (fgL a b + fgL c d) (fgH a b + fgH c d) = 0 ∧
    IntKind.i64.wrap (fgL (rdD (a * c) 1) (rdT (a * c) 1 (b + d - 6)) - (fgH a b + fgH c d)) = fgL (rdD (a * c) 1) (rdT (a * c) 1 (b + d - 6)) - (fgH a b + fgH c d) ∧
    IntKind.i64.wrap (fgL a b + fgL c d - fgH (rdD (a * c) 1) (rdT (a * c) 1 (b + d - 6))) = fgL a b + fgL c d - fgH (rdD (a * c) 1) (rdT (a * c) 1 (b + d - 6)) ∧
    fgL (rdD (a * c) 1) (rdT (a * c) 1 (b + d - 6)) - (fgH a b + fgH c d) ≤ 229 ∧ fgL a b + fgL c d - fgH (rdD (a * c) 1) (rdT (a * c) 1 (b + d - 6)) ≤ 229 := by
  obtain ⟨hv, hp⟩ := piC_zero h
  obtain ⟨h1, h2⟩ := twoV_true.1 hv
  obtain ⟨a0, a1, b0, b1⟩ := figV_true.1 h1
  obtain ⟨c0, c1, d0, d1⟩ := figV_true.1 h2
  obtain ⟨p0, p1, q0, q1⟩ := figV_true.1 hp
  obtain ⟨g1, g2⟩ := prod_logs (b := b) (d := d) a0 a1 c0 c1
  generalize rdD (a * c) 1 = P at *
  generalize rdT (a * c) 1 (b + d - 6) = T at *
  obtain ⟨x0, x1, x2, x3⟩ := fg_bounds (d := a) (t := b) a0 a1 (by omega) (by omega)
  obtain ⟨y0, y1, y2, y3⟩ := fg_bounds (d := c) (t := d) c0 c1 (by omega) (by omega)
  obtain ⟨z0, z1, z2, z3⟩ := fg_bounds (d := P) (t := T) p0 p1 (by omega) (by omega)
  have l1 := fg_lt (t := b) a0 a1
  have l2 := fg_lt (t := d) c0 c1
  refine ⟨by rw [h1]; rfl, by rw [h2]; rfl, by rw [hp]; rfl, ?_, IntWalk.i64_in _ (by omega), IntWalk.i64_in _ (by omega), by omega, by omega⟩
  rw [ivV_true.2 ⟨isV_true.2 (by omega), isV_true.2 (by omega), by omega⟩, ivV_true.2 ⟨isV_true.2 (by omega), isV_true.2 (by omega), by omega⟩]
  show (if (isV _ && isV _) = true then (0 : Int) else 3) = 0
  rw [if_pos (by rw [isV_true.2 (by omega), isV_true.2 (by omega)]; rfl)]
/-- the law on powers -/
theorem se_facts {a b c d : Int} (h : seK a b c d = 0) : reK c d a b = 0 := by
  unfold seK at h
  cases hv : twoV a b c d
  · rw [hv] at h; simp at h
  · rw [hv, if_pos rfl] at h
    unfold reK
    rw [two_swap hv, if_pos rfl]
    split at h
    · omega
    · exact h
theorem spC_zero {lo hi : Int} (h : spC lo hi = 0) : unB lo = true ∧ unB hi = true ∧ figV (bwD lo) (bwT lo) = true ∧ figV (abD hi) (abT hi) = true := by
  unfold spC at h
  cases h1 : unB lo <;> cases h2 : unB hi <;> cases h3 : bwB lo <;> cases h4 : abB hi <;> simp [h1, h2, h3, h4] at h ⊢
  exact ⟨h3, h4⟩
theorem pwC_zero {a t n d : Int} (h : pwC a t n d = 0) : figV a t = true ∧ -12 ≤ n ∧ n ≤ 12 ∧ 1 ≤ d ∧ d ≤ 12 ∧ spC (slL (fgL a t) (fgH a t) n d) (slH (fgL a t) (fgH a t) n d) = 0 := by
  unfold pwC at h
  cases h1 : figV a t
  · rw [h1] at h; simp at h
  · cases h2 : inB n (-12) 12
    · rw [h1, h2] at h; simp at h
    · cases h3 : inB d 1 12
      · rw [h1, h2, h3] at h; simp at h
      · rw [h1, h2, h3] at h
        have k2 := inB_true.1 h2
        have k3 := inB_true.1 h3
        exact ⟨rfl, k2.1, k2.2, k3.1, k3.2, by simpa using h⟩
theorem fg_lu {u v : Int} (hu : unB u = true) (hv : unB v = true) (h : u ≤ v) : fgL (bwD u) (bwT u) ≤ fgL (abD v) (abT v) ∧ fgH (bwD u) (bwT u) ≤ fgH (abD v) (abT v) := fg_at_mono (Int.le_of_lt (first_lt hu hv h))
theorem fl_mono {a b d : Int} (hd : 1 ≤ d) (h : a ≤ b) : a / d ≤ b / d := Int.ediv_le_ediv (by omega) h
theorem ce_mono {a b d : Int} (hd : 1 ≤ d) (h : a ≤ b) : -((-a) / d) ≤ -((-b) / d) := by
  have := fl_mono hd (show -b ≤ -a by omega)
  omega
/-- the spans of the ends of a span, and the figure -/
theorem pw_facts {a t n d lo hi : Int} (hn : 1 ≤ n) (h : pwC a t n d = 0) (elo : slL (fgL a t) (fgH a t) n d = lo) (ehi : slH (fgL a t) (fgH a t) n d = hi)
    (h1 : pwC (bwD lo) (bwT lo) d n = 0) (h2 : pwC (abD hi) (abT hi) d n = 0) :
    twoV (bwD (slL (fgL (bwD lo) (bwT lo)) (fgH (bwD lo) (bwT lo)) d n)) (bwT (slL (fgL (bwD lo) (bwT lo)) (fgH (bwD lo) (bwT lo)) d n)) (abD (slH (fgL (bwD lo) (bwT lo)) (fgH (bwD lo) (bwT lo)) d n)) (abT (slH (fgL (bwD lo) (bwT lo)) (fgH (bwD lo) (bwT lo)) d n)) = true ∧
    twoV (abD (slH (fgL (bwD lo) (bwT lo)) (fgH (bwD lo) (bwT lo)) d n)) (abT (slH (fgL (bwD lo) (bwT lo)) (fgH (bwD lo) (bwT lo)) d n)) (abD (slH (fgL (abD hi) (abT hi)) (fgH (abD hi) (abT hi)) d n)) (abT (slH (fgL (abD hi) (abT hi)) (fgH (abD hi) (abT hi)) d n)) = true ∧
    twoV (bwD (slL (fgL (bwD lo) (bwT lo)) (fgH (bwD lo) (bwT lo)) d n)) (bwT (slL (fgL (bwD lo) (bwT lo)) (fgH (bwD lo) (bwT lo)) d n)) (bwD (slL (fgL (abD hi) (abT hi)) (fgH (abD hi) (abT hi)) d n)) (bwT (slL (fgL (abD hi) (abT hi)) (fgH (abD hi) (abT hi)) d n)) = true ∧
    twoV (bwD (slL (fgL (abD hi) (abT hi)) (fgH (abD hi) (abT hi)) d n)) (bwT (slL (fgL (abD hi) (abT hi)) (fgH (abD hi) (abT hi)) d n)) (abD (slH (fgL (abD hi) (abT hi)) (fgH (abD hi) (abT hi)) d n)) (abT (slH (fgL (abD hi) (abT hi)) (fgH (abD hi) (abT hi)) d n)) = true ∧
    twoV (bwD (slL (fgL (bwD lo) (bwT lo)) (fgH (bwD lo) (bwT lo)) d n)) (bwT (slL (fgL (bwD lo) (bwT lo)) (fgH (bwD lo) (bwT lo)) d n)) a t = true ∧
    twoV a t (abD (slH (fgL (abD hi) (abT hi)) (fgH (abD hi) (abT hi)) d n)) (abT (slH (fgL (abD hi) (abT hi)) (fgH (abD hi) (abT hi)) d n)) = true ∧
    cpV (bwD (slL (fgL (bwD lo) (bwT lo)) (fgH (bwD lo) (bwT lo)) d n)) (bwT (slL (fgL (bwD lo) (bwT lo)) (fgH (bwD lo) (bwT lo)) d n)) (abD (slH (fgL (bwD lo) (bwT lo)) (fgH (bwD lo) (bwT lo)) d n)) (abT (slH (fgL (bwD lo) (bwT lo)) (fgH (bwD lo) (bwT lo)) d n)) ≤ 0 ∧
    cpV (abD (slH (fgL (bwD lo) (bwT lo)) (fgH (bwD lo) (bwT lo)) d n)) (abT (slH (fgL (bwD lo) (bwT lo)) (fgH (bwD lo) (bwT lo)) d n)) (abD (slH (fgL (abD hi) (abT hi)) (fgH (abD hi) (abT hi)) d n)) (abT (slH (fgL (abD hi) (abT hi)) (fgH (abD hi) (abT hi)) d n)) ≤ 0 ∧
    cpV (bwD (slL (fgL (bwD lo) (bwT lo)) (fgH (bwD lo) (bwT lo)) d n)) (bwT (slL (fgL (bwD lo) (bwT lo)) (fgH (bwD lo) (bwT lo)) d n)) (bwD (slL (fgL (abD hi) (abT hi)) (fgH (abD hi) (abT hi)) d n)) (bwT (slL (fgL (abD hi) (abT hi)) (fgH (abD hi) (abT hi)) d n)) ≤ 0 ∧
    cpV (bwD (slL (fgL (abD hi) (abT hi)) (fgH (abD hi) (abT hi)) d n)) (bwT (slL (fgL (abD hi) (abT hi)) (fgH (abD hi) (abT hi)) d n)) (abD (slH (fgL (abD hi) (abT hi)) (fgH (abD hi) (abT hi)) d n)) (abT (slH (fgL (abD hi) (abT hi)) (fgH (abD hi) (abT hi)) d n)) ≤ 0 ∧
    cpV (bwD (slL (fgL (bwD lo) (bwT lo)) (fgH (bwD lo) (bwT lo)) d n)) (bwT (slL (fgL (bwD lo) (bwT lo)) (fgH (bwD lo) (bwT lo)) d n)) a t ≤ 0 ∧
    cpV a t (abD (slH (fgL (abD hi) (abT hi)) (fgH (abD hi) (abT hi)) d n)) (abT (slH (fgL (abD hi) (abT hi)) (fgH (abD hi) (abT hi)) d n)) ≤ 0 := by
  obtain ⟨hf, n0, n1, d0, d1, hs⟩ := pwC_zero h
  obtain ⟨hf1, _, _, _, _, hs1⟩ := pwC_zero h1
  obtain ⟨hf2, _, _, _, _, hs2⟩ := pwC_zero h2
  obtain ⟨a0, a1, t0, t1⟩ := figV_true.1 hf
  have la := fg_lt (t := t) a0 a1
  obtain ⟨e1, e2⟩ := sl_pos (d := d) hn (Int.le_of_lt la)
  obtain ⟨ul, uh, fl, fh⟩ := spC_zero hs
  have bl := (ho_below ul).1
  have bh := (ho_above uh).1
  have hle : slL (fgL a t) (fgH a t) n d ≤ slH (fgL a t) (fgH a t) n d := slL_le_slH _ _ _ d0
  obtain ⟨m1, m2⟩ := fg_lu ul uh hle
  have w1 := fl_mul (fgL a t * n) d0
  have w2 := ce_mul (fgH a t * n) d0
  rw [← e1] at w1
  rw [← e2] at w2
  rw [elo] at ul bl hle m1 m2 w1
  rw [ehi] at uh bh hle m1 m2 w2
  obtain ⟨x00, x01, _, _⟩ := figV_true.1 hf1
  obtain ⟨y00, y01, _, _⟩ := figV_true.1 hf2
  have lx := fg_lt (t := bwT lo) x00 x01
  have ly := fg_lt (t := abT hi) y00 y01
  obtain ⟨p1, p2⟩ := sl_pos (d := n) d0 (Int.le_of_lt lx)
  obtain ⟨q1, q2⟩ := sl_pos (d := n) d0 (Int.le_of_lt ly)
  obtain ⟨s1, s2, s3, s4⟩ := spC_zero hs1
  obtain ⟨r1, r2, r3, r4⟩ := spC_zero hs2
  have k1 : slL (fgL (bwD lo) (bwT lo)) (fgH (bwD lo) (bwT lo)) d n ≤ slH (fgL (bwD lo) (bwT lo)) (fgH (bwD lo) (bwT lo)) d n := slL_le_slH _ _ _ hn
  have k2 : slL (fgL (abD hi) (abT hi)) (fgH (abD hi) (abT hi)) d n ≤ slH (fgL (abD hi) (abT hi)) (fgH (abD hi) (abT hi)) d n := slL_le_slH _ _ _ hn
  have k3 : slL (fgL (bwD lo) (bwT lo)) (fgH (bwD lo) (bwT lo)) d n ≤ slL (fgL (abD hi) (abT hi)) (fgH (abD hi) (abT hi)) d n := by
    rw [p1, q1]; exact fl_mono hn (Int.mul_le_mul_of_nonneg_right m1 (by omega))
  have k4 : slH (fgL (bwD lo) (bwT lo)) (fgH (bwD lo) (bwT lo)) d n ≤ slH (fgL (abD hi) (abT hi)) (fgH (abD hi) (abT hi)) d n := by
    rw [p2, q2]; exact ce_mono hn (Int.mul_le_mul_of_nonneg_right m2 (by omega))
  have k5 : slL (fgL (bwD lo) (bwT lo)) (fgH (bwD lo) (bwT lo)) d n < fgH a t := by
    rw [p1]
    have : fgL (bwD lo) (bwT lo) * d / n ≤ fgL a t := fl_le hn (Int.le_trans (Int.mul_le_mul_of_nonneg_right (show fgL (bwD lo) (bwT lo) ≤ lo by omega) (by omega)) w1)
    omega
  have k6 : fgL a t < slH (fgL (abD hi) (abT hi)) (fgH (abD hi) (abT hi)) d n := by
    rw [q2]
    have : fgH a t ≤ -((-(fgH (abD hi) (abT hi) * d)) / n) := ce_ge hn (Int.le_trans w2 (Int.mul_le_mul_of_nonneg_right (show hi ≤ fgH (abD hi) (abT hi) by omega) (by omega)))
    omega
  refine ⟨twoV_true.2 ⟨s3, s4⟩, twoV_true.2 ⟨s4, r4⟩, twoV_true.2 ⟨s3, r3⟩, twoV_true.2 ⟨r3, r4⟩, twoV_true.2 ⟨s3, hf⟩, twoV_true.2 ⟨hf, r4⟩, bw_ab s1 s2 k1, ab_ab s2 r2 k4, bw_bw s1 r1 k3, bw_ab r1 r2 k2, bw_fig s1 a0 a1 k5, ab_fig r2 a0 a1 k6⟩
end Go.Proofs.Ythmmdcpodadjbaa.K
