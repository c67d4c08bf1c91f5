/- Plain facts for the laws of chapters 1 to 4: fractions, products, quotients, spans. No program in sight. -/
import Derived.Test.YthmmdcpodadjbaaPlain9
import Derived.Test.YthmmdcpodadjbaaPlain4
namespace Go.Proofs.Ythmmdcpodadjbaa.K
set_option linter.unusedVariables false
set_option linter.unusedSimpArgs false

/-- fractions -/
theorem frac {a b : Int} (hb : 1 ≤ b) :
    -((-a) / b) - a / b ≤ 1 ∧ a / b * b ≤ a ∧ a ≤ -((-a) / b) * b ∧ ((2 * a + b) / (2 * b) = a / b ∨ (2 * a + b) / (2 * b) = -((-a) / b)) ∧
    2 * ((2 * a + b) / (2 * b) * b - a) ≤ b ∧ 2 * (a - (2 * a + b) / (2 * b) * b) < b := by
  have e1 := Int.mul_ediv_add_emod a b
  have r0 := Int.emod_nonneg a (show b ≠ 0 by omega)
  have r1 := Int.emod_lt_of_pos a (show 0 < b by omega)
  have e2 := Int.mul_ediv_add_emod (-a) b
  have s0 := Int.emod_nonneg (-a) (show b ≠ 0 by omega)
  have s1 := Int.emod_lt_of_pos (-a) (show 0 < b by omega)
  have e3 := Int.mul_ediv_add_emod (2 * a + b) (2 * b)
  have t0 := Int.emod_nonneg (2 * a + b) (show 2 * b ≠ 0 by omega)
  have t1 := Int.emod_lt_of_pos (2 * a + b) (show 0 < 2 * b by omega)
  generalize hx : a / b = x at *
  generalize hy : (-a) / b = y at *
  generalize hn : (2 * a + b) / (2 * b) = n at *
  generalize a % b = r at *
  generalize (-a) % b = s at *
  generalize (2 * a + b) % (2 * b) = t at *
  rw [Int.mul_assoc] at e3
  have c1 : b * x = x * b := Int.mul_comm _ _
  have c2 : b * y = y * b := Int.mul_comm _ _
  have c3 : b * n = n * b := Int.mul_comm _ _
  have hxy : -y - x ≤ 1 := by
    rcases Int.lt_or_le 1 (-y - x) with k | k
    · have : 2 * b ≤ (-y - x) * b := Int.mul_le_mul_of_nonneg_right (by omega) (by omega)
      rw [Int.sub_mul, Int.neg_mul] at this
      omega
    · exact k
  have hxy0 : 0 ≤ -y - x := by
    rcases Int.lt_or_le (-y - x) 0 with k | k
    · have : (-y - x) * b ≤ (-1) * b := Int.mul_le_mul_of_nonneg_right (by omega) (by omega)
      rw [Int.sub_mul, Int.neg_mul] at this
      omega
    · exact k
  have hn1 : n ≤ x + 1 := by
    rcases Int.lt_or_le (x + 1) n with k | k
    · have : (x + 2) * b ≤ n * b := Int.mul_le_mul_of_nonneg_right (by omega) (by omega)
      rw [Int.add_mul] at this
      omega
    · exact k
  have hn0 : x ≤ n := by
    rcases Int.lt_or_le n x with k | k
    · have : n * b ≤ (x - 1) * b := Int.mul_le_mul_of_nonneg_right (by omega) (by omega)
      rw [Int.sub_mul] at this
      omega
    · exact k
  have hny : n = x ∨ n = -y := by
    by_cases k : n = x
    · exact .inl k
    · right
      have hnx : n = x + 1 := by omega
      subst hnx
      rw [Int.add_mul] at *
      by_cases k2 : -y = x
      · exfalso
        have : y * b = -(x * b) := by rw [← Int.neg_mul, ← k2, Int.neg_neg]
        omega
      · omega
  refine ⟨hxy, by omega, ?_, hny, ?_, ?_⟩
  · rw [Int.neg_mul]; omega
  · omega
  · omega
/-- all that the law on fractions asks -/
def FracOk (A B X Y N : Int) : Prop := -1000000000000 ≤ X ∧ X ≤ 1000000000000 ∧ -1000000000000 ≤ Y ∧ Y ≤ 1000000000000 ∧ -3000000000000 ≤ X * B ∧ X * B ≤ 3000000000000 ∧ -3000000000000 ≤ Y * B ∧ Y * B ≤ 3000000000000 ∧ -3000000000000 ≤ N * B ∧ N * B ≤ 3000000000000 ∧
  Y - X ≤ 1 ∧ X * B ≤ A ∧ A ≤ Y * B ∧ (N = X ∨ N = Y) ∧ 2 * (N * B - A) ≤ B ∧ 2 * (A - N * B) < B
theorem frac_ok {A B : Int} (hB : 1 ≤ B) (hB2 : B ≤ 1000000000000) (a0 : -1000000000000 ≤ A) (a1 : A ≤ 1000000000000) : FracOk A B (A / B) (-((-A) / B)) ((2 * A + B) / (2 * B)) := by
  obtain ⟨h1, h2, h3, h4, h5, h6⟩ := frac (a := A) hB
  have x := div_bounds (a := A) hB 1000000000000 (by omega) a0 a1
  have y := div_bounds (a := -A) hB 1000000000000 (by omega) (by omega) (by omega)
  have m : -((-A) / B) * B ≤ (A / B + 1) * B := Int.mul_le_mul_of_nonneg_right (by omega) (by omega)
  rw [Int.add_mul, Int.one_mul] at m
  refine ⟨x.1, x.2, by omega, by omega, by omega, by omega, by omega, by omega, ?_, ?_, h1, h2, h3, h4, h5, h6⟩
  · omega
  · omega
theorem frac_cases (x y : Int) : codeV x y ≠ 0 ∨ (codeV x y = 0 ∧ -1000000000000 ≤ x ∧ x ≤ 1000000000000 ∧ -1000000000000 ≤ y ∧ y < 0 ∧ FracOk (-x) (-y) (ddV x y) (duV x y) (dnV x y)) ∨ (codeV x y = 0 ∧ -1000000000000 ≤ x ∧ x ≤ 1000000000000 ∧ 0 < y ∧ y ≤ 1000000000000 ∧ FracOk x y (ddV x y) (duV x y) (dnV x y)) := by
  by_cases hc : codeV x y = 0
  · obtain ⟨a1, a2, b1, b2, hb0⟩ := codeV_zero hc
    rcases Int.lt_or_lt_of_ne hb0 with hb | hb
    · refine .inr (.inl ⟨hc, a1, a2, b1, hb, ?_⟩)
      rw [← ddV_n hc hb, ← duV_n hc hb, ← dnV_n hc hb, flo_neg hb, flo_neg hb]
      exact frac_ok (by omega) (by omega) (by omega) (by omega)
    · refine .inr (.inr ⟨hc, a1, a2, hb, b2, ?_⟩)
      rw [← ddV_p hc hb, ← duV_p hc hb, ← dnV_p hc hb]
      exact frac_ok (by omega) (by omega) (by omega) (by omega)
  · exact .inl hc
/-- how far the digits of a product are shifted: the result of rounding -/
theorem pow_int_mono {i j : Nat} (h : i ≤ j) : (10 : Int) ^ i ≤ 10 ^ j := by
  have := Nat.pow_le_pow_right (show 10 > 0 by decide) h
  exact_mod_cast this
theorem rd_prod {n : Int} (t : Int) (h0 : 1000000 ≤ n) (h1 : n ≤ 99999999) :
    (n < 10000000 → rN n 1 = n ∧ rD n 1 = 1000 ∧ rT n 1 t = t + 3) ∧ (10000000 ≤ n → rN n 1 = n ∧ rD n 1 = 10000 ∧ rT n 1 t = t + 4) := by
  rcases r_spec (n := n) (d := 1) t (by omega) (by omega) (by omega) (by omega) with ⟨j, hj, e1, e2, e3, e4, e5⟩ | ⟨j, hj, e1, e2, e3, e4, e5⟩
  · rw [Int.one_mul] at e2
    rw [e2, e1] at e4 e5
    have hj3 : 3 ≤ j := by
      rcases Nat.lt_or_ge j 3 with k | k
      · have := pow_int_mono (show j ≤ 2 by omega)
        rw [show (10 : Int) ^ 2 = 100 by decide] at this; omega
      · exact k
    have hj4 : j ≤ 4 := by
      rcases Nat.lt_or_ge 4 j with k | k
      · have := pow_int_mono (show 5 ≤ j by omega)
        rw [show (10 : Int) ^ 5 = 100000 by decide] at this; omega
      · exact k
    have hj' : j = 3 ∨ j = 4 := by omega
    rcases hj' with rfl | rfl
    · rw [show (10 : Int) ^ 3 = 1000 by decide] at *
      exact ⟨fun _ => ⟨e1, e2, e3⟩, fun k => by omega⟩
    · rw [show (10 : Int) ^ 4 = 10000 by decide] at *
      exact ⟨fun k => by omega, fun _ => ⟨e1, e2, e3⟩⟩
  · exfalso
    rw [e2] at e4 e5
    have := pow_int_mono (show 0 ≤ j by omega)
    rw [show (10 : Int) ^ 0 = 1 by decide] at this
    have hm : n * 1 ≤ n * 10 ^ j := Int.mul_le_mul_of_nonneg_left this (by omega)
    omega
theorem rd_quot {n d : Int} (t : Int) (n0 : 1000 ≤ n) (n1 : n ≤ 9999) (d0 : 1000 ≤ d) (d1 : d ≤ 9999) :
    (d ≤ n → rN n d = n * 1000 ∧ rD n d = d ∧ rT n d t = t - 3) ∧ (n < d → rN n d = n * 10000 ∧ rD n d = d ∧ rT n d t = t - 4) := by
  rcases r_spec (n := n) (d := d) t (by omega) (by omega) (by omega) (by omega) with ⟨j, hj, e1, e2, e3, e4, e5⟩ | ⟨j, hj, e1, e2, e3, e4, e5⟩
  · exfalso
    rw [e2, e1] at e4
    have := pow_int_mono (show 0 ≤ j by omega)
    rw [show (10 : Int) ^ 0 = 1 by decide] at this
    have hm : d * 1 ≤ d * 10 ^ j := Int.mul_le_mul_of_nonneg_left this (by omega)
    omega
  · rw [e2, e1] at e4 e5
    have hj3 : 3 ≤ j := by
      rcases Nat.lt_or_ge j 3 with k | k
      · have := pow_int_mono (show j ≤ 2 by omega)
        rw [show (10 : Int) ^ 2 = 100 by decide] at this
        have hm : n * 10 ^ j ≤ n * 100 := Int.mul_le_mul_of_nonneg_left this (by omega)
        omega
      · exact k
    have hj4 : j ≤ 4 := by
      rcases Nat.lt_or_ge 4 j with k | k
      · have := pow_int_mono (show 5 ≤ j by omega)
        rw [show (10 : Int) ^ 5 = 100000 by decide] at this
        have hm : n * 100000 ≤ n * 10 ^ j := Int.mul_le_mul_of_nonneg_left this (by omega)
        omega
      · exact k
    have hj' : j = 3 ∨ j = 4 := by omega
    rcases hj' with rfl | rfl
    · rw [show (10 : Int) ^ 3 = 1000 by decide] at *
      exact ⟨fun _ => ⟨e1, e2, e3⟩, fun k => by omega⟩
    · rw [show (10 : Int) ^ 4 = 10000 by decide] at *
      exact ⟨fun k => by omega, fun _ => ⟨e1, e2, e3⟩⟩
theorem prod_bounds {a c : Int} (a0 : 1000 ≤ a) (a1 : a ≤ 9999) (c0 : 1000 ≤ c) (c1 : c ≤ 9999) : 1000000 ≤ a * c ∧ a * c ≤ 99980001 :=
  ⟨by have := Int.mul_le_mul a0 c0 (by omega) (by omega); omega, by have := Int.mul_le_mul a1 c1 (by omega) (by omega); omega⟩
/-- the rounded product: digits and tens, in two cases -/
theorem prod_cases {n : Int} (s : Int) (h0 : 1000000 ≤ n) (h1 : n ≤ 99980001) :
    (n < 10000000 ∧ rdQ n 1 = (2 * n + 1000) / 2000 ∧ rdQ n 1 < 10000 ∧ rdD n 1 = rdQ n 1 ∧ rdT n 1 (s - 6) = s) ∨
    (n < 10000000 ∧ rdQ n 1 = (2 * n + 1000) / 2000 ∧ rdQ n 1 = 10000 ∧ rdD n 1 = 1000 ∧ rdT n 1 (s - 6) = s + 1) ∨
    (10000000 ≤ n ∧ rdQ n 1 = (2 * n + 10000) / 20000 ∧ rdQ n 1 < 10000 ∧ rdD n 1 = rdQ n 1 ∧ rdT n 1 (s - 6) = s + 1) := by
  obtain ⟨p, q⟩ := rd_prod (n := n) (s - 6 + 3) h0 (by omega)
  have hq : rdQ n 1 = (2 * rN n 1 + rD n 1) / (2 * rD n 1) := rfl
  by_cases k : n < 10000000
  · obtain ⟨e1, e2, e3⟩ := p k
    rw [e1, e2, show (2 : Int) * 1000 = 2000 by decide] at hq
    by_cases k2 : rdQ n 1 = 10000
    · refine .inr (.inl ⟨k, hq, k2, ?_, ?_⟩)
      · unfold rdD; rw [if_pos k2]
      · unfold rdT; rw [if_pos k2, e3]; omega
    · refine .inl ⟨k, hq, by omega, ?_, ?_⟩
      · unfold rdD; rw [if_neg k2]
      · unfold rdT; rw [if_neg k2, e3]; omega
  · obtain ⟨e1, e2, e3⟩ := q (by omega)
    rw [e1, e2, show (2 : Int) * 10000 = 20000 by decide] at hq
    have k2 : rdQ n 1 ≠ 10000 := by omega
    refine .inr (.inr ⟨by omega, hq, by omega, ?_, ?_⟩)
    · unfold rdD; rw [if_neg k2]
    · unfold rdT; rw [if_neg k2, e3]; omega
/-- the rounded quotient -/
theorem quot_cases {n d : Int} (s : Int) (n0 : 1000 ≤ n) (n1 : n ≤ 9999) (d0 : 1000 ≤ d) (d1 : d ≤ 9999) :
    (d ≤ n ∧ rdQ n d = (2 * (n * 1000) + d) / (2 * d) ∧ 1000 ≤ rdQ n d ∧ rdQ n d < 10000 ∧ rdD n d = rdQ n d ∧ rdT n d s = s) ∨
    (n < d ∧ rdQ n d = (2 * (n * 10000) + d) / (2 * d) ∧ 1000 ≤ rdQ n d ∧ rdQ n d < 10000 ∧ rdD n d = rdQ n d ∧ rdT n d s = s - 1) := by
  obtain ⟨p, q⟩ := rd_quot (n := n) (d := d) (s + 3) n0 n1 d0 d1
  have hq : rdQ n d = (2 * rN n d + rD n d) / (2 * rD n d) := rfl
  have hb := rdQ_bounds (n := n) (d := d) (by omega) (by omega) (by omega) (by omega)
  have hlt : ∀ m : Int, 2 * m + d < 20000 * d → (2 * m + d) / (2 * d) < 10000 := fun m h => (Int.ediv_lt_iff_lt_mul (by omega)).2 (by omega)
  by_cases k : d ≤ n
  · obtain ⟨e1, e2, e3⟩ := p k
    rw [e1, e2] at hq
    have k2 : rdQ n d < 10000 := by rw [hq]; exact hlt _ (by omega)
    refine .inl ⟨k, hq, hb.1, k2, ?_, ?_⟩
    · unfold rdD; rw [if_neg (by omega)]
    · unfold rdT; rw [if_neg (by omega), e3]; omega
  · obtain ⟨e1, e2, e3⟩ := q (by omega)
    rw [e1, e2] at hq
    have k2 : rdQ n d < 10000 := by rw [hq]; exact hlt _ (by omega)
    refine .inr ⟨by omega, hq, hb.1, k2, ?_, ?_⟩
    · unfold rdD; rw [if_neg (by omega)]
    · unfold rdT; rw [if_neg (by omega), e3]; omega
/-- comparing -/
theorem cp_le {a b c d : Int} : cpV a b c d ≤ 0 ↔ b < d ∨ (b = d ∧ a ≤ c) := by
  unfold cpV sgV
  by_cases h1 : b < d
  · rw [if_pos h1]; simp [h1]
  · by_cases h2 : d < b
    · rw [if_neg h1, if_pos h2]; simp; omega
    · rw [if_neg h1, if_neg h2]; simp
      by_cases h3 : a < c
      · rw [if_pos h3]; omega
      · rw [if_neg h3]
        by_cases h4 : c < a
        · rw [if_pos h4]; omega
        · rw [if_neg h4]; omega
theorem cp_anti {a b c d : Int} : cpV c d a b = -(cpV a b c d) := by
  unfold cpV sgV
  repeat (split <;> try omega)
theorem cp_zero {a b c d : Int} : cpV a b c d = 0 ↔ a = c ∧ b = d := by
  unfold cpV sgV
  repeat (split <;> try omega)
theorem near_ge {x m u : Int} (hu : 1 ≤ u) (h : x * u ≤ m) : x ≤ (2 * m + u) / (2 * u) := by
  refine (Int.le_ediv_iff_mul_le (by omega)).2 ?_
  rw [Int.mul_left_comm]; omega
theorem near_le {x m u : Int} (hu : 1 ≤ u) (h : m ≤ x * u) : (2 * m + u) / (2 * u) ≤ x := by
  have : (2 * m + u) / (2 * u) < x + 1 := (Int.ediv_lt_iff_lt_mul (by omega)).2 (by rw [Int.add_mul, Int.mul_left_comm]; omega)
  omega
/-- a figure whose logarithm lies below that of a product lies below the product -/
theorem prod_ge {x t a b c d : Int} (x0 : 1000 ≤ x) (x1 : x ≤ 9999) (a0 : 1000 ≤ a) (a1 : a ≤ 9999) (c0 : 1000 ≤ c) (c1 : c ≤ 9999)
    (h : fgH x t ≤ fgL a b + fgL c d) : t < rdT (a * c) 1 (b + d - 6) ∨ (t = rdT (a * c) 1 (b + d - 6) ∧ x ≤ rdD (a * c) 1) := by
  unfold fgH fgL at h
  have bx := lg_bounds (x := x * 100000) (by omega) (by omega)
  have ba := lg_bounds (x := a * 100000) (by omega) (by omega)
  have bc := lg_bounds (x := c * 100000) (by omega) (by omega)
  obtain ⟨n0, n1⟩ := prod_bounds a0 a1 c0 c1
  have ht : t ≤ b + d + 1 := by omega
  have k0 : t = b + d → x * 1000 ≤ a * c := fun e => by
    have := log_mul 0 x0 x1 a0 a1 c0 c1 (by simp; omega)
    simpa using this
  have k1 : t = b + d + 1 → x * 10000 ≤ a * c := fun e => by
    have := log_mul 1 x0 x1 a0 a1 c0 c1 (by simp; omega)
    simpa using this
  rcases prod_cases (b + d) n0 n1 with ⟨h1, h2, h3, h4, h5⟩ | ⟨h1, h2, h3, h4, h5⟩ | ⟨h1, h2, h3, h4, h5⟩
  · rw [h4, h5, h2]; omega
  · rw [h4, h5]; omega
  · rw [h4, h5, h2]; omega
theorem prod_le {x t a b c d : Int} (x0 : 1000 ≤ x) (x1 : x ≤ 9999) (a0 : 1000 ≤ a) (a1 : a ≤ 9999) (c0 : 1000 ≤ c) (c1 : c ≤ 9999)
    (h : fgH a b + fgH c d ≤ fgL x t) : rdT (a * c) 1 (b + d - 6) < t ∨ (rdT (a * c) 1 (b + d - 6) = t ∧ rdD (a * c) 1 ≤ x) := by
  unfold fgH fgL at h
  have bx := lg_bounds (x := x * 100000) (by omega) (by omega)
  have ba := lg_bounds (x := a * 100000) (by omega) (by omega)
  have bc := lg_bounds (x := c * 100000) (by omega) (by omega)
  obtain ⟨n0, n1⟩ := prod_bounds a0 a1 c0 c1
  have ht : b + d ≤ t := by omega
  have k0 : t = b + d → a * c ≤ x * 1000 := fun e => by
    have := mul_log 0 a0 a1 c0 c1 x0 x1 (by simp; omega)
    simpa using this
  have k1 : t = b + d + 1 → a * c ≤ x * 10000 := fun e => by
    have := mul_log 1 a0 a1 c0 c1 x0 x1 (by simp; omega)
    simpa using this
  rcases prod_cases (b + d) n0 n1 with ⟨h1, h2, h3, h4, h5⟩ | ⟨h1, h2, h3, h4, h5⟩ | ⟨h1, h2, h3, h4, h5⟩
  · rw [h4, h5, h2]; omega
  · rw [h4, h5]; omega
  · rw [h4, h5, h2]; omega
theorem quot_ge {x t a b c d : Int} (x0 : 1000 ≤ x) (x1 : x ≤ 9999) (a0 : 1000 ≤ a) (a1 : a ≤ 9999) (c0 : 1000 ≤ c) (c1 : c ≤ 9999)
    (h : fgH x t ≤ fgL a b - fgH c d) : t < rdT a c (b - d) ∨ (t = rdT a c (b - d) ∧ x ≤ rdD a c) := by
  unfold fgH fgL at h
  have bx := lg_bounds (x := x * 100000) (by omega) (by omega)
  have ba := lg_bounds (x := a * 100000) (by omega) (by omega)
  have bc := lg_bounds (x := c * 100000) (by omega) (by omega)
  have ht : t ≤ b - d := by omega
  have k0 : t = b - d → x * c ≤ a * 1000 := fun e => by
    have := mul_log 0 x0 x1 c0 c1 a0 a1 (by simp; omega)
    simpa using this
  have k1 : t = b - d - 1 → x * c ≤ a * 10000 := fun e => by
    have := mul_log 1 x0 x1 c0 c1 a0 a1 (by simp; omega)
    simpa using this
  rcases quot_cases (b - d) a0 a1 c0 c1 with ⟨h1, h2, h3, h4, h5, h6⟩ | ⟨h1, h2, h3, h4, h5, h6⟩
  · rw [h5, h6, h2]
    by_cases e : t = b - d
    · exact .inr ⟨e, near_ge (by omega) (k0 e)⟩
    · omega
  · rw [h5, h6, h2]
    by_cases e : t = b - d
    · exfalso
      have := k0 e
      have m : 1000 * c ≤ x * c := Int.mul_le_mul_of_nonneg_right x0 (by omega)
      omega
    · by_cases e2 : t = b - d - 1
      · exact .inr ⟨e2, near_ge (by omega) (k1 e2)⟩
      · omega
theorem quot_le {x t a b c d : Int} (x0 : 1000 ≤ x) (x1 : x ≤ 9999) (a0 : 1000 ≤ a) (a1 : a ≤ 9999) (c0 : 1000 ≤ c) (c1 : c ≤ 9999)
    (h : fgH a b - fgL c d ≤ fgL x t) : rdT a c (b - d) < t ∨ (rdT a c (b - d) = t ∧ rdD a c ≤ x) := by
  unfold fgH fgL at h
  have bx := lg_bounds (x := x * 100000) (by omega) (by omega)
  have ba := lg_bounds (x := a * 100000) (by omega) (by omega)
  have bc := lg_bounds (x := c * 100000) (by omega) (by omega)
  have ht : b - d - 1 ≤ t := by omega
  have k0 : t = b - d → a * 1000 ≤ x * c := fun e => by
    have := log_mul 0 a0 a1 x0 x1 c0 c1 (by simp; omega)
    simpa using this
  have k1 : t = b - d - 1 → a * 10000 ≤ x * c := fun e => by
    have := log_mul 1 a0 a1 x0 x1 c0 c1 (by simp; omega)
    simpa using this
  rcases quot_cases (b - d) a0 a1 c0 c1 with ⟨h1, h2, h3, h4, h5, h6⟩ | ⟨h1, h2, h3, h4, h5, h6⟩
  · rw [h5, h6, h2]
    by_cases e : t = b - d
    · exact .inr ⟨e.symm, near_le (by omega) (k0 e)⟩
    · by_cases e2 : t = b - d - 1
      · exfalso
        have := k1 e2
        have m : x * c ≤ 9999 * c := Int.mul_le_mul_of_nonneg_right x1 (by omega)
        omega
      · omega
  · rw [h5, h6, h2]
    by_cases e2 : t = b - d - 1
    · exact .inr ⟨e2.symm, near_le (by omega) (k1 e2)⟩
    · omega

end Go.Proofs.Ythmmdcpodadjbaa.K
