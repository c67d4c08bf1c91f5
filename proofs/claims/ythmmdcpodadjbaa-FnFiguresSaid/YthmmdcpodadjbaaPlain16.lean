/- Plain facts of the laws on figures and on scaled logarithms. -/
import Derived.Test.YthmmdcpodadjbaaPlain14
namespace Go.Proofs.Ythmmdcpodadjbaa.K
open Go.RowKit
set_option linter.unusedVariables false
set_option linter.unusedSimpArgs false

/-- a figure that is made is valid -/
theorem mk_valid {n d : Int} (h : mkC n d = 0) : figV (rdD n d) (rdT n d 0) = true := by
  unfold mkC at h
  split at h
  · rename_i k
    obtain ⟨k1, k2⟩ := Bool.and_eq_true_iff.1 k
    obtain ⟨n0, n1⟩ := inB_true.1 k1
    obtain ⟨d0, d1⟩ := inB_true.1 k2
    obtain ⟨b0, b1, b2, b3⟩ := rd_bounds (n := n) (d := d) 0 n0 n1 d0 d1
    exact figV_true.2 ⟨b0, b1, by omega, by omega⟩
  · omega
theorem fi_facts {a b c d : Int} (h : piC (twoV a b c d) (rdD (a * c) 1) (rdT (a * c) 1 (b + d - 6)) = 0) :
    piC (twoV c d a b) (rdD (a * c) 1) (rdT (a * c) 1 (b + d - 6)) = 0 ∧ rdD (c * a) 1 = rdD (a * c) 1 ∧ rdT (c * a) 1 (d + b - 6) = rdT (a * c) 1 (b + d - 6) ∧ IntKind.i64.wrap (a * c) = a * c ∧ IntKind.i64.wrap (b + d) = b + d ∧
    ((b + d < rdT (a * c) 1 (b + d - 6) ∧ IntKind.i64.wrap (rdD (a * c) 1 * 10000) = rdD (a * c) 1 * 10000 ∧ IntKind.i64.wrap (rdD (a * c) 1 * 10000 - a * c) = rdD (a * c) 1 * 10000 - a * c ∧ IntKind.i64.wrap (a * c - rdD (a * c) 1 * 10000) = a * c - rdD (a * c) 1 * 10000 ∧ IntKind.i64.wrap (2 * (rdD (a * c) 1 * 10000 - a * c)) = 2 * (rdD (a * c) 1 * 10000 - a * c) ∧ IntKind.i64.wrap (2 * (a * c - rdD (a * c) 1 * 10000)) = 2 * (a * c - rdD (a * c) 1 * 10000) ∧ 2 * (rdD (a * c) 1 * 10000 - a * c) ≤ 10000 ∧ 2 * (a * c - rdD (a * c) 1 * 10000) ≤ 10000) ∨
     (¬ b + d < rdT (a * c) 1 (b + d - 6) ∧ IntKind.i64.wrap (rdD (a * c) 1 * 1000) = rdD (a * c) 1 * 1000 ∧ IntKind.i64.wrap (rdD (a * c) 1 * 1000 - a * c) = rdD (a * c) 1 * 1000 - a * c ∧ IntKind.i64.wrap (a * c - rdD (a * c) 1 * 1000) = a * c - rdD (a * c) 1 * 1000 ∧ IntKind.i64.wrap (2 * (rdD (a * c) 1 * 1000 - a * c)) = 2 * (rdD (a * c) 1 * 1000 - a * c) ∧ IntKind.i64.wrap (2 * (a * c - rdD (a * c) 1 * 1000)) = 2 * (a * c - rdD (a * c) 1 * 1000) ∧ 2 * (rdD (a * c) 1 * 1000 - a * c) ≤ 1000 ∧ 2 * (a * c - rdD (a * c) 1 * 1000) ≤ 1000)) := by
  obtain ⟨hv, hp⟩ := piC_zero h
  obtain ⟨h1, h2⟩ := twoV_true.1 hv
  obtain ⟨a0, a1, b0, b1⟩ := figV_true.1 h1
  obtain ⟨c0, c1, d0, d1⟩ := figV_true.1 h2
  obtain ⟨p0, p1, _, _⟩ := figV_true.1 hp
  obtain ⟨n0, n1⟩ := prod_bounds a0 a1 c0 c1
  obtain ⟨g1, g2⟩ := prod_half (b := b) (d := d) a0 a1 c0 c1
  have e1 : c * a = a * c := Int.mul_comm _ _
  have e2 : d + b - 6 = b + d - 6 := by omega
  refine ⟨by rw [two_swap hv]; rw [hv] at h; exact h, by rw [e1], by rw [e1, e2], IntWalk.i64_in _ (by omega), IntWalk.i64_in _ (by omega), ?_⟩
  generalize rdD (a * c) 1 = P at *
  generalize rdT (a * c) 1 (b + d - 6) = T at *
  generalize a * c = N at *
  by_cases k : b + d < T
  · obtain ⟨k1, k2⟩ := g1 k
    exact .inl ⟨k, IntWalk.i64_in _ (by omega), IntWalk.i64_in _ (by omega), IntWalk.i64_in _ (by omega), IntWalk.i64_in _ (by omega), IntWalk.i64_in _ (by omega), k1, k2⟩
  · obtain ⟨k1, k2⟩ := g2 k
    exact .inr ⟨k, IntWalk.i64_in _ (by omega), IntWalk.i64_in _ (by omega), IntWalk.i64_in _ (by omega), IntWalk.i64_in _ (by omega), IntWalk.i64_in _ (by omega), k1, k2⟩
/-- mantissas are recovered -/
theorem ma_facts {u : Int} (h : isV u = true) : rgV (isV u) = 0 ∧ ¬ maV u < 0 ∧ ¬ 1048576 ≤ maV u ∧ IntKind.i64.wrap (mbV u * 1048576) = mbV u * 1048576 ∧ IntKind.i64.wrap (mbV u * 1048576 + maV u) = u := by
  obtain ⟨h0, h1⟩ := isV_true.1 h
  unfold maV mbV
  rw [h, if_pos rfl, if_pos rfl]
  refine ⟨rfl, by omega, by omega, IntWalk.i64_in _ (by omega), ?_⟩
  rw [IntWalk.i64_in _ (by omega)]
  omega
/-- scaling back -/
theorem slC_zero {a b n d : Int} (h : slC a b n d = 0) : ivV a b = true ∧ -12 ≤ n ∧ n ≤ 12 ∧ 1 ≤ d ∧ d ≤ 12 ∧ isV (slL a b n d) = true ∧ isV (slH a b n d) = true := by
  unfold slC at h
  cases h1 : ivV a b
  · rw [h1] at h; simp at h
  · cases h2 : inB n (-12) 12
    · rw [h1, h2] at h; simp at h
    · cases h3 : inB d 1 12
      · rw [h1, h2, h3] at h; simp at h
      · rw [h1, h2, h3] at h
        have k2 := inB_true.1 h2
        have k3 := inB_true.1 h3
        obtain ⟨_, i1, i2⟩ := lmV_zero (ok := true) (by simpa using h)
        exact ⟨rfl, k2.1, k2.2, k3.1, k3.2, i1, i2⟩
theorem slC_cases {a b n d : Int} (h : ivV a b = true) (n0 : -12 ≤ n) (n1 : n ≤ 12) (d0 : 1 ≤ d) (d1 : d ≤ 12) : slC a b n d = 0 ∨ slC a b n d = 3 := by
  unfold slC
  rw [h, if_pos rfl, inB_mk n0 n1, inB_mk d0 d1, if_pos (by rfl)]
  exact lmV_cases
theorem sc_pos {a b n d : Int} (h : slC a b n d = 0) (hn : 1 ≤ n) : (slC (slL a b n d) (slH a b n d) d n = 0 ∨ slC (slL a b n d) (slH a b n d) d n = 3) ∧ slL (slL a b n d) (slH a b n d) d n ≤ a ∧ b ≤ slH (slL a b n d) (slH a b n d) d n := by
  obtain ⟨hi, n0, n1, d0, d1, i1, i2⟩ := slC_zero h
  have hab := (ivV_true.1 hi).2.2
  exact ⟨slC_cases (ivV_true.2 ⟨i1, i2, slL_le_slH _ _ _ d0⟩) (by omega) d1 hn n1, sl_back hn d0 hab⟩
theorem sc_neg {a b n d : Int} (h : slC a b n d = 0) (hn : n ≤ -1) : (slC (slL a b n d) (slH a b n d) (-d) (-n) = 0 ∨ slC (slL a b n d) (slH a b n d) (-d) (-n) = 3) ∧ slL (slL a b n d) (slH a b n d) (-d) (-n) ≤ a ∧ b ≤ slH (slL a b n d) (slH a b n d) (-d) (-n) := by
  obtain ⟨hi, n0, n1, d0, d1, i1, i2⟩ := slC_zero h
  have hab := (ivV_true.1 hi).2.2
  exact ⟨slC_cases (ivV_true.2 ⟨i1, i2, slL_le_slH _ _ _ d0⟩) (by omega) (by omega) (by omega) (by omega), sl_back_neg hn d0 hab⟩
end Go.Proofs.Ythmmdcpodadjbaa.K
