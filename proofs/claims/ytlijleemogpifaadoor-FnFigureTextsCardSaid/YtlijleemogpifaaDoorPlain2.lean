/- Plain definitions and lemmas on figures: no program in sight. -/
import Derived.Test.YtlijleemogpifaaDoorPlain
namespace Go.Proofs.YtlijleemogpifaaDoor.K
open Go.RowKit

/-- a valid figure -/
def figV (d t : Int) : Bool := inB d 1000 9999 && inB t (-30) 30
theorem figV_true {d t : Int} : figV d t = true ↔ 1000 ≤ d ∧ d ≤ 9999 ∧ -30 ≤ t ∧ t ≤ 30 := by
  unfold figV; rw [Bool.and_eq_true, inB_true, inB_true]; omega
/-- both figures are valid -/
def twoV (a b c d : Int) : Bool := figV a b && figV c d
theorem twoV_true {a b c d : Int} : twoV a b c d = true ↔ figV a b = true ∧ figV c d = true := by unfold twoV; rw [Bool.and_eq_true]
/-- the sign of a difference -/
def sgV (a b : Int) : Int := if a < b then -1 else if b < a then 1 else 0
/-- two figures compared -/
def cpV (da ta db tb : Int) : Int := if sgV ta tb = 0 then sgV da db else sgV ta tb
theorem cpV_spec {da ta db tb : Int} (h : figV da ta = true) (k : figV db tb = true) : cpV da ta db tb = sgV (10000 * ta + da) (10000 * tb + db) := by
  obtain ⟨h1, h2, h3, h4⟩ := figV_true.1 h
  obtain ⟨k1, k2, k3, k4⟩ := figV_true.1 k
  unfold cpV sgV
  repeat' split
  all_goals omega
def orV (a b : Int) : Int := if a = 0 then b else a
def cmV (da ta db tb : Int) : Int := if twoV da ta db tb then cpV da ta db tb else 0

/-- the code of a figure that was computed -/
def liV (b : Bool) : Int := if b then 0 else 3
@[simp] theorem liV_true : liV true = 0 := rfl
@[simp] theorem liV_false : liV false = 3 := rfl

/-- the code of a figure of two numbers -/
def mkC (n d : Int) : Int := if inB n 1 1000000000 && inB d 1 1000000000 then 0 else 2
/-- the code of a figure that was computed out of others -/
def piC (ok : Bool) (d t : Int) : Int := if ok then liV (figV d t) else 1
@[simp] theorem piC_true (d t : Int) : piC true d t = liV (figV d t) := rfl
@[simp] theorem piC_false (d t : Int) : piC false d t = 1 := rfl
theorem prod_lo {a c : Int} (a0 : 1000 ≤ a) (c0 : 1000 ≤ c) : 1 ≤ a * c := by
  have : 1 * 1 ≤ a * c := Int.mul_le_mul (by omega) (by omega) (by omega) (by omega)
  omega
theorem prod_hi {a c : Int} (_ : 1000 ≤ a) (a1 : a ≤ 9999) (c0 : 1000 ≤ c) (c1 : c ≤ 9999) : a * c ≤ 1000000000 := by
  have : a * c ≤ 9999 * 9999 := Int.mul_le_mul a1 c1 (by omega) (by omega)
  omega
/-- how often the divisor is to be multiplied by ten -/
def cntU : Nat → Int → Int → Nat
  | 0, _, _ => 0
  | k + 1, n, d => if 10000 * d ≤ n then cntU k n (10 * d) + 1 else 0
/-- how often the number is to be multiplied by ten -/
def cntD : Nat → Int → Int → Nat
  | 0, _, _ => 0
  | k + 1, n, d => if n < 1000 * d then cntD k (10 * n) d + 1 else 0
theorem cntU_le : ∀ (k : Nat) (n d : Int), cntU k n d ≤ k
  | 0, _, _ => Nat.le_refl _
  | k + 1, n, d => by unfold cntU; split <;> have := cntU_le k n (10 * d) <;> omega
theorem cntD_le : ∀ (k : Nat) (n d : Int), cntD k n d ≤ k
  | 0, _, _ => Nat.le_refl _
  | k + 1, n, d => by unfold cntD; split <;> have := cntD_le k (10 * n) d <;> omega

/-- one loop: from (d, t) on -/
def upD (k : Nat) (n d : Int) : Int := match k with
  | 0 => d
  | k + 1 => if 10000 * d ≤ n then upD k n (10 * d) else d
def upT (k : Nat) (n d t : Int) : Int := match k with
  | 0 => t
  | k + 1 => if 10000 * d ≤ n then upT k n (10 * d) (t + 1) else t
def dnN (k : Nat) (n d : Int) : Int := match k with
  | 0 => n
  | k + 1 => if n < 1000 * d then dnN k (10 * n) d else n
def dnT (k : Nat) (n d t : Int) : Int := match k with
  | 0 => t
  | k + 1 => if n < 1000 * d then dnT k (10 * n) d (t - 1) else t
theorem upD_no {n d : Int} (h : ¬ 10000 * d ≤ n) : ∀ k, upD k n d = d
  | 0 => rfl
  | k + 1 => by unfold upD; rw [if_neg h]
theorem upT_no {n d : Int} (t : Int) (h : ¬ 10000 * d ≤ n) : ∀ k, upT k n d t = t
  | 0 => rfl
  | k + 1 => by unfold upT; rw [if_neg h]
theorem dnN_no {n d : Int} (h : ¬ n < 1000 * d) : ∀ k, dnN k n d = n
  | 0 => rfl
  | k + 1 => by unfold dnN; rw [if_neg h]
theorem dnT_no {n d : Int} (t : Int) (h : ¬ n < 1000 * d) : ∀ k, dnT k n d t = t
  | 0 => rfl
  | k + 1 => by unfold dnT; rw [if_neg h]
theorem upD_yes {n d : Int} (h : 10000 * d ≤ n) (k : Nat) : upD (k + 1) n d = upD k n (10 * d) := by rw [upD, if_pos h]
theorem upT_yes {n d : Int} (t : Int) (h : 10000 * d ≤ n) (k : Nat) : upT (k + 1) n d t = upT k n (10 * d) (t + 1) := by rw [upT, if_pos h]
theorem dnN_yes {n d : Int} (h : n < 1000 * d) (k : Nat) : dnN (k + 1) n d = dnN k (10 * n) d := by rw [dnN, if_pos h]
theorem dnT_yes {n d : Int} (t : Int) (h : n < 1000 * d) (k : Nat) : dnT (k + 1) n d t = dnT k (10 * n) d (t - 1) := by rw [dnT, if_pos h]
/-- what the loops leave: a numerator, a denominator, the tens -/
def rN (n d : Int) : Int := dnN 20 n d
def rD (n d : Int) : Int := upD 20 n d
def rT (n d t : Int) : Int := if n < 1000 * d then dnT 20 n d t else upT 20 n d t
/-- the digits and the tens of a fraction, rounded -/
def rdQ (n d : Int) : Int := (2 * rN n d + rD n d) / (2 * rD n d)
def rdD (n d : Int) : Int := if rdQ n d = 10000 then 1000 else rdQ n d
def rdT (n d t : Int) : Int := if rdQ n d = 10000 then rT n d (t + 3) + 1 else rT n d (t + 3)

/-- what the loop on the divisor leaves -/
theorem up_spec : ∀ (k : Nat) (n d t : Int), 1 ≤ d → 1000 * d ≤ n → n < 10000 * d * (10 : Int) ^ k →
    ∃ j : Nat, j ≤ k ∧ upD k n d = d * (10 : Int) ^ j ∧ upT k n d t = t + j ∧ 1000 * (d * (10 : Int) ^ j) ≤ n ∧ n < 10000 * (d * (10 : Int) ^ j)
  | 0, n, d, t, h1, h2, h3 => ⟨0, Nat.le_refl _, by simp [upD], by simp [upT], by simpa using h2, by simpa using h3⟩
  | k + 1, n, d, t, h1, h2, h3 => by
    by_cases h : 10000 * d ≤ n
    · obtain ⟨j, hj, e1, e2, e3, e4⟩ := up_spec k n (10 * d) (t + 1) (by omega) (by omega) (by
        rw [Int.pow_succ] at h3
        have e : 10000 * (10 * d) * (10 : Int) ^ k = 10000 * d * ((10 : Int) ^ k * 10) := by
          rw [Int.mul_comm 10 d, ← Int.mul_assoc, Int.mul_assoc (10000 * d), Int.mul_comm 10]
        rw [e]; exact h3)
      have e : (10 * d) * (10 : Int) ^ j = d * (10 : Int) ^ (j + 1) := by rw [Int.pow_succ, Int.mul_comm 10 d, Int.mul_assoc, Int.mul_comm 10]
      rw [e] at e1 e3 e4
      exact ⟨j + 1, by omega, by rw [upD_yes h, e1], by rw [upT_yes _ h, e2]; push_cast; omega, e3, e4⟩
    · exact ⟨0, by omega, by rw [upD_no h]; simp, by rw [upT_no _ h]; simp, by simpa using h2, by simp; omega⟩
/-- what the loop on the number leaves -/
theorem dn_spec : ∀ (k : Nat) (n d t : Int), 1 ≤ n → n < 10000 * d → 1000 * d ≤ n * (10 : Int) ^ k →
    ∃ j : Nat, j ≤ k ∧ dnN k n d = n * (10 : Int) ^ j ∧ dnT k n d t = t - j ∧ 1000 * d ≤ n * (10 : Int) ^ j ∧ n * (10 : Int) ^ j < 10000 * d
  | 0, n, d, t, h1, h2, h3 => ⟨0, Nat.le_refl _, by simp [dnN], by simp [dnT], by simpa using h3, by simpa using h2⟩
  | k + 1, n, d, t, h1, h2, h3 => by
    by_cases h : n < 1000 * d
    · obtain ⟨j, hj, e1, e2, e3, e4⟩ := dn_spec k (10 * n) d (t - 1) (by omega) (by omega) (by
        rw [Int.pow_succ] at h3
        have e : 10 * n * (10 : Int) ^ k = n * ((10 : Int) ^ k * 10) := by rw [Int.mul_comm 10 n, Int.mul_assoc, Int.mul_comm 10]
        rw [e]; exact h3)
      have e : (10 * n) * (10 : Int) ^ j = n * (10 : Int) ^ (j + 1) := by rw [Int.pow_succ, Int.mul_comm 10 n, Int.mul_assoc, Int.mul_comm 10]
      rw [e] at e1 e3 e4
      exact ⟨j + 1, by omega, by rw [dnN_yes h, e1], by rw [dnT_yes _ h, e2]; push_cast; omega, e3, e4⟩
    · exact ⟨0, by omega, by rw [dnN_no h]; simp, by rw [dnT_no _ h]; simp, by simp; omega, by simpa using h2⟩

/-- the loops together -/
theorem r_spec {n d : Int} (t : Int) (hn : 1 ≤ n) (hn2 : n ≤ 1000000000) (hd : 1 ≤ d) (hd2 : d ≤ 1000000000) :
    (∃ j : Nat, j ≤ 20 ∧ rN n d = n ∧ rD n d = d * (10 : Int) ^ j ∧ rT n d t = t + j ∧ 1000 * rD n d ≤ rN n d ∧ rN n d < 10000 * rD n d) ∨
    (∃ j : Nat, j ≤ 20 ∧ rN n d = n * (10 : Int) ^ j ∧ rD n d = d ∧ rT n d t = t - j ∧ 1000 * rD n d ≤ rN n d ∧ rN n d < 10000 * rD n d) := by
  have p20 : (10 : Int) ^ 20 = 100000000000000000000 := by decide
  by_cases h : n < 1000 * d
  · right
    obtain ⟨j, hj, e1, e2, e3, e4⟩ := dn_spec 20 n d t hn (by omega) (by rw [p20]; omega)
    have hD : rD n d = d := upD_no (by omega) 20
    refine ⟨j, hj, e1, hD, by unfold rT; rw [if_pos h, e2], by rw [hD]; unfold rN; rw [e1]; exact e3, by rw [hD]; unfold rN; rw [e1]; exact e4⟩
  · left
    obtain ⟨j, hj, e1, e2, e3, e4⟩ := up_spec 20 n d t hd (by omega) (by rw [p20]; omega)
    have hN : rN n d = n := dnN_no (by omega) 20
    refine ⟨j, hj, hN, e1, by unfold rT; rw [if_neg h, e2], by rw [hN]; unfold rD; rw [e1]; exact e3, by rw [hN]; unfold rD; rw [e1]; exact e4⟩
theorem r_bounds {n d : Int} (t : Int) (hn : 1 ≤ n) (hn2 : n ≤ 1000000000) (hd : 1 ≤ d) (hd2 : d ≤ 1000000000) :
    1 ≤ rD n d ∧ rD n d ≤ 1000000000 ∧ 1000 * rD n d ≤ rN n d ∧ rN n d < 10000 * rD n d ∧ t - 20 ≤ rT n d t ∧ rT n d t ≤ t + 20 := by
  rcases r_spec t hn hn2 hd hd2 with ⟨j, hj, e1, e2, e3, e4, e5⟩ | ⟨j, hj, e1, e2, e3, e4, e5⟩
  · refine ⟨by omega, by omega, e4, e5, by omega, by omega⟩
  · refine ⟨by omega, by omega, e4, e5, by omega, by omega⟩
theorem rdQ_bounds {n d : Int} (hn : 1 ≤ n) (hn2 : n ≤ 1000000000) (hd : 1 ≤ d) (hd2 : d ≤ 1000000000) : 1000 ≤ rdQ n d ∧ rdQ n d ≤ 10000 := by
  obtain ⟨h1, h2, h3, h4, _, _⟩ := r_bounds 0 hn hn2 hd hd2
  unfold rdQ
  constructor
  · exact (Int.le_ediv_iff_mul_le (by omega)).2 (by omega)
  · have : (2 * rN n d + rD n d) / (2 * rD n d) < 10001 := (Int.ediv_lt_iff_lt_mul (by omega)).2 (by omega)
    omega
theorem rd_bounds {n d : Int} (t : Int) (hn : 1 ≤ n) (hn2 : n ≤ 1000000000) (hd : 1 ≤ d) (hd2 : d ≤ 1000000000) : 1000 ≤ rdD n d ∧ rdD n d ≤ 9999 ∧ t - 17 ≤ rdT n d t ∧ rdT n d t ≤ t + 24 := by
  have h := rdQ_bounds hn hn2 hd hd2
  obtain ⟨_, _, _, _, h5, h6⟩ := r_bounds (t + 3) hn hn2 hd hd2
  unfold rdD rdT
  split <;> omega
theorem p20 : (10 : Int) ^ 20 = 100000000000000000000 := by decide
/-- the state of the loop on the number -/
def DnR (n d t m s : Int) : Prop := ∃ k : Nat, k ≤ 20 ∧ s + 20 = t + k ∧ 1 ≤ m ∧ m ≤ 10000000000000 ∧ 1000 * d ≤ m * (10 : Int) ^ k ∧ dnN k m d = dnN 20 n d ∧ dnT k m d s = dnT 20 n d t
theorem DnR.start {n d : Int} (t : Int) (hn : 1 ≤ n) (hn2 : n ≤ 1000000000) (hd2 : d ≤ 1000000000) : DnR n d t n t :=
  ⟨20, Nat.le_refl _, by omega, hn, by omega, by rw [p20]; omega, rfl, rfl⟩
theorem DnR.bounds {n d t m s : Int} (h : DnR n d t m s) : 1 ≤ m ∧ m ≤ 10000000000000 ∧ t - 20 ≤ s ∧ s ≤ t := by
  obtain ⟨k, hk, e, h1, h2, _⟩ := h; omega
theorem DnR.step {n d t m s : Int} (h : DnR n d t m s) (hd2 : d ≤ 1000000000) (hm : m < 1000 * d) : DnR n d t (10 * m) (s - 1) := by
  obtain ⟨k, hk, e, h1, h2, h3, h4, h5⟩ := h
  cases k with
  | zero => simp at h3; omega
  | succ k =>
    refine ⟨k, by omega, by push_cast at e; omega, by omega, by omega, ?_, by rw [← h4, dnN_yes hm], by rw [← h5, dnT_yes _ hm]⟩
    rw [Int.pow_succ] at h3
    have e : 10 * m * (10 : Int) ^ k = m * ((10 : Int) ^ k * 10) := by rw [Int.mul_comm 10 m, Int.mul_assoc, Int.mul_comm 10]
    rw [e]; exact h3
theorem DnR.done {n d t m s : Int} (h : DnR n d t m s) (hm : ¬ m < 1000 * d) : m = dnN 20 n d ∧ s = dnT 20 n d t := by
  obtain ⟨k, _, _, _, _, _, h4, h5⟩ := h
  rw [dnN_no hm] at h4; rw [dnT_no _ hm] at h5; exact ⟨h4, h5⟩
/-- the state of the loop on the divisor -/
def UpR (n d t m s : Int) : Prop := ∃ k : Nat, k ≤ 20 ∧ t + 20 = s + k ∧ 1 ≤ m ∧ m ≤ 10000000000 ∧ n < 10000 * m * (10 : Int) ^ k ∧ upD k n m = upD 20 n d ∧ upT k n m s = upT 20 n d t
theorem UpR.start {n d : Int} (t : Int) (hn2 : n ≤ 10000000000000) (hd : 1 ≤ d) (hd2 : d ≤ 1000000000) : UpR n d t d t :=
  ⟨20, Nat.le_refl _, by omega, hd, by omega, by rw [p20]; omega, rfl, rfl⟩
theorem UpR.bounds {n d t m s : Int} (h : UpR n d t m s) : 1 ≤ m ∧ m ≤ 10000000000 ∧ t ≤ s ∧ s ≤ t + 20 := by
  obtain ⟨k, hk, e, h1, h2, _⟩ := h; omega
theorem UpR.step {n d t m s : Int} (h : UpR n d t m s) (hn2 : n ≤ 10000000000000) (hm : 10000 * m ≤ n) : UpR n d t (10 * m) (s + 1) := by
  obtain ⟨k, hk, e, h1, h2, h3, h4, h5⟩ := h
  cases k with
  | zero => simp at h3; omega
  | succ k =>
    refine ⟨k, by omega, by push_cast at e; omega, by omega, by omega, ?_, by rw [← h4, upD_yes hm], by rw [← h5, upT_yes _ hm]⟩
    rw [Int.pow_succ] at h3
    have e : 10000 * (10 * m) * (10 : Int) ^ k = 10000 * m * ((10 : Int) ^ k * 10) := by
      rw [Int.mul_comm 10 m, ← Int.mul_assoc, Int.mul_assoc (10000 * m), Int.mul_comm 10]
    rw [e]; exact h3
theorem UpR.done {n d t m s : Int} (h : UpR n d t m s) (hm : ¬ 10000 * m ≤ n) : m = upD 20 n d ∧ s = upT 20 n d t := by
  obtain ⟨k, _, _, _, _, _, h4, h5⟩ := h
  rw [upD_no hm] at h4; rw [upT_no _ hm] at h5; exact ⟨h4, h5⟩
/-- the two orders of the loops leave the same -/
theorem order_i {n d : Int} (t : Int) (hn : 1 ≤ n) (hn2 : n ≤ 1000000000) (hd : 1 ≤ d) (hd2 : d ≤ 1000000000) :
    upD 20 (rN n d) d = rD n d ∧ upT 20 (rN n d) d (dnT 20 n d t) = rT n d t := by
  by_cases h : n < 1000 * d
  · have hD : rD n d = d := upD_no (by omega) 20
    have hb := r_bounds t hn hn2 hd hd2
    rw [hD] at hb ⊢
    exact ⟨upD_no (by omega) 20, by rw [upT_no _ (by omega)]; unfold rT; rw [if_pos h]⟩
  · have hN : rN n d = n := dnN_no (by omega) 20
    rw [hN]
    exact ⟨rfl, by rw [dnT_no _ h]; unfold rT; rw [if_neg h]⟩
theorem order_s {n d : Int} (t : Int) (hn : 1 ≤ n) (hn2 : n ≤ 1000000000) (hd : 1 ≤ d) (hd2 : d ≤ 1000000000) :
    dnN 20 n (rD n d) = rN n d ∧ dnT 20 n (rD n d) (upT 20 n d t) = rT n d t := by
  by_cases h : n < 1000 * d
  · have hD : rD n d = d := upD_no (by omega) 20
    rw [hD]
    exact ⟨rfl, by rw [upT_no _ (by omega)]; unfold rT; rw [if_pos h]⟩
  · have hN : rN n d = n := dnN_no (by omega) 20
    have hb := r_bounds t hn hn2 hd hd2
    rw [hN] at hb ⊢
    exact ⟨dnN_no (by omega) 20, by rw [dnT_no _ (by omega)]; unfold rT; rw [if_neg h]⟩

end Go.Proofs.YtlijleemogpifaaDoor.K
