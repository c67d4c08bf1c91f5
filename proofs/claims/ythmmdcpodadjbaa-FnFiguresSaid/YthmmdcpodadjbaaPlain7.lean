/- Plain facts on positions and places on scales. No program in sight. -/
import Derived.Test.YthmmdcpodadjbaaPlain6
namespace Go.Proofs.Ythmmdcpodadjbaa.K

/-- the position on a scale that shows several decades -/
def pmL (d t m : Int) : Int := slL (lgL (d * 100000) + 1048576 * (t % m)) (lgH (d * 100000) + 1048576 * (t % m)) 1 m
def pmH (d t m : Int) : Int := slH (lgL (d * 100000) + 1048576 * (t % m)) (lgH (d * 100000) + 1048576 * (t % m)) 1 m
/-- the position on a folded scale -/
def cfL (d : Int) : Int := if lgL (d * 100000) - lgH 314200000 < 0 then lgL (d * 100000) - lgH 314200000 + 1048576 else lgL (d * 100000) - lgH 314200000
def cfH (d : Int) : Int := if lgL (d * 100000) - lgH 314200000 < 0 then lgH (d * 100000) - lgL 314200000 + 1048576 else lgH (d * 100000) - lgL 314200000
def poL (s d t : Int) : Int :=
  if s = 1 then pmL d t 2 else if s = 2 then pmL d t 3 else if s = 3 then 1048576 - lgH (d * 100000) else if s = 4 then cfL d else if s = 5 then (d - 1000) * 1048576 / 9000 else lgL (d * 100000)
def poH (s d t : Int) : Int :=
  if s = 1 then pmH d t 2 else if s = 2 then pmH d t 3 else if s = 3 then 1048576 - lgL (d * 100000) else if s = 4 then cfH d else if s = 5 then -((-((d - 1000) * 1048576)) / 9000) else lgH (d * 100000)
theorem pm_bounds {d t m : Int} (h0 : 1000 ≤ d) (h1 : d ≤ 9999) (hm : m = 2 ∨ m = 3) : 0 ≤ pmL d t m ∧ pmH d t m ≤ 1048576 ∧ pmL d t m ≤ pmH d t m := by
  have b := lg_bounds (x := d * 100000) (by omega) (by omega)
  have hl := lg_lt (x := d * 100000) (by omega) (by omega)
  have hle := slL_le_slH (lgL (d * 100000) + 1048576 * (t % m)) (lgH (d * 100000) + 1048576 * (t % m)) 1 (d := m) (by omega)
  refine ⟨?_, ?_, hle⟩
  · unfold pmL slL
    rw [Int.mul_one, Int.mul_one, Int.min_eq_left (by omega)]
    rcases hm with rfl | rfl <;> omega
  · unfold pmH slH
    rw [Int.mul_one, Int.mul_one, Int.max_eq_right (by omega)]
    rcases hm with rfl | rfl <;> omega
theorem cf_bounds {d : Int} (h0 : 1000 ≤ d) (h1 : d ≤ 9999) : 0 ≤ cfL d ∧ cfL d ≤ 1048575 ∧ -1048576 ≤ cfH d ∧ cfH d ≤ 2097152 ∧ cfL d < cfH d := by
  have b := lg_bounds (x := d * 100000) (by omega) (by omega)
  have c := lg_bounds (x := 314200000) (by decide) (by decide)
  have hl := lg_lt (x := d * 100000) (by omega) (by omega)
  have hc := lg_lt (x := 314200000) (by decide) (by decide)
  unfold cfL cfH
  split <;> omega
theorem po_bounds {s d : Int} (t : Int) (h0 : 1000 ≤ d) (h1 : d ≤ 9999) : 0 ≤ poL s d t ∧ poL s d t ≤ 1048576 ∧ 0 ≤ poH s d t ∧ poH s d t ≤ 2097152 ∧ poL s d t ≤ poH s d t := by
  have b := lg_bounds (x := d * 100000) (by omega) (by omega)
  have hl := lg_lt (x := d * 100000) (by omega) (by omega)
  have c := cf_bounds h0 h1
  have p2 := pm_bounds (t := t) h0 h1 (.inl rfl : (2 : Int) = 2 ∨ (2 : Int) = 3)
  have p3 := pm_bounds (t := t) h0 h1 (.inr rfl : (3 : Int) = 2 ∨ (3 : Int) = 3)
  unfold poL poH
  by_cases s1 : s = 1
  · simp only [s1, if_true]; omega
  · by_cases s2 : s = 2
    · simp only [s2, if_true]; rw [if_neg (by omega), if_neg (by omega)]; omega
    · by_cases s3 : s = 3
      · simp only [if_neg s1, if_neg s2, if_pos s3]; omega
      · by_cases s4 : s = 4
        · simp only [if_neg s1, if_neg s2, if_neg s3, if_pos s4]; omega
        · by_cases s5 : s = 5
          · simp only [if_neg s1, if_neg s2, if_neg s3, if_neg s4, if_pos s5]; omega
          · simp only [if_neg s1, if_neg s2, if_neg s3, if_neg s4, if_neg s5]; omega
/-- a place -/
def plL (s d t l : Int) : Int := poL s d t * l / 1048576
def plH (s d t l : Int) : Int := -((-(poH s d t * l)) / 1048576)
theorem pl_mul {s d t l : Int} (h0 : 1000 ≤ d) (h1 : d ≤ 9999) (l0 : 1 ≤ l) (l1 : l ≤ 100000) :
    0 ≤ poL s d t * l ∧ poL s d t * l ≤ 104857600000 ∧ 0 ≤ poH s d t * l ∧ poH s d t * l ≤ 209715200000 := by
  obtain ⟨a, b, c, e, _⟩ := po_bounds (s := s) t h0 h1
  refine ⟨Int.mul_nonneg a (by omega), ?_, Int.mul_nonneg c (by omega), ?_⟩
  · have : poL s d t * l ≤ 1048576 * 100000 := Int.mul_le_mul b l1 (by omega) (by omega)
    omega
  · have : poH s d t * l ≤ 2097152 * 100000 := Int.mul_le_mul e l1 (by omega) (by omega)
    omega
theorem pl_bounds {s d t l : Int} (h0 : 1000 ≤ d) (h1 : d ≤ 9999) (l0 : 1 ≤ l) (l1 : l ≤ 100000) :
    0 ≤ plL s d t l ∧ plL s d t l ≤ 100000 ∧ 0 ≤ plH s d t l ∧ plH s d t l ≤ 200001 := by
  obtain ⟨a, b, c, e⟩ := pl_mul (s := s) (t := t) h0 h1 l0 l1
  unfold plL plH; omega
/-- the codes -/
def shC (s d t : Int) : Int := if figV d t then (if inB s 0 5 && !(decide (s = 5) && !decide (t = 0)) then 0 else 2) else 1
def pcC (s d t l : Int) : Int := if shC s d t = 0 then (if inB l 1 100000 then 0 else 2) else shC s d t
def s2C (s a b c d : Int) : Int := if twoV a b c d then (if inB s 0 5 && !(decide (s = 5) && !(decide (b = 0) && decide (d = 0))) then 0 else 2) else 1
def p2C (s a b c d l : Int) : Int := if s2C s a b c d = 0 then (if inB l 1 100000 then 0 else 2) else s2C s a b c d

end Go.Proofs.Ythmmdcpodadjbaa.K
