/- Plain facts of the laws on places, on figures, on scaled logarithms. -/
import Derived.Test.YthmmdcpodadjbaaPlain14
import Derived.Test.YthmmdcpodadjbaaPlain12
import Derived.Test.YthmmdcpodadjbaaA5r
import Derived.Test.YthmmdcpodadjbaaA5
namespace Go.Proofs.Ythmmdcpodadjbaa.K
open Go.RowKit Go.Proofs.Ythmmdcpodadjbaa.C
set_option linter.unusedVariables false
set_option linter.unusedSimpArgs false

/-- names and back -/
theorem names_back {n : Int} (h : inB n 0 5 = true) : rsE (snV n).toList = 0 ∧ rsI (snV n).toList = n := by
  rcases scale_cases h with rfl | rfl | rfl | rfl | rfl | rfl <;> exact ⟨by decide +kernel, by decide +kernel⟩
/-- distances, both ways -/
theorem p2_swap (s a b c d l : Int) : p2C s c d a b l = p2C s a b c d l := by
  unfold p2C s2C twoV
  rw [Bool.and_comm (figV c d), Bool.and_comm (decide (d = 0))]
theorem di_back {s a b c d l : Int} (h : p2C s a b c d l = 0) : p2C s c d a b l = 0 ∧ IntKind.i64.wrap (-(plH s c d l - plL s a b l)) = plL s a b l - plH s c d l ∧ IntKind.i64.wrap (-(plL s c d l - plH s a b l)) = plH s a b l - plL s c d l := by
  obtain ⟨f1, f2, _, hl⟩ := p2C_zero h
  obtain ⟨a0, a1, _, _⟩ := figV_true.1 f1
  obtain ⟨c0, c1, _, _⟩ := figV_true.1 f2
  obtain ⟨l0, l1⟩ := inB_true.1 hl
  have k1 := pl_rule (s := s) (t := b) a0 a1 l0 l1
  have k2 := pl_rule (s := s) (t := d) c0 c1 l0 l1
  refine ⟨by rw [p2_swap, h], ?_, ?_⟩
  · rw [IntWalk.i64_in _ (by omega)]; omega
  · rw [IntWalk.i64_in _ (by omega)]; omega
theorem pl_facts {s d t l : Int} (h : pcC s d t l = 0) : -1 ≤ plL s d t l ∧ plH s d t l ≤ l + 1 ∧ plL s d t l ≤ plH s d t l ∧ IntKind.i64.wrap (l + 1) = l + 1 := by
  obtain ⟨f1, _, hl⟩ := pcC_zero h
  obtain ⟨a0, a1, _, _⟩ := figV_true.1 f1
  obtain ⟨l0, l1⟩ := inB_true.1 hl
  have k1 := pl_rule (s := s) (t := t) a0 a1 l0 l1
  exact ⟨by omega, by omega, by omega, IntWalk.i64_in _ (by omega)⟩
end Go.Proofs.Ythmmdcpodadjbaa.K
