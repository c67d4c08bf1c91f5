/- Contracts of chapter 4: the program's search for the figures below and above a number of units. -/
import Derived.Test.YtjfhaahdjkiciaaA3c
import Derived.Test.YtjfhaahdjkiciaaPlain5
import Derived.LoopTactic
namespace Go.Proofs.Ytjfhaahdjkiciaa.C
open Go.RowKit Go.Proofs.Ytjfhaahdjkiciaa.K
set_option linter.unusedVariables false
attribute [local go_sem ↓] Go.wp_at_zero Go.wp_at_succ

theorem field0 (x y : Int) (w : World) : (Instr.field 31 (.agg #[.int .i64 x, .int .i64 y]) 0).run Try.prog w = .ok (.int .i64 x) w := by kernel_rfl
theorem field1 (x y : Int) (w : World) : (Instr.field 31 (.agg #[.int .i64 x, .int .i64 y]) 1).run Try.prog w = .ok (.int .i64 y) w := by kernel_rfl
attribute [local go_sem] field0 field1
/-- two blocks of one integer -/
abbrev C2 (g k : Nat) (a b : Int) (w : World) : Prop := g < w.heap.size ∧ w.cell? ⟨g, 0, none⟩ = some (.int .i64 a) ∧ k < w.heap.size ∧ w.cell? ⟨k, 0, none⟩ = some (.int .i64 b)
theorem C2.below {g k : Nat} {a b : Int} {w w' : World} (l : Below w.heap.size w w') (h : C2 g k a b w) : C2 g k a b w' := by
  obtain ⟨h0, h1, h2, h3⟩ := h
  have hs := l.size
  refine ⟨by omega, ?_, by omega, ?_⟩
  · rw [l.cell (p := ⟨g, 0, none⟩) h0, h1]
  · rw [l.cell (p := ⟨k, 0, none⟩) h2, h3]
theorem C2.drew {g k : Nat} {a b : Int} {w : World} (h : C2 g k a b w) : C2 g k a b w.drew := h.below ((Below.refl _ _).drew)
end Go.Proofs.Ytjfhaahdjkiciaa.C
