/- The laws of chapter 1 that compare the program with the reference at integers: the walks. -/
import Derived.Test.YtolpolhmgddkdaaA1b
namespace Go.Proofs.Ytolpolhmgddkdaa.W
open Go.RowKit Go.Proofs.Ytolpolhmgddkdaa.K Go.Proofs.Ytolpolhmgddkdaa.C
set_option linter.unusedVariables false

set_option maxHeartbeats 400000 in
theorem Constants (w : World) : Calls Try.prog 3 #[] w fun e w' => e = .returned (.bool true) ∧ Below w.heap.size w w' := by
  go_enter Try.func3, Try.ntmps3
  go_wp2
  go_ret
  exact ⟨rfl, Below.refl _ _⟩
end Go.Proofs.Ytolpolhmgddkdaa.W
