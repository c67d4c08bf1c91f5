/- Contracts of chapter 2: a fraction, rounded to a figure. -/
import Derived.Test.YtolpolhmgddkdaaA2
import Derived.LoopTactic
namespace Go.Proofs.Ytolpolhmgddkdaa.C
open Go.RowKit Go.Proofs.Ytolpolhmgddkdaa.K
set_option linter.unusedVariables false

end Go.Proofs.Ytolpolhmgddkdaa.C
