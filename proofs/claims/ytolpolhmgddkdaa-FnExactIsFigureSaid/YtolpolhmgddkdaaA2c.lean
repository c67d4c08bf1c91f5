/- Contracts of chapter 2: figures compared, made, multiplied, divided, rounded; relative errors. -/
import Derived.Test.YtolpolhmgddkdaaA2b
import Derived.Test.YtolpolhmgddkdaaA1b
namespace Go.Proofs.Ytolpolhmgddkdaa.C
open Go.RowKit Go.Proofs.Ytolpolhmgddkdaa.K
set_option linter.unusedVariables false
attribute [local go_sem ↓] Go.wp_at_zero Go.wp_at_succ

end Go.Proofs.Ytolpolhmgddkdaa.C
