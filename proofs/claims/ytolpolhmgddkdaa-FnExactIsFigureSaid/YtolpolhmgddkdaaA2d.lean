/- Contracts of chapter 2: products, quotients, fewer digits, relative errors. -/
import Derived.Test.YtolpolhmgddkdaaA2c
namespace Go.Proofs.Ytolpolhmgddkdaa.C
open Go.RowKit Go.Proofs.Ytolpolhmgddkdaa.K
set_option linter.unusedVariables false

end Go.Proofs.Ytolpolhmgddkdaa.C
