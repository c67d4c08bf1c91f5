/- Contracts of chapter 2: a fraction, rounded to a figure. -/
import Derived.Test.YtagfghhfiloebaaA2
import Derived.LoopTactic
namespace Go.Proofs.Ytagfghhfiloebaa.C
open Go.RowKit Go.Proofs.Ytagfghhfiloebaa.K
set_option linter.unusedVariables false

end Go.Proofs.Ytagfghhfiloebaa.C
