/- Contracts of chapter 2: a fraction, rounded to a figure. -/
import Derived.Test.YtlijleemogpifaaDoorA2
import Derived.LoopTactic
namespace Go.Proofs.YtlijleemogpifaaDoor.C
open Go.RowKit Go.Proofs.YtlijleemogpifaaDoor.K
set_option linter.unusedVariables false

end Go.Proofs.YtlijleemogpifaaDoor.C
