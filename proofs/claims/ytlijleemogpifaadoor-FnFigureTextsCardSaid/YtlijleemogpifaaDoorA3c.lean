/- Contracts of chapter 3: logarithms by squaring. -/
import Derived.Test.YtlijleemogpifaaDoorA2
import Derived.Test.YtlijleemogpifaaDoorPlain3
import Derived.LoopTactic
namespace Go.Proofs.YtlijleemogpifaaDoor.C
open Go.RowKit Go.Proofs.YtlijleemogpifaaDoor.K
set_option linter.unusedVariables false

end Go.Proofs.YtlijleemogpifaaDoor.C
