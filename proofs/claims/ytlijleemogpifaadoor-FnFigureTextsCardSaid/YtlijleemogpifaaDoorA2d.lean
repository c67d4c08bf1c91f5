/- Contracts of chapter 2: products, quotients, fewer digits, relative errors. -/
import Derived.Test.YtlijleemogpifaaDoorA2c
namespace Go.Proofs.YtlijleemogpifaaDoor.C
open Go.RowKit Go.Proofs.YtlijleemogpifaaDoor.K
set_option linter.unusedVariables false

end Go.Proofs.YtlijleemogpifaaDoor.C
