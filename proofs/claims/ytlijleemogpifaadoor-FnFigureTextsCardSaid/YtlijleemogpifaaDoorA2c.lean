/- Contracts of chapter 2: figures compared, made, multiplied, divided, rounded; relative errors. -/
import Derived.Test.YtlijleemogpifaaDoorA2b
import Derived.Test.YtlijleemogpifaaDoorA1b
namespace Go.Proofs.YtlijleemogpifaaDoor.C
open Go.RowKit Go.Proofs.YtlijleemogpifaaDoor.K
set_option linter.unusedVariables false
attribute [local go_sem ↓] Go.wp_at_zero Go.wp_at_succ

end Go.Proofs.YtlijleemogpifaaDoor.C
