/- Contracts of chapter 3: an interval times a fraction. -/
import Derived.Test.YtkhioplhmmjalaaA3
import Derived.BigQuiet
import Derived.Deep.QuietTactic
import Derived.Deep.Draws
namespace Go.Proofs.Ytkhioplhmmjalaa.C
open Go.RowKit Go.Proofs.Ytkhioplhmmjalaa.K
set_option linter.unusedVariables false

end Go.Proofs.Ytkhioplhmmjalaa.C
