/- Contracts of chapter 3: an interval times a fraction. -/
import Derived.Test.YtolpolhmgddkdaaA3
import Derived.BigQuiet
import Derived.Deep.QuietTactic
import Derived.Deep.Draws
namespace Go.Proofs.Ytolpolhmgddkdaa.C
open Go.RowKit Go.Proofs.Ytolpolhmgddkdaa.K
set_option linter.unusedVariables false

end Go.Proofs.Ytolpolhmgddkdaa.C
