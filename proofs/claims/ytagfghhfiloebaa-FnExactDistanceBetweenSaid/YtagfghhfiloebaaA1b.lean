/- Contracts of the functions of chapter 1, second part: divisions, powers of ten, common divisors. -/
import Derived.Test.YtagfghhfiloebaaA1
import Derived.LoopTactic
import Derived.Below
import Derived.BigQuiet
import Derived.Deep.QuietTactic
import Derived.Deep.Draws
import Derived.WalkSmall
namespace Go.Proofs.Ytagfghhfiloebaa.C
open Go.RowKit Go.Proofs.Ytagfghhfiloebaa.K

end Go.Proofs.Ytagfghhfiloebaa.C
