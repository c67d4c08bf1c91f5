/- Contracts of chapter 2: fewer digits, relative errors. -/
import Derived.Test.YthmmdcpodadjbaaA2d
import Derived.Test.YthmmdcpodadjbaaPlain4
namespace Go.Proofs.Ythmmdcpodadjbaa.C
open Go.RowKit Go.Proofs.Ythmmdcpodadjbaa.K
set_option linter.unusedVariables false

theorem ten0 : tenV 0 = 1 := by decide
theorem ten1 : tenV 1 = 10 := by decide
theorem ten2 : tenV 2 = 100 := by decide
theorem ten3 : tenV 3 = 1000 := by decide
theorem ten4 : tenV 4 = 10000 := by decide
theorem ten5 : tenV 5 = 100000 := by decide
theorem ten6 : tenV 6 = 1000000 := by decide
theorem ten7 : tenV 7 = 10000000 := by decide
end Go.Proofs.Ythmmdcpodadjbaa.C
