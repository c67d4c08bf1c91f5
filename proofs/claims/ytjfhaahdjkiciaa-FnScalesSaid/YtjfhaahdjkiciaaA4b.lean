/- Contracts of chapter 4: figures below and above a number of units. -/
import Derived.Test.YtjfhaahdjkiciaaA4
import Derived.Test.YtjfhaahdjkiciaaA1b
import Derived.Deep.RegionWith
namespace Go.Proofs.Ytjfhaahdjkiciaa.C
open Go.RowKit Go.Proofs.Ytjfhaahdjkiciaa.K
set_option linter.unusedVariables false
attribute [local go_sem ↓] Go.wp_at_zero Go.wp_at_succ
attribute [local go_sem] field0 field1

theorem ret_figb {a b c d : Int} {p q : Bool} (h : a = b) (k : c = d) (l : p = q) : Ending.returned (.tuple #[.agg #[.int .i64 a, .int .i64 c], .bool p]) = .returned (.tuple #[.agg #[.int .i64 b, .int .i64 d], .bool q]) := by rw [h, k, l]
end Go.Proofs.Ytjfhaahdjkiciaa.C
