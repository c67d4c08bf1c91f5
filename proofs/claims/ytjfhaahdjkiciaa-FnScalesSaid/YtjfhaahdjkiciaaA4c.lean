/- Contracts of chapter 4: spans. -/
import Derived.Test.YtjfhaahdjkiciaaA4b
import Derived.Test.YtjfhaahdjkiciaaA3
import Derived.Test.YtjfhaahdjkiciaaA3b
import Derived.Test.YtjfhaahdjkiciaaU3
import Derived.RegionTactic
namespace Go.Proofs.Ytjfhaahdjkiciaa.C
open Go.RowKit Go.Proofs.Ytjfhaahdjkiciaa.K
set_option linter.unusedVariables false
attribute [local go_sem ↓] Go.wp_at_zero Go.wp_at_succ
attribute [local go_sem] field0 field1

theorem ret_span {a b c d e f g h i j : Int} (h1 : a = b) (h2 : c = d) (h3 : e = f) (h4 : g = h) (h5 : i = j) :
    Ending.returned (.tuple #[.agg #[.int .i64 a, .int .i64 c], .agg #[.int .i64 e, .int .i64 g], .int .i64 i]) = .returned (.tuple #[.agg #[.int .i64 b, .int .i64 d], .agg #[.int .i64 f, .int .i64 h], .int .i64 j]) := by rw [h1, h2, h3, h4, h5]
end Go.Proofs.Ytjfhaahdjkiciaa.C
