/- Contracts of chapter 4: spans of products, quotients and powers; middles. -/
import Derived.Test.YtjfhaahdjkiciaaA4c
import Derived.Test.YtjfhaahdjkiciaaA2c
import Derived.Test.YtjfhaahdjkiciaaPlain6
namespace Go.Proofs.Ytjfhaahdjkiciaa.C
open Go.RowKit Go.Proofs.Ytjfhaahdjkiciaa.K
set_option linter.unusedVariables false
attribute [local go_sem ↓] Go.wp_at_zero Go.wp_at_succ
attribute [local go_sem] field0 field1

theorem S2.go {g k : Nat} {a b c d : Int} {w w' : World} (h : S2 g k a b c d w) (l : Below w.heap.size w w') : S2 g k a b c d w' := h.below l
end Go.Proofs.Ytjfhaahdjkiciaa.C
