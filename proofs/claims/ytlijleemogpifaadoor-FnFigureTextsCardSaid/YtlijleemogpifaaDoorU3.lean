/- Blocks of two integers: short forms for the ends of walks. -/
import Derived.Test.YtlijleemogpifaaDoorU2
namespace Go.Proofs.YtlijleemogpifaaDoor.C
open Go.RowKit Go.Proofs.YtlijleemogpifaaDoor.K

theorem Two.go {w w' : World} {g : Nat} {a b : Int} (h : Two w g a b) (k : Below w.heap.size w w') : Two w' g a b := h.below k h.1
theorem S1.go {w w' : World} {g : Nat} {a b : Int} (h : S1 g a b w) (k : Below w.heap.size w w') : S1 g a b w' := h.below k
theorem S1.set0 {g : Nat} {a b : Int} {w : World} (h : S1 g 0 0 w) : S1 g a b ((w.setCell ⟨g, 0, none⟩ (.int .i64 a)).setCell ⟨g, 1, none⟩ (.int .i64 b)) := S1.set3 h

end Go.Proofs.YtlijleemogpifaaDoor.C
