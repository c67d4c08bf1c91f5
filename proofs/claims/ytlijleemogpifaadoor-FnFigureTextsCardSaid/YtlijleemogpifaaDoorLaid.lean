/- What the listed tables give: the condition of the rows over three tables, its witness, the powers of ten. -/
import Derived.Test.YtlijleemogpifaaDoorS2
import Derived.LaidLaws
import Derived.LaidMore
import Derived.MakeChecks
import Derived.LaidOnce
import Derived.Lib.LaidTab
namespace Go.Proofs.YtlijleemogpifaaDoor.C
open Go.RowKit

/-- the three listed tables -/
def laid3 : List (String × DataW Unit) := [("math/bits.deBruijn32tab", Rows.laid_math_bits_deBruijn32tab), ("math/bits.deBruijn64tab", Rows.laid_math_bits_deBruijn64tab), ("internal/strconv.uint64pow10", Rows.laid_internal_strconv_uint64pow10)]
theorem door_met (os : Os) (args : Array Value) : laidMetH Tryd.prog laid3 ((World.doorLaid Tryd.prog 400 os).forCall (fun _ _ => 0) ⟨#[], args, []⟩).memory :=
  laidMetH_of_parts3 (fuel := 8) (laidMet_of_run' 8 (by kernel_rfl) (by kernel_rfl)) (by kernel_rfl) (by kernel_rfl)
theorem tPow : (Tryd.prog.globals[0]?).map (·.type) = some 120 := by kernel_rfl
theorem lb1_of_laid {W : World} (h : laidMetH Tryd.prog laid3 W) : Lb1 W := by
  rw [MakeChecks.laidMetH_plain _ _ _ (by kernel_rfl)] at h
  obtain ⟨ps, ⟨g0, t0, cs0, f0, p0, q0, hg0, ht0, hv0, hd0, ⟨g1, t1, cs1, f1, p1, q1, hg1, ht1, hv1, hd1, ⟨g2, t2, cs2, f2, p2, q2, hg2, ht2, hv2, hd2, _, _⟩, _⟩, _⟩, _, _⟩ := h
  obtain rfl := Option.some.inj (gPow.symm.trans hg2)
  obtain rfl := Option.some.inj (tPow.symm.trans ht2)
  unfold Lb1 Lib.TabIs
  rw [hv2]
  have e := Lib.cells_of_tab (n := 20) Tryd.underlying120 Tryd.underlying108 (by kernel_rfl) (by kernel_rfl) (zs := Lib.pow10Tab) (k := .u64) (show DataW.trod _ _ _ _ _ _ _ _ _ = some (Lib.tabData .u64 Lib.pow10Tab, _) from hd2)
  exact congrArg some (by rw [← e])
end Go.Proofs.YtlijleemogpifaaDoor.C
