/- Contracts of chapter 5: positions on scales, the parts. -/
import Derived.Test.YthmmdcpodadjbaaA5
import Derived.Test.YthmmdcpodadjbaaA3b
import Derived.Test.YthmmdcpodadjbaaA3c
import Derived.Test.YthmmdcpodadjbaaA4
import Derived.Test.YthmmdcpodadjbaaA4d
import Derived.Test.YthmmdcpodadjbaaU3
import Derived.Test.YthmmdcpodadjbaaPlain7
namespace Go.Proofs.Ythmmdcpodadjbaa.C
open Go.RowKit Go.Proofs.Ythmmdcpodadjbaa.K
set_option linter.unusedVariables false
set_option linter.unusedSimpArgs false
attribute [local go_sem ↓] Go.wp_at_zero Go.wp_at_succ
attribute [local go_sem] field0 field1

theorem fg0 (d : Int) : fgL d 0 = lgL (d * 100000) ∧ fgH d 0 = lgH (d * 100000) := by unfold fgL fgH; omega
theorem flog0_impl (d : Int) (w : World) (d0 : 1000 ≤ d) (d1 : d ≤ 9999) : Calls Try.prog 115 #[.agg #[.int .i64 d, .int .i64 0]] w fun e w' => e = .returned (.agg #[.int .i64 (lgL (d * 100000)), .int .i64 (lgH (d * 100000))]) ∧ Below w.heap.size w w' := by
  have h := flog_impl d 0 w d0 d1 (by omega) (by omega)
  rw [(fg0 d).1, (fg0 d).2] at h
  exact h
theorem flogC_impl (w : World) : Calls Try.prog 115 #[.agg #[.int .i64 3142, .int .i64 0]] w fun e w' => e = .returned (.agg #[.int .i64 (lgL 314200000), .int .i64 (lgH 314200000)]) ∧ Below w.heap.size w w' :=
  flog0_impl 3142 w (by decide) (by decide)
set_option maxHeartbeats 800000 in
theorem shift_impl (g : Nat) (a b n : Int) (w : World) (hS : S1 g a b w) (a0 : -2000000000000 ≤ a) (a1 : a ≤ 2000000000000) (b0 : -2000000000000 ≤ b) (b1 : b ≤ 2000000000000) (n0 : -2000000000000 ≤ n) (n1 : n ≤ 2000000000000) :
    Calls Try.prog 167 #[.int .i64 n, .pointer (some ⟨g, 0, none⟩)] w fun e w' => e = .returned (.agg #[.int .i64 (a + n), .int .i64 (b + n)]) ∧ Below w.heap.size w w' := by
  obtain ⟨h0, h1, h2⟩ := hS
  go_enter Try.func167, Try.ntmps167
  go_wp2_with fail
  refine bodyPost_ret (by simp [results, Try.results167, go_sem, *]; try rfl) rfl ?_
  exact ⟨rfl, (by repeat (first | (with_reducible exact Below.refl _ _) | (with_reducible assumption) | (with_reducible refine below_alloc ?_ _) | (with_reducible refine Below.setCell ?_ (by first | omega | (simp; done) | (simp; omega)) _) | (with_reducible refine below_drewN ?_ _) | (with_reducible refine Below.drew ?_) | (with_reducible refine below_tr ?_ (by assumption))))⟩
end Go.Proofs.Ythmmdcpodadjbaa.C
