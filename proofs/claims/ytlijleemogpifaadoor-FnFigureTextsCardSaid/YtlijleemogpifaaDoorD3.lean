/- Draws of two figures, of intervals, of scales: what they return. -/
import Derived.Test.YtlijleemogpifaaDoorD2
namespace Go.Proofs.YtlijleemogpifaaDoor.C
open Go.RowKit Go.Proofs.YtlijleemogpifaaDoor.K
set_option linter.unusedVariables false
set_option linter.unusedSimpArgs false
attribute [local go_sem ↓] Go.wp_at_zero Go.wp_at_succ

/-- the lesser, the greater, unopened -/
def mnV (x y : Int) : Int := if y < x then y else x
def mxV (x y : Int) : Int := if x < y then y else x
theorem run_min_mn {P : Program} {w : World} (ts : Array TypeId) (t : TypeId) (k k' : IntKind) (x y : Int) : (Builtin.min_ ts t #[.int k x, .int k' y]).run P w = .ok (.int k (mnV x y)) w := run_min_int2 _ ts t k k' x y
theorem run_max_mx {P : Program} {w : World} (ts : Array TypeId) (t : TypeId) (k k' : IntKind) (x y : Int) : (Builtin.max_ ts t #[.int k x, .int k' y]).run P w = .ok (.int k (mxV x y)) w := run_max_int2 _ ts t k k' x y
attribute [local go_sem high] run_min_mn run_max_mx
theorem Two.but {w w' : World} {k g : Nat} {x y : Int} (h : Two w k x y) (b : But g w w') (hk : k ≠ g) : Two w' k x y := by
  obtain ⟨h0, h1, h2, h3, h4⟩ := h
  have hs := b.size
  exact ⟨by omega, by rw [b.cell h0 hk, h1], by rw [b.cell h0 hk, h2], by rw [b.frozen h0 hk, h3], by rw [b.frozen h0 hk, h4]⟩
theorem Two.drewN {w : World} {k : Nat} {x y : Int} (h : Two w k x y) (n : Nat) : Two (w.drewN n) k x y := h.below (B := w.heap.size) (below_drewN (Below.refl _ _) n) h.1
theorem Two.mk' (w : World) (a b : Int) (t : TypeId) (g : Nat) (h : g = w.heap.size) : Two (w.alloc (.cells #[.int .i64 a, .int .i64 b] t)) g a b := by subst h; exact Two.mk0 w a b t
end Go.Proofs.YtlijleemogpifaaDoor.C
