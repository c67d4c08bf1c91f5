/- Small facts beside the draws: codes that are too long; blocks that were just made. -/
import Derived.Test.YtlijleemogpifaaDoorU3
import Derived.LoopTactic
namespace Go.Proofs.YtlijleemogpifaaDoor.C
open Go.RowKit Go.Proofs.YtlijleemogpifaaDoor.K
set_option linter.unusedVariables false
set_option linter.unusedSimpArgs false
attribute [local go_sem ↓] Go.wp_at_zero Go.wp_at_succ

set_option maxHeartbeats 400000 in
theorem big (a : Option Addr) (len cap : Nat) (w : World) : Calls Tryd.prog 20 #[.slice a len cap] w fun e w' => e = .returned (.bool (decide (4096 < len))) ∧ w = w' := by
  go_enter Tryd.func20, Tryd.ntmps20
  go_wp2
  go_ret
  exact ⟨by simp; omega, rfl⟩
theorem new2 (w : World) (o : Obj) (c d : Int) (t : TypeId) : S1 (w.heap.size + 1) c d ((w.alloc o).alloc (.cells #[.int .i64 c, .int .i64 d] t)) := S1.new' _ _ _ _ _ (by simp)
theorem S1.un {k : Nat} {x y : Int} {w : World} {X : Obj} (h : S1 k x y (w.alloc X)) (hk : k < w.heap.size) : S1 k x y w := by
  have l : Below w.heap.size w (w.alloc X) := (Below.refl _ _).alloc (Nat.le_refl _) _
  obtain ⟨_, h1, h2⟩ := h
  rw [l.cell (p := ⟨k, 0, none⟩) hk] at h1
  rw [l.cell (p := ⟨k, 1, none⟩) hk] at h2
  exact ⟨hk, h1, h2⟩
end Go.Proofs.YtlijleemogpifaaDoor.C
