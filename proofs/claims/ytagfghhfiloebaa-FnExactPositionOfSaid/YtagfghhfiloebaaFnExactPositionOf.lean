/- FnExactPositionOf: the statement, proved: the walk of the law (W.PositionOf) put into the frame of the given row. No condition. -/
import Derived.Test.YtagfghhfiloebaaExactL
import Derived.Lib.SmallJoins
import Derived.ShutString
import Derived.ChangeOld
import Derived.Below
namespace Go.Proofs.Ytagfghhfiloebaa.fnExactPositionOf
open Go.ChangeShapes Go.WideShapes Go.ChangeAt Go.RowKit Go.Joins
open Go.ChangeMaps (open_string shut_string)
set_option linter.unusedVariables false

theorem own : ownKnob Try.prog.godebug = none := by kernel_rfl
theorem laidOut : laidOutB Try.prog = true := by kernel_rfl
theorem cellsg : Try.prog.cellsOf 23 = 2 := by kernel_rfl
theorem trodI {H : Type} (enc : TypeId × Value → H) (W : World) (b : Nat) (sp : Nat → Bool) (hd : Bool) (a : Int) (wa : (Lit.int .i64 a).wf = true) : DataW.trod enc Try.prog W b sp hd 1 2 [.int .i64 a] = some (.lit (.int .i64 a), []) := by simp [DataW.trod, Try.underlying2, wa]

set_option maxRecDepth 100000 in
theorem lifted (os : Os) (started : os.Started) (H : Type) (enc : TypeId × Value → H) :
    ReturnsInHanded {} Try.checked os 3 .any (Rows.fnExactPositionOfSpec.pre6 enc Try.prog Try.f3 Rows.fnExactPositionOfRow.domain false) (Rows.fnExactPositionOfSpec.post enc Try.prog Try.f3 false true false false) := by
  refine returnsInHanded_of_change (C := Try.checked) own started (by kernel_rfl) Try.func3
    (ChangeSpec.witness6 (enc := enc) (C := Try.checked) false ⟨#[], #[.int .i64 0, .agg #[.int .i64 0, .int .i64 0]], []⟩ 8 (by kernel_rfl) (by kernel_rfl) (by kernel_rfl) (by kernel_rfl)) ?_
  intro W base args ds gs before hval0 hW hcnd _
  have hval : ∀ (j : Nat) t v, Try.f3.params[j]? = some t → args[j]? = some v → Value.okWide Try.prog W .any base t v := hval0
  have hW' := hW
  obtain ⟨p, q, hA0, hV, rfl, hfz, hnd⟩ := hW
  have hA : DataW.TrodAll enc Try.prog W 0 (fun _ => true) true Try.f3.params.toList args.toList ds p := hA0
  rw [Try.params3] at hA hval
  obtain ⟨v0, vs0, d0, ds0, p0, q0, hargs, rfl, rfl, h0, r0⟩ := trodAll_cons hA
  obtain ⟨v1, vs1, d1, ds1, p1, q1, rfl, rfl, rfl, h1, r1⟩ := trodAll_cons r0
  obtain ⟨rfl, rfl, rfl⟩ := trodAll_nil r1
  obtain rfl : args = #[v0, v1] := by cases args; simp_all
  obtain ⟨rfl, rfl⟩ := trodVars_none hV
  obtain ⟨a0, rfl, rfl, rfl, w0⟩ := open_int Try.underlying2 (hval 0 2 v0 rfl rfl) h0
  obtain ⟨c1a, c1b, y1a, y1b, m1, rfl, rfl, rfl, hy1a, hy1b⟩ := open_agg2 Try.underlying23 (by kernel_rfl) cellsg (hval 1 23 v1 rfl rfl) h1
  obtain ⟨a1a, e1a, rfl, w1a⟩ := DataW.trod_int Try.underlying2 hy1a
  obtain ⟨a1b, e1b, rfl, w1b⟩ := DataW.trod_int Try.underlying2 hy1b
  simp at e1a e1b; subst e1a e1b
  clear hA0 hval0
  simp only [List.append_nil] at hW'
  refine (_root_.Go.Proofs.Ytagfghhfiloebaa.W.PositionOf a0 a1a a1b W w0 w1a w1b).mono fun e W' ⟨he, bel⟩ => ?_
  subst he
  exact ⟨_, rfl, _, _, _, [], _, [], hW', trodAll_mk1 (shut_bool Try.underlying4 _), (trodAll_cons_mk (shut_int Try.underlying2 w0) (trodAll_cons_mk (shut_agg2 (y0 := (.lit (.int .i64 a1a), [])) (y1 := (.lit (.int .i64 a1b), [])) Try.underlying23 (by kernel_rfl) cellsg ⟨1, trodI _ _ _ _ _ _ w1a⟩ ⟨1, trodI _ _ _ _ _ _ w1b⟩) trodAll_mk0)), rfl, bel.frame _, fun h => by cases h⟩

theorem over : Rows.fnExactPositionOfRow.holds Try.pinned (OpenSpec.ofChange Rows.fnExactPositionOfSpec) :=
  OpenClaim.holds_of_wide 3 Try.f3 rfl rfl rfl rfl rfl rfl rfl ⟨rfl, rfl, rfl, rfl, rfl⟩ rfl rfl rfl rfl rfl (by kernel_rfl) Try.func3 (by kernel_rfl)
    (of_decide_eq_true (by kernel_rfl)) (by unfold Func.isWrapper; first | (rw [if_pos (by decide +kernel)]; kernel_rfl) | (rw [if_neg (by decide +kernel)]; exact ⟨rfl, rfl⟩))
    (fun os started H enc _ => lifted os started H enc)

/-- the statement -/
theorem proved : Rows.FnExactPositionOfSaid := over
#print axioms proved
end Go.Proofs.Ytagfghhfiloebaa.fnExactPositionOf
