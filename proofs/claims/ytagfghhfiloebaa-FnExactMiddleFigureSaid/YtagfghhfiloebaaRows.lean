/-
  No cell of these rows narrows 'for every input' (looked for: loops, veiled, ifaces, maps, wideKeys, modest, calm, conditions, laid).
  DERIVED. THE GIVEN ROWS OF THIS SEAT. 9 by the template 'for every input the law returns true; each argument reads behind the call as it read before'; 0 by the template 'total and deterministic' (their statements: YtagfghhfiloebaaTotals.lean).
  GIVEN WITH THE SEED: the statements are not yours to turn. If you find one false, say at which input.
  Laid BY PROGRAM, IN A SANDBOX (cutbox-rows.mjs): the forced cells as the released guide's own fill.sh prints them over the translation fbaa1cea303810e5… (all of the seat's roots in one cut). By AI agents, Wed Nov 11 2026. No macro, syntax, notation, axiom, sorry.
-/
import Derived.Test.YtagfghhfiloebaaChecked
import GoSem.Claim
import GoSem.ClaimJoined
import GoSem.ClaimMapViews
import Derived.JoinedTies
import Derived.KernelRfl
namespace Go.Proofs.Ytagfghhfiloebaa
/- THE CELL 'sum', in the pinned program and in every row, IS THE sha256 OF THE DUMP (.gsa) THAT YtagfghhfiloebaaProg.lean LOADS. Nothing in Lean hashes anything: it is a label: what it is worth is what the hold of that sum in a sandbox is worth. -/
noncomputable def Try.pinned : Pinned := { name := "ytagfghhfiloebaa", sum := "fbaa1cea303810e5dbec81a8dfdc29e857bc938b36930bcc659dba2837576b1f", checked := Try.checked }
namespace Rows
def none {H : Type} : Left H := { results := [], args := [] }

/-- 'laws.FnExactPositionOf': WHATEVER THE INPUT: true; the input reads as it did. -/
def fnExactPositionOfSpec : ChangeSpec := { name := "fnExactPositionOf", fn := fun _ => fun
  | [d1, d2] => { results := [.lit (.bool true)], args := [d1, d2] }
  | _ => none }
def fnExactPositionOfRow : OpenClaim := { program := "ytagfghhfiloebaa", sum := "fbaa1cea303810e5dbec81a8dfdc29e857bc938b36930bcc659dba2837576b1f", func := "loop.example/g00951/laws.FnExactPositionOf", spec := "fnExactPositionOf", unfollowed := true, recurses := true, apart := false }
def FnExactPositionOfSaid : Prop := fnExactPositionOfRow.holds Try.pinned (OpenSpec.ofChange fnExactPositionOfSpec)

/-- ITS FALSE NEIGHBOUR: 'it returns false'. Refute it at one input. -/
def fnExactPositionOfWrong : ChangeSpec := { name := "fnExactPositionOf", fn := fun _ => fun
  | [d1, d2] => { results := [.lit (.bool false)], args := [d1, d2] }
  | _ => none }
def FnExactPositionOfWrongFalsely : Prop := fnExactPositionOfRow.holds Try.pinned (OpenSpec.ofChange fnExactPositionOfWrong)

/-- 'laws.FnExactProductSpan': WHATEVER THE INPUT: true; the input reads as it did. -/
def fnExactProductSpanSpec : ChangeSpec := { name := "fnExactProductSpan", fn := fun _ => fun
  | [d1, d2] => { results := [.lit (.bool true)], args := [d1, d2] }
  | _ => none }
def fnExactProductSpanRow : OpenClaim := { program := "ytagfghhfiloebaa", sum := "fbaa1cea303810e5dbec81a8dfdc29e857bc938b36930bcc659dba2837576b1f", func := "loop.example/g00951/laws.FnExactProductSpan", spec := "fnExactProductSpan", unfollowed := true, recurses := true, apart := false }
def FnExactProductSpanSaid : Prop := fnExactProductSpanRow.holds Try.pinned (OpenSpec.ofChange fnExactProductSpanSpec)

/-- ITS FALSE NEIGHBOUR: 'it returns false'. Refute it at one input. -/
def fnExactProductSpanWrong : ChangeSpec := { name := "fnExactProductSpan", fn := fun _ => fun
  | [d1, d2] => { results := [.lit (.bool false)], args := [d1, d2] }
  | _ => none }
def FnExactProductSpanWrongFalsely : Prop := fnExactProductSpanRow.holds Try.pinned (OpenSpec.ofChange fnExactProductSpanWrong)

/-- 'laws.FnExactQuotientSpan': WHATEVER THE INPUT: true; the input reads as it did. -/
def fnExactQuotientSpanSpec : ChangeSpec := { name := "fnExactQuotientSpan", fn := fun _ => fun
  | [d1, d2] => { results := [.lit (.bool true)], args := [d1, d2] }
  | _ => none }
def fnExactQuotientSpanRow : OpenClaim := { program := "ytagfghhfiloebaa", sum := "fbaa1cea303810e5dbec81a8dfdc29e857bc938b36930bcc659dba2837576b1f", func := "loop.example/g00951/laws.FnExactQuotientSpan", spec := "fnExactQuotientSpan", unfollowed := true, recurses := true, apart := false }
def FnExactQuotientSpanSaid : Prop := fnExactQuotientSpanRow.holds Try.pinned (OpenSpec.ofChange fnExactQuotientSpanSpec)

/-- ITS FALSE NEIGHBOUR: 'it returns false'. Refute it at one input. -/
def fnExactQuotientSpanWrong : ChangeSpec := { name := "fnExactQuotientSpan", fn := fun _ => fun
  | [d1, d2] => { results := [.lit (.bool false)], args := [d1, d2] }
  | _ => none }
def FnExactQuotientSpanWrongFalsely : Prop := fnExactQuotientSpanRow.holds Try.pinned (OpenSpec.ofChange fnExactQuotientSpanWrong)

/-- 'laws.FnExactPlaceOf': WHATEVER THE INPUT: true; the input reads as it did. -/
def fnExactPlaceOfSpec : ChangeSpec := { name := "fnExactPlaceOf", fn := fun _ => fun
  | [d1, d2, d3] => { results := [.lit (.bool true)], args := [d1, d2, d3] }
  | _ => none }
def fnExactPlaceOfRow : OpenClaim := { program := "ytagfghhfiloebaa", sum := "fbaa1cea303810e5dbec81a8dfdc29e857bc938b36930bcc659dba2837576b1f", func := "loop.example/g00951/laws.FnExactPlaceOf", spec := "fnExactPlaceOf", unfollowed := true, recurses := true, apart := false }
def FnExactPlaceOfSaid : Prop := fnExactPlaceOfRow.holds Try.pinned (OpenSpec.ofChange fnExactPlaceOfSpec)

/-- ITS FALSE NEIGHBOUR: 'it returns false'. Refute it at one input. -/
def fnExactPlaceOfWrong : ChangeSpec := { name := "fnExactPlaceOf", fn := fun _ => fun
  | [d1, d2, d3] => { results := [.lit (.bool false)], args := [d1, d2, d3] }
  | _ => none }
def FnExactPlaceOfWrongFalsely : Prop := fnExactPlaceOfRow.holds Try.pinned (OpenSpec.ofChange fnExactPlaceOfWrong)

/-- 'laws.FnExactPowerSpan': WHATEVER THE INPUT: true; the input reads as it did. -/
def fnExactPowerSpanSpec : ChangeSpec := { name := "fnExactPowerSpan", fn := fun _ => fun
  | [d1, d2, d3] => { results := [.lit (.bool true)], args := [d1, d2, d3] }
  | _ => none }
def fnExactPowerSpanRow : OpenClaim := { program := "ytagfghhfiloebaa", sum := "fbaa1cea303810e5dbec81a8dfdc29e857bc938b36930bcc659dba2837576b1f", func := "loop.example/g00951/laws.FnExactPowerSpan", spec := "fnExactPowerSpan", unfollowed := true, recurses := true, apart := false }
def FnExactPowerSpanSaid : Prop := fnExactPowerSpanRow.holds Try.pinned (OpenSpec.ofChange fnExactPowerSpanSpec)

/-- ITS FALSE NEIGHBOUR: 'it returns false'. Refute it at one input. -/
def fnExactPowerSpanWrong : ChangeSpec := { name := "fnExactPowerSpan", fn := fun _ => fun
  | [d1, d2, d3] => { results := [.lit (.bool false)], args := [d1, d2, d3] }
  | _ => none }
def FnExactPowerSpanWrongFalsely : Prop := fnExactPowerSpanRow.holds Try.pinned (OpenSpec.ofChange fnExactPowerSpanWrong)

/-- 'laws.FnExactDistanceBetween': WHATEVER THE INPUT: true; the input reads as it did. -/
def fnExactDistanceBetweenSpec : ChangeSpec := { name := "fnExactDistanceBetween", fn := fun _ => fun
  | [d1, d2, d3, d4] => { results := [.lit (.bool true)], args := [d1, d2, d3, d4] }
  | _ => none }
def fnExactDistanceBetweenRow : OpenClaim := { program := "ytagfghhfiloebaa", sum := "fbaa1cea303810e5dbec81a8dfdc29e857bc938b36930bcc659dba2837576b1f", func := "loop.example/g00951/laws.FnExactDistanceBetween", spec := "fnExactDistanceBetween", unfollowed := true, recurses := true, apart := false }
def FnExactDistanceBetweenSaid : Prop := fnExactDistanceBetweenRow.holds Try.pinned (OpenSpec.ofChange fnExactDistanceBetweenSpec)

/-- ITS FALSE NEIGHBOUR: 'it returns false'. Refute it at one input. -/
def fnExactDistanceBetweenWrong : ChangeSpec := { name := "fnExactDistanceBetween", fn := fun _ => fun
  | [d1, d2, d3, d4] => { results := [.lit (.bool false)], args := [d1, d2, d3, d4] }
  | _ => none }
def FnExactDistanceBetweenWrongFalsely : Prop := fnExactDistanceBetweenRow.holds Try.pinned (OpenSpec.ofChange fnExactDistanceBetweenWrong)

/-- 'laws.FnExactMiddleFigure': WHATEVER THE INPUT: true; the input reads as it did. -/
def fnExactMiddleFigureSpec : ChangeSpec := { name := "fnExactMiddleFigure", fn := fun _ => fun
  | [d1, d2] => { results := [.lit (.bool true)], args := [d1, d2] }
  | _ => none }
def fnExactMiddleFigureRow : OpenClaim := { program := "ytagfghhfiloebaa", sum := "fbaa1cea303810e5dbec81a8dfdc29e857bc938b36930bcc659dba2837576b1f", func := "loop.example/g00951/laws.FnExactMiddleFigure", spec := "fnExactMiddleFigure", unfollowed := true, recurses := true, apart := false }
def FnExactMiddleFigureSaid : Prop := fnExactMiddleFigureRow.holds Try.pinned (OpenSpec.ofChange fnExactMiddleFigureSpec)

/-- ITS FALSE NEIGHBOUR: 'it returns false'. Refute it at one input. -/
def fnExactMiddleFigureWrong : ChangeSpec := { name := "fnExactMiddleFigure", fn := fun _ => fun
  | [d1, d2] => { results := [.lit (.bool false)], args := [d1, d2] }
  | _ => none }
def FnExactMiddleFigureWrongFalsely : Prop := fnExactMiddleFigureRow.holds Try.pinned (OpenSpec.ofChange fnExactMiddleFigureWrong)

/-- 'laws.FnExactCountReadings': WHATEVER THE INPUT: true; the input reads as it did. -/
def fnExactCountReadingsSpec : ChangeSpec := { name := "fnExactCountReadings", fn := fun _ => fun
  | [d1, d2, d3, d4] => { results := [.lit (.bool true)], args := [d1, d2, d3, d4] }
  | _ => none }
def fnExactCountReadingsRow : OpenClaim := { program := "ytagfghhfiloebaa", sum := "fbaa1cea303810e5dbec81a8dfdc29e857bc938b36930bcc659dba2837576b1f", func := "loop.example/g00951/laws.FnExactCountReadings", spec := "fnExactCountReadings", unfollowed := true, recurses := true, apart := false }
def FnExactCountReadingsSaid : Prop := fnExactCountReadingsRow.holds Try.pinned (OpenSpec.ofChange fnExactCountReadingsSpec)

/-- ITS FALSE NEIGHBOUR: 'it returns false'. Refute it at one input. -/
def fnExactCountReadingsWrong : ChangeSpec := { name := "fnExactCountReadings", fn := fun _ => fun
  | [d1, d2, d3, d4] => { results := [.lit (.bool false)], args := [d1, d2, d3, d4] }
  | _ => none }
def FnExactCountReadingsWrongFalsely : Prop := fnExactCountReadingsRow.holds Try.pinned (OpenSpec.ofChange fnExactCountReadingsWrong)

/-- 'laws.FnExactBestReading': WHATEVER THE INPUT: true; the input reads as it did. -/
def fnExactBestReadingSpec : ChangeSpec := { name := "fnExactBestReading", fn := fun _ => fun
  | [d1, d2, d3] => { results := [.lit (.bool true)], args := [d1, d2, d3] }
  | _ => none }
def fnExactBestReadingRow : OpenClaim := { program := "ytagfghhfiloebaa", sum := "fbaa1cea303810e5dbec81a8dfdc29e857bc938b36930bcc659dba2837576b1f", func := "loop.example/g00951/laws.FnExactBestReading", spec := "fnExactBestReading", unfollowed := true, recurses := true, apart := false }
def FnExactBestReadingSaid : Prop := fnExactBestReadingRow.holds Try.pinned (OpenSpec.ofChange fnExactBestReadingSpec)

/-- ITS FALSE NEIGHBOUR: 'it returns false'. Refute it at one input. -/
def fnExactBestReadingWrong : ChangeSpec := { name := "fnExactBestReading", fn := fun _ => fun
  | [d1, d2, d3] => { results := [.lit (.bool false)], args := [d1, d2, d3] }
  | _ => none }
def FnExactBestReadingWrongFalsely : Prop := fnExactBestReadingRow.holds Try.pinned (OpenSpec.ofChange fnExactBestReadingWrong)

/- THE SECOND FORM. 'bulk': how many values and letters a reading holds, each counted each time it is reached (what is shared counts as often as it is met; a slice's spare places count too). A statement '..UptoSaid' is the law's where the arguments, and the package variables that the reading takes, are together of bulk at most 1048576: NARROWER than '..Said'. Prove '..Said' where nothing that the law and all that it calls make is longer than what came in: it says more and counts as full. Else prove '..UptoSaid'. A law counts once. -/
mutual
def uptoBulk {H : Type} : DataW H → Nat
  | .lit (.string bytes) => bytes.length + 1
  | .lit _ => 1
  | .nil => 1
  | .ptr d => uptoBulk d + 1
  | .slice elems spare => uptoBulkAll elems + uptoBulkAll spare + 1
  | .agg parts => uptoBulkAll parts + 1
  | .iface _ d => uptoBulk d + 1
  | .map entries => uptoBulkEntries entries + 1
  | .held _ => 1
def uptoBulkAll {H : Type} : List (DataW H) → Nat
  | [] => 0
  | d :: r => uptoBulk d + uptoBulkAll r
def uptoBulkEntries {H : Type} : List (Lit × DataW H) → Nat
  | [] => 0
  | x :: r => uptoBulkEntry x + uptoBulkEntries r
def uptoBulkEntry {H : Type} : Lit × DataW H → Nat
  | (.string bytes, d) => bytes.length + uptoBulk d + 1
  | (_, d) => uptoBulk d + 1
 end
def uptoSmall : (H : Type) → List (DataW H) → Bool := fun _ ds => decide (uptoBulkAll ds ≤ 1048576)
def OpenSpec.upto (s : _root_.Go.ChangeSpec) : _root_.Go.OpenSpec := { _root_.Go.OpenSpec.ofChange s with cond := some uptoSmall }

/-- 'laws.FnExactPositionOf', WHERE WHAT IT READS IS OF BULK AT MOST 1048576: true; the input reads as it did. -/
def fnExactPositionOfUptoRow : OpenClaim := { program := "ytagfghhfiloebaa", sum := "fbaa1cea303810e5dbec81a8dfdc29e857bc938b36930bcc659dba2837576b1f", func := "loop.example/g00951/laws.FnExactPositionOf", spec := "fnExactPositionOf", unfollowed := true, recurses := true, apart := false, narrowed := true }
def FnExactPositionOfUptoSaid : Prop := fnExactPositionOfUptoRow.holds Try.pinned (OpenSpec.upto fnExactPositionOfSpec)

/-- 'laws.FnExactProductSpan', WHERE WHAT IT READS IS OF BULK AT MOST 1048576: true; the input reads as it did. -/
def fnExactProductSpanUptoRow : OpenClaim := { program := "ytagfghhfiloebaa", sum := "fbaa1cea303810e5dbec81a8dfdc29e857bc938b36930bcc659dba2837576b1f", func := "loop.example/g00951/laws.FnExactProductSpan", spec := "fnExactProductSpan", unfollowed := true, recurses := true, apart := false, narrowed := true }
def FnExactProductSpanUptoSaid : Prop := fnExactProductSpanUptoRow.holds Try.pinned (OpenSpec.upto fnExactProductSpanSpec)

/-- 'laws.FnExactQuotientSpan', WHERE WHAT IT READS IS OF BULK AT MOST 1048576: true; the input reads as it did. -/
def fnExactQuotientSpanUptoRow : OpenClaim := { program := "ytagfghhfiloebaa", sum := "fbaa1cea303810e5dbec81a8dfdc29e857bc938b36930bcc659dba2837576b1f", func := "loop.example/g00951/laws.FnExactQuotientSpan", spec := "fnExactQuotientSpan", unfollowed := true, recurses := true, apart := false, narrowed := true }
def FnExactQuotientSpanUptoSaid : Prop := fnExactQuotientSpanUptoRow.holds Try.pinned (OpenSpec.upto fnExactQuotientSpanSpec)

/-- 'laws.FnExactPlaceOf', WHERE WHAT IT READS IS OF BULK AT MOST 1048576: true; the input reads as it did. -/
def fnExactPlaceOfUptoRow : OpenClaim := { program := "ytagfghhfiloebaa", sum := "fbaa1cea303810e5dbec81a8dfdc29e857bc938b36930bcc659dba2837576b1f", func := "loop.example/g00951/laws.FnExactPlaceOf", spec := "fnExactPlaceOf", unfollowed := true, recurses := true, apart := false, narrowed := true }
def FnExactPlaceOfUptoSaid : Prop := fnExactPlaceOfUptoRow.holds Try.pinned (OpenSpec.upto fnExactPlaceOfSpec)

/-- 'laws.FnExactPowerSpan', WHERE WHAT IT READS IS OF BULK AT MOST 1048576: true; the input reads as it did. -/
def fnExactPowerSpanUptoRow : OpenClaim := { program := "ytagfghhfiloebaa", sum := "fbaa1cea303810e5dbec81a8dfdc29e857bc938b36930bcc659dba2837576b1f", func := "loop.example/g00951/laws.FnExactPowerSpan", spec := "fnExactPowerSpan", unfollowed := true, recurses := true, apart := false, narrowed := true }
def FnExactPowerSpanUptoSaid : Prop := fnExactPowerSpanUptoRow.holds Try.pinned (OpenSpec.upto fnExactPowerSpanSpec)

/-- 'laws.FnExactDistanceBetween', WHERE WHAT IT READS IS OF BULK AT MOST 1048576: true; the input reads as it did. -/
def fnExactDistanceBetweenUptoRow : OpenClaim := { program := "ytagfghhfiloebaa", sum := "fbaa1cea303810e5dbec81a8dfdc29e857bc938b36930bcc659dba2837576b1f", func := "loop.example/g00951/laws.FnExactDistanceBetween", spec := "fnExactDistanceBetween", unfollowed := true, recurses := true, apart := false, narrowed := true }
def FnExactDistanceBetweenUptoSaid : Prop := fnExactDistanceBetweenUptoRow.holds Try.pinned (OpenSpec.upto fnExactDistanceBetweenSpec)

/-- 'laws.FnExactMiddleFigure', WHERE WHAT IT READS IS OF BULK AT MOST 1048576: true; the input reads as it did. -/
def fnExactMiddleFigureUptoRow : OpenClaim := { program := "ytagfghhfiloebaa", sum := "fbaa1cea303810e5dbec81a8dfdc29e857bc938b36930bcc659dba2837576b1f", func := "loop.example/g00951/laws.FnExactMiddleFigure", spec := "fnExactMiddleFigure", unfollowed := true, recurses := true, apart := false, narrowed := true }
def FnExactMiddleFigureUptoSaid : Prop := fnExactMiddleFigureUptoRow.holds Try.pinned (OpenSpec.upto fnExactMiddleFigureSpec)

/-- 'laws.FnExactCountReadings', WHERE WHAT IT READS IS OF BULK AT MOST 1048576: true; the input reads as it did. -/
def fnExactCountReadingsUptoRow : OpenClaim := { program := "ytagfghhfiloebaa", sum := "fbaa1cea303810e5dbec81a8dfdc29e857bc938b36930bcc659dba2837576b1f", func := "loop.example/g00951/laws.FnExactCountReadings", spec := "fnExactCountReadings", unfollowed := true, recurses := true, apart := false, narrowed := true }
def FnExactCountReadingsUptoSaid : Prop := fnExactCountReadingsUptoRow.holds Try.pinned (OpenSpec.upto fnExactCountReadingsSpec)

/-- 'laws.FnExactBestReading', WHERE WHAT IT READS IS OF BULK AT MOST 1048576: true; the input reads as it did. -/
def fnExactBestReadingUptoRow : OpenClaim := { program := "ytagfghhfiloebaa", sum := "fbaa1cea303810e5dbec81a8dfdc29e857bc938b36930bcc659dba2837576b1f", func := "loop.example/g00951/laws.FnExactBestReading", spec := "fnExactBestReading", unfollowed := true, recurses := true, apart := false, narrowed := true }
def FnExactBestReadingUptoSaid : Prop := fnExactBestReadingUptoRow.holds Try.pinned (OpenSpec.upto fnExactBestReadingSpec)

end Rows
end Go.Proofs.Ytagfghhfiloebaa
