/-
  No cell of these rows narrows 'for every input' (looked for: loops, veiled, ifaces, maps, wideKeys, modest, calm, conditions, laid).
  DERIVED. THE GIVEN ROWS OF THIS SEAT. 12 by the template 'for every input the law returns true; each argument reads behind the call as it read before'; 0 by the template 'total and deterministic' (their statements: YtckpldpncknlnaaTotals.lean).
  GIVEN WITH THE SEED: the statements are not yours to turn. If you find one false, say at which input.
  Laid BY PROGRAM, IN A SANDBOX (cutbox-rows.mjs): the forced cells as the released guide's own fill.sh prints them over the translation 8472a7d100c53a73… (all of the seat's roots in one cut). By AI agents, Wed Nov 11 2026. No macro, syntax, notation, axiom, sorry.
-/
import Derived.Test.YtckpldpncknlnaaChecked
import GoSem.Claim
import GoSem.ClaimJoined
import GoSem.ClaimMapViews
import Derived.JoinedTies
import Derived.KernelRfl
namespace Go.Proofs.Ytckpldpncknlnaa
/- THE CELL 'sum', in the pinned program and in every row, IS THE sha256 OF THE DUMP (.gsa) THAT YtckpldpncknlnaaProg.lean LOADS. Nothing in Lean hashes anything: it is a label: what it is worth is what the hold of that sum in a sandbox is worth. -/
noncomputable def Try.pinned : Pinned := { name := "ytckpldpncknlnaa", sum := "8472a7d100c53a732e123887291c84b89c8e14e795c5b618f596ab7d632e9f88", checked := Try.checked }
namespace Rows
def none {H : Type} : Left H := { results := [], args := [] }

/-- 'laws.FnExactLogWidth': WHATEVER THE INPUT: true; the input reads as it did. -/
def fnExactLogWidthSpec : ChangeSpec := { name := "fnExactLogWidth", fn := fun _ => fun
  | [d] => { results := [.lit (.bool true)], args := [d] }
  | _ => none }
def fnExactLogWidthRow : OpenClaim := { program := "ytckpldpncknlnaa", sum := "8472a7d100c53a732e123887291c84b89c8e14e795c5b618f596ab7d632e9f88", func := "loop.example/g00951/laws.FnExactLogWidth", spec := "fnExactLogWidth", apart := false }
def FnExactLogWidthSaid : Prop := fnExactLogWidthRow.holds Try.pinned (OpenSpec.ofChange fnExactLogWidthSpec)

/-- ITS FALSE NEIGHBOUR: 'it returns false'. Refute it at one input. -/
def fnExactLogWidthWrong : ChangeSpec := { name := "fnExactLogWidth", fn := fun _ => fun
  | [d] => { results := [.lit (.bool false)], args := [d] }
  | _ => none }
def FnExactLogWidthWrongFalsely : Prop := fnExactLogWidthRow.holds Try.pinned (OpenSpec.ofChange fnExactLogWidthWrong)

/-- 'laws.FnExactReadScale': WHATEVER THE INPUT: true; the input reads as it did. -/
def fnExactReadScaleSpec : ChangeSpec := { name := "fnExactReadScale", fn := fun _ => fun
  | [d] => { results := [.lit (.bool true)], args := [d] }
  | _ => none }
def fnExactReadScaleRow : OpenClaim := { program := "ytckpldpncknlnaa", sum := "8472a7d100c53a732e123887291c84b89c8e14e795c5b618f596ab7d632e9f88", func := "loop.example/g00951/laws.FnExactReadScale", spec := "fnExactReadScale", apart := false }
def FnExactReadScaleSaid : Prop := fnExactReadScaleRow.holds Try.pinned (OpenSpec.ofChange fnExactReadScaleSpec)

/-- ITS FALSE NEIGHBOUR: 'it returns false'. Refute it at one input. -/
def fnExactReadScaleWrong : ChangeSpec := { name := "fnExactReadScale", fn := fun _ => fun
  | [d] => { results := [.lit (.bool false)], args := [d] }
  | _ => none }
def FnExactReadScaleWrongFalsely : Prop := fnExactReadScaleRow.holds Try.pinned (OpenSpec.ofChange fnExactReadScaleWrong)

/-- 'laws.FnExactDecadesOf': WHATEVER THE INPUT: true; the input reads as it did. -/
def fnExactDecadesOfSpec : ChangeSpec := { name := "fnExactDecadesOf", fn := fun _ => fun
  | [d] => { results := [.lit (.bool true)], args := [d] }
  | _ => none }
def fnExactDecadesOfRow : OpenClaim := { program := "ytckpldpncknlnaa", sum := "8472a7d100c53a732e123887291c84b89c8e14e795c5b618f596ab7d632e9f88", func := "loop.example/g00951/laws.FnExactDecadesOf", spec := "fnExactDecadesOf", apart := false }
def FnExactDecadesOfSaid : Prop := fnExactDecadesOfRow.holds Try.pinned (OpenSpec.ofChange fnExactDecadesOfSpec)

/-- ITS FALSE NEIGHBOUR: 'it returns false'. Refute it at one input. -/
def fnExactDecadesOfWrong : ChangeSpec := { name := "fnExactDecadesOf", fn := fun _ => fun
  | [d] => { results := [.lit (.bool false)], args := [d] }
  | _ => none }
def FnExactDecadesOfWrongFalsely : Prop := fnExactDecadesOfRow.holds Try.pinned (OpenSpec.ofChange fnExactDecadesOfWrong)

/-- 'laws.FnExactPowerOfTen': WHATEVER THE INPUT: true; the input reads as it did. -/
def fnExactPowerOfTenSpec : ChangeSpec := { name := "fnExactPowerOfTen", fn := fun _ => fun
  | [d] => { results := [.lit (.bool true)], args := [d] }
  | _ => none }
def fnExactPowerOfTenRow : OpenClaim := { program := "ytckpldpncknlnaa", sum := "8472a7d100c53a732e123887291c84b89c8e14e795c5b618f596ab7d632e9f88", func := "loop.example/g00951/laws.FnExactPowerOfTen", spec := "fnExactPowerOfTen", apart := false }
def FnExactPowerOfTenSaid : Prop := fnExactPowerOfTenRow.holds Try.pinned (OpenSpec.ofChange fnExactPowerOfTenSpec)

/-- ITS FALSE NEIGHBOUR: 'it returns false'. Refute it at one input. -/
def fnExactPowerOfTenWrong : ChangeSpec := { name := "fnExactPowerOfTen", fn := fun _ => fun
  | [d] => { results := [.lit (.bool false)], args := [d] }
  | _ => none }
def FnExactPowerOfTenWrongFalsely : Prop := fnExactPowerOfTenRow.holds Try.pinned (OpenSpec.ofChange fnExactPowerOfTenWrong)

/-- 'laws.FnExactCommonDivisor': WHATEVER THE INPUT: true; the input reads as it did. -/
def fnExactCommonDivisorSpec : ChangeSpec := { name := "fnExactCommonDivisor", fn := fun _ => fun
  | [d1, d2] => { results := [.lit (.bool true)], args := [d1, d2] }
  | _ => none }
def fnExactCommonDivisorRow : OpenClaim := { program := "ytckpldpncknlnaa", sum := "8472a7d100c53a732e123887291c84b89c8e14e795c5b618f596ab7d632e9f88", func := "loop.example/g00951/laws.FnExactCommonDivisor", spec := "fnExactCommonDivisor", apart := false }
def FnExactCommonDivisorSaid : Prop := fnExactCommonDivisorRow.holds Try.pinned (OpenSpec.ofChange fnExactCommonDivisorSpec)

/-- ITS FALSE NEIGHBOUR: 'it returns false'. Refute it at one input. -/
def fnExactCommonDivisorWrong : ChangeSpec := { name := "fnExactCommonDivisor", fn := fun _ => fun
  | [d1, d2] => { results := [.lit (.bool false)], args := [d1, d2] }
  | _ => none }
def FnExactCommonDivisorWrongFalsely : Prop := fnExactCommonDivisorRow.holds Try.pinned (OpenSpec.ofChange fnExactCommonDivisorWrong)

/-- 'laws.FnExactMantissaOf': WHATEVER THE INPUT: true; the input reads as it did. -/
def fnExactMantissaOfSpec : ChangeSpec := { name := "fnExactMantissaOf", fn := fun _ => fun
  | [d] => { results := [.lit (.bool true)], args := [d] }
  | _ => none }
def fnExactMantissaOfRow : OpenClaim := { program := "ytckpldpncknlnaa", sum := "8472a7d100c53a732e123887291c84b89c8e14e795c5b618f596ab7d632e9f88", func := "loop.example/g00951/laws.FnExactMantissaOf", spec := "fnExactMantissaOf", apart := false }
def FnExactMantissaOfSaid : Prop := fnExactMantissaOfRow.holds Try.pinned (OpenSpec.ofChange fnExactMantissaOfSpec)

/-- ITS FALSE NEIGHBOUR: 'it returns false'. Refute it at one input. -/
def fnExactMantissaOfWrong : ChangeSpec := { name := "fnExactMantissaOf", fn := fun _ => fun
  | [d] => { results := [.lit (.bool false)], args := [d] }
  | _ => none }
def FnExactMantissaOfWrongFalsely : Prop := fnExactMantissaOfRow.holds Try.pinned (OpenSpec.ofChange fnExactMantissaOfWrong)

/-- 'laws.FnExactAddLogs': WHATEVER THE INPUT: true; the input reads as it did. -/
def fnExactAddLogsSpec : ChangeSpec := { name := "fnExactAddLogs", fn := fun _ => fun
  | [d1, d2] => { results := [.lit (.bool true)], args := [d1, d2] }
  | _ => none }
def fnExactAddLogsRow : OpenClaim := { program := "ytckpldpncknlnaa", sum := "8472a7d100c53a732e123887291c84b89c8e14e795c5b618f596ab7d632e9f88", func := "loop.example/g00951/laws.FnExactAddLogs", spec := "fnExactAddLogs", apart := false }
def FnExactAddLogsSaid : Prop := fnExactAddLogsRow.holds Try.pinned (OpenSpec.ofChange fnExactAddLogsSpec)

/-- ITS FALSE NEIGHBOUR: 'it returns false'. Refute it at one input. -/
def fnExactAddLogsWrong : ChangeSpec := { name := "fnExactAddLogs", fn := fun _ => fun
  | [d1, d2] => { results := [.lit (.bool false)], args := [d1, d2] }
  | _ => none }
def FnExactAddLogsWrongFalsely : Prop := fnExactAddLogsRow.holds Try.pinned (OpenSpec.ofChange fnExactAddLogsWrong)

/-- 'laws.FnExactSubtractLogs': WHATEVER THE INPUT: true; the input reads as it did. -/
def fnExactSubtractLogsSpec : ChangeSpec := { name := "fnExactSubtractLogs", fn := fun _ => fun
  | [d1, d2] => { results := [.lit (.bool true)], args := [d1, d2] }
  | _ => none }
def fnExactSubtractLogsRow : OpenClaim := { program := "ytckpldpncknlnaa", sum := "8472a7d100c53a732e123887291c84b89c8e14e795c5b618f596ab7d632e9f88", func := "loop.example/g00951/laws.FnExactSubtractLogs", spec := "fnExactSubtractLogs", apart := false }
def FnExactSubtractLogsSaid : Prop := fnExactSubtractLogsRow.holds Try.pinned (OpenSpec.ofChange fnExactSubtractLogsSpec)

/-- ITS FALSE NEIGHBOUR: 'it returns false'. Refute it at one input. -/
def fnExactSubtractLogsWrong : ChangeSpec := { name := "fnExactSubtractLogs", fn := fun _ => fun
  | [d1, d2] => { results := [.lit (.bool false)], args := [d1, d2] }
  | _ => none }
def FnExactSubtractLogsWrongFalsely : Prop := fnExactSubtractLogsRow.holds Try.pinned (OpenSpec.ofChange fnExactSubtractLogsWrong)

/-- 'laws.FnExactDivideDown': WHATEVER THE INPUT: true; the input reads as it did. -/
def fnExactDivideDownSpec : ChangeSpec := { name := "fnExactDivideDown", fn := fun _ => fun
  | [d1, d2] => { results := [.lit (.bool true)], args := [d1, d2] }
  | _ => none }
def fnExactDivideDownRow : OpenClaim := { program := "ytckpldpncknlnaa", sum := "8472a7d100c53a732e123887291c84b89c8e14e795c5b618f596ab7d632e9f88", func := "loop.example/g00951/laws.FnExactDivideDown", spec := "fnExactDivideDown", apart := false }
def FnExactDivideDownSaid : Prop := fnExactDivideDownRow.holds Try.pinned (OpenSpec.ofChange fnExactDivideDownSpec)

/-- ITS FALSE NEIGHBOUR: 'it returns false'. Refute it at one input. -/
def fnExactDivideDownWrong : ChangeSpec := { name := "fnExactDivideDown", fn := fun _ => fun
  | [d1, d2] => { results := [.lit (.bool false)], args := [d1, d2] }
  | _ => none }
def FnExactDivideDownWrongFalsely : Prop := fnExactDivideDownRow.holds Try.pinned (OpenSpec.ofChange fnExactDivideDownWrong)

/-- 'laws.FnExactDivideUp': WHATEVER THE INPUT: true; the input reads as it did. -/
def fnExactDivideUpSpec : ChangeSpec := { name := "fnExactDivideUp", fn := fun _ => fun
  | [d1, d2] => { results := [.lit (.bool true)], args := [d1, d2] }
  | _ => none }
def fnExactDivideUpRow : OpenClaim := { program := "ytckpldpncknlnaa", sum := "8472a7d100c53a732e123887291c84b89c8e14e795c5b618f596ab7d632e9f88", func := "loop.example/g00951/laws.FnExactDivideUp", spec := "fnExactDivideUp", apart := false }
def FnExactDivideUpSaid : Prop := fnExactDivideUpRow.holds Try.pinned (OpenSpec.ofChange fnExactDivideUpSpec)

/-- ITS FALSE NEIGHBOUR: 'it returns false'. Refute it at one input. -/
def fnExactDivideUpWrong : ChangeSpec := { name := "fnExactDivideUp", fn := fun _ => fun
  | [d1, d2] => { results := [.lit (.bool false)], args := [d1, d2] }
  | _ => none }
def FnExactDivideUpWrongFalsely : Prop := fnExactDivideUpRow.holds Try.pinned (OpenSpec.ofChange fnExactDivideUpWrong)

/-- 'laws.FnExactDivideNear': WHATEVER THE INPUT: true; the input reads as it did. -/
def fnExactDivideNearSpec : ChangeSpec := { name := "fnExactDivideNear", fn := fun _ => fun
  | [d1, d2] => { results := [.lit (.bool true)], args := [d1, d2] }
  | _ => none }
def fnExactDivideNearRow : OpenClaim := { program := "ytckpldpncknlnaa", sum := "8472a7d100c53a732e123887291c84b89c8e14e795c5b618f596ab7d632e9f88", func := "loop.example/g00951/laws.FnExactDivideNear", spec := "fnExactDivideNear", apart := false }
def FnExactDivideNearSaid : Prop := fnExactDivideNearRow.holds Try.pinned (OpenSpec.ofChange fnExactDivideNearSpec)

/-- ITS FALSE NEIGHBOUR: 'it returns false'. Refute it at one input. -/
def fnExactDivideNearWrong : ChangeSpec := { name := "fnExactDivideNear", fn := fun _ => fun
  | [d1, d2] => { results := [.lit (.bool false)], args := [d1, d2] }
  | _ => none }
def FnExactDivideNearWrongFalsely : Prop := fnExactDivideNearRow.holds Try.pinned (OpenSpec.ofChange fnExactDivideNearWrong)

/-- 'laws.FnExactScaleLog': WHATEVER THE INPUT: true; the input reads as it did. -/
def fnExactScaleLogSpec : ChangeSpec := { name := "fnExactScaleLog", fn := fun _ => fun
  | [d1, d2, d3] => { results := [.lit (.bool true)], args := [d1, d2, d3] }
  | _ => none }
def fnExactScaleLogRow : OpenClaim := { program := "ytckpldpncknlnaa", sum := "8472a7d100c53a732e123887291c84b89c8e14e795c5b618f596ab7d632e9f88", func := "loop.example/g00951/laws.FnExactScaleLog", spec := "fnExactScaleLog", apart := false }
def FnExactScaleLogSaid : Prop := fnExactScaleLogRow.holds Try.pinned (OpenSpec.ofChange fnExactScaleLogSpec)

/-- ITS FALSE NEIGHBOUR: 'it returns false'. Refute it at one input. -/
def fnExactScaleLogWrong : ChangeSpec := { name := "fnExactScaleLog", fn := fun _ => fun
  | [d1, d2, d3] => { results := [.lit (.bool false)], args := [d1, d2, d3] }
  | _ => none }
def FnExactScaleLogWrongFalsely : Prop := fnExactScaleLogRow.holds Try.pinned (OpenSpec.ofChange fnExactScaleLogWrong)

/- THE SECOND FORM. 'bulk': how many values and letters a reading holds, each counted each time it is reached (what is shared counts as often as it is met; a slice's spare places count too). A statement '..UptoSaid' is the law's where the arguments, and the package variables that the reading takes, are together of bulk at most 1048576: NARROWER than '..Said'. Prove '..Said' where nothing that the law and all that it calls make is longer than what came in: it says more and counts as full. Else prove '..UptoSaid'. A law counts once. -/
mutual
def uptoBulk {H : Type} : DataW H → Nat
  | .lit (.string bytes) => bytes.length + 1
  | .lit _ => 1
  | .nil => 1
  | .ptr d => uptoBulk d + 1
  | .slice elems spare => uptoBulkAll elems + uptoBulkAll spare + 1
  | .agg parts => uptoBulkAll parts + 1
  | .iface _ d => uptoBulk d + 1
  | .map entries => uptoBulkEntries entries + 1
  | .held _ => 1
def uptoBulkAll {H : Type} : List (DataW H) → Nat
  | [] => 0
  | d :: r => uptoBulk d + uptoBulkAll r
def uptoBulkEntries {H : Type} : List (Lit × DataW H) → Nat
  | [] => 0
  | x :: r => uptoBulkEntry x + uptoBulkEntries r
def uptoBulkEntry {H : Type} : Lit × DataW H → Nat
  | (.string bytes, d) => bytes.length + uptoBulk d + 1
  | (_, d) => uptoBulk d + 1
 end
def uptoSmall : (H : Type) → List (DataW H) → Bool := fun _ ds => decide (uptoBulkAll ds ≤ 1048576)
def OpenSpec.upto (s : _root_.Go.ChangeSpec) : _root_.Go.OpenSpec := { _root_.Go.OpenSpec.ofChange s with cond := some uptoSmall }

/-- 'laws.FnExactLogWidth', WHERE WHAT IT READS IS OF BULK AT MOST 1048576: true; the input reads as it did. -/
def fnExactLogWidthUptoRow : OpenClaim := { program := "ytckpldpncknlnaa", sum := "8472a7d100c53a732e123887291c84b89c8e14e795c5b618f596ab7d632e9f88", func := "loop.example/g00951/laws.FnExactLogWidth", spec := "fnExactLogWidth", apart := false, narrowed := true }
def FnExactLogWidthUptoSaid : Prop := fnExactLogWidthUptoRow.holds Try.pinned (OpenSpec.upto fnExactLogWidthSpec)

/-- 'laws.FnExactReadScale', WHERE WHAT IT READS IS OF BULK AT MOST 1048576: true; the input reads as it did. -/
def fnExactReadScaleUptoRow : OpenClaim := { program := "ytckpldpncknlnaa", sum := "8472a7d100c53a732e123887291c84b89c8e14e795c5b618f596ab7d632e9f88", func := "loop.example/g00951/laws.FnExactReadScale", spec := "fnExactReadScale", apart := false, narrowed := true }
def FnExactReadScaleUptoSaid : Prop := fnExactReadScaleUptoRow.holds Try.pinned (OpenSpec.upto fnExactReadScaleSpec)

/-- 'laws.FnExactDecadesOf', WHERE WHAT IT READS IS OF BULK AT MOST 1048576: true; the input reads as it did. -/
def fnExactDecadesOfUptoRow : OpenClaim := { program := "ytckpldpncknlnaa", sum := "8472a7d100c53a732e123887291c84b89c8e14e795c5b618f596ab7d632e9f88", func := "loop.example/g00951/laws.FnExactDecadesOf", spec := "fnExactDecadesOf", apart := false, narrowed := true }
def FnExactDecadesOfUptoSaid : Prop := fnExactDecadesOfUptoRow.holds Try.pinned (OpenSpec.upto fnExactDecadesOfSpec)

/-- 'laws.FnExactPowerOfTen', WHERE WHAT IT READS IS OF BULK AT MOST 1048576: true; the input reads as it did. -/
def fnExactPowerOfTenUptoRow : OpenClaim := { program := "ytckpldpncknlnaa", sum := "8472a7d100c53a732e123887291c84b89c8e14e795c5b618f596ab7d632e9f88", func := "loop.example/g00951/laws.FnExactPowerOfTen", spec := "fnExactPowerOfTen", apart := false, narrowed := true }
def FnExactPowerOfTenUptoSaid : Prop := fnExactPowerOfTenUptoRow.holds Try.pinned (OpenSpec.upto fnExactPowerOfTenSpec)

/-- 'laws.FnExactCommonDivisor', WHERE WHAT IT READS IS OF BULK AT MOST 1048576: true; the input reads as it did. -/
def fnExactCommonDivisorUptoRow : OpenClaim := { program := "ytckpldpncknlnaa", sum := "8472a7d100c53a732e123887291c84b89c8e14e795c5b618f596ab7d632e9f88", func := "loop.example/g00951/laws.FnExactCommonDivisor", spec := "fnExactCommonDivisor", apart := false, narrowed := true }
def FnExactCommonDivisorUptoSaid : Prop := fnExactCommonDivisorUptoRow.holds Try.pinned (OpenSpec.upto fnExactCommonDivisorSpec)

/-- 'laws.FnExactMantissaOf', WHERE WHAT IT READS IS OF BULK AT MOST 1048576: true; the input reads as it did. -/
def fnExactMantissaOfUptoRow : OpenClaim := { program := "ytckpldpncknlnaa", sum := "8472a7d100c53a732e123887291c84b89c8e14e795c5b618f596ab7d632e9f88", func := "loop.example/g00951/laws.FnExactMantissaOf", spec := "fnExactMantissaOf", apart := false, narrowed := true }
def FnExactMantissaOfUptoSaid : Prop := fnExactMantissaOfUptoRow.holds Try.pinned (OpenSpec.upto fnExactMantissaOfSpec)

/-- 'laws.FnExactAddLogs', WHERE WHAT IT READS IS OF BULK AT MOST 1048576: true; the input reads as it did. -/
def fnExactAddLogsUptoRow : OpenClaim := { program := "ytckpldpncknlnaa", sum := "8472a7d100c53a732e123887291c84b89c8e14e795c5b618f596ab7d632e9f88", func := "loop.example/g00951/laws.FnExactAddLogs", spec := "fnExactAddLogs", apart := false, narrowed := true }
def FnExactAddLogsUptoSaid : Prop := fnExactAddLogsUptoRow.holds Try.pinned (OpenSpec.upto fnExactAddLogsSpec)

/-- 'laws.FnExactSubtractLogs', WHERE WHAT IT READS IS OF BULK AT MOST 1048576: true; the input reads as it did. -/
def fnExactSubtractLogsUptoRow : OpenClaim := { program := "ytckpldpncknlnaa", sum := "8472a7d100c53a732e123887291c84b89c8e14e795c5b618f596ab7d632e9f88", func := "loop.example/g00951/laws.FnExactSubtractLogs", spec := "fnExactSubtractLogs", apart := false, narrowed := true }
def FnExactSubtractLogsUptoSaid : Prop := fnExactSubtractLogsUptoRow.holds Try.pinned (OpenSpec.upto fnExactSubtractLogsSpec)

/-- 'laws.FnExactDivideDown', WHERE WHAT IT READS IS OF BULK AT MOST 1048576: true; the input reads as it did. -/
def fnExactDivideDownUptoRow : OpenClaim := { program := "ytckpldpncknlnaa", sum := "8472a7d100c53a732e123887291c84b89c8e14e795c5b618f596ab7d632e9f88", func := "loop.example/g00951/laws.FnExactDivideDown", spec := "fnExactDivideDown", apart := false, narrowed := true }
def FnExactDivideDownUptoSaid : Prop := fnExactDivideDownUptoRow.holds Try.pinned (OpenSpec.upto fnExactDivideDownSpec)

/-- 'laws.FnExactDivideUp', WHERE WHAT IT READS IS OF BULK AT MOST 1048576: true; the input reads as it did. -/
def fnExactDivideUpUptoRow : OpenClaim := { program := "ytckpldpncknlnaa", sum := "8472a7d100c53a732e123887291c84b89c8e14e795c5b618f596ab7d632e9f88", func := "loop.example/g00951/laws.FnExactDivideUp", spec := "fnExactDivideUp", apart := false, narrowed := true }
def FnExactDivideUpUptoSaid : Prop := fnExactDivideUpUptoRow.holds Try.pinned (OpenSpec.upto fnExactDivideUpSpec)

/-- 'laws.FnExactDivideNear', WHERE WHAT IT READS IS OF BULK AT MOST 1048576: true; the input reads as it did. -/
def fnExactDivideNearUptoRow : OpenClaim := { program := "ytckpldpncknlnaa", sum := "8472a7d100c53a732e123887291c84b89c8e14e795c5b618f596ab7d632e9f88", func := "loop.example/g00951/laws.FnExactDivideNear", spec := "fnExactDivideNear", apart := false, narrowed := true }
def FnExactDivideNearUptoSaid : Prop := fnExactDivideNearUptoRow.holds Try.pinned (OpenSpec.upto fnExactDivideNearSpec)

/-- 'laws.FnExactScaleLog', WHERE WHAT IT READS IS OF BULK AT MOST 1048576: true; the input reads as it did. -/
def fnExactScaleLogUptoRow : OpenClaim := { program := "ytckpldpncknlnaa", sum := "8472a7d100c53a732e123887291c84b89c8e14e795c5b618f596ab7d632e9f88", func := "loop.example/g00951/laws.FnExactScaleLog", spec := "fnExactScaleLog", apart := false, narrowed := true }
def FnExactScaleLogUptoSaid : Prop := fnExactScaleLogUptoRow.holds Try.pinned (OpenSpec.upto fnExactScaleLogSpec)

end Rows
end Go.Proofs.Ytckpldpncknlnaa
