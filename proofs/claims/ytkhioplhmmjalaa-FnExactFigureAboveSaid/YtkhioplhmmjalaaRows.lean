/-
  No cell of these rows narrows 'for every input' (looked for: loops, veiled, ifaces, maps, wideKeys, modest, calm, conditions, laid).
  DERIVED. THE GIVEN ROWS OF THIS SEAT. 12 by the template 'for every input the law returns true; each argument reads behind the call as it read before'; 0 by the template 'total and deterministic' (their statements: YtkhioplhmmjalaaTotals.lean).
  GIVEN WITH THE SEED: the statements are not yours to turn. If you find one false, say at which input.
  Laid BY PROGRAM, IN A SANDBOX (cutbox-rows.mjs): the forced cells as the released guide's own fill.sh prints them over the translation 4aee18a7c8e68f28… (all of the seat's roots in one cut). By AI agents, Wed Nov 11 2026. No macro, syntax, notation, axiom, sorry.
-/
import Derived.Test.YtkhioplhmmjalaaChecked
import GoSem.Claim
import GoSem.ClaimJoined
import GoSem.ClaimMapViews
import Derived.JoinedTies
import Derived.KernelRfl
namespace Go.Proofs.Ytkhioplhmmjalaa
/- THE CELL 'sum', in the pinned program and in every row, IS THE sha256 OF THE DUMP (.gsa) THAT YtkhioplhmmjalaaProg.lean LOADS. Nothing in Lean hashes anything: it is a label: what it is worth is what the hold of that sum in a sandbox is worth. -/
noncomputable def Try.pinned : Pinned := { name := "ytkhioplhmmjalaa", sum := "4aee18a7c8e68f2851720363c2d24add6bf691e132c2f9e6bd6e36568e5bd722", checked := Try.checked }
namespace Rows
def none {H : Type} : Left H := { results := [], args := [] }

/-- 'laws.FnExactCompareFigures': WHATEVER THE INPUT: true; the input reads as it did. -/
def fnExactCompareFiguresSpec : ChangeSpec := { name := "fnExactCompareFigures", fn := fun _ => fun
  | [d1, d2] => { results := [.lit (.bool true)], args := [d1, d2] }
  | _ => none }
def fnExactCompareFiguresRow : OpenClaim := { program := "ytkhioplhmmjalaa", sum := "4aee18a7c8e68f2851720363c2d24add6bf691e132c2f9e6bd6e36568e5bd722", func := "loop.example/g00951/laws.FnExactCompareFigures", spec := "fnExactCompareFigures", apart := false }
def FnExactCompareFiguresSaid : Prop := fnExactCompareFiguresRow.holds Try.pinned (OpenSpec.ofChange fnExactCompareFiguresSpec)

/-- ITS FALSE NEIGHBOUR: 'it returns false'. Refute it at one input. -/
def fnExactCompareFiguresWrong : ChangeSpec := { name := "fnExactCompareFigures", fn := fun _ => fun
  | [d1, d2] => { results := [.lit (.bool false)], args := [d1, d2] }
  | _ => none }
def FnExactCompareFiguresWrongFalsely : Prop := fnExactCompareFiguresRow.holds Try.pinned (OpenSpec.ofChange fnExactCompareFiguresWrong)

/-- 'laws.FnExactLogarithmOf': WHATEVER THE INPUT: true; the input reads as it did. -/
def fnExactLogarithmOfSpec : ChangeSpec := { name := "fnExactLogarithmOf", fn := fun _ => fun
  | [d] => { results := [.lit (.bool true)], args := [d] }
  | _ => none }
def fnExactLogarithmOfRow : OpenClaim := { program := "ytkhioplhmmjalaa", sum := "4aee18a7c8e68f2851720363c2d24add6bf691e132c2f9e6bd6e36568e5bd722", func := "loop.example/g00951/laws.FnExactLogarithmOf", spec := "fnExactLogarithmOf", apart := false }
def FnExactLogarithmOfSaid : Prop := fnExactLogarithmOfRow.holds Try.pinned (OpenSpec.ofChange fnExactLogarithmOfSpec)

/-- ITS FALSE NEIGHBOUR: 'it returns false'. Refute it at one input. -/
def fnExactLogarithmOfWrong : ChangeSpec := { name := "fnExactLogarithmOf", fn := fun _ => fun
  | [d] => { results := [.lit (.bool false)], args := [d] }
  | _ => none }
def FnExactLogarithmOfWrongFalsely : Prop := fnExactLogarithmOfRow.holds Try.pinned (OpenSpec.ofChange fnExactLogarithmOfWrong)

/-- 'laws.FnExactMakeFigure': WHATEVER THE INPUT: true; the input reads as it did. -/
def fnExactMakeFigureSpec : ChangeSpec := { name := "fnExactMakeFigure", fn := fun _ => fun
  | [d1, d2] => { results := [.lit (.bool true)], args := [d1, d2] }
  | _ => none }
def fnExactMakeFigureRow : OpenClaim := { program := "ytkhioplhmmjalaa", sum := "4aee18a7c8e68f2851720363c2d24add6bf691e132c2f9e6bd6e36568e5bd722", func := "loop.example/g00951/laws.FnExactMakeFigure", spec := "fnExactMakeFigure", apart := false }
def FnExactMakeFigureSaid : Prop := fnExactMakeFigureRow.holds Try.pinned (OpenSpec.ofChange fnExactMakeFigureSpec)

/-- ITS FALSE NEIGHBOUR: 'it returns false'. Refute it at one input. -/
def fnExactMakeFigureWrong : ChangeSpec := { name := "fnExactMakeFigure", fn := fun _ => fun
  | [d1, d2] => { results := [.lit (.bool false)], args := [d1, d2] }
  | _ => none }
def FnExactMakeFigureWrongFalsely : Prop := fnExactMakeFigureRow.holds Try.pinned (OpenSpec.ofChange fnExactMakeFigureWrong)

/-- 'laws.FnExactRoundFigure': WHATEVER THE INPUT: true; the input reads as it did. -/
def fnExactRoundFigureSpec : ChangeSpec := { name := "fnExactRoundFigure", fn := fun _ => fun
  | [d1, d2] => { results := [.lit (.bool true)], args := [d1, d2] }
  | _ => none }
def fnExactRoundFigureRow : OpenClaim := { program := "ytkhioplhmmjalaa", sum := "4aee18a7c8e68f2851720363c2d24add6bf691e132c2f9e6bd6e36568e5bd722", func := "loop.example/g00951/laws.FnExactRoundFigure", spec := "fnExactRoundFigure", apart := false }
def FnExactRoundFigureSaid : Prop := fnExactRoundFigureRow.holds Try.pinned (OpenSpec.ofChange fnExactRoundFigureSpec)

/-- ITS FALSE NEIGHBOUR: 'it returns false'. Refute it at one input. -/
def fnExactRoundFigureWrong : ChangeSpec := { name := "fnExactRoundFigure", fn := fun _ => fun
  | [d1, d2] => { results := [.lit (.bool false)], args := [d1, d2] }
  | _ => none }
def FnExactRoundFigureWrongFalsely : Prop := fnExactRoundFigureRow.holds Try.pinned (OpenSpec.ofChange fnExactRoundFigureWrong)

/-- 'laws.FnExactRelativeError': WHATEVER THE INPUT: true; the input reads as it did. -/
def fnExactRelativeErrorSpec : ChangeSpec := { name := "fnExactRelativeError", fn := fun _ => fun
  | [d1, d2] => { results := [.lit (.bool true)], args := [d1, d2] }
  | _ => none }
def fnExactRelativeErrorRow : OpenClaim := { program := "ytkhioplhmmjalaa", sum := "4aee18a7c8e68f2851720363c2d24add6bf691e132c2f9e6bd6e36568e5bd722", func := "loop.example/g00951/laws.FnExactRelativeError", spec := "fnExactRelativeError", apart := false }
def FnExactRelativeErrorSaid : Prop := fnExactRelativeErrorRow.holds Try.pinned (OpenSpec.ofChange fnExactRelativeErrorSpec)

/-- ITS FALSE NEIGHBOUR: 'it returns false'. Refute it at one input. -/
def fnExactRelativeErrorWrong : ChangeSpec := { name := "fnExactRelativeError", fn := fun _ => fun
  | [d1, d2] => { results := [.lit (.bool false)], args := [d1, d2] }
  | _ => none }
def FnExactRelativeErrorWrongFalsely : Prop := fnExactRelativeErrorRow.holds Try.pinned (OpenSpec.ofChange fnExactRelativeErrorWrong)

/-- 'laws.FnExactFigureLog': WHATEVER THE INPUT: true; the input reads as it did. -/
def fnExactFigureLogSpec : ChangeSpec := { name := "fnExactFigureLog", fn := fun _ => fun
  | [d] => { results := [.lit (.bool true)], args := [d] }
  | _ => none }
def fnExactFigureLogRow : OpenClaim := { program := "ytkhioplhmmjalaa", sum := "4aee18a7c8e68f2851720363c2d24add6bf691e132c2f9e6bd6e36568e5bd722", func := "loop.example/g00951/laws.FnExactFigureLog", spec := "fnExactFigureLog", apart := false }
def FnExactFigureLogSaid : Prop := fnExactFigureLogRow.holds Try.pinned (OpenSpec.ofChange fnExactFigureLogSpec)

/-- ITS FALSE NEIGHBOUR: 'it returns false'. Refute it at one input. -/
def fnExactFigureLogWrong : ChangeSpec := { name := "fnExactFigureLog", fn := fun _ => fun
  | [d] => { results := [.lit (.bool false)], args := [d] }
  | _ => none }
def FnExactFigureLogWrongFalsely : Prop := fnExactFigureLogRow.holds Try.pinned (OpenSpec.ofChange fnExactFigureLogWrong)

/-- 'laws.FnExactDivideFigures': WHATEVER THE INPUT: true; the input reads as it did. -/
def fnExactDivideFiguresSpec : ChangeSpec := { name := "fnExactDivideFigures", fn := fun _ => fun
  | [d1, d2] => { results := [.lit (.bool true)], args := [d1, d2] }
  | _ => none }
def fnExactDivideFiguresRow : OpenClaim := { program := "ytkhioplhmmjalaa", sum := "4aee18a7c8e68f2851720363c2d24add6bf691e132c2f9e6bd6e36568e5bd722", func := "loop.example/g00951/laws.FnExactDivideFigures", spec := "fnExactDivideFigures", apart := false }
def FnExactDivideFiguresSaid : Prop := fnExactDivideFiguresRow.holds Try.pinned (OpenSpec.ofChange fnExactDivideFiguresSpec)

/-- ITS FALSE NEIGHBOUR: 'it returns false'. Refute it at one input. -/
def fnExactDivideFiguresWrong : ChangeSpec := { name := "fnExactDivideFigures", fn := fun _ => fun
  | [d1, d2] => { results := [.lit (.bool false)], args := [d1, d2] }
  | _ => none }
def FnExactDivideFiguresWrongFalsely : Prop := fnExactDivideFiguresRow.holds Try.pinned (OpenSpec.ofChange fnExactDivideFiguresWrong)

/-- 'laws.FnExactMultiplyFigures': WHATEVER THE INPUT: true; the input reads as it did. -/
def fnExactMultiplyFiguresSpec : ChangeSpec := { name := "fnExactMultiplyFigures", fn := fun _ => fun
  | [d1, d2] => { results := [.lit (.bool true)], args := [d1, d2] }
  | _ => none }
def fnExactMultiplyFiguresRow : OpenClaim := { program := "ytkhioplhmmjalaa", sum := "4aee18a7c8e68f2851720363c2d24add6bf691e132c2f9e6bd6e36568e5bd722", func := "loop.example/g00951/laws.FnExactMultiplyFigures", spec := "fnExactMultiplyFigures", apart := false }
def FnExactMultiplyFiguresSaid : Prop := fnExactMultiplyFiguresRow.holds Try.pinned (OpenSpec.ofChange fnExactMultiplyFiguresSpec)

/-- ITS FALSE NEIGHBOUR: 'it returns false'. Refute it at one input. -/
def fnExactMultiplyFiguresWrong : ChangeSpec := { name := "fnExactMultiplyFigures", fn := fun _ => fun
  | [d1, d2] => { results := [.lit (.bool false)], args := [d1, d2] }
  | _ => none }
def FnExactMultiplyFiguresWrongFalsely : Prop := fnExactMultiplyFiguresRow.holds Try.pinned (OpenSpec.ofChange fnExactMultiplyFiguresWrong)

/-- 'laws.FnExactSpanError': WHATEVER THE INPUT: true; the input reads as it did. -/
def fnExactSpanErrorSpec : ChangeSpec := { name := "fnExactSpanError", fn := fun _ => fun
  | [d1, d2] => { results := [.lit (.bool true)], args := [d1, d2] }
  | _ => none }
def fnExactSpanErrorRow : OpenClaim := { program := "ytkhioplhmmjalaa", sum := "4aee18a7c8e68f2851720363c2d24add6bf691e132c2f9e6bd6e36568e5bd722", func := "loop.example/g00951/laws.FnExactSpanError", spec := "fnExactSpanError", apart := false }
def FnExactSpanErrorSaid : Prop := fnExactSpanErrorRow.holds Try.pinned (OpenSpec.ofChange fnExactSpanErrorSpec)

/-- ITS FALSE NEIGHBOUR: 'it returns false'. Refute it at one input. -/
def fnExactSpanErrorWrong : ChangeSpec := { name := "fnExactSpanError", fn := fun _ => fun
  | [d1, d2] => { results := [.lit (.bool false)], args := [d1, d2] }
  | _ => none }
def FnExactSpanErrorWrongFalsely : Prop := fnExactSpanErrorRow.holds Try.pinned (OpenSpec.ofChange fnExactSpanErrorWrong)

/-- 'laws.FnExactFigureBelow': WHATEVER THE INPUT: true; the input reads as it did. -/
def fnExactFigureBelowSpec : ChangeSpec := { name := "fnExactFigureBelow", fn := fun _ => fun
  | [d] => { results := [.lit (.bool true)], args := [d] }
  | _ => none }
def fnExactFigureBelowRow : OpenClaim := { program := "ytkhioplhmmjalaa", sum := "4aee18a7c8e68f2851720363c2d24add6bf691e132c2f9e6bd6e36568e5bd722", func := "loop.example/g00951/laws.FnExactFigureBelow", spec := "fnExactFigureBelow", unfollowed := true, recurses := true, apart := false }
def FnExactFigureBelowSaid : Prop := fnExactFigureBelowRow.holds Try.pinned (OpenSpec.ofChange fnExactFigureBelowSpec)

/-- ITS FALSE NEIGHBOUR: 'it returns false'. Refute it at one input. -/
def fnExactFigureBelowWrong : ChangeSpec := { name := "fnExactFigureBelow", fn := fun _ => fun
  | [d] => { results := [.lit (.bool false)], args := [d] }
  | _ => none }
def FnExactFigureBelowWrongFalsely : Prop := fnExactFigureBelowRow.holds Try.pinned (OpenSpec.ofChange fnExactFigureBelowWrong)

/-- 'laws.FnExactFigureAbove': WHATEVER THE INPUT: true; the input reads as it did. -/
def fnExactFigureAboveSpec : ChangeSpec := { name := "fnExactFigureAbove", fn := fun _ => fun
  | [d] => { results := [.lit (.bool true)], args := [d] }
  | _ => none }
def fnExactFigureAboveRow : OpenClaim := { program := "ytkhioplhmmjalaa", sum := "4aee18a7c8e68f2851720363c2d24add6bf691e132c2f9e6bd6e36568e5bd722", func := "loop.example/g00951/laws.FnExactFigureAbove", spec := "fnExactFigureAbove", unfollowed := true, recurses := true, apart := false }
def FnExactFigureAboveSaid : Prop := fnExactFigureAboveRow.holds Try.pinned (OpenSpec.ofChange fnExactFigureAboveSpec)

/-- ITS FALSE NEIGHBOUR: 'it returns false'. Refute it at one input. -/
def fnExactFigureAboveWrong : ChangeSpec := { name := "fnExactFigureAbove", fn := fun _ => fun
  | [d] => { results := [.lit (.bool false)], args := [d] }
  | _ => none }
def FnExactFigureAboveWrongFalsely : Prop := fnExactFigureAboveRow.holds Try.pinned (OpenSpec.ofChange fnExactFigureAboveWrong)

/-- 'laws.FnExactSpanOf': WHATEVER THE INPUT: true; the input reads as it did. -/
def fnExactSpanOfSpec : ChangeSpec := { name := "fnExactSpanOf", fn := fun _ => fun
  | [d] => { results := [.lit (.bool true)], args := [d] }
  | _ => none }
def fnExactSpanOfRow : OpenClaim := { program := "ytkhioplhmmjalaa", sum := "4aee18a7c8e68f2851720363c2d24add6bf691e132c2f9e6bd6e36568e5bd722", func := "loop.example/g00951/laws.FnExactSpanOf", spec := "fnExactSpanOf", unfollowed := true, recurses := true, apart := false }
def FnExactSpanOfSaid : Prop := fnExactSpanOfRow.holds Try.pinned (OpenSpec.ofChange fnExactSpanOfSpec)

/-- ITS FALSE NEIGHBOUR: 'it returns false'. Refute it at one input. -/
def fnExactSpanOfWrong : ChangeSpec := { name := "fnExactSpanOf", fn := fun _ => fun
  | [d] => { results := [.lit (.bool false)], args := [d] }
  | _ => none }
def FnExactSpanOfWrongFalsely : Prop := fnExactSpanOfRow.holds Try.pinned (OpenSpec.ofChange fnExactSpanOfWrong)

/- THE SECOND FORM. 'bulk': how many values and letters a reading holds, each counted each time it is reached (what is shared counts as often as it is met; a slice's spare places count too). A statement '..UptoSaid' is the law's where the arguments, and the package variables that the reading takes, are together of bulk at most 1048576: NARROWER than '..Said'. Prove '..Said' where nothing that the law and all that it calls make is longer than what came in: it says more and counts as full. Else prove '..UptoSaid'. A law counts once. -/
mutual
def uptoBulk {H : Type} : DataW H → Nat
  | .lit (.string bytes) => bytes.length + 1
  | .lit _ => 1
  | .nil => 1
  | .ptr d => uptoBulk d + 1
  | .slice elems spare => uptoBulkAll elems + uptoBulkAll spare + 1
  | .agg parts => uptoBulkAll parts + 1
  | .iface _ d => uptoBulk d + 1
  | .map entries => uptoBulkEntries entries + 1
  | .held _ => 1
def uptoBulkAll {H : Type} : List (DataW H) → Nat
  | [] => 0
  | d :: r => uptoBulk d + uptoBulkAll r
def uptoBulkEntries {H : Type} : List (Lit × DataW H) → Nat
  | [] => 0
  | x :: r => uptoBulkEntry x + uptoBulkEntries r
def uptoBulkEntry {H : Type} : Lit × DataW H → Nat
  | (.string bytes, d) => bytes.length + uptoBulk d + 1
  | (_, d) => uptoBulk d + 1
 end
def uptoSmall : (H : Type) → List (DataW H) → Bool := fun _ ds => decide (uptoBulkAll ds ≤ 1048576)
def OpenSpec.upto (s : _root_.Go.ChangeSpec) : _root_.Go.OpenSpec := { _root_.Go.OpenSpec.ofChange s with cond := some uptoSmall }

/-- 'laws.FnExactCompareFigures', WHERE WHAT IT READS IS OF BULK AT MOST 1048576: true; the input reads as it did. -/
def fnExactCompareFiguresUptoRow : OpenClaim := { program := "ytkhioplhmmjalaa", sum := "4aee18a7c8e68f2851720363c2d24add6bf691e132c2f9e6bd6e36568e5bd722", func := "loop.example/g00951/laws.FnExactCompareFigures", spec := "fnExactCompareFigures", apart := false, narrowed := true }
def FnExactCompareFiguresUptoSaid : Prop := fnExactCompareFiguresUptoRow.holds Try.pinned (OpenSpec.upto fnExactCompareFiguresSpec)

/-- 'laws.FnExactLogarithmOf', WHERE WHAT IT READS IS OF BULK AT MOST 1048576: true; the input reads as it did. -/
def fnExactLogarithmOfUptoRow : OpenClaim := { program := "ytkhioplhmmjalaa", sum := "4aee18a7c8e68f2851720363c2d24add6bf691e132c2f9e6bd6e36568e5bd722", func := "loop.example/g00951/laws.FnExactLogarithmOf", spec := "fnExactLogarithmOf", apart := false, narrowed := true }
def FnExactLogarithmOfUptoSaid : Prop := fnExactLogarithmOfUptoRow.holds Try.pinned (OpenSpec.upto fnExactLogarithmOfSpec)

/-- 'laws.FnExactMakeFigure', WHERE WHAT IT READS IS OF BULK AT MOST 1048576: true; the input reads as it did. -/
def fnExactMakeFigureUptoRow : OpenClaim := { program := "ytkhioplhmmjalaa", sum := "4aee18a7c8e68f2851720363c2d24add6bf691e132c2f9e6bd6e36568e5bd722", func := "loop.example/g00951/laws.FnExactMakeFigure", spec := "fnExactMakeFigure", apart := false, narrowed := true }
def FnExactMakeFigureUptoSaid : Prop := fnExactMakeFigureUptoRow.holds Try.pinned (OpenSpec.upto fnExactMakeFigureSpec)

/-- 'laws.FnExactRoundFigure', WHERE WHAT IT READS IS OF BULK AT MOST 1048576: true; the input reads as it did. -/
def fnExactRoundFigureUptoRow : OpenClaim := { program := "ytkhioplhmmjalaa", sum := "4aee18a7c8e68f2851720363c2d24add6bf691e132c2f9e6bd6e36568e5bd722", func := "loop.example/g00951/laws.FnExactRoundFigure", spec := "fnExactRoundFigure", apart := false, narrowed := true }
def FnExactRoundFigureUptoSaid : Prop := fnExactRoundFigureUptoRow.holds Try.pinned (OpenSpec.upto fnExactRoundFigureSpec)

/-- 'laws.FnExactRelativeError', WHERE WHAT IT READS IS OF BULK AT MOST 1048576: true; the input reads as it did. -/
def fnExactRelativeErrorUptoRow : OpenClaim := { program := "ytkhioplhmmjalaa", sum := "4aee18a7c8e68f2851720363c2d24add6bf691e132c2f9e6bd6e36568e5bd722", func := "loop.example/g00951/laws.FnExactRelativeError", spec := "fnExactRelativeError", apart := false, narrowed := true }
def FnExactRelativeErrorUptoSaid : Prop := fnExactRelativeErrorUptoRow.holds Try.pinned (OpenSpec.upto fnExactRelativeErrorSpec)

/-- 'laws.FnExactFigureLog', WHERE WHAT IT READS IS OF BULK AT MOST 1048576: true; the input reads as it did. -/
def fnExactFigureLogUptoRow : OpenClaim := { program := "ytkhioplhmmjalaa", sum := "4aee18a7c8e68f2851720363c2d24add6bf691e132c2f9e6bd6e36568e5bd722", func := "loop.example/g00951/laws.FnExactFigureLog", spec := "fnExactFigureLog", apart := false, narrowed := true }
def FnExactFigureLogUptoSaid : Prop := fnExactFigureLogUptoRow.holds Try.pinned (OpenSpec.upto fnExactFigureLogSpec)

/-- 'laws.FnExactDivideFigures', WHERE WHAT IT READS IS OF BULK AT MOST 1048576: true; the input reads as it did. -/
def fnExactDivideFiguresUptoRow : OpenClaim := { program := "ytkhioplhmmjalaa", sum := "4aee18a7c8e68f2851720363c2d24add6bf691e132c2f9e6bd6e36568e5bd722", func := "loop.example/g00951/laws.FnExactDivideFigures", spec := "fnExactDivideFigures", apart := false, narrowed := true }
def FnExactDivideFiguresUptoSaid : Prop := fnExactDivideFiguresUptoRow.holds Try.pinned (OpenSpec.upto fnExactDivideFiguresSpec)

/-- 'laws.FnExactMultiplyFigures', WHERE WHAT IT READS IS OF BULK AT MOST 1048576: true; the input reads as it did. -/
def fnExactMultiplyFiguresUptoRow : OpenClaim := { program := "ytkhioplhmmjalaa", sum := "4aee18a7c8e68f2851720363c2d24add6bf691e132c2f9e6bd6e36568e5bd722", func := "loop.example/g00951/laws.FnExactMultiplyFigures", spec := "fnExactMultiplyFigures", apart := false, narrowed := true }
def FnExactMultiplyFiguresUptoSaid : Prop := fnExactMultiplyFiguresUptoRow.holds Try.pinned (OpenSpec.upto fnExactMultiplyFiguresSpec)

/-- 'laws.FnExactSpanError', WHERE WHAT IT READS IS OF BULK AT MOST 1048576: true; the input reads as it did. -/
def fnExactSpanErrorUptoRow : OpenClaim := { program := "ytkhioplhmmjalaa", sum := "4aee18a7c8e68f2851720363c2d24add6bf691e132c2f9e6bd6e36568e5bd722", func := "loop.example/g00951/laws.FnExactSpanError", spec := "fnExactSpanError", apart := false, narrowed := true }
def FnExactSpanErrorUptoSaid : Prop := fnExactSpanErrorUptoRow.holds Try.pinned (OpenSpec.upto fnExactSpanErrorSpec)

/-- 'laws.FnExactFigureBelow', WHERE WHAT IT READS IS OF BULK AT MOST 1048576: true; the input reads as it did. -/
def fnExactFigureBelowUptoRow : OpenClaim := { program := "ytkhioplhmmjalaa", sum := "4aee18a7c8e68f2851720363c2d24add6bf691e132c2f9e6bd6e36568e5bd722", func := "loop.example/g00951/laws.FnExactFigureBelow", spec := "fnExactFigureBelow", unfollowed := true, recurses := true, apart := false, narrowed := true }
def FnExactFigureBelowUptoSaid : Prop := fnExactFigureBelowUptoRow.holds Try.pinned (OpenSpec.upto fnExactFigureBelowSpec)

/-- 'laws.FnExactFigureAbove', WHERE WHAT IT READS IS OF BULK AT MOST 1048576: true; the input reads as it did. -/
def fnExactFigureAboveUptoRow : OpenClaim := { program := "ytkhioplhmmjalaa", sum := "4aee18a7c8e68f2851720363c2d24add6bf691e132c2f9e6bd6e36568e5bd722", func := "loop.example/g00951/laws.FnExactFigureAbove", spec := "fnExactFigureAbove", unfollowed := true, recurses := true, apart := false, narrowed := true }
def FnExactFigureAboveUptoSaid : Prop := fnExactFigureAboveUptoRow.holds Try.pinned (OpenSpec.upto fnExactFigureAboveSpec)

/-- 'laws.FnExactSpanOf', WHERE WHAT IT READS IS OF BULK AT MOST 1048576: true; the input reads as it did. -/
def fnExactSpanOfUptoRow : OpenClaim := { program := "ytkhioplhmmjalaa", sum := "4aee18a7c8e68f2851720363c2d24add6bf691e132c2f9e6bd6e36568e5bd722", func := "loop.example/g00951/laws.FnExactSpanOf", spec := "fnExactSpanOf", unfollowed := true, recurses := true, apart := false, narrowed := true }
def FnExactSpanOfUptoSaid : Prop := fnExactSpanOfUptoRow.holds Try.pinned (OpenSpec.upto fnExactSpanOfSpec)

end Rows
end Go.Proofs.Ytkhioplhmmjalaa
