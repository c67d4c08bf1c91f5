/-
  No cell of these rows narrows 'for every input' (looked for: loops, veiled, ifaces, maps, wideKeys, modest, calm, conditions, laid).
  DERIVED. THE GIVEN ROWS OF THIS SEAT. 7 by the template 'for every input the law returns true; each argument reads behind the call as it read before'; 0 by the template 'total and deterministic' (their statements: YtjfhaahdjkiciaaTotals.lean).
  GIVEN WITH THE SEED: the statements are not yours to turn. If you find one false, say at which input.
  Laid BY PROGRAM, IN A SANDBOX (cutbox-rows.mjs): the forced cells as the released guide's own fill.sh prints them over the translation 418b0593ef035058… (all of the seat's roots in one cut). By AI agents, Wed Nov 11 2026. No macro, syntax, notation, axiom, sorry.
-/
import Derived.Test.YtjfhaahdjkiciaaChecked
import GoSem.Claim
import GoSem.ClaimJoined
import GoSem.ClaimMapViews
import Derived.JoinedTies
import Derived.KernelRfl
namespace Go.Proofs.Ytjfhaahdjkiciaa
/- THE CELL 'sum', in the pinned program and in every row, IS THE sha256 OF THE DUMP (.gsa) THAT YtjfhaahdjkiciaaProg.lean LOADS. Nothing in Lean hashes anything: it is a label: what it is worth is what the hold of that sum in a sandbox is worth. -/
noncomputable def Try.pinned : Pinned := { name := "ytjfhaahdjkiciaa", sum := "418b0593ef035058dfd17e587cebcf87ea86126838c672890685bab8e0a7db90", checked := Try.checked }
namespace Rows
def none {H : Type} : Left H := { results := [], args := [] }

/-- 'laws.FnFractions': WHATEVER THE INPUT: true; the input reads as it did. -/
def fnFractionsSpec : ChangeSpec := { name := "fnFractions", fn := fun _ => fun
  | [d] => { results := [.lit (.bool true)], args := [d] }
  | _ => none }
def fnFractionsRow : OpenClaim := { program := "ytjfhaahdjkiciaa", sum := "418b0593ef035058dfd17e587cebcf87ea86126838c672890685bab8e0a7db90", func := "loop.example/g00951/laws.FnFractions", spec := "fnFractions", apart := false }
def FnFractionsSaid : Prop := fnFractionsRow.holds Try.pinned (OpenSpec.ofChange fnFractionsSpec)

/-- ITS FALSE NEIGHBOUR: 'it returns false'. Refute it at one input. -/
def fnFractionsWrong : ChangeSpec := { name := "fnFractions", fn := fun _ => fun
  | [d] => { results := [.lit (.bool false)], args := [d] }
  | _ => none }
def FnFractionsWrongFalsely : Prop := fnFractionsRow.holds Try.pinned (OpenSpec.ofChange fnFractionsWrong)

/-- 'laws.FnLogarithms': WHATEVER THE INPUT: true; the input reads as it did. -/
def fnLogarithmsSpec : ChangeSpec := { name := "fnLogarithms", fn := fun _ => fun
  | [d] => { results := [.lit (.bool true)], args := [d] }
  | _ => none }
def fnLogarithmsRow : OpenClaim := { program := "ytjfhaahdjkiciaa", sum := "418b0593ef035058dfd17e587cebcf87ea86126838c672890685bab8e0a7db90", func := "loop.example/g00951/laws.FnLogarithms", spec := "fnLogarithms", apart := false }
def FnLogarithmsSaid : Prop := fnLogarithmsRow.holds Try.pinned (OpenSpec.ofChange fnLogarithmsSpec)

/-- ITS FALSE NEIGHBOUR: 'it returns false'. Refute it at one input. -/
def fnLogarithmsWrong : ChangeSpec := { name := "fnLogarithms", fn := fun _ => fun
  | [d] => { results := [.lit (.bool false)], args := [d] }
  | _ => none }
def FnLogarithmsWrongFalsely : Prop := fnLogarithmsRow.holds Try.pinned (OpenSpec.ofChange fnLogarithmsWrong)

/-- 'laws.FnFigures': WHATEVER THE INPUT: true; the input reads as it did. -/
def fnFiguresSpec : ChangeSpec := { name := "fnFigures", fn := fun _ => fun
  | [d] => { results := [.lit (.bool true)], args := [d] }
  | _ => none }
def fnFiguresRow : OpenClaim := { program := "ytjfhaahdjkiciaa", sum := "418b0593ef035058dfd17e587cebcf87ea86126838c672890685bab8e0a7db90", func := "loop.example/g00951/laws.FnFigures", spec := "fnFigures", apart := false }
def FnFiguresSaid : Prop := fnFiguresRow.holds Try.pinned (OpenSpec.ofChange fnFiguresSpec)

/-- ITS FALSE NEIGHBOUR: 'it returns false'. Refute it at one input. -/
def fnFiguresWrong : ChangeSpec := { name := "fnFigures", fn := fun _ => fun
  | [d] => { results := [.lit (.bool false)], args := [d] }
  | _ => none }
def FnFiguresWrongFalsely : Prop := fnFiguresRow.holds Try.pinned (OpenSpec.ofChange fnFiguresWrong)

/-- 'laws.FnLogScales': WHATEVER THE INPUT: true; the input reads as it did. -/
def fnLogScalesSpec : ChangeSpec := { name := "fnLogScales", fn := fun _ => fun
  | [d] => { results := [.lit (.bool true)], args := [d] }
  | _ => none }
def fnLogScalesRow : OpenClaim := { program := "ytjfhaahdjkiciaa", sum := "418b0593ef035058dfd17e587cebcf87ea86126838c672890685bab8e0a7db90", func := "loop.example/g00951/laws.FnLogScales", spec := "fnLogScales", apart := false }
def FnLogScalesSaid : Prop := fnLogScalesRow.holds Try.pinned (OpenSpec.ofChange fnLogScalesSpec)

/-- ITS FALSE NEIGHBOUR: 'it returns false'. Refute it at one input. -/
def fnLogScalesWrong : ChangeSpec := { name := "fnLogScales", fn := fun _ => fun
  | [d] => { results := [.lit (.bool false)], args := [d] }
  | _ => none }
def FnLogScalesWrongFalsely : Prop := fnLogScalesRow.holds Try.pinned (OpenSpec.ofChange fnLogScalesWrong)

/-- 'laws.FnScales': WHATEVER THE INPUT: true; the input reads as it did. -/
def fnScalesSpec : ChangeSpec := { name := "fnScales", fn := fun _ => fun
  | [d] => { results := [.lit (.bool true)], args := [d] }
  | _ => none }
def fnScalesRow : OpenClaim := { program := "ytjfhaahdjkiciaa", sum := "418b0593ef035058dfd17e587cebcf87ea86126838c672890685bab8e0a7db90", func := "loop.example/g00951/laws.FnScales", spec := "fnScales", unfollowed := true, recurses := true, apart := false }
def FnScalesSaid : Prop := fnScalesRow.holds Try.pinned (OpenSpec.ofChange fnScalesSpec)

/-- ITS FALSE NEIGHBOUR: 'it returns false'. Refute it at one input. -/
def fnScalesWrong : ChangeSpec := { name := "fnScales", fn := fun _ => fun
  | [d] => { results := [.lit (.bool false)], args := [d] }
  | _ => none }
def FnScalesWrongFalsely : Prop := fnScalesRow.holds Try.pinned (OpenSpec.ofChange fnScalesWrong)

/-- 'laws.FnQuotients': WHATEVER THE INPUT: true; the input reads as it did. -/
def fnQuotientsSpec : ChangeSpec := { name := "fnQuotients", fn := fun _ => fun
  | [d] => { results := [.lit (.bool true)], args := [d] }
  | _ => none }
def fnQuotientsRow : OpenClaim := { program := "ytjfhaahdjkiciaa", sum := "418b0593ef035058dfd17e587cebcf87ea86126838c672890685bab8e0a7db90", func := "loop.example/g00951/laws.FnQuotients", spec := "fnQuotients", apart := false }
def FnQuotientsSaid : Prop := fnQuotientsRow.holds Try.pinned (OpenSpec.ofChange fnQuotientsSpec)

/-- ITS FALSE NEIGHBOUR: 'it returns false'. Refute it at one input. -/
def fnQuotientsWrong : ChangeSpec := { name := "fnQuotients", fn := fun _ => fun
  | [d] => { results := [.lit (.bool false)], args := [d] }
  | _ => none }
def FnQuotientsWrongFalsely : Prop := fnQuotientsRow.holds Try.pinned (OpenSpec.ofChange fnQuotientsWrong)

/-- 'laws.FnLogProducts': WHATEVER THE INPUT: true; the input reads as it did. -/
def fnLogProductsSpec : ChangeSpec := { name := "fnLogProducts", fn := fun _ => fun
  | [d] => { results := [.lit (.bool true)], args := [d] }
  | _ => none }
def fnLogProductsRow : OpenClaim := { program := "ytjfhaahdjkiciaa", sum := "418b0593ef035058dfd17e587cebcf87ea86126838c672890685bab8e0a7db90", func := "loop.example/g00951/laws.FnLogProducts", spec := "fnLogProducts", apart := false }
def FnLogProductsSaid : Prop := fnLogProductsRow.holds Try.pinned (OpenSpec.ofChange fnLogProductsSpec)

/-- ITS FALSE NEIGHBOUR: 'it returns false'. Refute it at one input. -/
def fnLogProductsWrong : ChangeSpec := { name := "fnLogProducts", fn := fun _ => fun
  | [d] => { results := [.lit (.bool false)], args := [d] }
  | _ => none }
def FnLogProductsWrongFalsely : Prop := fnLogProductsRow.holds Try.pinned (OpenSpec.ofChange fnLogProductsWrong)

/- THE SECOND FORM. 'bulk': how many values and letters a reading holds, each counted each time it is reached (what is shared counts as often as it is met; a slice's spare places count too). A statement '..UptoSaid' is the law's where the arguments, and the package variables that the reading takes, are together of bulk at most 1048576: NARROWER than '..Said'. Prove '..Said' where nothing that the law and all that it calls make is longer than what came in: it says more and counts as full. Else prove '..UptoSaid'. A law counts once. -/
mutual
def uptoBulk {H : Type} : DataW H → Nat
  | .lit (.string bytes) => bytes.length + 1
  | .lit _ => 1
  | .nil => 1
  | .ptr d => uptoBulk d + 1
  | .slice elems spare => uptoBulkAll elems + uptoBulkAll spare + 1
  | .agg parts => uptoBulkAll parts + 1
  | .iface _ d => uptoBulk d + 1
  | .map entries => uptoBulkEntries entries + 1
  | .held _ => 1
def uptoBulkAll {H : Type} : List (DataW H) → Nat
  | [] => 0
  | d :: r => uptoBulk d + uptoBulkAll r
def uptoBulkEntries {H : Type} : List (Lit × DataW H) → Nat
  | [] => 0
  | x :: r => uptoBulkEntry x + uptoBulkEntries r
def uptoBulkEntry {H : Type} : Lit × DataW H → Nat
  | (.string bytes, d) => bytes.length + uptoBulk d + 1
  | (_, d) => uptoBulk d + 1
 end
def uptoSmall : (H : Type) → List (DataW H) → Bool := fun _ ds => decide (uptoBulkAll ds ≤ 1048576)
def OpenSpec.upto (s : _root_.Go.ChangeSpec) : _root_.Go.OpenSpec := { _root_.Go.OpenSpec.ofChange s with cond := some uptoSmall }

/-- 'laws.FnFractions', WHERE WHAT IT READS IS OF BULK AT MOST 1048576: true; the input reads as it did. -/
def fnFractionsUptoRow : OpenClaim := { program := "ytjfhaahdjkiciaa", sum := "418b0593ef035058dfd17e587cebcf87ea86126838c672890685bab8e0a7db90", func := "loop.example/g00951/laws.FnFractions", spec := "fnFractions", apart := false, narrowed := true }
def FnFractionsUptoSaid : Prop := fnFractionsUptoRow.holds Try.pinned (OpenSpec.upto fnFractionsSpec)

/-- 'laws.FnLogarithms', WHERE WHAT IT READS IS OF BULK AT MOST 1048576: true; the input reads as it did. -/
def fnLogarithmsUptoRow : OpenClaim := { program := "ytjfhaahdjkiciaa", sum := "418b0593ef035058dfd17e587cebcf87ea86126838c672890685bab8e0a7db90", func := "loop.example/g00951/laws.FnLogarithms", spec := "fnLogarithms", apart := false, narrowed := true }
def FnLogarithmsUptoSaid : Prop := fnLogarithmsUptoRow.holds Try.pinned (OpenSpec.upto fnLogarithmsSpec)

/-- 'laws.FnFigures', WHERE WHAT IT READS IS OF BULK AT MOST 1048576: true; the input reads as it did. -/
def fnFiguresUptoRow : OpenClaim := { program := "ytjfhaahdjkiciaa", sum := "418b0593ef035058dfd17e587cebcf87ea86126838c672890685bab8e0a7db90", func := "loop.example/g00951/laws.FnFigures", spec := "fnFigures", apart := false, narrowed := true }
def FnFiguresUptoSaid : Prop := fnFiguresUptoRow.holds Try.pinned (OpenSpec.upto fnFiguresSpec)

/-- 'laws.FnLogScales', WHERE WHAT IT READS IS OF BULK AT MOST 1048576: true; the input reads as it did. -/
def fnLogScalesUptoRow : OpenClaim := { program := "ytjfhaahdjkiciaa", sum := "418b0593ef035058dfd17e587cebcf87ea86126838c672890685bab8e0a7db90", func := "loop.example/g00951/laws.FnLogScales", spec := "fnLogScales", apart := false, narrowed := true }
def FnLogScalesUptoSaid : Prop := fnLogScalesUptoRow.holds Try.pinned (OpenSpec.upto fnLogScalesSpec)

/-- 'laws.FnScales', WHERE WHAT IT READS IS OF BULK AT MOST 1048576: true; the input reads as it did. -/
def fnScalesUptoRow : OpenClaim := { program := "ytjfhaahdjkiciaa", sum := "418b0593ef035058dfd17e587cebcf87ea86126838c672890685bab8e0a7db90", func := "loop.example/g00951/laws.FnScales", spec := "fnScales", unfollowed := true, recurses := true, apart := false, narrowed := true }
def FnScalesUptoSaid : Prop := fnScalesUptoRow.holds Try.pinned (OpenSpec.upto fnScalesSpec)

/-- 'laws.FnQuotients', WHERE WHAT IT READS IS OF BULK AT MOST 1048576: true; the input reads as it did. -/
def fnQuotientsUptoRow : OpenClaim := { program := "ytjfhaahdjkiciaa", sum := "418b0593ef035058dfd17e587cebcf87ea86126838c672890685bab8e0a7db90", func := "loop.example/g00951/laws.FnQuotients", spec := "fnQuotients", apart := false, narrowed := true }
def FnQuotientsUptoSaid : Prop := fnQuotientsUptoRow.holds Try.pinned (OpenSpec.upto fnQuotientsSpec)

/-- 'laws.FnLogProducts', WHERE WHAT IT READS IS OF BULK AT MOST 1048576: true; the input reads as it did. -/
def fnLogProductsUptoRow : OpenClaim := { program := "ytjfhaahdjkiciaa", sum := "418b0593ef035058dfd17e587cebcf87ea86126838c672890685bab8e0a7db90", func := "loop.example/g00951/laws.FnLogProducts", spec := "fnLogProducts", apart := false, narrowed := true }
def FnLogProductsUptoSaid : Prop := fnLogProductsUptoRow.holds Try.pinned (OpenSpec.upto fnLogProductsSpec)

end Rows
end Go.Proofs.Ytjfhaahdjkiciaa
