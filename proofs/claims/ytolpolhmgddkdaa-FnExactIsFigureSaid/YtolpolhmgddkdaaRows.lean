/-
  No cell of these rows narrows 'for every input' (looked for: loops, veiled, ifaces, maps, wideKeys, modest, calm, conditions, laid).
  DERIVED. THE GIVEN ROWS OF THIS SEAT. 6 by the template 'for every input the law returns true; each argument reads behind the call as it read before'; 0 by the template 'total and deterministic' (their statements: YtolpolhmgddkdaaTotals.lean).
  GIVEN WITH THE SEED: the statements are not yours to turn. If you find one false, say at which input.
  Laid BY PROGRAM, IN A SANDBOX (cutbox-rows.mjs): the forced cells as the released guide's own fill.sh prints them over the translation f6289b9b5cbdc1e9… (all of the seat's roots in one cut). By AI agents, Wed Nov 11 2026. No macro, syntax, notation, axiom, sorry.
-/
import Derived.Test.YtolpolhmgddkdaaChecked
import GoSem.Claim
import GoSem.ClaimJoined
import GoSem.ClaimMapViews
import Derived.JoinedTies
import Derived.KernelRfl
namespace Go.Proofs.Ytolpolhmgddkdaa
/- THE CELL 'sum', in the pinned program and in every row, IS THE sha256 OF THE DUMP (.gsa) THAT YtolpolhmgddkdaaProg.lean LOADS. Nothing in Lean hashes anything: it is a label: what it is worth is what the hold of that sum in a sandbox is worth. -/
noncomputable def Try.pinned : Pinned := { name := "ytolpolhmgddkdaa", sum := "f6289b9b5cbdc1e9ba1ad4edb2214d50b8eed8c5aea9a444d1324548742cc69b", checked := Try.checked }
namespace Rows
def none {H : Type} : Left H := { results := [], args := [] }

/-- 'laws.FnExactConstants': WHATEVER THE INPUT: true; the input reads as it did. -/
def fnExactConstantsSpec : ChangeSpec := { name := "fnExactConstants", fn := fun _ => fun
  | [] => { results := [.lit (.bool true)], args := [] }
  | _ => none }
def fnExactConstantsRow : OpenClaim := { program := "ytolpolhmgddkdaa", sum := "f6289b9b5cbdc1e9ba1ad4edb2214d50b8eed8c5aea9a444d1324548742cc69b", func := "loop.example/g00951/laws.FnExactConstants", spec := "fnExactConstants", apart := false }
def FnExactConstantsSaid : Prop := fnExactConstantsRow.holds Try.pinned (OpenSpec.ofChange fnExactConstantsSpec)

/-- ITS FALSE NEIGHBOUR: 'it returns false'. Refute it at one input. -/
def fnExactConstantsWrong : ChangeSpec := { name := "fnExactConstants", fn := fun _ => fun
  | [] => { results := [.lit (.bool false)], args := [] }
  | _ => none }
def FnExactConstantsWrongFalsely : Prop := fnExactConstantsRow.holds Try.pinned (OpenSpec.ofChange fnExactConstantsWrong)

/-- 'laws.FnExactIsScale': WHATEVER THE INPUT: true; the input reads as it did. -/
def fnExactIsScaleSpec : ChangeSpec := { name := "fnExactIsScale", fn := fun _ => fun
  | [d] => { results := [.lit (.bool true)], args := [d] }
  | _ => none }
def fnExactIsScaleRow : OpenClaim := { program := "ytolpolhmgddkdaa", sum := "f6289b9b5cbdc1e9ba1ad4edb2214d50b8eed8c5aea9a444d1324548742cc69b", func := "loop.example/g00951/laws.FnExactIsScale", spec := "fnExactIsScale", apart := false }
def FnExactIsScaleSaid : Prop := fnExactIsScaleRow.holds Try.pinned (OpenSpec.ofChange fnExactIsScaleSpec)

/-- ITS FALSE NEIGHBOUR: 'it returns false'. Refute it at one input. -/
def fnExactIsScaleWrong : ChangeSpec := { name := "fnExactIsScale", fn := fun _ => fun
  | [d] => { results := [.lit (.bool false)], args := [d] }
  | _ => none }
def FnExactIsScaleWrongFalsely : Prop := fnExactIsScaleRow.holds Try.pinned (OpenSpec.ofChange fnExactIsScaleWrong)

/-- 'laws.FnExactIsInterval': WHATEVER THE INPUT: true; the input reads as it did. -/
def fnExactIsIntervalSpec : ChangeSpec := { name := "fnExactIsInterval", fn := fun _ => fun
  | [d] => { results := [.lit (.bool true)], args := [d] }
  | _ => none }
def fnExactIsIntervalRow : OpenClaim := { program := "ytolpolhmgddkdaa", sum := "f6289b9b5cbdc1e9ba1ad4edb2214d50b8eed8c5aea9a444d1324548742cc69b", func := "loop.example/g00951/laws.FnExactIsInterval", spec := "fnExactIsInterval", apart := false }
def FnExactIsIntervalSaid : Prop := fnExactIsIntervalRow.holds Try.pinned (OpenSpec.ofChange fnExactIsIntervalSpec)

/-- ITS FALSE NEIGHBOUR: 'it returns false'. Refute it at one input. -/
def fnExactIsIntervalWrong : ChangeSpec := { name := "fnExactIsInterval", fn := fun _ => fun
  | [d] => { results := [.lit (.bool false)], args := [d] }
  | _ => none }
def FnExactIsIntervalWrongFalsely : Prop := fnExactIsIntervalRow.holds Try.pinned (OpenSpec.ofChange fnExactIsIntervalWrong)

/-- 'laws.FnExactIsFigure': WHATEVER THE INPUT: true; the input reads as it did. -/
def fnExactIsFigureSpec : ChangeSpec := { name := "fnExactIsFigure", fn := fun _ => fun
  | [d] => { results := [.lit (.bool true)], args := [d] }
  | _ => none }
def fnExactIsFigureRow : OpenClaim := { program := "ytolpolhmgddkdaa", sum := "f6289b9b5cbdc1e9ba1ad4edb2214d50b8eed8c5aea9a444d1324548742cc69b", func := "loop.example/g00951/laws.FnExactIsFigure", spec := "fnExactIsFigure", apart := false }
def FnExactIsFigureSaid : Prop := fnExactIsFigureRow.holds Try.pinned (OpenSpec.ofChange fnExactIsFigureSpec)

/-- ITS FALSE NEIGHBOUR: 'it returns false'. Refute it at one input. -/
def fnExactIsFigureWrong : ChangeSpec := { name := "fnExactIsFigure", fn := fun _ => fun
  | [d] => { results := [.lit (.bool false)], args := [d] }
  | _ => none }
def FnExactIsFigureWrongFalsely : Prop := fnExactIsFigureRow.holds Try.pinned (OpenSpec.ofChange fnExactIsFigureWrong)

/-- 'laws.FnExactIsRising': WHATEVER THE INPUT: true; the input reads as it did. -/
def fnExactIsRisingSpec : ChangeSpec := { name := "fnExactIsRising", fn := fun _ => fun
  | [d] => { results := [.lit (.bool true)], args := [d] }
  | _ => none }
def fnExactIsRisingRow : OpenClaim := { program := "ytolpolhmgddkdaa", sum := "f6289b9b5cbdc1e9ba1ad4edb2214d50b8eed8c5aea9a444d1324548742cc69b", func := "loop.example/g00951/laws.FnExactIsRising", spec := "fnExactIsRising", apart := false }
def FnExactIsRisingSaid : Prop := fnExactIsRisingRow.holds Try.pinned (OpenSpec.ofChange fnExactIsRisingSpec)

/-- ITS FALSE NEIGHBOUR: 'it returns false'. Refute it at one input. -/
def fnExactIsRisingWrong : ChangeSpec := { name := "fnExactIsRising", fn := fun _ => fun
  | [d] => { results := [.lit (.bool false)], args := [d] }
  | _ => none }
def FnExactIsRisingWrongFalsely : Prop := fnExactIsRisingRow.holds Try.pinned (OpenSpec.ofChange fnExactIsRisingWrong)

/-- 'laws.FnExactScaleName': WHATEVER THE INPUT: true; the input reads as it did. -/
def fnExactScaleNameSpec : ChangeSpec := { name := "fnExactScaleName", fn := fun _ => fun
  | [d] => { results := [.lit (.bool true)], args := [d] }
  | _ => none }
def fnExactScaleNameRow : OpenClaim := { program := "ytolpolhmgddkdaa", sum := "f6289b9b5cbdc1e9ba1ad4edb2214d50b8eed8c5aea9a444d1324548742cc69b", func := "loop.example/g00951/laws.FnExactScaleName", spec := "fnExactScaleName", apart := false }
def FnExactScaleNameSaid : Prop := fnExactScaleNameRow.holds Try.pinned (OpenSpec.ofChange fnExactScaleNameSpec)

/-- ITS FALSE NEIGHBOUR: 'it returns false'. Refute it at one input. -/
def fnExactScaleNameWrong : ChangeSpec := { name := "fnExactScaleName", fn := fun _ => fun
  | [d] => { results := [.lit (.bool false)], args := [d] }
  | _ => none }
def FnExactScaleNameWrongFalsely : Prop := fnExactScaleNameRow.holds Try.pinned (OpenSpec.ofChange fnExactScaleNameWrong)

/- THE SECOND FORM. 'bulk': how many values and letters a reading holds, each counted each time it is reached (what is shared counts as often as it is met; a slice's spare places count too). A statement '..UptoSaid' is the law's where the arguments, and the package variables that the reading takes, are together of bulk at most 1048576: NARROWER than '..Said'. Prove '..Said' where nothing that the law and all that it calls make is longer than what came in: it says more and counts as full. Else prove '..UptoSaid'. A law counts once. -/
mutual
def uptoBulk {H : Type} : DataW H → Nat
  | .lit (.string bytes) => bytes.length + 1
  | .lit _ => 1
  | .nil => 1
  | .ptr d => uptoBulk d + 1
  | .slice elems spare => uptoBulkAll elems + uptoBulkAll spare + 1
  | .agg parts => uptoBulkAll parts + 1
  | .iface _ d => uptoBulk d + 1
  | .map entries => uptoBulkEntries entries + 1
  | .held _ => 1
def uptoBulkAll {H : Type} : List (DataW H) → Nat
  | [] => 0
  | d :: r => uptoBulk d + uptoBulkAll r
def uptoBulkEntries {H : Type} : List (Lit × DataW H) → Nat
  | [] => 0
  | x :: r => uptoBulkEntry x + uptoBulkEntries r
def uptoBulkEntry {H : Type} : Lit × DataW H → Nat
  | (.string bytes, d) => bytes.length + uptoBulk d + 1
  | (_, d) => uptoBulk d + 1
 end
def uptoSmall : (H : Type) → List (DataW H) → Bool := fun _ ds => decide (uptoBulkAll ds ≤ 1048576)
def OpenSpec.upto (s : _root_.Go.ChangeSpec) : _root_.Go.OpenSpec := { _root_.Go.OpenSpec.ofChange s with cond := some uptoSmall }

/-- 'laws.FnExactConstants', WHERE WHAT IT READS IS OF BULK AT MOST 1048576: true; the input reads as it did. -/
def fnExactConstantsUptoRow : OpenClaim := { program := "ytolpolhmgddkdaa", sum := "f6289b9b5cbdc1e9ba1ad4edb2214d50b8eed8c5aea9a444d1324548742cc69b", func := "loop.example/g00951/laws.FnExactConstants", spec := "fnExactConstants", apart := false, narrowed := true }
def FnExactConstantsUptoSaid : Prop := fnExactConstantsUptoRow.holds Try.pinned (OpenSpec.upto fnExactConstantsSpec)

/-- 'laws.FnExactIsScale', WHERE WHAT IT READS IS OF BULK AT MOST 1048576: true; the input reads as it did. -/
def fnExactIsScaleUptoRow : OpenClaim := { program := "ytolpolhmgddkdaa", sum := "f6289b9b5cbdc1e9ba1ad4edb2214d50b8eed8c5aea9a444d1324548742cc69b", func := "loop.example/g00951/laws.FnExactIsScale", spec := "fnExactIsScale", apart := false, narrowed := true }
def FnExactIsScaleUptoSaid : Prop := fnExactIsScaleUptoRow.holds Try.pinned (OpenSpec.upto fnExactIsScaleSpec)

/-- 'laws.FnExactIsInterval', WHERE WHAT IT READS IS OF BULK AT MOST 1048576: true; the input reads as it did. -/
def fnExactIsIntervalUptoRow : OpenClaim := { program := "ytolpolhmgddkdaa", sum := "f6289b9b5cbdc1e9ba1ad4edb2214d50b8eed8c5aea9a444d1324548742cc69b", func := "loop.example/g00951/laws.FnExactIsInterval", spec := "fnExactIsInterval", apart := false, narrowed := true }
def FnExactIsIntervalUptoSaid : Prop := fnExactIsIntervalUptoRow.holds Try.pinned (OpenSpec.upto fnExactIsIntervalSpec)

/-- 'laws.FnExactIsFigure', WHERE WHAT IT READS IS OF BULK AT MOST 1048576: true; the input reads as it did. -/
def fnExactIsFigureUptoRow : OpenClaim := { program := "ytolpolhmgddkdaa", sum := "f6289b9b5cbdc1e9ba1ad4edb2214d50b8eed8c5aea9a444d1324548742cc69b", func := "loop.example/g00951/laws.FnExactIsFigure", spec := "fnExactIsFigure", apart := false, narrowed := true }
def FnExactIsFigureUptoSaid : Prop := fnExactIsFigureUptoRow.holds Try.pinned (OpenSpec.upto fnExactIsFigureSpec)

/-- 'laws.FnExactIsRising', WHERE WHAT IT READS IS OF BULK AT MOST 1048576: true; the input reads as it did. -/
def fnExactIsRisingUptoRow : OpenClaim := { program := "ytolpolhmgddkdaa", sum := "f6289b9b5cbdc1e9ba1ad4edb2214d50b8eed8c5aea9a444d1324548742cc69b", func := "loop.example/g00951/laws.FnExactIsRising", spec := "fnExactIsRising", apart := false, narrowed := true }
def FnExactIsRisingUptoSaid : Prop := fnExactIsRisingUptoRow.holds Try.pinned (OpenSpec.upto fnExactIsRisingSpec)

/-- 'laws.FnExactScaleName', WHERE WHAT IT READS IS OF BULK AT MOST 1048576: true; the input reads as it did. -/
def fnExactScaleNameUptoRow : OpenClaim := { program := "ytolpolhmgddkdaa", sum := "f6289b9b5cbdc1e9ba1ad4edb2214d50b8eed8c5aea9a444d1324548742cc69b", func := "loop.example/g00951/laws.FnExactScaleName", spec := "fnExactScaleName", apart := false, narrowed := true }
def FnExactScaleNameUptoSaid : Prop := fnExactScaleNameUptoRow.holds Try.pinned (OpenSpec.upto fnExactScaleNameSpec)

end Rows
end Go.Proofs.Ytolpolhmgddkdaa
