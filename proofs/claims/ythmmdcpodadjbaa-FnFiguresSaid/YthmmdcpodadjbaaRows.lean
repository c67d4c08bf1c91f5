/-
  No cell of these rows narrows 'for every input' (looked for: loops, veiled, ifaces, maps, wideKeys, modest, calm, conditions, laid).
  DERIVED. THE GIVEN ROWS OF THIS SEAT. 8 by the template 'for every input the law returns true; each argument reads behind the call as it read before'; 0 by the template 'total and deterministic' (their statements: YthmmdcpodadjbaaTotals.lean).
  GIVEN WITH THE SEED: the statements are not yours to turn. If you find one false, say at which input.
  Laid BY PROGRAM, IN A SANDBOX (cutbox-rows.mjs): the forced cells as the released guide's own fill.sh prints them over the translation 31274ad3637a38ba… (all of the seat's roots in one cut). By AI agents, Wed Nov 11 2026. No macro, syntax, notation, axiom, sorry.
-/
import Derived.Test.YthmmdcpodadjbaaChecked
import GoSem.Claim
import GoSem.ClaimJoined
import GoSem.ClaimMapViews
import Derived.JoinedTies
import Derived.KernelRfl
namespace Go.Proofs.Ythmmdcpodadjbaa
/- THE CELL 'sum', in the pinned program and in every row, IS THE sha256 OF THE DUMP (.gsa) THAT YthmmdcpodadjbaaProg.lean LOADS. Nothing in Lean hashes anything: it is a label: what it is worth is what the hold of that sum in a sandbox is worth. -/
noncomputable def Try.pinned : Pinned := { name := "ythmmdcpodadjbaa", sum := "31274ad3637a38bac41d2117048c4bf5d65d5b6feead0e9a980f4a5581c62b64", checked := Try.checked }
namespace Rows
def none {H : Type} : Left H := { results := [], args := [] }

/-- 'laws.FnExactCountReadings': WHATEVER THE INPUT: true; the input reads as it did. -/
def fnExactCountReadingsSpec : ChangeSpec := { name := "fnExactCountReadings", fn := fun _ => fun
  | [d1, d2, d3, d4] => { results := [.lit (.bool true)], args := [d1, d2, d3, d4] }
  | _ => none }
def fnExactCountReadingsRow : OpenClaim := { program := "ythmmdcpodadjbaa", sum := "31274ad3637a38bac41d2117048c4bf5d65d5b6feead0e9a980f4a5581c62b64", func := "loop.example/g00951/laws.FnExactCountReadings", spec := "fnExactCountReadings", unfollowed := true, recurses := true, apart := false }
def FnExactCountReadingsSaid : Prop := fnExactCountReadingsRow.holds Try.pinned (OpenSpec.ofChange fnExactCountReadingsSpec)

/-- ITS FALSE NEIGHBOUR: 'it returns false'. Refute it at one input. -/
def fnExactCountReadingsWrong : ChangeSpec := { name := "fnExactCountReadings", fn := fun _ => fun
  | [d1, d2, d3, d4] => { results := [.lit (.bool false)], args := [d1, d2, d3, d4] }
  | _ => none }
def FnExactCountReadingsWrongFalsely : Prop := fnExactCountReadingsRow.holds Try.pinned (OpenSpec.ofChange fnExactCountReadingsWrong)

/-- 'laws.FnExactBestReading': WHATEVER THE INPUT: true; the input reads as it did. -/
def fnExactBestReadingSpec : ChangeSpec := { name := "fnExactBestReading", fn := fun _ => fun
  | [d1, d2, d3] => { results := [.lit (.bool true)], args := [d1, d2, d3] }
  | _ => none }
def fnExactBestReadingRow : OpenClaim := { program := "ythmmdcpodadjbaa", sum := "31274ad3637a38bac41d2117048c4bf5d65d5b6feead0e9a980f4a5581c62b64", func := "loop.example/g00951/laws.FnExactBestReading", spec := "fnExactBestReading", unfollowed := true, recurses := true, apart := false }
def FnExactBestReadingSaid : Prop := fnExactBestReadingRow.holds Try.pinned (OpenSpec.ofChange fnExactBestReadingSpec)

/-- ITS FALSE NEIGHBOUR: 'it returns false'. Refute it at one input. -/
def fnExactBestReadingWrong : ChangeSpec := { name := "fnExactBestReading", fn := fun _ => fun
  | [d1, d2, d3] => { results := [.lit (.bool false)], args := [d1, d2, d3] }
  | _ => none }
def FnExactBestReadingWrongFalsely : Prop := fnExactBestReadingRow.holds Try.pinned (OpenSpec.ofChange fnExactBestReadingWrong)

/-- 'laws.FnFigures': WHATEVER THE INPUT: true; the input reads as it did. -/
def fnFiguresSpec : ChangeSpec := { name := "fnFigures", fn := fun _ => fun
  | [d] => { results := [.lit (.bool true)], args := [d] }
  | _ => none }
def fnFiguresRow : OpenClaim := { program := "ythmmdcpodadjbaa", sum := "31274ad3637a38bac41d2117048c4bf5d65d5b6feead0e9a980f4a5581c62b64", func := "loop.example/g00951/laws.FnFigures", spec := "fnFigures", apart := false }
def FnFiguresSaid : Prop := fnFiguresRow.holds Try.pinned (OpenSpec.ofChange fnFiguresSpec)

/-- ITS FALSE NEIGHBOUR: 'it returns false'. Refute it at one input. -/
def fnFiguresWrong : ChangeSpec := { name := "fnFigures", fn := fun _ => fun
  | [d] => { results := [.lit (.bool false)], args := [d] }
  | _ => none }
def FnFiguresWrongFalsely : Prop := fnFiguresRow.holds Try.pinned (OpenSpec.ofChange fnFiguresWrong)

/-- 'laws.FnLogScales': WHATEVER THE INPUT: true; the input reads as it did. -/
def fnLogScalesSpec : ChangeSpec := { name := "fnLogScales", fn := fun _ => fun
  | [d] => { results := [.lit (.bool true)], args := [d] }
  | _ => none }
def fnLogScalesRow : OpenClaim := { program := "ythmmdcpodadjbaa", sum := "31274ad3637a38bac41d2117048c4bf5d65d5b6feead0e9a980f4a5581c62b64", func := "loop.example/g00951/laws.FnLogScales", spec := "fnLogScales", apart := false }
def FnLogScalesSaid : Prop := fnLogScalesRow.holds Try.pinned (OpenSpec.ofChange fnLogScalesSpec)

/-- ITS FALSE NEIGHBOUR: 'it returns false'. Refute it at one input. -/
def fnLogScalesWrong : ChangeSpec := { name := "fnLogScales", fn := fun _ => fun
  | [d] => { results := [.lit (.bool false)], args := [d] }
  | _ => none }
def FnLogScalesWrongFalsely : Prop := fnLogScalesRow.holds Try.pinned (OpenSpec.ofChange fnLogScalesWrong)

/-- 'laws.FnQuotients': WHATEVER THE INPUT: true; the input reads as it did. -/
def fnQuotientsSpec : ChangeSpec := { name := "fnQuotients", fn := fun _ => fun
  | [d] => { results := [.lit (.bool true)], args := [d] }
  | _ => none }
def fnQuotientsRow : OpenClaim := { program := "ythmmdcpodadjbaa", sum := "31274ad3637a38bac41d2117048c4bf5d65d5b6feead0e9a980f4a5581c62b64", func := "loop.example/g00951/laws.FnQuotients", spec := "fnQuotients", apart := false }
def FnQuotientsSaid : Prop := fnQuotientsRow.holds Try.pinned (OpenSpec.ofChange fnQuotientsSpec)

/-- ITS FALSE NEIGHBOUR: 'it returns false'. Refute it at one input. -/
def fnQuotientsWrong : ChangeSpec := { name := "fnQuotients", fn := fun _ => fun
  | [d] => { results := [.lit (.bool false)], args := [d] }
  | _ => none }
def FnQuotientsWrongFalsely : Prop := fnQuotientsRow.holds Try.pinned (OpenSpec.ofChange fnQuotientsWrong)

/-- 'laws.FnLogProducts': WHATEVER THE INPUT: true; the input reads as it did. -/
def fnLogProductsSpec : ChangeSpec := { name := "fnLogProducts", fn := fun _ => fun
  | [d] => { results := [.lit (.bool true)], args := [d] }
  | _ => none }
def fnLogProductsRow : OpenClaim := { program := "ythmmdcpodadjbaa", sum := "31274ad3637a38bac41d2117048c4bf5d65d5b6feead0e9a980f4a5581c62b64", func := "loop.example/g00951/laws.FnLogProducts", spec := "fnLogProducts", apart := false }
def FnLogProductsSaid : Prop := fnLogProductsRow.holds Try.pinned (OpenSpec.ofChange fnLogProductsSpec)

/-- ITS FALSE NEIGHBOUR: 'it returns false'. Refute it at one input. -/
def fnLogProductsWrong : ChangeSpec := { name := "fnLogProducts", fn := fun _ => fun
  | [d] => { results := [.lit (.bool false)], args := [d] }
  | _ => none }
def FnLogProductsWrongFalsely : Prop := fnLogProductsRow.holds Try.pinned (OpenSpec.ofChange fnLogProductsWrong)

/-- 'laws.FnPlaces': WHATEVER THE INPUT: true; the input reads as it did. -/
def fnPlacesSpec : ChangeSpec := { name := "fnPlaces", fn := fun _ => fun
  | [d] => { results := [.lit (.bool true)], args := [d] }
  | _ => none }
def fnPlacesRow : OpenClaim := { program := "ythmmdcpodadjbaa", sum := "31274ad3637a38bac41d2117048c4bf5d65d5b6feead0e9a980f4a5581c62b64", func := "loop.example/g00951/laws.FnPlaces", spec := "fnPlaces", unfollowed := true, recurses := true, apart := false }
def FnPlacesSaid : Prop := fnPlacesRow.holds Try.pinned (OpenSpec.ofChange fnPlacesSpec)

/-- ITS FALSE NEIGHBOUR: 'it returns false'. Refute it at one input. -/
def fnPlacesWrong : ChangeSpec := { name := "fnPlaces", fn := fun _ => fun
  | [d] => { results := [.lit (.bool false)], args := [d] }
  | _ => none }
def FnPlacesWrongFalsely : Prop := fnPlacesRow.holds Try.pinned (OpenSpec.ofChange fnPlacesWrong)

/-- 'laws.FnPowers': WHATEVER THE INPUT: true; the input reads as it did. -/
def fnPowersSpec : ChangeSpec := { name := "fnPowers", fn := fun _ => fun
  | [d] => { results := [.lit (.bool true)], args := [d] }
  | _ => none }
def fnPowersRow : OpenClaim := { program := "ythmmdcpodadjbaa", sum := "31274ad3637a38bac41d2117048c4bf5d65d5b6feead0e9a980f4a5581c62b64", func := "loop.example/g00951/laws.FnPowers", spec := "fnPowers", unfollowed := true, recurses := true, apart := false }
def FnPowersSaid : Prop := fnPowersRow.holds Try.pinned (OpenSpec.ofChange fnPowersSpec)

/-- ITS FALSE NEIGHBOUR: 'it returns false'. Refute it at one input. -/
def fnPowersWrong : ChangeSpec := { name := "fnPowers", fn := fun _ => fun
  | [d] => { results := [.lit (.bool false)], args := [d] }
  | _ => none }
def FnPowersWrongFalsely : Prop := fnPowersRow.holds Try.pinned (OpenSpec.ofChange fnPowersWrong)

/- THE SECOND FORM. 'bulk': how many values and letters a reading holds, each counted each time it is reached (what is shared counts as often as it is met; a slice's spare places count too). A statement '..UptoSaid' is the law's where the arguments, and the package variables that the reading takes, are together of bulk at most 1048576: NARROWER than '..Said'. Prove '..Said' where nothing that the law and all that it calls make is longer than what came in: it says more and counts as full. Else prove '..UptoSaid'. A law counts once. -/
mutual
def uptoBulk {H : Type} : DataW H → Nat
  | .lit (.string bytes) => bytes.length + 1
  | .lit _ => 1
  | .nil => 1
  | .ptr d => uptoBulk d + 1
  | .slice elems spare => uptoBulkAll elems + uptoBulkAll spare + 1
  | .agg parts => uptoBulkAll parts + 1
  | .iface _ d => uptoBulk d + 1
  | .map entries => uptoBulkEntries entries + 1
  | .held _ => 1
def uptoBulkAll {H : Type} : List (DataW H) → Nat
  | [] => 0
  | d :: r => uptoBulk d + uptoBulkAll r
def uptoBulkEntries {H : Type} : List (Lit × DataW H) → Nat
  | [] => 0
  | x :: r => uptoBulkEntry x + uptoBulkEntries r
def uptoBulkEntry {H : Type} : Lit × DataW H → Nat
  | (.string bytes, d) => bytes.length + uptoBulk d + 1
  | (_, d) => uptoBulk d + 1
 end
def uptoSmall : (H : Type) → List (DataW H) → Bool := fun _ ds => decide (uptoBulkAll ds ≤ 1048576)
def OpenSpec.upto (s : _root_.Go.ChangeSpec) : _root_.Go.OpenSpec := { _root_.Go.OpenSpec.ofChange s with cond := some uptoSmall }

/-- 'laws.FnExactCountReadings', WHERE WHAT IT READS IS OF BULK AT MOST 1048576: true; the input reads as it did. -/
def fnExactCountReadingsUptoRow : OpenClaim := { program := "ythmmdcpodadjbaa", sum := "31274ad3637a38bac41d2117048c4bf5d65d5b6feead0e9a980f4a5581c62b64", func := "loop.example/g00951/laws.FnExactCountReadings", spec := "fnExactCountReadings", unfollowed := true, recurses := true, apart := false, narrowed := true }
def FnExactCountReadingsUptoSaid : Prop := fnExactCountReadingsUptoRow.holds Try.pinned (OpenSpec.upto fnExactCountReadingsSpec)

/-- 'laws.FnExactBestReading', WHERE WHAT IT READS IS OF BULK AT MOST 1048576: true; the input reads as it did. -/
def fnExactBestReadingUptoRow : OpenClaim := { program := "ythmmdcpodadjbaa", sum := "31274ad3637a38bac41d2117048c4bf5d65d5b6feead0e9a980f4a5581c62b64", func := "loop.example/g00951/laws.FnExactBestReading", spec := "fnExactBestReading", unfollowed := true, recurses := true, apart := false, narrowed := true }
def FnExactBestReadingUptoSaid : Prop := fnExactBestReadingUptoRow.holds Try.pinned (OpenSpec.upto fnExactBestReadingSpec)

/-- 'laws.FnFigures', WHERE WHAT IT READS IS OF BULK AT MOST 1048576: true; the input reads as it did. -/
def fnFiguresUptoRow : OpenClaim := { program := "ythmmdcpodadjbaa", sum := "31274ad3637a38bac41d2117048c4bf5d65d5b6feead0e9a980f4a5581c62b64", func := "loop.example/g00951/laws.FnFigures", spec := "fnFigures", apart := false, narrowed := true }
def FnFiguresUptoSaid : Prop := fnFiguresUptoRow.holds Try.pinned (OpenSpec.upto fnFiguresSpec)

/-- 'laws.FnLogScales', WHERE WHAT IT READS IS OF BULK AT MOST 1048576: true; the input reads as it did. -/
def fnLogScalesUptoRow : OpenClaim := { program := "ythmmdcpodadjbaa", sum := "31274ad3637a38bac41d2117048c4bf5d65d5b6feead0e9a980f4a5581c62b64", func := "loop.example/g00951/laws.FnLogScales", spec := "fnLogScales", apart := false, narrowed := true }
def FnLogScalesUptoSaid : Prop := fnLogScalesUptoRow.holds Try.pinned (OpenSpec.upto fnLogScalesSpec)

/-- 'laws.FnQuotients', WHERE WHAT IT READS IS OF BULK AT MOST 1048576: true; the input reads as it did. -/
def fnQuotientsUptoRow : OpenClaim := { program := "ythmmdcpodadjbaa", sum := "31274ad3637a38bac41d2117048c4bf5d65d5b6feead0e9a980f4a5581c62b64", func := "loop.example/g00951/laws.FnQuotients", spec := "fnQuotients", apart := false, narrowed := true }
def FnQuotientsUptoSaid : Prop := fnQuotientsUptoRow.holds Try.pinned (OpenSpec.upto fnQuotientsSpec)

/-- 'laws.FnLogProducts', WHERE WHAT IT READS IS OF BULK AT MOST 1048576: true; the input reads as it did. -/
def fnLogProductsUptoRow : OpenClaim := { program := "ythmmdcpodadjbaa", sum := "31274ad3637a38bac41d2117048c4bf5d65d5b6feead0e9a980f4a5581c62b64", func := "loop.example/g00951/laws.FnLogProducts", spec := "fnLogProducts", apart := false, narrowed := true }
def FnLogProductsUptoSaid : Prop := fnLogProductsUptoRow.holds Try.pinned (OpenSpec.upto fnLogProductsSpec)

/-- 'laws.FnPlaces', WHERE WHAT IT READS IS OF BULK AT MOST 1048576: true; the input reads as it did. -/
def fnPlacesUptoRow : OpenClaim := { program := "ythmmdcpodadjbaa", sum := "31274ad3637a38bac41d2117048c4bf5d65d5b6feead0e9a980f4a5581c62b64", func := "loop.example/g00951/laws.FnPlaces", spec := "fnPlaces", unfollowed := true, recurses := true, apart := false, narrowed := true }
def FnPlacesUptoSaid : Prop := fnPlacesUptoRow.holds Try.pinned (OpenSpec.upto fnPlacesSpec)

/-- 'laws.FnPowers', WHERE WHAT IT READS IS OF BULK AT MOST 1048576: true; the input reads as it did. -/
def fnPowersUptoRow : OpenClaim := { program := "ythmmdcpodadjbaa", sum := "31274ad3637a38bac41d2117048c4bf5d65d5b6feead0e9a980f4a5581c62b64", func := "loop.example/g00951/laws.FnPowers", spec := "fnPowers", unfollowed := true, recurses := true, apart := false, narrowed := true }
def FnPowersUptoSaid : Prop := fnPowersUptoRow.holds Try.pinned (OpenSpec.upto fnPowersSpec)

end Rows
end Go.Proofs.Ythmmdcpodadjbaa
