/-
  DERIVED. GIVEN WITH THE SEED: THE CARDS: each row of YtlijleemogpifaaDoorRows.lean that lists a variable, with what it lists TIED to the program's text (the seventh form; the later family's looks); each row that meets fmt, with fmt's text TOLD by the authors' own Lean function (tested against real Go, not proved from fmt's source: count such statements apart). THE CARD IS WHAT COUNTS. Prove the row's statement (the work); the ties are given (YtlijleemogpifaaDoorTie.lean); close each card by the builder's one call (the guide's Derived/Test/ToyasCard.lean, 'card_holds'). Laid BY PROGRAM, IN A SANDBOX (cutbox-door.mjs). By AI agents, Wed Nov 11 2026. No macro, syntax, notation, axiom, sorry.
-/
import Derived.Test.YtlijleemogpifaaDoorRows
import GoSem.ClaimSeven
namespace Go.Proofs.YtlijleemogpifaaDoor
namespace Rows

/-- THE TIED CARD OF 'laws.FnExactCountDigits'. -/
def fnExactCountDigitsCard : Claim7 := { stood := { row := fnExactCountDigitsRow, standIns := [], harness := (true, "348de5cd718de6796326e92b4ae34286c738e1d36a96e1ac07944119e4ff4caa"), looks := true }, kinds := [], alts := [], laidByText := true, laidKinds := [.data, .data, .data], laidTests := true, laidLooks := .later }
def FnExactCountDigitsCardSaid : Prop := Claim7.holds Tryd.pinned (.plain (OpenSpec.ofChange fnExactCountDigitsSpec)) fnExactCountDigitsCard

/-- THE TIED CARD OF 'laws.FnExactFigureText'. -/
def fnExactFigureTextCard : Claim7 := { stood := { row := fnExactFigureTextRow, standIns := [], harness := (true, "348de5cd718de6796326e92b4ae34286c738e1d36a96e1ac07944119e4ff4caa"), looks := true }, kinds := [], alts := [], laidByText := true, laidKinds := [.data, .data, .data], laidTests := true, laidLooks := .later }
def FnExactFigureTextCardSaid : Prop := Claim7.holds Tryd.pinned (.plain (OpenSpec.ofChange fnExactFigureTextSpec)) fnExactFigureTextCard

/-- THE TIED CARD OF 'laws.FnExactListText'. -/
def fnExactListTextCard : Claim7 := { stood := { row := fnExactListTextRow, standIns := [], harness := (true, "348de5cd718de6796326e92b4ae34286c738e1d36a96e1ac07944119e4ff4caa"), looks := true }, kinds := [], alts := [], laidByText := true, laidKinds := [.data, .data, .data], laidTests := true, laidLooks := .later }
def FnExactListTextCardSaid : Prop := Claim7.holds Tryd.pinned (.plain (OpenSpec.ofChange fnExactListTextSpec)) fnExactListTextCard

/-- THE TIED CARD OF 'laws.FnDigits'. -/
def fnDigitsCard : Claim7 := { stood := { row := fnDigitsRow, standIns := [], harness := (true, "348de5cd718de6796326e92b4ae34286c738e1d36a96e1ac07944119e4ff4caa"), looks := true }, kinds := [], alts := [], laidByText := true, laidKinds := [.data, .data, .data], laidTests := true, laidLooks := .later }
def FnDigitsCardSaid : Prop := Claim7.holds Tryd.pinned (.plain (OpenSpec.ofChange fnDigitsSpec)) fnDigitsCard

/-- THE TIED CARD OF 'laws.FnExactReadList'. -/
def fnExactReadListCard : Claim7 := { stood := { row := fnExactReadListRow, standIns := [], harness := (true, "348de5cd718de6796326e92b4ae34286c738e1d36a96e1ac07944119e4ff4caa"), looks := true }, kinds := [], alts := [], laidByText := true, laidKinds := [.data, .data, .data, .data, .sentinel, .sentinel, .pinned], laidTests := true, laidLooks := .later }
def FnExactReadListCardSaid : Prop := Claim7.holds Tryd.pinned (.plain (OpenSpec.ofChange fnExactReadListSpec)) fnExactReadListCard

/-- THE TIED CARD OF 'laws.FnLists'. -/
def fnListsCard : Claim7 := { stood := { row := fnListsRow, standIns := [], harness := (true, "348de5cd718de6796326e92b4ae34286c738e1d36a96e1ac07944119e4ff4caa"), looks := true }, kinds := [], alts := [], laidByText := true, laidKinds := [.data, .data, .data, .data, .sentinel, .sentinel, .pinned], laidTests := true, laidLooks := .later }
def FnListsCardSaid : Prop := Claim7.holds Tryd.pinned (.plain (OpenSpec.ofChange fnListsSpec)) fnListsCard

/-- THE TIED CARD OF 'laws.FnFigureTexts'. -/
def fnFigureTextsCard : Claim7 := { stood := { row := fnFigureTextsRow, standIns := [], harness := (true, "348de5cd718de6796326e92b4ae34286c738e1d36a96e1ac07944119e4ff4caa"), looks := true }, kinds := [], alts := [], laidByText := true, laidKinds := [.data, .data, .data, .data, .sentinel, .sentinel, .pinned], laidTests := true, laidLooks := .later }
def FnFigureTextsCardSaid : Prop := Claim7.holds Tryd.pinned (.plain (OpenSpec.ofChange fnFigureTextsSpec)) fnFigureTextsCard

/-- THE TIED CARD OF 'laws.FnExactReadFigure'. -/
def fnExactReadFigureCard : Claim7 := { stood := { row := fnExactReadFigureRow, standIns := [], harness := (true, "348de5cd718de6796326e92b4ae34286c738e1d36a96e1ac07944119e4ff4caa"), looks := true }, kinds := [], alts := [], laidByText := true, laidKinds := [.data, .data, .data, .data, .sentinel, .sentinel, .pinned], laidTests := true, laidLooks := .later }
def FnExactReadFigureCardSaid : Prop := Claim7.holds Tryd.pinned (.plain (OpenSpec.ofChange fnExactReadFigureSpec)) fnExactReadFigureCard

/-- THE SECOND FORM's CARD OF 'laws.FnExactCountDigits'. -/
def fnExactCountDigitsUptoCard : Claim7 := { stood := { row := fnExactCountDigitsUptoRow, standIns := [], harness := (true, "348de5cd718de6796326e92b4ae34286c738e1d36a96e1ac07944119e4ff4caa"), looks := true }, kinds := [], alts := [], laidByText := true, laidKinds := [.data, .data, .data], laidTests := true, laidLooks := .later }
def FnExactCountDigitsUptoCardSaid : Prop := Claim7.holds Tryd.pinned (.plain (OpenSpec.upto fnExactCountDigitsSpec)) fnExactCountDigitsUptoCard

/-- THE SECOND FORM's CARD OF 'laws.FnExactFigureText'. -/
def fnExactFigureTextUptoCard : Claim7 := { stood := { row := fnExactFigureTextUptoRow, standIns := [], harness := (true, "348de5cd718de6796326e92b4ae34286c738e1d36a96e1ac07944119e4ff4caa"), looks := true }, kinds := [], alts := [], laidByText := true, laidKinds := [.data, .data, .data], laidTests := true, laidLooks := .later }
def FnExactFigureTextUptoCardSaid : Prop := Claim7.holds Tryd.pinned (.plain (OpenSpec.upto fnExactFigureTextSpec)) fnExactFigureTextUptoCard

/-- THE SECOND FORM's CARD OF 'laws.FnExactListText'. -/
def fnExactListTextUptoCard : Claim7 := { stood := { row := fnExactListTextUptoRow, standIns := [], harness := (true, "348de5cd718de6796326e92b4ae34286c738e1d36a96e1ac07944119e4ff4caa"), looks := true }, kinds := [], alts := [], laidByText := true, laidKinds := [.data, .data, .data], laidTests := true, laidLooks := .later }
def FnExactListTextUptoCardSaid : Prop := Claim7.holds Tryd.pinned (.plain (OpenSpec.upto fnExactListTextSpec)) fnExactListTextUptoCard

/-- THE SECOND FORM's CARD OF 'laws.FnDigits'. -/
def fnDigitsUptoCard : Claim7 := { stood := { row := fnDigitsUptoRow, standIns := [], harness := (true, "348de5cd718de6796326e92b4ae34286c738e1d36a96e1ac07944119e4ff4caa"), looks := true }, kinds := [], alts := [], laidByText := true, laidKinds := [.data, .data, .data], laidTests := true, laidLooks := .later }
def FnDigitsUptoCardSaid : Prop := Claim7.holds Tryd.pinned (.plain (OpenSpec.upto fnDigitsSpec)) fnDigitsUptoCard

/-- THE SECOND FORM's CARD OF 'laws.FnExactReadList'. -/
def fnExactReadListUptoCard : Claim7 := { stood := { row := fnExactReadListUptoRow, standIns := [], harness := (true, "348de5cd718de6796326e92b4ae34286c738e1d36a96e1ac07944119e4ff4caa"), looks := true }, kinds := [], alts := [], laidByText := true, laidKinds := [.data, .data, .data, .data, .sentinel, .sentinel, .pinned], laidTests := true, laidLooks := .later }
def FnExactReadListUptoCardSaid : Prop := Claim7.holds Tryd.pinned (.plain (OpenSpec.upto fnExactReadListSpec)) fnExactReadListUptoCard

/-- THE SECOND FORM's CARD OF 'laws.FnLists'. -/
def fnListsUptoCard : Claim7 := { stood := { row := fnListsUptoRow, standIns := [], harness := (true, "348de5cd718de6796326e92b4ae34286c738e1d36a96e1ac07944119e4ff4caa"), looks := true }, kinds := [], alts := [], laidByText := true, laidKinds := [.data, .data, .data, .data, .sentinel, .sentinel, .pinned], laidTests := true, laidLooks := .later }
def FnListsUptoCardSaid : Prop := Claim7.holds Tryd.pinned (.plain (OpenSpec.upto fnListsSpec)) fnListsUptoCard

/-- THE SECOND FORM's CARD OF 'laws.FnFigureTexts'. -/
def fnFigureTextsUptoCard : Claim7 := { stood := { row := fnFigureTextsUptoRow, standIns := [], harness := (true, "348de5cd718de6796326e92b4ae34286c738e1d36a96e1ac07944119e4ff4caa"), looks := true }, kinds := [], alts := [], laidByText := true, laidKinds := [.data, .data, .data, .data, .sentinel, .sentinel, .pinned], laidTests := true, laidLooks := .later }
def FnFigureTextsUptoCardSaid : Prop := Claim7.holds Tryd.pinned (.plain (OpenSpec.upto fnFigureTextsSpec)) fnFigureTextsUptoCard

/-- THE SECOND FORM's CARD OF 'laws.FnExactReadFigure'. -/
def fnExactReadFigureUptoCard : Claim7 := { stood := { row := fnExactReadFigureUptoRow, standIns := [], harness := (true, "348de5cd718de6796326e92b4ae34286c738e1d36a96e1ac07944119e4ff4caa"), looks := true }, kinds := [], alts := [], laidByText := true, laidKinds := [.data, .data, .data, .data, .sentinel, .sentinel, .pinned], laidTests := true, laidLooks := .later }
def FnExactReadFigureUptoCardSaid : Prop := Claim7.holds Tryd.pinned (.plain (OpenSpec.upto fnExactReadFigureSpec)) fnExactReadFigureUptoCard
end Rows
end Go.Proofs.YtlijleemogpifaaDoor
