/-
  DERIVED. GIVEN WITH THE SEED: THE CARDS: each row of YthjpkichpkomcaaDoorRows.lean that lists a variable, with what it lists TIED to the program's text (the seventh form; the later family's looks); each row that meets fmt, with fmt's text TOLD by the authors' own Lean function (tested against real Go, not proved from fmt's source: count such statements apart). THE CARD IS WHAT COUNTS. Prove the row's statement (the work); the ties are given (YthjpkichpkomcaaDoorTie.lean); close each card by the builder's one call (the guide's Derived/Test/ToyasCard.lean, 'card_holds'). Laid BY PROGRAM, IN A SANDBOX (cutbox-door.mjs). By AI agents, Wed Nov 11 2026. No macro, syntax, notation, axiom, sorry.
-/
import Derived.Test.YthjpkichpkomcaaDoorRows
import GoSem.ClaimSeven
namespace Go.Proofs.YthjpkichpkomcaaDoor
namespace Rows

/-- THE TIED CARD OF 'retrospectlaw08.WholeSums'. -/
def wholeSumsCard : Claim7 := { stood := { row := wholeSumsRow, standIns := [], harness := (true, "f113346adb7ed6d3222ff7b84dd8ecfb7f5b04fa2bef014a146a851e11f65cb7"), looks := false }, kinds := [], alts := [], laidByText := true, laidKinds := [.data, .pinned], laidTests := true, laidLooks := .later }
def WholeSumsCardSaid : Prop := Claim7.holds Tryd.pinned (.plain (OpenSpec.ofChange wholeSumsSpec)) wholeSumsCard

/-- THE TIED CARD OF 'retrospectlaw08.WholeTexts'. -/
def wholeTextsCard : Claim7 := { stood := { row := wholeTextsRow, standIns := [], harness := (true, "f113346adb7ed6d3222ff7b84dd8ecfb7f5b04fa2bef014a146a851e11f65cb7"), looks := false }, kinds := [], alts := [], laidByText := true, laidKinds := [.data, .pinned], laidTests := true, laidLooks := .later }
def WholeTextsCardSaid : Prop := Claim7.holds Tryd.pinned (.plain (OpenSpec.ofChange wholeTextsSpec)) wholeTextsCard

/-- THE TIED CARD OF 'retrospectlaw08.WholeFloors'. -/
def wholeFloorsCard : Claim7 := { stood := { row := wholeFloorsRow, standIns := [], harness := (true, "f113346adb7ed6d3222ff7b84dd8ecfb7f5b04fa2bef014a146a851e11f65cb7"), looks := false }, kinds := [], alts := [], laidByText := true, laidKinds := [.data, .pinned], laidTests := true, laidLooks := .later }
def WholeFloorsCardSaid : Prop := Claim7.holds Tryd.pinned (.plain (OpenSpec.ofChange wholeFloorsSpec)) wholeFloorsCard

/-- THE TIED CARD OF 'retrospectlaw08.WholeTells'. -/
def wholeTellsCard : Claim7 := { stood := { row := wholeTellsRow, standIns := [], harness := (true, "f113346adb7ed6d3222ff7b84dd8ecfb7f5b04fa2bef014a146a851e11f65cb7"), looks := false }, kinds := [], alts := [], laidByText := true, laidKinds := [.data, .pinned], laidTests := true, laidLooks := .later }
def WholeTellsCardSaid : Prop := Claim7.holds Tryd.pinned (.plain (OpenSpec.ofChange wholeTellsSpec)) wholeTellsCard

/-- THE TIED CARD OF 'retrospectlaw08.WholeInts'. -/
def wholeIntsCard : Claim7 := { stood := { row := wholeIntsRow, standIns := [], harness := (true, "f113346adb7ed6d3222ff7b84dd8ecfb7f5b04fa2bef014a146a851e11f65cb7"), looks := false }, kinds := [], alts := [], laidByText := true, laidKinds := [.data, .pinned], laidTests := true, laidLooks := .later }
def WholeIntsCardSaid : Prop := Claim7.holds Tryd.pinned (.plain (OpenSpec.ofChange wholeIntsSpec)) wholeIntsCard

/-- THE TIED CARD OF 'retrospectlaw24.TapeLive'. -/
def tapeLiveCard : Claim7 := { stood := { row := tapeLiveRow, standIns := [], harness := (true, "f113346adb7ed6d3222ff7b84dd8ecfb7f5b04fa2bef014a146a851e11f65cb7"), looks := false }, kinds := [], alts := [], laidByText := true, laidKinds := [.data, .data, .data, .data, .pinned], laidTests := true, laidLooks := .later }
def TapeLiveCardSaid : Prop := Claim7.holds Tryd.pinned (.plain (OpenSpec.ofChange tapeLiveSpec)) tapeLiveCard

/-- THE SECOND FORM's CARD OF 'retrospectlaw08.WholeSums'. -/
def wholeSumsUptoCard : Claim7 := { stood := { row := wholeSumsUptoRow, standIns := [], harness := (true, "f113346adb7ed6d3222ff7b84dd8ecfb7f5b04fa2bef014a146a851e11f65cb7"), looks := false }, kinds := [], alts := [], laidByText := true, laidKinds := [.data, .pinned], laidTests := true, laidLooks := .later }
def WholeSumsUptoCardSaid : Prop := Claim7.holds Tryd.pinned (.plain (OpenSpec.upto wholeSumsSpec)) wholeSumsUptoCard

/-- THE SECOND FORM's CARD OF 'retrospectlaw08.WholeTexts'. -/
def wholeTextsUptoCard : Claim7 := { stood := { row := wholeTextsUptoRow, standIns := [], harness := (true, "f113346adb7ed6d3222ff7b84dd8ecfb7f5b04fa2bef014a146a851e11f65cb7"), looks := false }, kinds := [], alts := [], laidByText := true, laidKinds := [.data, .pinned], laidTests := true, laidLooks := .later }
def WholeTextsUptoCardSaid : Prop := Claim7.holds Tryd.pinned (.plain (OpenSpec.upto wholeTextsSpec)) wholeTextsUptoCard

/-- THE SECOND FORM's CARD OF 'retrospectlaw08.WholeFloors'. -/
def wholeFloorsUptoCard : Claim7 := { stood := { row := wholeFloorsUptoRow, standIns := [], harness := (true, "f113346adb7ed6d3222ff7b84dd8ecfb7f5b04fa2bef014a146a851e11f65cb7"), looks := false }, kinds := [], alts := [], laidByText := true, laidKinds := [.data, .pinned], laidTests := true, laidLooks := .later }
def WholeFloorsUptoCardSaid : Prop := Claim7.holds Tryd.pinned (.plain (OpenSpec.upto wholeFloorsSpec)) wholeFloorsUptoCard

/-- THE SECOND FORM's CARD OF 'retrospectlaw08.WholeTells'. -/
def wholeTellsUptoCard : Claim7 := { stood := { row := wholeTellsUptoRow, standIns := [], harness := (true, "f113346adb7ed6d3222ff7b84dd8ecfb7f5b04fa2bef014a146a851e11f65cb7"), looks := false }, kinds := [], alts := [], laidByText := true, laidKinds := [.data, .pinned], laidTests := true, laidLooks := .later }
def WholeTellsUptoCardSaid : Prop := Claim7.holds Tryd.pinned (.plain (OpenSpec.upto wholeTellsSpec)) wholeTellsUptoCard

/-- THE SECOND FORM's CARD OF 'retrospectlaw08.WholeInts'. -/
def wholeIntsUptoCard : Claim7 := { stood := { row := wholeIntsUptoRow, standIns := [], harness := (true, "f113346adb7ed6d3222ff7b84dd8ecfb7f5b04fa2bef014a146a851e11f65cb7"), looks := false }, kinds := [], alts := [], laidByText := true, laidKinds := [.data, .pinned], laidTests := true, laidLooks := .later }
def WholeIntsUptoCardSaid : Prop := Claim7.holds Tryd.pinned (.plain (OpenSpec.upto wholeIntsSpec)) wholeIntsUptoCard

/-- THE SECOND FORM's CARD OF 'retrospectlaw24.TapeLive'. -/
def tapeLiveUptoCard : Claim7 := { stood := { row := tapeLiveUptoRow, standIns := [], harness := (true, "f113346adb7ed6d3222ff7b84dd8ecfb7f5b04fa2bef014a146a851e11f65cb7"), looks := false }, kinds := [], alts := [], laidByText := true, laidKinds := [.data, .data, .data, .data, .pinned], laidTests := true, laidLooks := .later }
def TapeLiveUptoCardSaid : Prop := Claim7.holds Tryd.pinned (.plain (OpenSpec.upto tapeLiveSpec)) tapeLiveUptoCard
end Rows
end Go.Proofs.YthjpkichpkomcaaDoor
