/-
  DERIVED. GIVEN WITH THE SEED: THE CARDS: each row of YteelplgdojjakaaDoorRows.lean that lists a variable, with what it lists TIED to the program's text (the seventh form; the later family's looks); each row that meets fmt, with fmt's text TOLD by the authors' own Lean function (tested against real Go, not proved from fmt's source: count such statements apart). THE CARD IS WHAT COUNTS. Prove the row's statement (the work); the ties are given (YteelplgdojjakaaDoorTie.lean); close each card by the builder's one call (the guide's Derived/Test/ToyasCard.lean, 'card_holds'). Laid BY PROGRAM, IN A SANDBOX (cutbox-door.mjs). By AI agents, Wed Nov 11 2026. No macro, syntax, notation, axiom, sorry.
-/
import Derived.Test.YteelplgdojjakaaDoorRows
import GoSem.ClaimSeven
namespace Go.Proofs.YteelplgdojjakaaDoor
namespace Rows

/-- THE TIED CARD OF 'spandrellaw21.CarryNames'. -/
def carryNamesCard : Claim7 := { stood := { row := carryNamesRow, standIns := [], harness := (true, "1643085275af2043b4575242c11ef53bb94b92382a07b91d2ab9b5e98f234a62"), looks := true }, kinds := [], alts := [], laidByText := true, laidKinds := [.data], laidTests := true, laidLooks := .later }
def CarryNamesCardSaid : Prop := Claim7.holds Tryd.pinned (.plain (OpenSpec.ofChange carryNamesSpec)) carryNamesCard

/-- THE TIED CARD OF 'spandrellaw21.CarryApart'. -/
def carryApartCard : Claim7 := { stood := { row := carryApartRow, standIns := [], harness := (true, "1643085275af2043b4575242c11ef53bb94b92382a07b91d2ab9b5e98f234a62"), looks := true }, kinds := [], alts := [], laidByText := true, laidKinds := [.data], laidTests := true, laidLooks := .later }
def CarryApartCardSaid : Prop := Claim7.holds Tryd.pinned (.plain (OpenSpec.ofChange carryApartSpec)) carryApartCard

/-- THE TIED CARD OF 'spandrellaw04.TeleOpens'. -/
def teleOpensCard : Claim7 := { stood := { row := teleOpensRow, standIns := [], harness := (true, "1643085275af2043b4575242c11ef53bb94b92382a07b91d2ab9b5e98f234a62"), looks := true }, kinds := [], alts := [], laidByText := true, laidKinds := [.data], laidTests := true, laidLooks := .later }
def TeleOpensCardSaid : Prop := Claim7.holds Tryd.pinned (.plain (OpenSpec.ofChange teleOpensSpec)) teleOpensCard

/-- THE TIED CARD OF 'spandrellaw11.SourceCases'. -/
def sourceCasesCard : Claim7 := { stood := { row := sourceCasesRow, standIns := [], harness := (true, "1643085275af2043b4575242c11ef53bb94b92382a07b91d2ab9b5e98f234a62"), looks := true }, kinds := [], alts := [], laidByText := true, laidKinds := [.data], laidTests := true, laidLooks := .later }
def SourceCasesCardSaid : Prop := Claim7.holds Tryd.pinned (.plain (OpenSpec.ofChange sourceCasesSpec)) sourceCasesCard

/-- THE TIED CARD OF 'spandrellaw12.SplitShapes'. -/
def splitShapesCard : Claim7 := { stood := { row := splitShapesRow, standIns := [], harness := (true, "1643085275af2043b4575242c11ef53bb94b92382a07b91d2ab9b5e98f234a62"), looks := true }, kinds := [], alts := [], laidByText := true, laidKinds := [.data], laidTests := true, laidLooks := .later }
def SplitShapesCardSaid : Prop := Claim7.holds Tryd.pinned (.plain (OpenSpec.ofChange splitShapesSpec)) splitShapesCard

/-- THE TIED CARD OF 'spandrellaw12.SplitOne'. -/
def splitOneCard : Claim7 := { stood := { row := splitOneRow, standIns := [], harness := (true, "1643085275af2043b4575242c11ef53bb94b92382a07b91d2ab9b5e98f234a62"), looks := true }, kinds := [], alts := [], laidByText := true, laidKinds := [.data], laidTests := true, laidLooks := .later }
def SplitOneCardSaid : Prop := Claim7.holds Tryd.pinned (.plain (OpenSpec.ofChange splitOneSpec)) splitOneCard

/-- THE SECOND FORM's CARD OF 'spandrellaw21.CarryNames'. -/
def carryNamesUptoCard : Claim7 := { stood := { row := carryNamesUptoRow, standIns := [], harness := (true, "1643085275af2043b4575242c11ef53bb94b92382a07b91d2ab9b5e98f234a62"), looks := true }, kinds := [], alts := [], laidByText := true, laidKinds := [.data], laidTests := true, laidLooks := .later }
def CarryNamesUptoCardSaid : Prop := Claim7.holds Tryd.pinned (.plain (OpenSpec.upto carryNamesSpec)) carryNamesUptoCard

/-- THE SECOND FORM's CARD OF 'spandrellaw21.CarryApart'. -/
def carryApartUptoCard : Claim7 := { stood := { row := carryApartUptoRow, standIns := [], harness := (true, "1643085275af2043b4575242c11ef53bb94b92382a07b91d2ab9b5e98f234a62"), looks := true }, kinds := [], alts := [], laidByText := true, laidKinds := [.data], laidTests := true, laidLooks := .later }
def CarryApartUptoCardSaid : Prop := Claim7.holds Tryd.pinned (.plain (OpenSpec.upto carryApartSpec)) carryApartUptoCard

/-- THE SECOND FORM's CARD OF 'spandrellaw04.TeleOpens'. -/
def teleOpensUptoCard : Claim7 := { stood := { row := teleOpensUptoRow, standIns := [], harness := (true, "1643085275af2043b4575242c11ef53bb94b92382a07b91d2ab9b5e98f234a62"), looks := true }, kinds := [], alts := [], laidByText := true, laidKinds := [.data], laidTests := true, laidLooks := .later }
def TeleOpensUptoCardSaid : Prop := Claim7.holds Tryd.pinned (.plain (OpenSpec.upto teleOpensSpec)) teleOpensUptoCard

/-- THE SECOND FORM's CARD OF 'spandrellaw11.SourceCases'. -/
def sourceCasesUptoCard : Claim7 := { stood := { row := sourceCasesUptoRow, standIns := [], harness := (true, "1643085275af2043b4575242c11ef53bb94b92382a07b91d2ab9b5e98f234a62"), looks := true }, kinds := [], alts := [], laidByText := true, laidKinds := [.data], laidTests := true, laidLooks := .later }
def SourceCasesUptoCardSaid : Prop := Claim7.holds Tryd.pinned (.plain (OpenSpec.upto sourceCasesSpec)) sourceCasesUptoCard

/-- THE SECOND FORM's CARD OF 'spandrellaw12.SplitShapes'. -/
def splitShapesUptoCard : Claim7 := { stood := { row := splitShapesUptoRow, standIns := [], harness := (true, "1643085275af2043b4575242c11ef53bb94b92382a07b91d2ab9b5e98f234a62"), looks := true }, kinds := [], alts := [], laidByText := true, laidKinds := [.data], laidTests := true, laidLooks := .later }
def SplitShapesUptoCardSaid : Prop := Claim7.holds Tryd.pinned (.plain (OpenSpec.upto splitShapesSpec)) splitShapesUptoCard

/-- THE SECOND FORM's CARD OF 'spandrellaw12.SplitOne'. -/
def splitOneUptoCard : Claim7 := { stood := { row := splitOneUptoRow, standIns := [], harness := (true, "1643085275af2043b4575242c11ef53bb94b92382a07b91d2ab9b5e98f234a62"), looks := true }, kinds := [], alts := [], laidByText := true, laidKinds := [.data], laidTests := true, laidLooks := .later }
def SplitOneUptoCardSaid : Prop := Claim7.holds Tryd.pinned (.plain (OpenSpec.upto splitOneSpec)) splitOneUptoCard
end Rows
end Go.Proofs.YteelplgdojjakaaDoor
