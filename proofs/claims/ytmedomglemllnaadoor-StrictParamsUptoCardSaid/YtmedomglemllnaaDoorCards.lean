/-
  DERIVED. GIVEN WITH THE SEED: THE CARDS: each row of YtmedomglemllnaaDoorRows.lean that lists a variable, with what it lists TIED to the program's text (the seventh form; the later family's looks); each row that meets fmt, with fmt's text TOLD by the authors' own Lean function (tested against real Go, not proved from fmt's source: count such statements apart). THE CARD IS WHAT COUNTS. Prove the row's statement (the work); the ties are given (YtmedomglemllnaaDoorTie.lean); close each card by the builder's one call (the guide's Derived/Test/ToyasCard.lean, 'card_holds'). Laid BY PROGRAM, IN A SANDBOX (cutbox-door.mjs). By AI agents, Wed Nov 11 2026. No macro, syntax, notation, axiom, sorry.
-/
import Derived.Test.YtmedomglemllnaaDoorRows
import GoSem.ClaimSeven
namespace Go.Proofs.YtmedomglemllnaaDoor
namespace Rows

/-- THE TIED CARD OF 'spandrellaw12.SplitShapes'. -/
def splitShapesCard : Claim7 := { stood := { row := splitShapesRow, standIns := [], harness := (true, "6c4d8389514812a846cf320705270f703ac6cccb541e10acddc76c59d11635b8"), looks := true }, kinds := [], alts := [], laidByText := true, laidKinds := [.data], laidTests := true, laidLooks := .later }
def SplitShapesCardSaid : Prop := Claim7.holds Tryd.pinned (.plain (OpenSpec.ofChange splitShapesSpec)) splitShapesCard

/-- THE TIED CARD OF 'spandrellaw18.StrictParams'. -/
def strictParamsCard : Claim7 := { stood := { row := strictParamsRow, standIns := [], harness := (true, "6c4d8389514812a846cf320705270f703ac6cccb541e10acddc76c59d11635b8"), looks := true }, kinds := [], alts := [], laidByText := true, laidKinds := [.data], laidTests := true, laidLooks := .later }
def StrictParamsCardSaid : Prop := Claim7.holds Tryd.pinned (.plain (OpenSpec.ofChange strictParamsSpec)) strictParamsCard

/-- THE TIED CARD OF 'spandrellaw11.SourceGrows'. -/
def sourceGrowsCard : Claim7 := { stood := { row := sourceGrowsRow, standIns := [], harness := (true, "6c4d8389514812a846cf320705270f703ac6cccb541e10acddc76c59d11635b8"), looks := true }, kinds := [], alts := [], laidByText := true, laidKinds := [.data], laidTests := true, laidLooks := .later }
def SourceGrowsCardSaid : Prop := Claim7.holds Tryd.pinned (.plain (OpenSpec.ofChange sourceGrowsSpec)) sourceGrowsCard

/-- THE TIED CARD OF 'spandrellaw11.SourceRows'. -/
def sourceRowsCard : Claim7 := { stood := { row := sourceRowsRow, standIns := [], harness := (true, "6c4d8389514812a846cf320705270f703ac6cccb541e10acddc76c59d11635b8"), looks := true }, kinds := [], alts := [], laidByText := true, laidKinds := [.data], laidTests := true, laidLooks := .later }
def SourceRowsCardSaid : Prop := Claim7.holds Tryd.pinned (.plain (OpenSpec.ofChange sourceRowsSpec)) sourceRowsCard

/-- THE TIED CARD OF 'spandrellaw12.SplitBack'. -/
def splitBackCard : Claim7 := { stood := { row := splitBackRow, standIns := [], harness := (true, "6c4d8389514812a846cf320705270f703ac6cccb541e10acddc76c59d11635b8"), looks := true }, kinds := [], alts := [], laidByText := true, laidKinds := [.data], laidTests := true, laidLooks := .later }
def SplitBackCardSaid : Prop := Claim7.holds Tryd.pinned (.plain (OpenSpec.ofChange splitBackSpec)) splitBackCard

/-- THE TIED CARD OF 'spandrellaw04.TeleEnds'. -/
def teleEndsCard : Claim7 := { stood := { row := teleEndsRow, standIns := [], harness := (true, "6c4d8389514812a846cf320705270f703ac6cccb541e10acddc76c59d11635b8"), looks := true }, kinds := [], alts := [], laidByText := true, laidKinds := [.data], laidTests := true, laidLooks := .later }
def TeleEndsCardSaid : Prop := Claim7.holds Tryd.pinned (.plain (OpenSpec.ofChange teleEndsSpec)) teleEndsCard

/-- THE SECOND FORM's CARD OF 'spandrellaw12.SplitShapes'. -/
def splitShapesUptoCard : Claim7 := { stood := { row := splitShapesUptoRow, standIns := [], harness := (true, "6c4d8389514812a846cf320705270f703ac6cccb541e10acddc76c59d11635b8"), looks := true }, kinds := [], alts := [], laidByText := true, laidKinds := [.data], laidTests := true, laidLooks := .later }
def SplitShapesUptoCardSaid : Prop := Claim7.holds Tryd.pinned (.plain (OpenSpec.upto splitShapesSpec)) splitShapesUptoCard

/-- THE SECOND FORM's CARD OF 'spandrellaw18.StrictParams'. -/
def strictParamsUptoCard : Claim7 := { stood := { row := strictParamsUptoRow, standIns := [], harness := (true, "6c4d8389514812a846cf320705270f703ac6cccb541e10acddc76c59d11635b8"), looks := true }, kinds := [], alts := [], laidByText := true, laidKinds := [.data], laidTests := true, laidLooks := .later }
def StrictParamsUptoCardSaid : Prop := Claim7.holds Tryd.pinned (.plain (OpenSpec.upto strictParamsSpec)) strictParamsUptoCard

/-- THE SECOND FORM's CARD OF 'spandrellaw11.SourceGrows'. -/
def sourceGrowsUptoCard : Claim7 := { stood := { row := sourceGrowsUptoRow, standIns := [], harness := (true, "6c4d8389514812a846cf320705270f703ac6cccb541e10acddc76c59d11635b8"), looks := true }, kinds := [], alts := [], laidByText := true, laidKinds := [.data], laidTests := true, laidLooks := .later }
def SourceGrowsUptoCardSaid : Prop := Claim7.holds Tryd.pinned (.plain (OpenSpec.upto sourceGrowsSpec)) sourceGrowsUptoCard

/-- THE SECOND FORM's CARD OF 'spandrellaw11.SourceRows'. -/
def sourceRowsUptoCard : Claim7 := { stood := { row := sourceRowsUptoRow, standIns := [], harness := (true, "6c4d8389514812a846cf320705270f703ac6cccb541e10acddc76c59d11635b8"), looks := true }, kinds := [], alts := [], laidByText := true, laidKinds := [.data], laidTests := true, laidLooks := .later }
def SourceRowsUptoCardSaid : Prop := Claim7.holds Tryd.pinned (.plain (OpenSpec.upto sourceRowsSpec)) sourceRowsUptoCard

/-- THE SECOND FORM's CARD OF 'spandrellaw12.SplitBack'. -/
def splitBackUptoCard : Claim7 := { stood := { row := splitBackUptoRow, standIns := [], harness := (true, "6c4d8389514812a846cf320705270f703ac6cccb541e10acddc76c59d11635b8"), looks := true }, kinds := [], alts := [], laidByText := true, laidKinds := [.data], laidTests := true, laidLooks := .later }
def SplitBackUptoCardSaid : Prop := Claim7.holds Tryd.pinned (.plain (OpenSpec.upto splitBackSpec)) splitBackUptoCard

/-- THE SECOND FORM's CARD OF 'spandrellaw04.TeleEnds'. -/
def teleEndsUptoCard : Claim7 := { stood := { row := teleEndsUptoRow, standIns := [], harness := (true, "6c4d8389514812a846cf320705270f703ac6cccb541e10acddc76c59d11635b8"), looks := true }, kinds := [], alts := [], laidByText := true, laidKinds := [.data], laidTests := true, laidLooks := .later }
def TeleEndsUptoCardSaid : Prop := Claim7.holds Tryd.pinned (.plain (OpenSpec.upto teleEndsSpec)) teleEndsUptoCard
end Rows
end Go.Proofs.YtmedomglemllnaaDoor
