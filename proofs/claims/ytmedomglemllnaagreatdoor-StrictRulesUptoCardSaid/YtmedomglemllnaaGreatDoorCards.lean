/-
  DERIVED. GIVEN WITH THE SEED: THE CARDS: each row of YtmedomglemllnaaGreatDoorRows.lean that lists a variable, with what it lists TIED to the program's text (the seventh form; the later family's looks); each row that meets fmt, with fmt's text TOLD by the authors' own Lean function (tested against real Go, not proved from fmt's source: count such statements apart). THE CARD IS WHAT COUNTS. Prove the row's statement (the work); the ties are given (YtmedomglemllnaaGreatDoorTie.lean); close each card by the builder's one call (the guide's Derived/Test/ToyasCard.lean, 'card_holds'). Laid BY PROGRAM, IN A SANDBOX (cutbox-door.mjs). By AI agents, Wed Nov 11 2026. No macro, syntax, notation, axiom, sorry.
-/
import Derived.Test.YtmedomglemllnaaGreatDoorRows
import GoSem.ClaimSeven
namespace Go.Proofs.YtmedomglemllnaaGreatDoor
namespace Rows

/-- THE TIED CARD OF 'spandrellaw04.TeleTells'. -/
def teleTellsCard : Claim7 := { stood := { row := teleTellsRow, standIns := [], harness := (true, "f49fc448a28037210d3c1de2cfe29f3229bc165171361668b9fea4a2b667f9df"), looks := true }, kinds := [], alts := [], laidByText := true, laidKinds := [.data], laidTests := true, laidLooks := .later }
def TeleTellsCardSaid : Prop := Claim7.holds Tryz.pinned (.plain (OpenSpec.ofChange teleTellsSpec)) teleTellsCard

/-- THE TIED CARD OF 'spandrellaw11.SourceDecls'. -/
def sourceDeclsCard : Claim7 := { stood := { row := sourceDeclsRow, standIns := [], harness := (true, "f49fc448a28037210d3c1de2cfe29f3229bc165171361668b9fea4a2b667f9df"), looks := true }, kinds := [], alts := [], laidByText := true, laidKinds := [.data], laidTests := true, laidLooks := .later }
def SourceDeclsCardSaid : Prop := Claim7.holds Tryz.pinned (.plain (OpenSpec.ofChange sourceDeclsSpec)) sourceDeclsCard

/-- THE TIED CARD OF 'spandrellaw12.SplitRules'. -/
def splitRulesCard : Claim7 := { stood := { row := splitRulesRow, standIns := [], harness := (true, "f49fc448a28037210d3c1de2cfe29f3229bc165171361668b9fea4a2b667f9df"), looks := true }, kinds := [], alts := [], laidByText := true, laidKinds := [.data], laidTests := true, laidLooks := .later }
def SplitRulesCardSaid : Prop := Claim7.holds Tryz.pinned (.plain (OpenSpec.ofChange splitRulesSpec)) splitRulesCard

/-- THE TIED CARD OF 'spandrellaw18.StrictTells'. -/
def strictTellsCard : Claim7 := { stood := { row := strictTellsRow, standIns := [], harness := (true, "f49fc448a28037210d3c1de2cfe29f3229bc165171361668b9fea4a2b667f9df"), looks := true }, kinds := [], alts := [], laidByText := true, laidKinds := [.data], laidTests := true, laidLooks := .later }
def StrictTellsCardSaid : Prop := Claim7.holds Tryz.pinned (.plain (OpenSpec.ofChange strictTellsSpec)) strictTellsCard

/-- THE TIED CARD OF 'spandrellaw18.StrictShapes'. -/
def strictShapesCard : Claim7 := { stood := { row := strictShapesRow, standIns := [], harness := (true, "f49fc448a28037210d3c1de2cfe29f3229bc165171361668b9fea4a2b667f9df"), looks := true }, kinds := [], alts := [], laidByText := true, laidKinds := [.data], laidTests := true, laidLooks := .later }
def StrictShapesCardSaid : Prop := Claim7.holds Tryz.pinned (.plain (OpenSpec.ofChange strictShapesSpec)) strictShapesCard

/-- THE TIED CARD OF 'spandrellaw18.StrictRules'. -/
def strictRulesCard : Claim7 := { stood := { row := strictRulesRow, standIns := [], harness := (true, "f49fc448a28037210d3c1de2cfe29f3229bc165171361668b9fea4a2b667f9df"), looks := true }, kinds := [], alts := [], laidByText := true, laidKinds := [.data], laidTests := true, laidLooks := .later }
def StrictRulesCardSaid : Prop := Claim7.holds Tryz.pinned (.plain (OpenSpec.ofChange strictRulesSpec)) strictRulesCard

/-- THE SECOND FORM's CARD OF 'spandrellaw04.TeleTells'. -/
def teleTellsUptoCard : Claim7 := { stood := { row := teleTellsUptoRow, standIns := [], harness := (true, "f49fc448a28037210d3c1de2cfe29f3229bc165171361668b9fea4a2b667f9df"), looks := true }, kinds := [], alts := [], laidByText := true, laidKinds := [.data], laidTests := true, laidLooks := .later }
def TeleTellsUptoCardSaid : Prop := Claim7.holds Tryz.pinned (.plain (OpenSpec.upto teleTellsSpec)) teleTellsUptoCard

/-- THE SECOND FORM's CARD OF 'spandrellaw11.SourceDecls'. -/
def sourceDeclsUptoCard : Claim7 := { stood := { row := sourceDeclsUptoRow, standIns := [], harness := (true, "f49fc448a28037210d3c1de2cfe29f3229bc165171361668b9fea4a2b667f9df"), looks := true }, kinds := [], alts := [], laidByText := true, laidKinds := [.data], laidTests := true, laidLooks := .later }
def SourceDeclsUptoCardSaid : Prop := Claim7.holds Tryz.pinned (.plain (OpenSpec.upto sourceDeclsSpec)) sourceDeclsUptoCard

/-- THE SECOND FORM's CARD OF 'spandrellaw12.SplitRules'. -/
def splitRulesUptoCard : Claim7 := { stood := { row := splitRulesUptoRow, standIns := [], harness := (true, "f49fc448a28037210d3c1de2cfe29f3229bc165171361668b9fea4a2b667f9df"), looks := true }, kinds := [], alts := [], laidByText := true, laidKinds := [.data], laidTests := true, laidLooks := .later }
def SplitRulesUptoCardSaid : Prop := Claim7.holds Tryz.pinned (.plain (OpenSpec.upto splitRulesSpec)) splitRulesUptoCard

/-- THE SECOND FORM's CARD OF 'spandrellaw18.StrictTells'. -/
def strictTellsUptoCard : Claim7 := { stood := { row := strictTellsUptoRow, standIns := [], harness := (true, "f49fc448a28037210d3c1de2cfe29f3229bc165171361668b9fea4a2b667f9df"), looks := true }, kinds := [], alts := [], laidByText := true, laidKinds := [.data], laidTests := true, laidLooks := .later }
def StrictTellsUptoCardSaid : Prop := Claim7.holds Tryz.pinned (.plain (OpenSpec.upto strictTellsSpec)) strictTellsUptoCard

/-- THE SECOND FORM's CARD OF 'spandrellaw18.StrictShapes'. -/
def strictShapesUptoCard : Claim7 := { stood := { row := strictShapesUptoRow, standIns := [], harness := (true, "f49fc448a28037210d3c1de2cfe29f3229bc165171361668b9fea4a2b667f9df"), looks := true }, kinds := [], alts := [], laidByText := true, laidKinds := [.data], laidTests := true, laidLooks := .later }
def StrictShapesUptoCardSaid : Prop := Claim7.holds Tryz.pinned (.plain (OpenSpec.upto strictShapesSpec)) strictShapesUptoCard

/-- THE SECOND FORM's CARD OF 'spandrellaw18.StrictRules'. -/
def strictRulesUptoCard : Claim7 := { stood := { row := strictRulesUptoRow, standIns := [], harness := (true, "f49fc448a28037210d3c1de2cfe29f3229bc165171361668b9fea4a2b667f9df"), looks := true }, kinds := [], alts := [], laidByText := true, laidKinds := [.data], laidTests := true, laidLooks := .later }
def StrictRulesUptoCardSaid : Prop := Claim7.holds Tryz.pinned (.plain (OpenSpec.upto strictRulesSpec)) strictRulesUptoCard
end Rows
end Go.Proofs.YtmedomglemllnaaGreatDoor
