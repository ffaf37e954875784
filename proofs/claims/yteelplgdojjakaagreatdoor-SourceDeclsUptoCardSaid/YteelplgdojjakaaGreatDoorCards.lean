/-
  DERIVED. GIVEN WITH THE SEED: THE CARDS: each row of YteelplgdojjakaaGreatDoorRows.lean that lists a variable, with what it lists TIED to the program's text (the seventh form; the later family's looks); each row that meets fmt, with fmt's text TOLD by the authors' own Lean function (tested against real Go, not proved from fmt's source: count such statements apart). THE CARD IS WHAT COUNTS. Prove the row's statement (the work); the ties are given (YteelplgdojjakaaGreatDoorTie.lean); close each card by the builder's one call (the guide's Derived/Test/ToyasCard.lean, 'card_holds'). Laid BY PROGRAM, IN A SANDBOX (cutbox-door.mjs). By AI agents, Wed Nov 11 2026. No macro, syntax, notation, axiom, sorry.
-/
import Derived.Test.YteelplgdojjakaaGreatDoorRows
import GoSem.ClaimSeven
namespace Go.Proofs.YteelplgdojjakaaGreatDoor
namespace Rows

/-- THE TIED CARD OF 'spandrellaw21.CarryTells'. -/
def carryTellsCard : Claim7 := { stood := { row := carryTellsRow, standIns := [], harness := (true, "a9f5e5fd637f495eb153e50829c292f75410617b29f8086edd21a75421b781b4"), looks := true }, kinds := [], alts := [], laidByText := true, laidKinds := [.data], laidTests := true, laidLooks := .later }
def CarryTellsCardSaid : Prop := Claim7.holds Tryz.pinned (.plain (OpenSpec.ofChange carryTellsSpec)) carryTellsCard

/-- THE TIED CARD OF 'spandrellaw04.TeleTells'. -/
def teleTellsCard : Claim7 := { stood := { row := teleTellsRow, standIns := [], harness := (true, "a9f5e5fd637f495eb153e50829c292f75410617b29f8086edd21a75421b781b4"), looks := true }, kinds := [], alts := [], laidByText := true, laidKinds := [.data], laidTests := true, laidLooks := .later }
def TeleTellsCardSaid : Prop := Claim7.holds Tryz.pinned (.plain (OpenSpec.ofChange teleTellsSpec)) teleTellsCard

/-- THE TIED CARD OF 'spandrellaw21.CarryBlocks'. -/
def carryBlocksCard : Claim7 := { stood := { row := carryBlocksRow, standIns := [], harness := (true, "a9f5e5fd637f495eb153e50829c292f75410617b29f8086edd21a75421b781b4"), looks := true }, kinds := [], alts := [], laidByText := true, laidKinds := [.data], laidTests := true, laidLooks := .later }
def CarryBlocksCardSaid : Prop := Claim7.holds Tryz.pinned (.plain (OpenSpec.ofChange carryBlocksSpec)) carryBlocksCard

/-- THE TIED CARD OF 'spandrellaw11.SourceTells'. -/
def sourceTellsCard : Claim7 := { stood := { row := sourceTellsRow, standIns := [], harness := (true, "a9f5e5fd637f495eb153e50829c292f75410617b29f8086edd21a75421b781b4"), looks := true }, kinds := [], alts := [], laidByText := true, laidKinds := [.data], laidTests := true, laidLooks := .later }
def SourceTellsCardSaid : Prop := Claim7.holds Tryz.pinned (.plain (OpenSpec.ofChange sourceTellsSpec)) sourceTellsCard

/-- THE TIED CARD OF 'spandrellaw11.SourceDecls'. -/
def sourceDeclsCard : Claim7 := { stood := { row := sourceDeclsRow, standIns := [], harness := (true, "a9f5e5fd637f495eb153e50829c292f75410617b29f8086edd21a75421b781b4"), looks := true }, kinds := [], alts := [], laidByText := true, laidKinds := [.data], laidTests := true, laidLooks := .later }
def SourceDeclsCardSaid : Prop := Claim7.holds Tryz.pinned (.plain (OpenSpec.ofChange sourceDeclsSpec)) sourceDeclsCard

/-- THE TIED CARD OF 'spandrellaw12.SplitRules'. -/
def splitRulesCard : Claim7 := { stood := { row := splitRulesRow, standIns := [], harness := (true, "a9f5e5fd637f495eb153e50829c292f75410617b29f8086edd21a75421b781b4"), looks := true }, kinds := [], alts := [], laidByText := true, laidKinds := [.data], laidTests := true, laidLooks := .later }
def SplitRulesCardSaid : Prop := Claim7.holds Tryz.pinned (.plain (OpenSpec.ofChange splitRulesSpec)) splitRulesCard

/-- THE SECOND FORM's CARD OF 'spandrellaw21.CarryTells'. -/
def carryTellsUptoCard : Claim7 := { stood := { row := carryTellsUptoRow, standIns := [], harness := (true, "a9f5e5fd637f495eb153e50829c292f75410617b29f8086edd21a75421b781b4"), looks := true }, kinds := [], alts := [], laidByText := true, laidKinds := [.data], laidTests := true, laidLooks := .later }
def CarryTellsUptoCardSaid : Prop := Claim7.holds Tryz.pinned (.plain (OpenSpec.upto carryTellsSpec)) carryTellsUptoCard

/-- THE SECOND FORM's CARD OF 'spandrellaw04.TeleTells'. -/
def teleTellsUptoCard : Claim7 := { stood := { row := teleTellsUptoRow, standIns := [], harness := (true, "a9f5e5fd637f495eb153e50829c292f75410617b29f8086edd21a75421b781b4"), looks := true }, kinds := [], alts := [], laidByText := true, laidKinds := [.data], laidTests := true, laidLooks := .later }
def TeleTellsUptoCardSaid : Prop := Claim7.holds Tryz.pinned (.plain (OpenSpec.upto teleTellsSpec)) teleTellsUptoCard

/-- THE SECOND FORM's CARD OF 'spandrellaw21.CarryBlocks'. -/
def carryBlocksUptoCard : Claim7 := { stood := { row := carryBlocksUptoRow, standIns := [], harness := (true, "a9f5e5fd637f495eb153e50829c292f75410617b29f8086edd21a75421b781b4"), looks := true }, kinds := [], alts := [], laidByText := true, laidKinds := [.data], laidTests := true, laidLooks := .later }
def CarryBlocksUptoCardSaid : Prop := Claim7.holds Tryz.pinned (.plain (OpenSpec.upto carryBlocksSpec)) carryBlocksUptoCard

/-- THE SECOND FORM's CARD OF 'spandrellaw11.SourceTells'. -/
def sourceTellsUptoCard : Claim7 := { stood := { row := sourceTellsUptoRow, standIns := [], harness := (true, "a9f5e5fd637f495eb153e50829c292f75410617b29f8086edd21a75421b781b4"), looks := true }, kinds := [], alts := [], laidByText := true, laidKinds := [.data], laidTests := true, laidLooks := .later }
def SourceTellsUptoCardSaid : Prop := Claim7.holds Tryz.pinned (.plain (OpenSpec.upto sourceTellsSpec)) sourceTellsUptoCard

/-- THE SECOND FORM's CARD OF 'spandrellaw11.SourceDecls'. -/
def sourceDeclsUptoCard : Claim7 := { stood := { row := sourceDeclsUptoRow, standIns := [], harness := (true, "a9f5e5fd637f495eb153e50829c292f75410617b29f8086edd21a75421b781b4"), looks := true }, kinds := [], alts := [], laidByText := true, laidKinds := [.data], laidTests := true, laidLooks := .later }
def SourceDeclsUptoCardSaid : Prop := Claim7.holds Tryz.pinned (.plain (OpenSpec.upto sourceDeclsSpec)) sourceDeclsUptoCard

/-- THE SECOND FORM's CARD OF 'spandrellaw12.SplitRules'. -/
def splitRulesUptoCard : Claim7 := { stood := { row := splitRulesUptoRow, standIns := [], harness := (true, "a9f5e5fd637f495eb153e50829c292f75410617b29f8086edd21a75421b781b4"), looks := true }, kinds := [], alts := [], laidByText := true, laidKinds := [.data], laidTests := true, laidLooks := .later }
def SplitRulesUptoCardSaid : Prop := Claim7.holds Tryz.pinned (.plain (OpenSpec.upto splitRulesSpec)) splitRulesUptoCard
end Rows
end Go.Proofs.YteelplgdojjakaaGreatDoor
