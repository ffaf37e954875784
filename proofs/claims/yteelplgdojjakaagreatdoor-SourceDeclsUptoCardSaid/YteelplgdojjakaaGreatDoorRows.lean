/-
  NARROWER THAN 'FOR EVERY INPUT', by the rows' own cells (each row's printed sentence says how): CarryTells: loops, laid · TeleTells: loops, laid · CarryBlocks: loops, laid · SourceTells: loops, laid · SourceDecls: loops, laid · SplitRules: loops, laid.
  DERIVED. THE GIVEN ROWS OF THIS SEAT. 6 by the template 'for every input the law returns true; each argument reads behind the call as it read before'; 0 by the template 'total and deterministic' (their statements: YteelplgdojjakaaGreatDoorTotals.lean).
  GIVEN WITH THE SEED: the statements are not yours to turn. If you find one false, say at which input.
  Laid BY PROGRAM, IN A SANDBOX (cutbox-rows.mjs): the forced cells as the released guide's own fill.sh prints them over the translation d98c11274bf58de4… (all of the seat's roots in one cut). By AI agents, Wed Nov 11 2026. No macro, syntax, notation, axiom, sorry.
-/
import Derived.Test.YteelplgdojjakaaGreatDoorChecked
import GoSem.Claim
import GoSem.ClaimJoined
import GoSem.ClaimMapViews
import Derived.JoinedTies
import Derived.KernelRfl
namespace Go.Proofs.YteelplgdojjakaaGreatDoor
/- THE CELL 'sum', in the pinned program and in every row, IS THE sha256 OF THE DUMP (.gsa) THAT YteelplgdojjakaaGreatDoorProg.lean LOADS. Nothing in Lean hashes anything: it is a label: what it is worth is what the hold of that sum in a sandbox is worth. -/
noncomputable def Tryz.pinned : Pinned := { name := "yteelplgdojjakaagreatdoor", sum := "d98c11274bf58de4663e0cc2309b9a3b6a812364a5a4cffb6c80ca124a9f7bc6", checked := Tryz.checked }
namespace Rows
def none {H : Type} : Left H := { results := [], args := [] }

/- WHAT THE LISTED PACKAGE-LEVEL VARIABLES READ AS WHEN THE CALL BEGINS. Each datum BY PROGRAM (the guide's laid-datum.mjs) off the statement by which the dump's own 'gosem.cut.vars' lays the variable. In a bare row this is a premise. The card (YteelplgdojjakaaGreatDoorCards.lean) ties it to the program's text. -/
def laid_spandrel_term_kinds {H : Type} : DataW H := .agg [.agg [.lit (.bool false), .lit (.bool false), .lit (.int .i64 0), .lit (.int .i64 0), .lit (.int .i64 0)], .agg [.lit (.bool true), .lit (.bool false), .lit (.int .i64 0), .lit (.int .i64 0), .lit (.int .i64 (-1))], .agg [.lit (.bool false), .lit (.bool false), .lit (.int .i64 1), .lit (.int .i64 0), .lit (.int .i64 (-1))], .agg [.lit (.bool true), .lit (.bool false), .lit (.int .i64 (-1)), .lit (.int .i64 0), .lit (.int .i64 (-1))], .agg [.lit (.bool false), .lit (.bool false), .lit (.int .i64 0), .lit (.int .i64 2), .lit (.int .i64 1)], .agg [.lit (.bool false), .lit (.bool false), .lit (.int .i64 0), .lit (.int .i64 2), .lit (.int .i64 1)], .agg [.lit (.bool false), .lit (.bool false), .lit (.int .i64 0), .lit (.int .i64 2), .lit (.int .i64 (-1))], .agg [.lit (.bool false), .lit (.bool false), .lit (.int .i64 0), .lit (.int .i64 3), .lit (.int .i64 2)], .agg [.lit (.bool true), .lit (.bool true), .lit (.int .i64 (-1)), .lit (.int .i64 0), .lit (.int .i64 (-1))], .agg [.lit (.bool true), .lit (.bool true), .lit (.int .i64 (-1)), .lit (.int .i64 0), .lit (.int .i64 (-1))], .agg [.lit (.bool true), .lit (.bool true), .lit (.int .i64 (-1)), .lit (.int .i64 0), .lit (.int .i64 (-1))], .agg [.lit (.bool false), .lit (.bool true), .lit (.int .i64 0), .lit (.int .i64 0), .lit (.int .i64 (-1))], .agg [.lit (.bool false), .lit (.bool false), .lit (.int .i64 0), .lit (.int .i64 2), .lit (.int .i64 1)], .agg [.lit (.bool false), .lit (.bool false), .lit (.int .i64 0), .lit (.int .i64 2), .lit (.int .i64 (-1))], .agg [.lit (.bool false), .lit (.bool false), .lit (.int .i64 0), .lit (.int .i64 1), .lit (.int .i64 (-1))], .agg [.lit (.bool false), .lit (.bool false), .lit (.int .i64 0), .lit (.int .i64 1), .lit (.int .i64 (-1))], .agg [.lit (.bool false), .lit (.bool false), .lit (.int .i64 0), .lit (.int .i64 2), .lit (.int .i64 1)], .agg [.lit (.bool false), .lit (.bool false), .lit (.int .i64 0), .lit (.int .i64 2), .lit (.int .i64 (-1))], .agg [.lit (.bool false), .lit (.bool false), .lit (.int .i64 0), .lit (.int .i64 5), .lit (.int .i64 1)], .agg [.lit (.bool false), .lit (.bool false), .lit (.int .i64 0), .lit (.int .i64 3), .lit (.int .i64 (-1))], .agg [.lit (.bool false), .lit (.bool false), .lit (.int .i64 0), .lit (.int .i64 0), .lit (.int .i64 (-1))], .agg [.lit (.bool false), .lit (.bool false), .lit (.int .i64 0), .lit (.int .i64 6), .lit (.int .i64 (-1))], .agg [.lit (.bool true), .lit (.bool false), .lit (.int .i64 0), .lit (.int .i64 0), .lit (.int .i64 (-1))], .agg [.lit (.bool true), .lit (.bool true), .lit (.int .i64 0), .lit (.int .i64 0), .lit (.int .i64 (-1))], .agg [.lit (.bool false), .lit (.bool true), .lit (.int .i64 0), .lit (.int .i64 2), .lit (.int .i64 (-1))]]

/-- 'spandrellaw21.CarryTells': WHATEVER THE INPUT: true; the input reads as it did. -/
def carryTellsSpec : ChangeSpec := { name := "carryTells", fn := fun _ => fun
  | [d1, d2, d3] => { results := [.lit (.bool true)], args := [d1, d2, d3] }
  | _ => none }
def carryTellsRow : OpenClaim := { program := "yteelplgdojjakaagreatdoor", sum := "d98c11274bf58de4663e0cc2309b9a3b6a812364a5a4cffb6c80ca124a9f7bc6", func := "spandrel/spandrellaw21.CarryTells", spec := "carryTells", unfollowed := true, recurses := true, named := ["spandrel/term.kinds"], loops := true, apart := false, laid := [("spandrel/term.kinds", laid_spandrel_term_kinds)] }
def CarryTellsSaid : Prop := carryTellsRow.holds Tryz.pinned (OpenSpec.ofChange carryTellsSpec)

/-- ITS FALSE NEIGHBOUR: 'it returns false'. Refute it at one input. -/
def carryTellsWrong : ChangeSpec := { name := "carryTells", fn := fun _ => fun
  | [d1, d2, d3] => { results := [.lit (.bool false)], args := [d1, d2, d3] }
  | _ => none }
def CarryTellsWrongFalsely : Prop := carryTellsRow.holds Tryz.pinned (OpenSpec.ofChange carryTellsWrong)

/-- 'spandrellaw04.TeleTells': WHATEVER THE INPUT: true; the input reads as it did. -/
def teleTellsSpec : ChangeSpec := { name := "teleTells", fn := fun _ => fun
  | [d1, d2, d3, d4] => { results := [.lit (.bool true)], args := [d1, d2, d3, d4] }
  | _ => none }
def teleTellsRow : OpenClaim := { program := "yteelplgdojjakaagreatdoor", sum := "d98c11274bf58de4663e0cc2309b9a3b6a812364a5a4cffb6c80ca124a9f7bc6", func := "spandrel/spandrellaw04.TeleTells", spec := "teleTells", unfollowed := true, recurses := true, named := ["spandrel/term.kinds"], loops := true, apart := false, laid := [("spandrel/term.kinds", laid_spandrel_term_kinds)] }
def TeleTellsSaid : Prop := teleTellsRow.holds Tryz.pinned (OpenSpec.ofChange teleTellsSpec)

/-- ITS FALSE NEIGHBOUR: 'it returns false'. Refute it at one input. -/
def teleTellsWrong : ChangeSpec := { name := "teleTells", fn := fun _ => fun
  | [d1, d2, d3, d4] => { results := [.lit (.bool false)], args := [d1, d2, d3, d4] }
  | _ => none }
def TeleTellsWrongFalsely : Prop := teleTellsRow.holds Tryz.pinned (OpenSpec.ofChange teleTellsWrong)

/-- 'spandrellaw21.CarryBlocks': WHATEVER THE INPUT: true; the input reads as it did. -/
def carryBlocksSpec : ChangeSpec := { name := "carryBlocks", fn := fun _ => fun
  | [d1, d2, d3, d4] => { results := [.lit (.bool true)], args := [d1, d2, d3, d4] }
  | _ => none }
def carryBlocksRow : OpenClaim := { program := "yteelplgdojjakaagreatdoor", sum := "d98c11274bf58de4663e0cc2309b9a3b6a812364a5a4cffb6c80ca124a9f7bc6", func := "spandrel/spandrellaw21.CarryBlocks", spec := "carryBlocks", unfollowed := true, recurses := true, named := ["spandrel/term.kinds"], loops := true, apart := false, laid := [("spandrel/term.kinds", laid_spandrel_term_kinds)] }
def CarryBlocksSaid : Prop := carryBlocksRow.holds Tryz.pinned (OpenSpec.ofChange carryBlocksSpec)

/-- ITS FALSE NEIGHBOUR: 'it returns false'. Refute it at one input. -/
def carryBlocksWrong : ChangeSpec := { name := "carryBlocks", fn := fun _ => fun
  | [d1, d2, d3, d4] => { results := [.lit (.bool false)], args := [d1, d2, d3, d4] }
  | _ => none }
def CarryBlocksWrongFalsely : Prop := carryBlocksRow.holds Tryz.pinned (OpenSpec.ofChange carryBlocksWrong)

/-- 'spandrellaw11.SourceTells': WHATEVER THE INPUT: true; the input reads as it did. -/
def sourceTellsSpec : ChangeSpec := { name := "sourceTells", fn := fun _ => fun
  | [d1, d2, d3, d4, d5] => { results := [.lit (.bool true)], args := [d1, d2, d3, d4, d5] }
  | _ => none }
def sourceTellsRow : OpenClaim := { program := "yteelplgdojjakaagreatdoor", sum := "d98c11274bf58de4663e0cc2309b9a3b6a812364a5a4cffb6c80ca124a9f7bc6", func := "spandrel/spandrellaw11.SourceTells", spec := "sourceTells", unfollowed := true, recurses := true, named := ["spandrel/term.kinds"], loops := true, apart := false, laid := [("spandrel/term.kinds", laid_spandrel_term_kinds)] }
def SourceTellsSaid : Prop := sourceTellsRow.holds Tryz.pinned (OpenSpec.ofChange sourceTellsSpec)

/-- ITS FALSE NEIGHBOUR: 'it returns false'. Refute it at one input. -/
def sourceTellsWrong : ChangeSpec := { name := "sourceTells", fn := fun _ => fun
  | [d1, d2, d3, d4, d5] => { results := [.lit (.bool false)], args := [d1, d2, d3, d4, d5] }
  | _ => none }
def SourceTellsWrongFalsely : Prop := sourceTellsRow.holds Tryz.pinned (OpenSpec.ofChange sourceTellsWrong)

/-- 'spandrellaw11.SourceDecls': WHATEVER THE INPUT: true; the input reads as it did. -/
def sourceDeclsSpec : ChangeSpec := { name := "sourceDecls", fn := fun _ => fun
  | [d1, d2] => { results := [.lit (.bool true)], args := [d1, d2] }
  | _ => none }
def sourceDeclsRow : OpenClaim := { program := "yteelplgdojjakaagreatdoor", sum := "d98c11274bf58de4663e0cc2309b9a3b6a812364a5a4cffb6c80ca124a9f7bc6", func := "spandrel/spandrellaw11.SourceDecls", spec := "sourceDecls", unfollowed := true, recurses := true, named := ["spandrel/term.kinds"], loops := true, apart := false, laid := [("spandrel/term.kinds", laid_spandrel_term_kinds)] }
def SourceDeclsSaid : Prop := sourceDeclsRow.holds Tryz.pinned (OpenSpec.ofChange sourceDeclsSpec)

/-- ITS FALSE NEIGHBOUR: 'it returns false'. Refute it at one input. -/
def sourceDeclsWrong : ChangeSpec := { name := "sourceDecls", fn := fun _ => fun
  | [d1, d2] => { results := [.lit (.bool false)], args := [d1, d2] }
  | _ => none }
def SourceDeclsWrongFalsely : Prop := sourceDeclsRow.holds Tryz.pinned (OpenSpec.ofChange sourceDeclsWrong)

/-- 'spandrellaw12.SplitRules': WHATEVER THE INPUT: true; the input reads as it did. -/
def splitRulesSpec : ChangeSpec := { name := "splitRules", fn := fun _ => fun
  | [d] => { results := [.lit (.bool true)], args := [d] }
  | _ => none }
def splitRulesRow : OpenClaim := { program := "yteelplgdojjakaagreatdoor", sum := "d98c11274bf58de4663e0cc2309b9a3b6a812364a5a4cffb6c80ca124a9f7bc6", func := "spandrel/spandrellaw12.SplitRules", spec := "splitRules", unfollowed := true, recurses := true, named := ["spandrel/term.kinds"], loops := true, apart := false, laid := [("spandrel/term.kinds", laid_spandrel_term_kinds)] }
def SplitRulesSaid : Prop := splitRulesRow.holds Tryz.pinned (OpenSpec.ofChange splitRulesSpec)

/-- ITS FALSE NEIGHBOUR: 'it returns false'. Refute it at one input. -/
def splitRulesWrong : ChangeSpec := { name := "splitRules", fn := fun _ => fun
  | [d] => { results := [.lit (.bool false)], args := [d] }
  | _ => none }
def SplitRulesWrongFalsely : Prop := splitRulesRow.holds Tryz.pinned (OpenSpec.ofChange splitRulesWrong)

/- THE SECOND FORM. 'bulk': how many values and letters a reading holds, each counted each time it is reached (what is shared counts as often as it is met; a slice's spare places count too). A statement '..UptoSaid' is the law's where the arguments, and the package variables that the reading takes, are together of bulk at most 1048576: NARROWER than '..Said'. Prove '..Said' where nothing that the law and all that it calls make is longer than what came in: it says more and counts as full. Else prove '..UptoSaid'. A law counts once. -/
mutual
def uptoBulk {H : Type} : DataW H → Nat
  | .lit (.string bytes) => bytes.length + 1
  | .lit _ => 1
  | .nil => 1
  | .ptr d => uptoBulk d + 1
  | .slice elems spare => uptoBulkAll elems + uptoBulkAll spare + 1
  | .agg parts => uptoBulkAll parts + 1
  | .iface _ d => uptoBulk d + 1
  | .map entries => uptoBulkEntries entries + 1
  | .held _ => 1
def uptoBulkAll {H : Type} : List (DataW H) → Nat
  | [] => 0
  | d :: r => uptoBulk d + uptoBulkAll r
def uptoBulkEntries {H : Type} : List (Lit × DataW H) → Nat
  | [] => 0
  | x :: r => uptoBulkEntry x + uptoBulkEntries r
def uptoBulkEntry {H : Type} : Lit × DataW H → Nat
  | (.string bytes, d) => bytes.length + uptoBulk d + 1
  | (_, d) => uptoBulk d + 1
 end
def uptoSmall : (H : Type) → List (DataW H) → Bool := fun _ ds => decide (uptoBulkAll ds ≤ 1048576)
def OpenSpec.upto (s : _root_.Go.ChangeSpec) : _root_.Go.OpenSpec := { _root_.Go.OpenSpec.ofChange s with cond := some uptoSmall }

/-- 'spandrellaw21.CarryTells', WHERE WHAT IT READS IS OF BULK AT MOST 1048576: true; the input reads as it did. -/
def carryTellsUptoRow : OpenClaim := { program := "yteelplgdojjakaagreatdoor", sum := "d98c11274bf58de4663e0cc2309b9a3b6a812364a5a4cffb6c80ca124a9f7bc6", func := "spandrel/spandrellaw21.CarryTells", spec := "carryTells", unfollowed := true, recurses := true, named := ["spandrel/term.kinds"], loops := true, apart := false, laid := [("spandrel/term.kinds", laid_spandrel_term_kinds)], narrowed := true }
def CarryTellsUptoSaid : Prop := carryTellsUptoRow.holds Tryz.pinned (OpenSpec.upto carryTellsSpec)

/-- 'spandrellaw04.TeleTells', WHERE WHAT IT READS IS OF BULK AT MOST 1048576: true; the input reads as it did. -/
def teleTellsUptoRow : OpenClaim := { program := "yteelplgdojjakaagreatdoor", sum := "d98c11274bf58de4663e0cc2309b9a3b6a812364a5a4cffb6c80ca124a9f7bc6", func := "spandrel/spandrellaw04.TeleTells", spec := "teleTells", unfollowed := true, recurses := true, named := ["spandrel/term.kinds"], loops := true, apart := false, laid := [("spandrel/term.kinds", laid_spandrel_term_kinds)], narrowed := true }
def TeleTellsUptoSaid : Prop := teleTellsUptoRow.holds Tryz.pinned (OpenSpec.upto teleTellsSpec)

/-- 'spandrellaw21.CarryBlocks', WHERE WHAT IT READS IS OF BULK AT MOST 1048576: true; the input reads as it did. -/
def carryBlocksUptoRow : OpenClaim := { program := "yteelplgdojjakaagreatdoor", sum := "d98c11274bf58de4663e0cc2309b9a3b6a812364a5a4cffb6c80ca124a9f7bc6", func := "spandrel/spandrellaw21.CarryBlocks", spec := "carryBlocks", unfollowed := true, recurses := true, named := ["spandrel/term.kinds"], loops := true, apart := false, laid := [("spandrel/term.kinds", laid_spandrel_term_kinds)], narrowed := true }
def CarryBlocksUptoSaid : Prop := carryBlocksUptoRow.holds Tryz.pinned (OpenSpec.upto carryBlocksSpec)

/-- 'spandrellaw11.SourceTells', WHERE WHAT IT READS IS OF BULK AT MOST 1048576: true; the input reads as it did. -/
def sourceTellsUptoRow : OpenClaim := { program := "yteelplgdojjakaagreatdoor", sum := "d98c11274bf58de4663e0cc2309b9a3b6a812364a5a4cffb6c80ca124a9f7bc6", func := "spandrel/spandrellaw11.SourceTells", spec := "sourceTells", unfollowed := true, recurses := true, named := ["spandrel/term.kinds"], loops := true, apart := false, laid := [("spandrel/term.kinds", laid_spandrel_term_kinds)], narrowed := true }
def SourceTellsUptoSaid : Prop := sourceTellsUptoRow.holds Tryz.pinned (OpenSpec.upto sourceTellsSpec)

/-- 'spandrellaw11.SourceDecls', WHERE WHAT IT READS IS OF BULK AT MOST 1048576: true; the input reads as it did. -/
def sourceDeclsUptoRow : OpenClaim := { program := "yteelplgdojjakaagreatdoor", sum := "d98c11274bf58de4663e0cc2309b9a3b6a812364a5a4cffb6c80ca124a9f7bc6", func := "spandrel/spandrellaw11.SourceDecls", spec := "sourceDecls", unfollowed := true, recurses := true, named := ["spandrel/term.kinds"], loops := true, apart := false, laid := [("spandrel/term.kinds", laid_spandrel_term_kinds)], narrowed := true }
def SourceDeclsUptoSaid : Prop := sourceDeclsUptoRow.holds Tryz.pinned (OpenSpec.upto sourceDeclsSpec)

/-- 'spandrellaw12.SplitRules', WHERE WHAT IT READS IS OF BULK AT MOST 1048576: true; the input reads as it did. -/
def splitRulesUptoRow : OpenClaim := { program := "yteelplgdojjakaagreatdoor", sum := "d98c11274bf58de4663e0cc2309b9a3b6a812364a5a4cffb6c80ca124a9f7bc6", func := "spandrel/spandrellaw12.SplitRules", spec := "splitRules", unfollowed := true, recurses := true, named := ["spandrel/term.kinds"], loops := true, apart := false, laid := [("spandrel/term.kinds", laid_spandrel_term_kinds)], narrowed := true }
def SplitRulesUptoSaid : Prop := splitRulesUptoRow.holds Tryz.pinned (OpenSpec.upto splitRulesSpec)

end Rows
end Go.Proofs.YteelplgdojjakaaGreatDoor
