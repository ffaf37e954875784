/-
  NARROWER THAN 'FOR EVERY INPUT', by the rows' own cells (each row's printed sentence says how): TeleTells: loops, laid · SourceDecls: loops, laid · SplitRules: loops, laid · StrictTells: loops, laid · StrictShapes: laid · StrictRules: loops, laid.
  DERIVED. THE GIVEN ROWS OF THIS SEAT. 6 by the template 'for every input the law returns true; each argument reads behind the call as it read before'; 0 by the template 'total and deterministic' (their statements: YtmedomglemllnaaGreatDoorTotals.lean).
  GIVEN WITH THE SEED: the statements are not yours to turn. If you find one false, say at which input.
  Laid BY PROGRAM, IN A SANDBOX (cutbox-rows.mjs): the forced cells as the released guide's own fill.sh prints them over the translation bfcc5c62f3d1505e… (all of the seat's roots in one cut). By AI agents, Wed Nov 11 2026. No macro, syntax, notation, axiom, sorry.
-/
import Derived.Test.YtmedomglemllnaaGreatDoorChecked
import GoSem.Claim
import GoSem.ClaimJoined
import GoSem.ClaimMapViews
import Derived.JoinedTies
import Derived.KernelRfl
namespace Go.Proofs.YtmedomglemllnaaGreatDoor
/- THE CELL 'sum', in the pinned program and in every row, IS THE sha256 OF THE DUMP (.gsa) THAT YtmedomglemllnaaGreatDoorProg.lean LOADS. Nothing in Lean hashes anything: it is a label: what it is worth is what the hold of that sum in a sandbox is worth. -/
noncomputable def Tryz.pinned : Pinned := { name := "ytmedomglemllnaagreatdoor", sum := "bfcc5c62f3d1505ee34058936f1f4e5743da26d699dda9604b2cb6277a71757b", checked := Tryz.checked }
namespace Rows
def none {H : Type} : Left H := { results := [], args := [] }

/- WHAT THE LISTED PACKAGE-LEVEL VARIABLES READ AS WHEN THE CALL BEGINS. Each datum BY PROGRAM (the guide's laid-datum.mjs) off the statement by which the dump's own 'gosem.cut.vars' lays the variable. In a bare row this is a premise. The card (YtmedomglemllnaaGreatDoorCards.lean) ties it to the program's text. -/
def laid_spandrel_term_kinds {H : Type} : DataW H := .agg [.agg [.lit (.bool false), .lit (.bool false), .lit (.int .i64 0), .lit (.int .i64 0), .lit (.int .i64 0)], .agg [.lit (.bool true), .lit (.bool false), .lit (.int .i64 0), .lit (.int .i64 0), .lit (.int .i64 (-1))], .agg [.lit (.bool false), .lit (.bool false), .lit (.int .i64 1), .lit (.int .i64 0), .lit (.int .i64 (-1))], .agg [.lit (.bool true), .lit (.bool false), .lit (.int .i64 (-1)), .lit (.int .i64 0), .lit (.int .i64 (-1))], .agg [.lit (.bool false), .lit (.bool false), .lit (.int .i64 0), .lit (.int .i64 2), .lit (.int .i64 1)], .agg [.lit (.bool false), .lit (.bool false), .lit (.int .i64 0), .lit (.int .i64 2), .lit (.int .i64 1)], .agg [.lit (.bool false), .lit (.bool false), .lit (.int .i64 0), .lit (.int .i64 2), .lit (.int .i64 (-1))], .agg [.lit (.bool false), .lit (.bool false), .lit (.int .i64 0), .lit (.int .i64 3), .lit (.int .i64 2)], .agg [.lit (.bool true), .lit (.bool true), .lit (.int .i64 (-1)), .lit (.int .i64 0), .lit (.int .i64 (-1))], .agg [.lit (.bool true), .lit (.bool true), .lit (.int .i64 (-1)), .lit (.int .i64 0), .lit (.int .i64 (-1))], .agg [.lit (.bool true), .lit (.bool true), .lit (.int .i64 (-1)), .lit (.int .i64 0), .lit (.int .i64 (-1))], .agg [.lit (.bool false), .lit (.bool true), .lit (.int .i64 0), .lit (.int .i64 0), .lit (.int .i64 (-1))], .agg [.lit (.bool false), .lit (.bool false), .lit (.int .i64 0), .lit (.int .i64 2), .lit (.int .i64 1)], .agg [.lit (.bool false), .lit (.bool false), .lit (.int .i64 0), .lit (.int .i64 2), .lit (.int .i64 (-1))], .agg [.lit (.bool false), .lit (.bool false), .lit (.int .i64 0), .lit (.int .i64 1), .lit (.int .i64 (-1))], .agg [.lit (.bool false), .lit (.bool false), .lit (.int .i64 0), .lit (.int .i64 1), .lit (.int .i64 (-1))], .agg [.lit (.bool false), .lit (.bool false), .lit (.int .i64 0), .lit (.int .i64 2), .lit (.int .i64 1)], .agg [.lit (.bool false), .lit (.bool false), .lit (.int .i64 0), .lit (.int .i64 2), .lit (.int .i64 (-1))], .agg [.lit (.bool false), .lit (.bool false), .lit (.int .i64 0), .lit (.int .i64 5), .lit (.int .i64 1)], .agg [.lit (.bool false), .lit (.bool false), .lit (.int .i64 0), .lit (.int .i64 3), .lit (.int .i64 (-1))], .agg [.lit (.bool false), .lit (.bool false), .lit (.int .i64 0), .lit (.int .i64 0), .lit (.int .i64 (-1))], .agg [.lit (.bool false), .lit (.bool false), .lit (.int .i64 0), .lit (.int .i64 6), .lit (.int .i64 (-1))], .agg [.lit (.bool true), .lit (.bool false), .lit (.int .i64 0), .lit (.int .i64 0), .lit (.int .i64 (-1))], .agg [.lit (.bool true), .lit (.bool true), .lit (.int .i64 0), .lit (.int .i64 0), .lit (.int .i64 (-1))], .agg [.lit (.bool false), .lit (.bool true), .lit (.int .i64 0), .lit (.int .i64 2), .lit (.int .i64 (-1))]]

/-- 'spandrellaw04.TeleTells': WHATEVER THE INPUT: true; the input reads as it did. -/
def teleTellsSpec : ChangeSpec := { name := "teleTells", fn := fun _ => fun
  | [d1, d2, d3, d4] => { results := [.lit (.bool true)], args := [d1, d2, d3, d4] }
  | _ => none }
def teleTellsRow : OpenClaim := { program := "ytmedomglemllnaagreatdoor", sum := "bfcc5c62f3d1505ee34058936f1f4e5743da26d699dda9604b2cb6277a71757b", func := "spandrel/spandrellaw04.TeleTells", spec := "teleTells", unfollowed := true, recurses := true, named := ["spandrel/term.kinds"], loops := true, plainKeys := false, apart := false, laid := [("spandrel/term.kinds", laid_spandrel_term_kinds)] }
def TeleTellsSaid : Prop := teleTellsRow.holds Tryz.pinned (OpenSpec.ofChange teleTellsSpec)

/-- ITS FALSE NEIGHBOUR: 'it returns false'. Refute it at one input. -/
def teleTellsWrong : ChangeSpec := { name := "teleTells", fn := fun _ => fun
  | [d1, d2, d3, d4] => { results := [.lit (.bool false)], args := [d1, d2, d3, d4] }
  | _ => none }
def TeleTellsWrongFalsely : Prop := teleTellsRow.holds Tryz.pinned (OpenSpec.ofChange teleTellsWrong)

/-- 'spandrellaw11.SourceDecls': WHATEVER THE INPUT: true; the input reads as it did. -/
def sourceDeclsSpec : ChangeSpec := { name := "sourceDecls", fn := fun _ => fun
  | [d1, d2] => { results := [.lit (.bool true)], args := [d1, d2] }
  | _ => none }
def sourceDeclsRow : OpenClaim := { program := "ytmedomglemllnaagreatdoor", sum := "bfcc5c62f3d1505ee34058936f1f4e5743da26d699dda9604b2cb6277a71757b", func := "spandrel/spandrellaw11.SourceDecls", spec := "sourceDecls", unfollowed := true, recurses := true, named := ["spandrel/term.kinds"], loops := true, plainKeys := false, apart := false, laid := [("spandrel/term.kinds", laid_spandrel_term_kinds)] }
def SourceDeclsSaid : Prop := sourceDeclsRow.holds Tryz.pinned (OpenSpec.ofChange sourceDeclsSpec)

/-- ITS FALSE NEIGHBOUR: 'it returns false'. Refute it at one input. -/
def sourceDeclsWrong : ChangeSpec := { name := "sourceDecls", fn := fun _ => fun
  | [d1, d2] => { results := [.lit (.bool false)], args := [d1, d2] }
  | _ => none }
def SourceDeclsWrongFalsely : Prop := sourceDeclsRow.holds Tryz.pinned (OpenSpec.ofChange sourceDeclsWrong)

/-- 'spandrellaw12.SplitRules': WHATEVER THE INPUT: true; the input reads as it did. -/
def splitRulesSpec : ChangeSpec := { name := "splitRules", fn := fun _ => fun
  | [d] => { results := [.lit (.bool true)], args := [d] }
  | _ => none }
def splitRulesRow : OpenClaim := { program := "ytmedomglemllnaagreatdoor", sum := "bfcc5c62f3d1505ee34058936f1f4e5743da26d699dda9604b2cb6277a71757b", func := "spandrel/spandrellaw12.SplitRules", spec := "splitRules", unfollowed := true, recurses := true, named := ["spandrel/term.kinds"], loops := true, plainKeys := false, apart := false, laid := [("spandrel/term.kinds", laid_spandrel_term_kinds)] }
def SplitRulesSaid : Prop := splitRulesRow.holds Tryz.pinned (OpenSpec.ofChange splitRulesSpec)

/-- ITS FALSE NEIGHBOUR: 'it returns false'. Refute it at one input. -/
def splitRulesWrong : ChangeSpec := { name := "splitRules", fn := fun _ => fun
  | [d] => { results := [.lit (.bool false)], args := [d] }
  | _ => none }
def SplitRulesWrongFalsely : Prop := splitRulesRow.holds Tryz.pinned (OpenSpec.ofChange splitRulesWrong)

/-- 'spandrellaw18.StrictTells': WHATEVER THE INPUT: true; the input reads as it did. -/
def strictTellsSpec : ChangeSpec := { name := "strictTells", fn := fun _ => fun
  | [d1, d2, d3, d4] => { results := [.lit (.bool true)], args := [d1, d2, d3, d4] }
  | _ => none }
def strictTellsRow : OpenClaim := { program := "ytmedomglemllnaagreatdoor", sum := "bfcc5c62f3d1505ee34058936f1f4e5743da26d699dda9604b2cb6277a71757b", func := "spandrel/spandrellaw18.StrictTells", spec := "strictTells", unfollowed := true, recurses := true, named := ["spandrel/term.kinds"], loops := true, plainKeys := false, apart := false, laid := [("spandrel/term.kinds", laid_spandrel_term_kinds)] }
def StrictTellsSaid : Prop := strictTellsRow.holds Tryz.pinned (OpenSpec.ofChange strictTellsSpec)

/-- ITS FALSE NEIGHBOUR: 'it returns false'. Refute it at one input. -/
def strictTellsWrong : ChangeSpec := { name := "strictTells", fn := fun _ => fun
  | [d1, d2, d3, d4] => { results := [.lit (.bool false)], args := [d1, d2, d3, d4] }
  | _ => none }
def StrictTellsWrongFalsely : Prop := strictTellsRow.holds Tryz.pinned (OpenSpec.ofChange strictTellsWrong)

/-- 'spandrellaw18.StrictShapes': WHATEVER THE INPUT: true; the input reads as it did. -/
def strictShapesSpec : ChangeSpec := { name := "strictShapes", fn := fun _ => fun
  | [] => { results := [.lit (.bool true)], args := [] }
  | _ => none }
def strictShapesRow : OpenClaim := { program := "ytmedomglemllnaagreatdoor", sum := "bfcc5c62f3d1505ee34058936f1f4e5743da26d699dda9604b2cb6277a71757b", func := "spandrel/spandrellaw18.StrictShapes", spec := "strictShapes", unfollowed := true, recurses := true, named := ["spandrel/term.kinds"], plainKeys := false, apart := false, laid := [("spandrel/term.kinds", laid_spandrel_term_kinds)] }
def StrictShapesSaid : Prop := strictShapesRow.holds Tryz.pinned (OpenSpec.ofChange strictShapesSpec)

/-- ITS FALSE NEIGHBOUR: 'it returns false'. Refute it at one input. -/
def strictShapesWrong : ChangeSpec := { name := "strictShapes", fn := fun _ => fun
  | [] => { results := [.lit (.bool false)], args := [] }
  | _ => none }
def StrictShapesWrongFalsely : Prop := strictShapesRow.holds Tryz.pinned (OpenSpec.ofChange strictShapesWrong)

/-- 'spandrellaw18.StrictRules': WHATEVER THE INPUT: true; the input reads as it did. -/
def strictRulesSpec : ChangeSpec := { name := "strictRules", fn := fun _ => fun
  | [d1, d2, d3, d4, d5] => { results := [.lit (.bool true)], args := [d1, d2, d3, d4, d5] }
  | _ => none }
def strictRulesRow : OpenClaim := { program := "ytmedomglemllnaagreatdoor", sum := "bfcc5c62f3d1505ee34058936f1f4e5743da26d699dda9604b2cb6277a71757b", func := "spandrel/spandrellaw18.StrictRules", spec := "strictRules", unfollowed := true, recurses := true, named := ["spandrel/term.kinds"], loops := true, plainKeys := false, apart := false, laid := [("spandrel/term.kinds", laid_spandrel_term_kinds)] }
def StrictRulesSaid : Prop := strictRulesRow.holds Tryz.pinned (OpenSpec.ofChange strictRulesSpec)

/-- ITS FALSE NEIGHBOUR: 'it returns false'. Refute it at one input. -/
def strictRulesWrong : ChangeSpec := { name := "strictRules", fn := fun _ => fun
  | [d1, d2, d3, d4, d5] => { results := [.lit (.bool false)], args := [d1, d2, d3, d4, d5] }
  | _ => none }
def StrictRulesWrongFalsely : Prop := strictRulesRow.holds Tryz.pinned (OpenSpec.ofChange strictRulesWrong)

/- THE SECOND FORM. 'bulk': how many values and letters a reading holds, each counted each time it is reached (what is shared counts as often as it is met; a slice's spare places count too). A statement '..UptoSaid' is the law's where the arguments, and the package variables that the reading takes, are together of bulk at most 1048576: NARROWER than '..Said'. Prove '..Said' where nothing that the law and all that it calls make is longer than what came in: it says more and counts as full. Else prove '..UptoSaid'. A law counts once. -/
mutual
def uptoBulk {H : Type} : DataW H → Nat
  | .lit (.string bytes) => bytes.length + 1
  | .lit _ => 1
  | .nil => 1
  | .ptr d => uptoBulk d + 1
  | .slice elems spare => uptoBulkAll elems + uptoBulkAll spare + 1
  | .agg parts => uptoBulkAll parts + 1
  | .iface _ d => uptoBulk d + 1
  | .map entries => uptoBulkEntries entries + 1
  | .held _ => 1
def uptoBulkAll {H : Type} : List (DataW H) → Nat
  | [] => 0
  | d :: r => uptoBulk d + uptoBulkAll r
def uptoBulkEntries {H : Type} : List (Lit × DataW H) → Nat
  | [] => 0
  | x :: r => uptoBulkEntry x + uptoBulkEntries r
def uptoBulkEntry {H : Type} : Lit × DataW H → Nat
  | (.string bytes, d) => bytes.length + uptoBulk d + 1
  | (_, d) => uptoBulk d + 1
 end
def uptoSmall : (H : Type) → List (DataW H) → Bool := fun _ ds => decide (uptoBulkAll ds ≤ 1048576)
def OpenSpec.upto (s : _root_.Go.ChangeSpec) : _root_.Go.OpenSpec := { _root_.Go.OpenSpec.ofChange s with cond := some uptoSmall }

/-- 'spandrellaw04.TeleTells', WHERE WHAT IT READS IS OF BULK AT MOST 1048576: true; the input reads as it did. -/
def teleTellsUptoRow : OpenClaim := { program := "ytmedomglemllnaagreatdoor", sum := "bfcc5c62f3d1505ee34058936f1f4e5743da26d699dda9604b2cb6277a71757b", func := "spandrel/spandrellaw04.TeleTells", spec := "teleTells", unfollowed := true, recurses := true, named := ["spandrel/term.kinds"], loops := true, plainKeys := false, apart := false, laid := [("spandrel/term.kinds", laid_spandrel_term_kinds)], narrowed := true }
def TeleTellsUptoSaid : Prop := teleTellsUptoRow.holds Tryz.pinned (OpenSpec.upto teleTellsSpec)

/-- 'spandrellaw11.SourceDecls', WHERE WHAT IT READS IS OF BULK AT MOST 1048576: true; the input reads as it did. -/
def sourceDeclsUptoRow : OpenClaim := { program := "ytmedomglemllnaagreatdoor", sum := "bfcc5c62f3d1505ee34058936f1f4e5743da26d699dda9604b2cb6277a71757b", func := "spandrel/spandrellaw11.SourceDecls", spec := "sourceDecls", unfollowed := true, recurses := true, named := ["spandrel/term.kinds"], loops := true, plainKeys := false, apart := false, laid := [("spandrel/term.kinds", laid_spandrel_term_kinds)], narrowed := true }
def SourceDeclsUptoSaid : Prop := sourceDeclsUptoRow.holds Tryz.pinned (OpenSpec.upto sourceDeclsSpec)

/-- 'spandrellaw12.SplitRules', WHERE WHAT IT READS IS OF BULK AT MOST 1048576: true; the input reads as it did. -/
def splitRulesUptoRow : OpenClaim := { program := "ytmedomglemllnaagreatdoor", sum := "bfcc5c62f3d1505ee34058936f1f4e5743da26d699dda9604b2cb6277a71757b", func := "spandrel/spandrellaw12.SplitRules", spec := "splitRules", unfollowed := true, recurses := true, named := ["spandrel/term.kinds"], loops := true, plainKeys := false, apart := false, laid := [("spandrel/term.kinds", laid_spandrel_term_kinds)], narrowed := true }
def SplitRulesUptoSaid : Prop := splitRulesUptoRow.holds Tryz.pinned (OpenSpec.upto splitRulesSpec)

/-- 'spandrellaw18.StrictTells', WHERE WHAT IT READS IS OF BULK AT MOST 1048576: true; the input reads as it did. -/
def strictTellsUptoRow : OpenClaim := { program := "ytmedomglemllnaagreatdoor", sum := "bfcc5c62f3d1505ee34058936f1f4e5743da26d699dda9604b2cb6277a71757b", func := "spandrel/spandrellaw18.StrictTells", spec := "strictTells", unfollowed := true, recurses := true, named := ["spandrel/term.kinds"], loops := true, plainKeys := false, apart := false, laid := [("spandrel/term.kinds", laid_spandrel_term_kinds)], narrowed := true }
def StrictTellsUptoSaid : Prop := strictTellsUptoRow.holds Tryz.pinned (OpenSpec.upto strictTellsSpec)

/-- 'spandrellaw18.StrictShapes', WHERE WHAT IT READS IS OF BULK AT MOST 1048576: true; the input reads as it did. -/
def strictShapesUptoRow : OpenClaim := { program := "ytmedomglemllnaagreatdoor", sum := "bfcc5c62f3d1505ee34058936f1f4e5743da26d699dda9604b2cb6277a71757b", func := "spandrel/spandrellaw18.StrictShapes", spec := "strictShapes", unfollowed := true, recurses := true, named := ["spandrel/term.kinds"], plainKeys := false, apart := false, laid := [("spandrel/term.kinds", laid_spandrel_term_kinds)], narrowed := true }
def StrictShapesUptoSaid : Prop := strictShapesUptoRow.holds Tryz.pinned (OpenSpec.upto strictShapesSpec)

/-- 'spandrellaw18.StrictRules', WHERE WHAT IT READS IS OF BULK AT MOST 1048576: true; the input reads as it did. -/
def strictRulesUptoRow : OpenClaim := { program := "ytmedomglemllnaagreatdoor", sum := "bfcc5c62f3d1505ee34058936f1f4e5743da26d699dda9604b2cb6277a71757b", func := "spandrel/spandrellaw18.StrictRules", spec := "strictRules", unfollowed := true, recurses := true, named := ["spandrel/term.kinds"], loops := true, plainKeys := false, apart := false, laid := [("spandrel/term.kinds", laid_spandrel_term_kinds)], narrowed := true }
def StrictRulesUptoSaid : Prop := strictRulesUptoRow.holds Tryz.pinned (OpenSpec.upto strictRulesSpec)

end Rows
end Go.Proofs.YtmedomglemllnaaGreatDoor
