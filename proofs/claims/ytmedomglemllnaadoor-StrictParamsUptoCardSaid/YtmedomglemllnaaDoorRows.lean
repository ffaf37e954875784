/-
  NARROWER THAN 'FOR EVERY INPUT', by the rows' own cells (each row's printed sentence says how): SplitShapes: laid · StrictParams: loops, laid · SourceGrows: loops, laid · SourceRows: loops, laid · SplitBack: loops, laid · TeleEnds: laid.
  DERIVED. THE GIVEN ROWS OF THIS SEAT. 6 by the template 'for every input the law returns true; each argument reads behind the call as it read before'; 0 by the template 'total and deterministic' (their statements: YtmedomglemllnaaDoorTotals.lean).
  GIVEN WITH THE SEED: the statements are not yours to turn. If you find one false, say at which input.
  Laid BY PROGRAM, IN A SANDBOX (cutbox-rows.mjs): the forced cells as the released guide's own fill.sh prints them over the translation 2455c933f785c849… (all of the seat's roots in one cut). By AI agents, Wed Nov 11 2026. No macro, syntax, notation, axiom, sorry.
-/
import Derived.Test.YtmedomglemllnaaDoorChecked
import GoSem.Claim
import GoSem.ClaimJoined
import GoSem.ClaimMapViews
import Derived.JoinedTies
import Derived.KernelRfl
namespace Go.Proofs.YtmedomglemllnaaDoor
/- THE CELL 'sum', in the pinned program and in every row, IS THE sha256 OF THE DUMP (.gsa) THAT YtmedomglemllnaaDoorProg.lean LOADS. Nothing in Lean hashes anything: it is a label: what it is worth is what the hold of that sum in a sandbox is worth. -/
noncomputable def Tryd.pinned : Pinned := { name := "ytmedomglemllnaadoor", sum := "2455c933f785c8494ee4ab7dfc5d06fee76eab38035ec8c812919caee708f49d", checked := Tryd.checked }
namespace Rows
def none {H : Type} : Left H := { results := [], args := [] }

/- WHAT THE LISTED PACKAGE-LEVEL VARIABLES READ AS WHEN THE CALL BEGINS. Each datum BY PROGRAM (the guide's laid-datum.mjs) off the statement by which the dump's own 'gosem.cut.vars' lays the variable. In a bare row this is a premise. The card (YtmedomglemllnaaDoorCards.lean) ties it to the program's text. -/
def laid_spandrel_term_kinds {H : Type} : DataW H := .agg [.agg [.lit (.bool false), .lit (.bool false), .lit (.int .i64 0), .lit (.int .i64 0), .lit (.int .i64 0)], .agg [.lit (.bool true), .lit (.bool false), .lit (.int .i64 0), .lit (.int .i64 0), .lit (.int .i64 (-1))], .agg [.lit (.bool false), .lit (.bool false), .lit (.int .i64 1), .lit (.int .i64 0), .lit (.int .i64 (-1))], .agg [.lit (.bool true), .lit (.bool false), .lit (.int .i64 (-1)), .lit (.int .i64 0), .lit (.int .i64 (-1))], .agg [.lit (.bool false), .lit (.bool false), .lit (.int .i64 0), .lit (.int .i64 2), .lit (.int .i64 1)], .agg [.lit (.bool false), .lit (.bool false), .lit (.int .i64 0), .lit (.int .i64 2), .lit (.int .i64 1)], .agg [.lit (.bool false), .lit (.bool false), .lit (.int .i64 0), .lit (.int .i64 2), .lit (.int .i64 (-1))], .agg [.lit (.bool false), .lit (.bool false), .lit (.int .i64 0), .lit (.int .i64 3), .lit (.int .i64 2)], .agg [.lit (.bool true), .lit (.bool true), .lit (.int .i64 (-1)), .lit (.int .i64 0), .lit (.int .i64 (-1))], .agg [.lit (.bool true), .lit (.bool true), .lit (.int .i64 (-1)), .lit (.int .i64 0), .lit (.int .i64 (-1))], .agg [.lit (.bool true), .lit (.bool true), .lit (.int .i64 (-1)), .lit (.int .i64 0), .lit (.int .i64 (-1))], .agg [.lit (.bool false), .lit (.bool true), .lit (.int .i64 0), .lit (.int .i64 0), .lit (.int .i64 (-1))], .agg [.lit (.bool false), .lit (.bool false), .lit (.int .i64 0), .lit (.int .i64 2), .lit (.int .i64 1)], .agg [.lit (.bool false), .lit (.bool false), .lit (.int .i64 0), .lit (.int .i64 2), .lit (.int .i64 (-1))], .agg [.lit (.bool false), .lit (.bool false), .lit (.int .i64 0), .lit (.int .i64 1), .lit (.int .i64 (-1))], .agg [.lit (.bool false), .lit (.bool false), .lit (.int .i64 0), .lit (.int .i64 1), .lit (.int .i64 (-1))], .agg [.lit (.bool false), .lit (.bool false), .lit (.int .i64 0), .lit (.int .i64 2), .lit (.int .i64 1)], .agg [.lit (.bool false), .lit (.bool false), .lit (.int .i64 0), .lit (.int .i64 2), .lit (.int .i64 (-1))], .agg [.lit (.bool false), .lit (.bool false), .lit (.int .i64 0), .lit (.int .i64 5), .lit (.int .i64 1)], .agg [.lit (.bool false), .lit (.bool false), .lit (.int .i64 0), .lit (.int .i64 3), .lit (.int .i64 (-1))], .agg [.lit (.bool false), .lit (.bool false), .lit (.int .i64 0), .lit (.int .i64 0), .lit (.int .i64 (-1))], .agg [.lit (.bool false), .lit (.bool false), .lit (.int .i64 0), .lit (.int .i64 6), .lit (.int .i64 (-1))], .agg [.lit (.bool true), .lit (.bool false), .lit (.int .i64 0), .lit (.int .i64 0), .lit (.int .i64 (-1))], .agg [.lit (.bool true), .lit (.bool true), .lit (.int .i64 0), .lit (.int .i64 0), .lit (.int .i64 (-1))], .agg [.lit (.bool false), .lit (.bool true), .lit (.int .i64 0), .lit (.int .i64 2), .lit (.int .i64 (-1))]]

/-- 'spandrellaw12.SplitShapes': WHATEVER THE INPUT: true; the input reads as it did. -/
def splitShapesSpec : ChangeSpec := { name := "splitShapes", fn := fun _ => fun
  | [] => { results := [.lit (.bool true)], args := [] }
  | _ => none }
def splitShapesRow : OpenClaim := { program := "ytmedomglemllnaadoor", sum := "2455c933f785c8494ee4ab7dfc5d06fee76eab38035ec8c812919caee708f49d", func := "spandrel/spandrellaw12.SplitShapes", spec := "splitShapes", unfollowed := true, recurses := true, named := ["spandrel/term.kinds"], plainKeys := false, apart := false, laid := [("spandrel/term.kinds", laid_spandrel_term_kinds)] }
def SplitShapesSaid : Prop := splitShapesRow.holds Tryd.pinned (OpenSpec.ofChange splitShapesSpec)

/-- ITS FALSE NEIGHBOUR: 'it returns false'. Refute it at one input. -/
def splitShapesWrong : ChangeSpec := { name := "splitShapes", fn := fun _ => fun
  | [] => { results := [.lit (.bool false)], args := [] }
  | _ => none }
def SplitShapesWrongFalsely : Prop := splitShapesRow.holds Tryd.pinned (OpenSpec.ofChange splitShapesWrong)

/-- 'spandrellaw18.StrictParams': WHATEVER THE INPUT: true; the input reads as it did. -/
def strictParamsSpec : ChangeSpec := { name := "strictParams", fn := fun _ => fun
  | [d1, d2, d3, d4] => { results := [.lit (.bool true)], args := [d1, d2, d3, d4] }
  | _ => none }
def strictParamsRow : OpenClaim := { program := "ytmedomglemllnaadoor", sum := "2455c933f785c8494ee4ab7dfc5d06fee76eab38035ec8c812919caee708f49d", func := "spandrel/spandrellaw18.StrictParams", spec := "strictParams", unfollowed := true, recurses := true, named := ["spandrel/term.kinds"], loops := true, plainKeys := false, apart := false, laid := [("spandrel/term.kinds", laid_spandrel_term_kinds)] }
def StrictParamsSaid : Prop := strictParamsRow.holds Tryd.pinned (OpenSpec.ofChange strictParamsSpec)

/-- ITS FALSE NEIGHBOUR: 'it returns false'. Refute it at one input. -/
def strictParamsWrong : ChangeSpec := { name := "strictParams", fn := fun _ => fun
  | [d1, d2, d3, d4] => { results := [.lit (.bool false)], args := [d1, d2, d3, d4] }
  | _ => none }
def StrictParamsWrongFalsely : Prop := strictParamsRow.holds Tryd.pinned (OpenSpec.ofChange strictParamsWrong)

/-- 'spandrellaw11.SourceGrows': WHATEVER THE INPUT: true; the input reads as it did. -/
def sourceGrowsSpec : ChangeSpec := { name := "sourceGrows", fn := fun _ => fun
  | [d1, d2, d3, d4, d5, d6, d7, d8] => { results := [.lit (.bool true)], args := [d1, d2, d3, d4, d5, d6, d7, d8] }
  | _ => none }
def sourceGrowsRow : OpenClaim := { program := "ytmedomglemllnaadoor", sum := "2455c933f785c8494ee4ab7dfc5d06fee76eab38035ec8c812919caee708f49d", func := "spandrel/spandrellaw11.SourceGrows", spec := "sourceGrows", unfollowed := true, recurses := true, named := ["spandrel/term.kinds"], loops := true, plainKeys := false, apart := false, laid := [("spandrel/term.kinds", laid_spandrel_term_kinds)] }
def SourceGrowsSaid : Prop := sourceGrowsRow.holds Tryd.pinned (OpenSpec.ofChange sourceGrowsSpec)

/-- ITS FALSE NEIGHBOUR: 'it returns false'. Refute it at one input. -/
def sourceGrowsWrong : ChangeSpec := { name := "sourceGrows", fn := fun _ => fun
  | [d1, d2, d3, d4, d5, d6, d7, d8] => { results := [.lit (.bool false)], args := [d1, d2, d3, d4, d5, d6, d7, d8] }
  | _ => none }
def SourceGrowsWrongFalsely : Prop := sourceGrowsRow.holds Tryd.pinned (OpenSpec.ofChange sourceGrowsWrong)

/-- 'spandrellaw11.SourceRows': WHATEVER THE INPUT: true; the input reads as it did. -/
def sourceRowsSpec : ChangeSpec := { name := "sourceRows", fn := fun _ => fun
  | [d1, d2] => { results := [.lit (.bool true)], args := [d1, d2] }
  | _ => none }
def sourceRowsRow : OpenClaim := { program := "ytmedomglemllnaadoor", sum := "2455c933f785c8494ee4ab7dfc5d06fee76eab38035ec8c812919caee708f49d", func := "spandrel/spandrellaw11.SourceRows", spec := "sourceRows", unfollowed := true, recurses := true, named := ["spandrel/term.kinds"], loops := true, plainKeys := false, apart := false, laid := [("spandrel/term.kinds", laid_spandrel_term_kinds)] }
def SourceRowsSaid : Prop := sourceRowsRow.holds Tryd.pinned (OpenSpec.ofChange sourceRowsSpec)

/-- ITS FALSE NEIGHBOUR: 'it returns false'. Refute it at one input. -/
def sourceRowsWrong : ChangeSpec := { name := "sourceRows", fn := fun _ => fun
  | [d1, d2] => { results := [.lit (.bool false)], args := [d1, d2] }
  | _ => none }
def SourceRowsWrongFalsely : Prop := sourceRowsRow.holds Tryd.pinned (OpenSpec.ofChange sourceRowsWrong)

/-- 'spandrellaw12.SplitBack': WHATEVER THE INPUT: true; the input reads as it did. -/
def splitBackSpec : ChangeSpec := { name := "splitBack", fn := fun _ => fun
  | [d] => { results := [.lit (.bool true)], args := [d] }
  | _ => none }
def splitBackRow : OpenClaim := { program := "ytmedomglemllnaadoor", sum := "2455c933f785c8494ee4ab7dfc5d06fee76eab38035ec8c812919caee708f49d", func := "spandrel/spandrellaw12.SplitBack", spec := "splitBack", unfollowed := true, recurses := true, named := ["spandrel/term.kinds"], loops := true, plainKeys := false, apart := false, laid := [("spandrel/term.kinds", laid_spandrel_term_kinds)] }
def SplitBackSaid : Prop := splitBackRow.holds Tryd.pinned (OpenSpec.ofChange splitBackSpec)

/-- ITS FALSE NEIGHBOUR: 'it returns false'. Refute it at one input. -/
def splitBackWrong : ChangeSpec := { name := "splitBack", fn := fun _ => fun
  | [d] => { results := [.lit (.bool false)], args := [d] }
  | _ => none }
def SplitBackWrongFalsely : Prop := splitBackRow.holds Tryd.pinned (OpenSpec.ofChange splitBackWrong)

/-- 'spandrellaw04.TeleEnds': WHATEVER THE INPUT: true; the input reads as it did. -/
def teleEndsSpec : ChangeSpec := { name := "teleEnds", fn := fun _ => fun
  | [] => { results := [.lit (.bool true)], args := [] }
  | _ => none }
def teleEndsRow : OpenClaim := { program := "ytmedomglemllnaadoor", sum := "2455c933f785c8494ee4ab7dfc5d06fee76eab38035ec8c812919caee708f49d", func := "spandrel/spandrellaw04.TeleEnds", spec := "teleEnds", unfollowed := true, recurses := true, named := ["spandrel/term.kinds"], plainKeys := false, apart := false, laid := [("spandrel/term.kinds", laid_spandrel_term_kinds)] }
def TeleEndsSaid : Prop := teleEndsRow.holds Tryd.pinned (OpenSpec.ofChange teleEndsSpec)

/-- ITS FALSE NEIGHBOUR: 'it returns false'. Refute it at one input. -/
def teleEndsWrong : ChangeSpec := { name := "teleEnds", fn := fun _ => fun
  | [] => { results := [.lit (.bool false)], args := [] }
  | _ => none }
def TeleEndsWrongFalsely : Prop := teleEndsRow.holds Tryd.pinned (OpenSpec.ofChange teleEndsWrong)

/- THE SECOND FORM. 'bulk': how many values and letters a reading holds, each counted each time it is reached (what is shared counts as often as it is met; a slice's spare places count too). A statement '..UptoSaid' is the law's where the arguments, and the package variables that the reading takes, are together of bulk at most 1048576: NARROWER than '..Said'. Prove '..Said' where nothing that the law and all that it calls make is longer than what came in: it says more and counts as full. Else prove '..UptoSaid'. A law counts once. -/
mutual
def uptoBulk {H : Type} : DataW H → Nat
  | .lit (.string bytes) => bytes.length + 1
  | .lit _ => 1
  | .nil => 1
  | .ptr d => uptoBulk d + 1
  | .slice elems spare => uptoBulkAll elems + uptoBulkAll spare + 1
  | .agg parts => uptoBulkAll parts + 1
  | .iface _ d => uptoBulk d + 1
  | .map entries => uptoBulkEntries entries + 1
  | .held _ => 1
def uptoBulkAll {H : Type} : List (DataW H) → Nat
  | [] => 0
  | d :: r => uptoBulk d + uptoBulkAll r
def uptoBulkEntries {H : Type} : List (Lit × DataW H) → Nat
  | [] => 0
  | x :: r => uptoBulkEntry x + uptoBulkEntries r
def uptoBulkEntry {H : Type} : Lit × DataW H → Nat
  | (.string bytes, d) => bytes.length + uptoBulk d + 1
  | (_, d) => uptoBulk d + 1
 end
def uptoSmall : (H : Type) → List (DataW H) → Bool := fun _ ds => decide (uptoBulkAll ds ≤ 1048576)
def OpenSpec.upto (s : _root_.Go.ChangeSpec) : _root_.Go.OpenSpec := { _root_.Go.OpenSpec.ofChange s with cond := some uptoSmall }

/-- 'spandrellaw12.SplitShapes', WHERE WHAT IT READS IS OF BULK AT MOST 1048576: true; the input reads as it did. -/
def splitShapesUptoRow : OpenClaim := { program := "ytmedomglemllnaadoor", sum := "2455c933f785c8494ee4ab7dfc5d06fee76eab38035ec8c812919caee708f49d", func := "spandrel/spandrellaw12.SplitShapes", spec := "splitShapes", unfollowed := true, recurses := true, named := ["spandrel/term.kinds"], plainKeys := false, apart := false, laid := [("spandrel/term.kinds", laid_spandrel_term_kinds)], narrowed := true }
def SplitShapesUptoSaid : Prop := splitShapesUptoRow.holds Tryd.pinned (OpenSpec.upto splitShapesSpec)

/-- 'spandrellaw18.StrictParams', WHERE WHAT IT READS IS OF BULK AT MOST 1048576: true; the input reads as it did. -/
def strictParamsUptoRow : OpenClaim := { program := "ytmedomglemllnaadoor", sum := "2455c933f785c8494ee4ab7dfc5d06fee76eab38035ec8c812919caee708f49d", func := "spandrel/spandrellaw18.StrictParams", spec := "strictParams", unfollowed := true, recurses := true, named := ["spandrel/term.kinds"], loops := true, plainKeys := false, apart := false, laid := [("spandrel/term.kinds", laid_spandrel_term_kinds)], narrowed := true }
def StrictParamsUptoSaid : Prop := strictParamsUptoRow.holds Tryd.pinned (OpenSpec.upto strictParamsSpec)

/-- 'spandrellaw11.SourceGrows', WHERE WHAT IT READS IS OF BULK AT MOST 1048576: true; the input reads as it did. -/
def sourceGrowsUptoRow : OpenClaim := { program := "ytmedomglemllnaadoor", sum := "2455c933f785c8494ee4ab7dfc5d06fee76eab38035ec8c812919caee708f49d", func := "spandrel/spandrellaw11.SourceGrows", spec := "sourceGrows", unfollowed := true, recurses := true, named := ["spandrel/term.kinds"], loops := true, plainKeys := false, apart := false, laid := [("spandrel/term.kinds", laid_spandrel_term_kinds)], narrowed := true }
def SourceGrowsUptoSaid : Prop := sourceGrowsUptoRow.holds Tryd.pinned (OpenSpec.upto sourceGrowsSpec)

/-- 'spandrellaw11.SourceRows', WHERE WHAT IT READS IS OF BULK AT MOST 1048576: true; the input reads as it did. -/
def sourceRowsUptoRow : OpenClaim := { program := "ytmedomglemllnaadoor", sum := "2455c933f785c8494ee4ab7dfc5d06fee76eab38035ec8c812919caee708f49d", func := "spandrel/spandrellaw11.SourceRows", spec := "sourceRows", unfollowed := true, recurses := true, named := ["spandrel/term.kinds"], loops := true, plainKeys := false, apart := false, laid := [("spandrel/term.kinds", laid_spandrel_term_kinds)], narrowed := true }
def SourceRowsUptoSaid : Prop := sourceRowsUptoRow.holds Tryd.pinned (OpenSpec.upto sourceRowsSpec)

/-- 'spandrellaw12.SplitBack', WHERE WHAT IT READS IS OF BULK AT MOST 1048576: true; the input reads as it did. -/
def splitBackUptoRow : OpenClaim := { program := "ytmedomglemllnaadoor", sum := "2455c933f785c8494ee4ab7dfc5d06fee76eab38035ec8c812919caee708f49d", func := "spandrel/spandrellaw12.SplitBack", spec := "splitBack", unfollowed := true, recurses := true, named := ["spandrel/term.kinds"], loops := true, plainKeys := false, apart := false, laid := [("spandrel/term.kinds", laid_spandrel_term_kinds)], narrowed := true }
def SplitBackUptoSaid : Prop := splitBackUptoRow.holds Tryd.pinned (OpenSpec.upto splitBackSpec)

/-- 'spandrellaw04.TeleEnds', WHERE WHAT IT READS IS OF BULK AT MOST 1048576: true; the input reads as it did. -/
def teleEndsUptoRow : OpenClaim := { program := "ytmedomglemllnaadoor", sum := "2455c933f785c8494ee4ab7dfc5d06fee76eab38035ec8c812919caee708f49d", func := "spandrel/spandrellaw04.TeleEnds", spec := "teleEnds", unfollowed := true, recurses := true, named := ["spandrel/term.kinds"], plainKeys := false, apart := false, laid := [("spandrel/term.kinds", laid_spandrel_term_kinds)], narrowed := true }
def TeleEndsUptoSaid : Prop := teleEndsUptoRow.holds Tryd.pinned (OpenSpec.upto teleEndsSpec)

end Rows
end Go.Proofs.YtmedomglemllnaaDoor
