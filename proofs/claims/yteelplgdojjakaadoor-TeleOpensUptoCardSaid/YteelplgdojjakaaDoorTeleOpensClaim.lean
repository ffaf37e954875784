/- 'spandrellaw04.TeleOpens' returns true over all readable rows, terms and numbers of bulk at most the form's bound, from whatever memory, on every schedule: proved. Its further condition is the row's own: the table term.kinds holds what the program's text lays (the card ties it). -/
import Derived.Test.YteelplgdojjakaaDoorTeleOpens
import Derived.Test.YteelplgdojjakaaDoorLaw
import Derived.Test.YteelplgdojjakaaDoorTab
import Derived.Test.YteelplgdojjakaaDoorCards
import Derived.Test.YteelplgdojjakaaDoorTie
import Derived.WalkKit
import Derived.ProofKit
import Derived.OpenShut
import Derived.Deep.DeepHandedRow
import Derived.Lib.LaidTab
namespace Go.Proofs.YteelplgdojjakaaDoor.teleOpens
set_option linter.unusedSimpArgs false
set_option linter.unusedVariables false
open Go.ChangeShapes Go.WideShapes Go.ChangeAt Go.RowKit

theorem own : ownKnob Tryd.prog.godebug = none := by kernel_rfl
theorem bound {H : Type} {a b c d : DataW H} (hk : Rows.uptoSmall H ([a, b, c, d] ++ []) = true) : Rows.uptoBulk a ≤ 1048576 ∧ Rows.uptoBulk b ≤ 1048576 ∧ Rows.uptoBulk c ≤ 1048576 := by
  have h : Rows.uptoBulkAll [a, b, c, d] ≤ 1048576 := of_decide_eq_true hk
  simp only [Rows.uptoBulkAll] at h
  omega
set_option maxRecDepth 100000 in
/-- A number that came in. -/
theorem read_int {H : Type} {enc : TypeId × Value → H} {w : World} {r : Reach} {base : Nat} {v : Value} {sp : Nat → Bool} {held : Bool} {d : DataW H} {ps : List MemPlace} (hv : Value.okWide Tryd.prog w r base 3 v) (h : DataW.Trod enc Tryd.prog w 0 sp held 3 v d ps) : ∃ n : Int, v = .int .i64 n ∧ inI n := by
  obtain ⟨n, rfl⟩ := okWide_int Tryd.underlying3 hv
  obtain ⟨m, hm⟩ := h
  obtain ⟨n', h1, _, hw⟩ := DataW.trod_int Tryd.underlying3 hm
  refine ⟨n, rfl, ?_⟩
  have e : n = n' := by simpa [Value.cells] using h1
  subst e
  simpa [Lit.wf, IntKind.min, IntKind.max, IntKind.signed, IntKind.bits, inI] using hw

set_option maxRecDepth 100000 in
/-- What the walk gives, for every argument within the bound and every world that holds the table. -/
theorem contract (H : Type) (enc : TypeId × Value → H) (W : World) (base : Nat) (args : Array Value) (ds gs : List (DataW H)) (before : List MemPlace)
    (hval : ∀ (j : Nat) t v, Tryd.f5.params[j]? = some t → args[j]? = some v → Value.okWide Tryd.prog W .any base t v)
    (hW : DataW.Whole enc Tryd.prog Tryd.f5.params.toList Rows.teleOpensSpec.vars false W args.toList ds gs before) (hk : Rows.uptoSmall H (ds ++ gs) = true) (hL : laidMetH Tryd.prog Rows.teleOpensUptoRow.laid W) :
    Calls Tryd.prog 5 args W fun e W' => ∃ v, e = .returned v ∧ Rows.teleOpensSpec.post enc Tryd.prog Tryd.f5 false true false false W args v W' := by
  have hW' := hW
  have hlt := hW.lt
  obtain ⟨p, q, hA0, hV, rfl, hfz, hnd⟩ := hW
  have hA : DataW.TrodAll enc Tryd.prog W 0 (fun _ => true) true Tryd.f5.params.toList args.toList ds p := hA0
  rw [Tryd.params5] at hA hval
  obtain ⟨v0, vs0, d0, ds0, p0, q0, hargs, rfl, rfl, h0, r0⟩ := trodAll_cons hA
  obtain ⟨v1, vs1, d1, ds1, p1, q1, rfl, rfl, rfl, h1, r1⟩ := trodAll_cons r0
  obtain ⟨v2, vs2, d2, ds2, p2, q2, rfl, rfl, rfl, h2, r2⟩ := trodAll_cons r1
  obtain ⟨v3, vs3, d3, ds3, p3, q3, rfl, rfl, rfl, h3, r3⟩ := trodAll_cons r2
  obtain ⟨rfl, rfl, rfl⟩ := trodAll_nil r3
  obtain rfl : args = #[v0, v1, v2, v3] := by cases args; simp_all
  obtain ⟨rfl, rfl⟩ := trodVars_none hV
  obtain ⟨k1, k2, k3⟩ := bound hk
  obtain ⟨row, A, c, rfl, hrow, b1⟩ := read_tms (hval 0 28 v0 rfl rfl) h0 k1
  obtain ⟨t, ht, b2⟩ := read_tm (hval 1 30 v1 rfl rfl) h1 k2
  obtain ⟨by_, B, cb, rfl, hby, b3⟩ := read_tms (hval 2 28 v2 rfl rfl) h2 k3
  obtain ⟨n, rfl, hn⟩ := read_int (hval 3 3 v3 rfl rfl) h3
  clear hA0
  simp only [List.append_nil] at hW' hlt
  refine (teleOpens_calls (tab_of_laid hL) hrow ht hby n hn (by omega) (by omega) (by omega)).mono fun e W' ⟨he, hx⟩ => ?_
  subst he
  exact ⟨_, rfl, law_post (pa := p0 ++ (p1 ++ (p2 ++ (p3 ++ [])))) (pv := []) hW' hx (fun _ _ _ => trodAll_cons_mk (shut_bool Tryd.underlying4 _) trodAll_mk0)
    (fun sp hs => trodAll_cons_mk (law_arg (by kernel_rfl) (of_decide_eq_true (by kernel_rfl)) h0 (fun x hq => hlt x (by simp [hq])) hx (fun x hq => hs x (by simp [hq])))
      (trodAll_cons_mk (law_arg (by kernel_rfl) (of_decide_eq_true (by kernel_rfl)) h1 (fun x hq => hlt x (by simp [hq])) hx (fun x hq => hs x (by simp [hq])))
      (trodAll_cons_mk (law_arg (by kernel_rfl) (of_decide_eq_true (by kernel_rfl)) h2 (fun x hq => hlt x (by simp [hq])) hx (fun x hq => hs x (by simp [hq])))
      (trodAll_cons_mk (law_arg (by kernel_rfl) (of_decide_eq_true (by kernel_rfl)) h3 (fun x hq => hlt x (by simp [hq])) hx (fun x hq => hs x (by simp [hq]))) trodAll_mk0)))) (fun _ _ => rfl) (by simp)
    (ok_one (by kernel_rfl) rfl (okWide_bool_mk Tryd.underlying4 _))⟩

/-- The witness: nothing. -/
def noArgs : Array Value := #[.slice none 0 0, .agg #[.int .i64 0, .int .i64 0, .int .i64 0, .slice none 0 0, .slice none 0 0], .slice none 0 0, .int .i64 0]
def noData {H : Type} : List (DataW H) := [.nil, .agg [.lit (.int .i64 0), .lit (.int .i64 0), .lit (.int .i64 0), .nil, .nil], .nil, .lit (.int .i64 0)]
/-- A world for the witness: the settled one, the table laid. -/
noncomputable def laidWorld (os : Os) : World :=
  { World.holding Tryd.prog os ⟨#[], noArgs, []⟩ with heap := (World.holding Tryd.prog os ⟨#[], noArgs, []⟩).heap.modify 0 fun
      | .cells _ t frozen => .cells kindsC.toArray t frozen
      | o => o }
set_option maxRecDepth 100000 in
theorem laid_met (os : Os) : laidMet Tryd.prog Rows.teleOpensUptoRow.laid ((laidWorld os).forCall (fun _ _ => 0) ⟨#[], noArgs, []⟩).memory :=
  laidMet_of_run' 8 (by kernel_rfl) (by kernel_rfl)
set_option maxRecDepth 100000 in
theorem reads (os : Os) {H : Type} (enc : TypeId × Value → H) : ∃ places, DataW.whole enc Tryd.prog ((laidWorld os).forCall (fun _ _ => 0) ⟨#[], noArgs, []⟩).memory Tryd.f5.params.toList Rows.teleOpensSpec.vars false noArgs.toList 8 = some (noData, [], places) :=
  ⟨[], by kernel_rfl⟩

set_option maxRecDepth 100000 in
theorem lifted (os : Os) (started : os.Started) (H : Type) (enc : TypeId × Value → H) (F : Stop.Interp) :
    ReturnsInHanded {} Tryd.checked os 5 .any ((Rows.OpenSpec.upto Rows.teleOpensSpec).preRow enc Tryd.prog Tryd.f5 Rows.teleOpensUptoRow.domain false Rows.teleOpensUptoRow.laid) (((Rows.OpenSpec.upto Rows.teleOpensSpec).at F).post enc Tryd.prog Tryd.f5 false true false false) := by
  obtain ⟨places, hx⟩ := reads os enc
  refine returnsInHanded_of_row (C := Tryd.checked) (s := Rows.OpenSpec.upto Rows.teleOpensSpec) own started (by kernel_rfl) Tryd.func5
    (witness_row_at (enc := enc) (C := Tryd.checked) false (laidWorld os) noArgs rfl (by kernel_rfl) (by kernel_rfl) (by kernel_rfl)
      (OpenSpec.preRow_of_cond 8 hx (by kernel_rfl) (fun k hk => by cases hk; kernel_rfl) (by kernel_rfl) (laid_met os))) ?_
  intro W base args ds gs before hval hW _ hcond _ hL _ _
  exact contract H enc W base args ds gs before hval hW (hcond _ rfl) hL
set_option maxRecDepth 100000 in
theorem said : Rows.TeleOpensUptoSaid :=
  OpenClaim.holds_of_cond 5 Tryd.f5 rfl rfl rfl rfl rfl rfl rfl ⟨rfl, rfl, rfl, rfl, rfl⟩ rfl rfl rfl rfl rfl (by kernel_rfl) Tryd.func5 (by kernel_rfl)
    (of_decide_eq_true (by kernel_rfl)) (by unfold Func.isWrapper; first | (rw [if_pos (by decide +kernel)]; kernel_rfl) | (rw [if_neg (by decide +kernel)]; exact ⟨rfl, rfl⟩))
    (fun os started H enc _ F => by rw [OpenClaim.pre_eq_preRow]; exact lifted os started H enc F)
set_option maxRecDepth 100000 in
/-- No parameter wants a stand-in; the program's own looks are on: what the card asks. -/
theorem plain (f : FuncId) (fn : Func) (hf : Tryd.pinned.checked.prog.funcNamed "spandrel/spandrellaw04.TeleOpens" = some f) (hfn : Tryd.pinned.checked.prog.funcs[f]? = some fn) :
    Rows.teleOpensUptoCard.stood.looks = Tryd.pinned.checked.prog.looks [] ∧ ∀ (j : Nat) t, fn.params[j]? = some t → Tryd.pinned.checked.prog.wantsStandIn t = false := by
  obtain rfl : f = 5 := Option.some.inj ((show Tryd.prog.funcNamed "spandrel/spandrellaw04.TeleOpens" = some 5 by kernel_rfl).symm.trans hf) |>.symm
  obtain rfl : fn = Tryd.f5 := (Option.some.inj (Tryd.func5.symm.trans hfn)).symm
  refine ⟨by kernel_rfl, fun j t ht => ?_⟩
  rw [Tryd.params5] at ht
  have hm := Array.mem_of_getElem? ht
  simp only [List.mem_toArray, List.mem_cons, List.not_mem_nil, or_false] at hm
  rcases hm with rfl | rfl | rfl | rfl
  · exact (show Tryd.prog.wantsStandIn 28 = false by kernel_rfl)
  · exact (show Tryd.prog.wantsStandIn 30 = false by kernel_rfl)
  · exact (show Tryd.prog.wantsStandIn 28 = false by kernel_rfl)
  · exact (show Tryd.prog.wantsStandIn 3 = false by kernel_rfl)
theorem card : Rows.TeleOpensUptoCardSaid :=
  Claim7.holds_tied_plain_at .later [] _ _ _ _ said (fun _ h => by cases h) (by kernel_rfl) (fun _ h => by cases h) teleOpensUpto_row_tie rfl ⟨rfl, rfl⟩ (by kernel_rfl) rfl plain (by kernel_rfl)
end Go.Proofs.YteelplgdojjakaaDoor.teleOpens
