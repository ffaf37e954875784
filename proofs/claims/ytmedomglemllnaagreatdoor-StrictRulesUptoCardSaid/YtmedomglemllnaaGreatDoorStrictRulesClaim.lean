/- 'spandrellaw18.StrictRules' returns true over all readable arguments of bulk at most the form's bound (two rows of declarations, a declaration, numbers), from whatever memory, on every schedule: proved. Its further condition is the row's own: the table term.kinds holds what the program's text lays (the card ties it). -/
import Derived.Test.YtmedomglemllnaaGreatDoorL18g
import Derived.Test.YtmedomglemllnaaGreatDoorSr5
import Derived.Test.YtmedomglemllnaaGreatDoorLaw
import Derived.Test.YtmedomglemllnaaGreatDoorRead
import Derived.Test.YtmedomglemllnaaGreatDoorTab
import Derived.Test.YtmedomglemllnaaGreatDoorCards
import Derived.Test.YtmedomglemllnaaGreatDoorTie
import Derived.WalkKit
import Derived.ProofKit
import Derived.OpenShut
import Derived.Deep.DeepHandedRow
import Derived.Lib.LaidTab
namespace Go.Proofs.YtmedomglemllnaaGreatDoor.strictRules
set_option linter.unusedSimpArgs false
set_option linter.unusedVariables false
open Go.ChangeShapes Go.WideShapes Go.ChangeAt Go.RowKit

theorem own : ownKnob Tryz.prog.godebug = none := by kernel_rfl
theorem bound {H : Type} {a0 a1 a2 a3 a4 : DataW H} (hk : Rows.uptoSmall H ([a0, a1, a2, a3, a4] ++ []) = true) : Rows.uptoBulk a0 ≤ 1048576 ∧ Rows.uptoBulk a1 ≤ 1048576 ∧ Rows.uptoBulk a2 ≤ 1048576 := by
  have h : Rows.uptoBulkAll [a0, a1, a2, a3, a4] ≤ 1048576 := of_decide_eq_true hk
  simp only [Rows.uptoBulkAll] at h
  omega
theorem lenDs {row : List Dc} {k : Nat} (h : D.bulks (row.map Dc.d) < k) (h2 : k ≤ 1048576) : row.length ≤ 1048576 := by
  have h3 := D.len_bulks (row.map Dc.d)
  rw [List.length_map] at h3
  omega
set_option maxRecDepth 100000 in
theorem read_int {H : Type} {enc : TypeId × Value → H} {w : World} {r : Reach} {base : Nat} {v : Value} {sp : Nat → Bool} {held : Bool} {d : DataW H} {ps : List MemPlace} (hv : Value.okWide Tryz.prog w r base 3 v) (h : DataW.Trod enc Tryz.prog w 0 sp held 3 v d ps) : ∃ n : Int, v = .int .i64 n ∧ inI n := by
  obtain ⟨n, rfl⟩ := okWide_int Tryz.underlying3 hv
  obtain ⟨m, hm⟩ := h
  obtain ⟨n', h1, _, hw⟩ := DataW.trod_int Tryz.underlying3 hm
  refine ⟨n, rfl, ?_⟩
  have e : n = n' := by simpa [Value.cells] using h1
  subst e
  simpa [Lit.wf, IntKind.min, IntKind.max, IntKind.signed, IntKind.bits, inI] using hw
set_option maxRecDepth 100000 in
theorem contract (H : Type) (enc : TypeId × Value → H) (W : World) (base : Nat) (args : Array Value) (ds gs : List (DataW H)) (before : List MemPlace)
    (hval : ∀ (j : Nat) t v, Tryz.f8.params[j]? = some t → args[j]? = some v → Value.okWide Tryz.prog W .any base t v)
    (hW : DataW.Whole enc Tryz.prog Tryz.f8.params.toList Rows.strictRulesSpec.vars false W args.toList ds gs before) (hk : Rows.uptoSmall H (ds ++ gs) = true) (hL : laidMetH Tryz.prog Rows.strictRulesUptoRow.laid W) :
    Calls Tryz.prog 8 args W fun e W' => ∃ v, e = .returned v ∧ Rows.strictRulesSpec.post enc Tryz.prog Tryz.f8 false true false false W args v W' := by
  have hW' := hW
  have hlt := hW.lt
  obtain ⟨p, q, hA0, hV, rfl, hfz, hnd⟩ := hW
  have hA : DataW.TrodAll enc Tryz.prog W 0 (fun _ => true) true Tryz.f8.params.toList args.toList ds p := hA0
  rw [Tryz.params8] at hA hval
  obtain ⟨v0, vs0, d0, ds0, p0, q0, hargs, rfl, rfl, h0, r0⟩ := trodAll_cons hA
  obtain ⟨v1, vs1, d1, ds1, p1, q1, rfl, rfl, rfl, h1, r1⟩ := trodAll_cons r0
  obtain ⟨v2, vs2, d2, ds2, p2, q2, rfl, rfl, rfl, h2, r2⟩ := trodAll_cons r1
  obtain ⟨v3, vs3, d3, ds3, p3, q3, rfl, rfl, rfl, h3, r3⟩ := trodAll_cons r2
  obtain ⟨v4, vs4, d4, ds4, p4, q4, rfl, rfl, rfl, h4, r4⟩ := trodAll_cons r3
  obtain ⟨rfl, rfl, rfl⟩ := trodAll_nil r4
  obtain rfl : args = #[v0, v1, v2, v3, v4] := by cases args; simp_all
  obtain ⟨rfl, rfl⟩ := trodVars_none hV
  obtain ⟨k0, k1, k2⟩ := bound hk
  obtain ⟨x0, A0, c0, rfl, hx0, b0⟩ := read_dcs (hval 0 43 v0 rfl rfl) h0 k0
  obtain ⟨x1, A1, c1, rfl, hx1, b1⟩ := read_dcs (hval 1 43 v1 rfl rfl) h1 k1
  obtain ⟨x2, cs2, rfl, hx2, b2⟩ := read_dc (hval 2 51 v2 rfl rfl) h2 k2
  obtain ⟨n3, rfl, hn3⟩ := read_int (hval 3 3 v3 rfl rfl) h3
  obtain ⟨n4, rfl, hn4⟩ := read_int (hval 4 3 v4 rfl rfl) h4
  clear hA0
  simp only [List.append_nil] at hW' hlt
  refine (strictRules_calls (tab_of_laid hL) hx0 hx1 hx2 (lenDs b0 k0) (lenDs b1 k1) (fun x hx => by have := bulks_memP (List.mem_map_of_mem (f := Dc.d) hx); omega) (fun x hx => by have := bulks_memP (List.mem_map_of_mem (f := Dc.d) hx); omega) (by omega)).mono fun e W' ⟨he, hx⟩ => ?_
  subst he
  exact ⟨_, rfl, law_post (pa := p0 ++ (p1 ++ (p2 ++ (p3 ++ (p4 ++ []))))) (pv := []) hW' hx (fun _ _ _ => trodAll_cons_mk (shut_bool Tryz.underlying4 _) trodAll_mk0)
    (fun sp hs => trodAll_cons_mk (law_arg (by kernel_rfl) (of_decide_eq_true (by kernel_rfl)) h0 (fun x hq => hlt x (by simp [hq])) hx (fun x hq => hs x (by simp [hq])))
      (trodAll_cons_mk (law_arg (by kernel_rfl) (of_decide_eq_true (by kernel_rfl)) h1 (fun x hq => hlt x (by simp [hq])) hx (fun x hq => hs x (by simp [hq])))
      (trodAll_cons_mk (law_arg (by kernel_rfl) (of_decide_eq_true (by kernel_rfl)) h2 (fun x hq => hlt x (by simp [hq])) hx (fun x hq => hs x (by simp [hq])))
      (trodAll_cons_mk (law_arg (by kernel_rfl) (of_decide_eq_true (by kernel_rfl)) h3 (fun x hq => hlt x (by simp [hq])) hx (fun x hq => hs x (by simp [hq])))
      (trodAll_cons_mk (law_arg (by kernel_rfl) (of_decide_eq_true (by kernel_rfl)) h4 (fun x hq => hlt x (by simp [hq])) hx (fun x hq => hs x (by simp [hq]))) trodAll_mk0))))) (fun _ _ => rfl) (by simp)
    (ok_one (by kernel_rfl) rfl (okWide_bool_mk Tryz.underlying4 _))⟩

def noArgs : Array Value := #[.slice none 0 0, .slice none 0 0, .agg #[.int .i64 0, .int .i64 0, .int .i64 0, .int .i64 0, .int .i64 0, .slice none 0 0, .slice none 0 0, .int .i64 0, .int .i64 0, .int .i64 0, .slice none 0 0, .slice none 0 0, .slice none 0 0, .slice none 0 0, .slice none 0 0, .slice none 0 0], .int .i64 0, .int .i64 0]
def noData {H : Type} : List (DataW H) := [.nil, .nil, .agg [.lit (.int .i64 0), .lit (.int .i64 0), .agg [.lit (.int .i64 0), .lit (.int .i64 0), .lit (.int .i64 0), .nil, .nil], .agg [.lit (.int .i64 0), .lit (.int .i64 0), .lit (.int .i64 0), .nil, .nil], .nil, .agg [.nil], .nil, .nil], .lit (.int .i64 0), .lit (.int .i64 0)]
noncomputable def laidWorld (os : Os) : World :=
  { World.holding Tryz.prog os ⟨#[], noArgs, []⟩ with heap := (World.holding Tryz.prog os ⟨#[], noArgs, []⟩).heap.modify 0 fun
      | .cells _ t frozen => .cells kindsC.toArray t frozen
      | o => o }
set_option maxRecDepth 100000 in
theorem laid_met (os : Os) : laidMet Tryz.prog Rows.strictRulesUptoRow.laid ((laidWorld os).forCall (fun _ _ => 0) ⟨#[], noArgs, []⟩).memory :=
  laidMet_of_run' 8 (by kernel_rfl) (by kernel_rfl)
set_option maxRecDepth 100000 in
theorem reads (os : Os) {H : Type} (enc : TypeId × Value → H) : ∃ places, DataW.whole enc Tryz.prog ((laidWorld os).forCall (fun _ _ => 0) ⟨#[], noArgs, []⟩).memory Tryz.f8.params.toList Rows.strictRulesSpec.vars false noArgs.toList 8 = some (noData, [], places) :=
  ⟨[], by kernel_rfl⟩

set_option maxRecDepth 100000 in
theorem lifted (os : Os) (started : os.Started) (H : Type) (enc : TypeId × Value → H) (F : Stop.Interp) :
    ReturnsInHanded {} Tryz.checked os 8 .any ((Rows.OpenSpec.upto Rows.strictRulesSpec).preRow enc Tryz.prog Tryz.f8 Rows.strictRulesUptoRow.domain false Rows.strictRulesUptoRow.laid) (((Rows.OpenSpec.upto Rows.strictRulesSpec).at F).post enc Tryz.prog Tryz.f8 false true false false) := by
  obtain ⟨places, hx⟩ := reads os enc
  refine returnsInHanded_of_row (C := Tryz.checked) (s := Rows.OpenSpec.upto Rows.strictRulesSpec) own started (by kernel_rfl) Tryz.func8
    (witness_row_at (enc := enc) (C := Tryz.checked) false (laidWorld os) noArgs rfl (by kernel_rfl) (by kernel_rfl) (by kernel_rfl)
      (OpenSpec.preRow_of_cond 8 hx (by kernel_rfl) (fun k hk => by cases hk; kernel_rfl) (by kernel_rfl) (laid_met os))) ?_
  intro W base args ds gs before hval hW _ hcond _ hL _ _
  exact contract H enc W base args ds gs before hval hW (hcond _ rfl) hL
set_option maxRecDepth 100000 in
theorem said : Rows.StrictRulesUptoSaid :=
  OpenClaim.holds_of_cond 8 Tryz.f8 rfl rfl rfl rfl rfl rfl rfl ⟨rfl, rfl, rfl, rfl, rfl⟩ rfl rfl rfl rfl rfl (by kernel_rfl) Tryz.func8 (by kernel_rfl)
    (of_decide_eq_true (by kernel_rfl)) (by unfold Func.isWrapper; first | (rw [if_pos (by decide +kernel)]; kernel_rfl) | (rw [if_neg (by decide +kernel)]; exact ⟨rfl, rfl⟩))
    (fun os started H enc _ F => by rw [OpenClaim.pre_eq_preRow]; exact lifted os started H enc F)
set_option maxRecDepth 100000 in
theorem plain (f : FuncId) (fn : Func) (hf : Tryz.pinned.checked.prog.funcNamed "spandrel/spandrellaw18.StrictRules" = some f) (hfn : Tryz.pinned.checked.prog.funcs[f]? = some fn) :
    Rows.strictRulesUptoCard.stood.looks = Tryz.pinned.checked.prog.looks [] ∧ ∀ (j : Nat) t, fn.params[j]? = some t → Tryz.pinned.checked.prog.wantsStandIn t = false := by
  obtain rfl : f = 8 := Option.some.inj ((show Tryz.prog.funcNamed "spandrel/spandrellaw18.StrictRules" = some 8 by kernel_rfl).symm.trans hf) |>.symm
  obtain rfl : fn = Tryz.f8 := (Option.some.inj (Tryz.func8.symm.trans hfn)).symm
  refine ⟨by kernel_rfl, fun j t ht => ?_⟩
  rw [Tryz.params8] at ht
  have hm := Array.mem_of_getElem? ht
  simp only [List.mem_toArray, List.mem_cons, List.not_mem_nil, or_false] at hm
  rcases hm with rfl | rfl | rfl | rfl | rfl
  · exact (show Tryz.prog.wantsStandIn 43 = false by kernel_rfl)
  · exact (show Tryz.prog.wantsStandIn 43 = false by kernel_rfl)
  · exact (show Tryz.prog.wantsStandIn 51 = false by kernel_rfl)
  · exact (show Tryz.prog.wantsStandIn 3 = false by kernel_rfl)
  · exact (show Tryz.prog.wantsStandIn 3 = false by kernel_rfl)
theorem card : Rows.StrictRulesUptoCardSaid :=
  Claim7.holds_tied_plain_at .later [] _ _ _ _ said (fun _ h => by cases h) (by kernel_rfl) (fun _ h => by cases h) strictRulesUpto_row_tie rfl ⟨rfl, rfl⟩ (by kernel_rfl) rfl plain (by kernel_rfl)
end Go.Proofs.YtmedomglemllnaaGreatDoor.strictRules
