/- carry: the declaration and the base of a name: contract. -/
import Derived.Test.YteelplgdojjakaaDoorCarry1
import Derived.Test.YteelplgdojjakaaDoorHp
namespace Go.Proofs.YteelplgdojjakaaDoor
set_option linter.unusedSimpArgs false
set_option linter.unusedVariables false
open Go.RowKit

/-- The declaration and the base, or absent is thrown. -/
def POf (w : World) (S : Nat → Prop) (ds : List Dc) (at_ : List Int) (n : Int) (e : Ending) (w' : World) : Prop := Ext no w w' ∧
  ((∃ (j : Nat) (h1 : j < ds.length) (h2 : j < at_.length) (cs : List Value), n = j ∧ e = .returned (.tuple #[.agg cs.toArray, .int .i64 at_[j]]) ∧ RC w S ds[j].d cs ∧ inI at_[j]) ∨ (¬ (0 ≤ n ∧ n < ds.length ∧ n < at_.length) ∧ e = .panicked absent))
theorem in_of {ds : List Dc} {at_ : List Int} {n : Int} (h : [decide (0 ≤ n), decide (n < (ds.length : Int)), decide (n < (at_.length : Int))].all id = true) : ∃ j : Nat, n = j ∧ j < ds.length ∧ j < at_.length := by
  simp at h
  exact ⟨n.toNat, by omega, by omega, by omega⟩
set_option maxRecDepth 100000 in
set_option maxHeartbeats 2000000 in
theorem of_calls {w : World} {S S2 : Nat → Prop} {ds : List Dc} {at_ : List Int} {A B : Option Addr} {c c2 : Nat} {k n a : Int} {v1 v2 : Value} (h : RC w S (.l 42 16 (ds.map Dc.d)) [.slice A ds.length c]) (h2 : RC w S2 (.l 3 1 (at_.map D.i)) [.slice B at_.length c2]) :
    Calls Tryd.prog 167 #[.agg #[.slice A ds.length c, .slice B at_.length c2], .agg #[.int .i64 k, .int .i64 n, .int .i64 a, v1, v2]] w (POf w S ds at_ n) := by
  have hM := h.lenM
  have hM2 := h2.lenM
  go_enter Tryd.func167, Tryd.ntmps167
  go_wp2_with fail
  have H := Hp.start no w
  refine callsH (by (repeat (first | with_reducible exact H | with_reducible exact H0_ | with_reducible apply Hp.alloc | with_reducible apply Hp.allocMap | with_reducible apply Hp.drew | with_reducible apply Hp.drewN | with_reducible apply Hp.set)); (try any_goals (repeat (first | with_reducible exact Upd.head | with_reducible apply Upd.tail)))) ?_
  clear H; intro w1 H; (try simp only [size_drew_, size_drewN_, World.size_alloc, World.size_setCell, List.set_cons_zero, List.set_cons_succ] at H)
  refine (must_calls (Blk.truths3 (H.blk .head)) rfl).mono ?_
  rintro e w2 ⟨he, hx⟩
  replace H := H.call hx
  clear hx
  cases hq : [decide (0 ≤ n), decide (n < (ds.length : Int)), decide (n < (at_.length : Int))].all id
  · rw [hq] at he
    obtain rfl := he
    have HQ := Lib.hid hq
    have HX := Lib.hid H
    clear hq H
    go_wp2_with fail
    refine ⟨rfl, HX.out.ext, .inr ⟨?_, rfl⟩⟩
    have := HQ.out
    simp at this
    omega
  · rw [hq] at he
    obtain rfl := he
    obtain ⟨j, rfl, hj1, hj2⟩ := in_of hq
    clear hq
    obtain ⟨b, o, cs, rfl, hb, hS, hd, hl, hcell⟩ := h.el (i := j) (d := ds[j].d) (by simp [hj1])
    obtain ⟨b', o', rfl, hb', hS', hi, q0⟩ := h2.atInt hj2
    have HI := Lib.hid hcell
    have HX := Lib.hid hl
    clear hcell hl
    have hr_ := H.rules; simp only [Rules, and_true] at hr_; have hd_ := H.dif; simp only [Dif, Neq, and_true] at hd_; obtain ⟨ho_, hz_⟩ := H.old0
    go_wp2_with fail
    clear hr_ ho_ hz_
    refine wp_region_H 14 [false, false, false, false, false, false, false, false, false, false, false, false, false, false] [] H (.cons (i := 2) rfl (.cons (i := 3) rfl .nil)) (by kernel_rfl) rfl rfl (fun H_ hR_ => ?_)
    (try clear H0_); have H0_ := H; clear H; have H := H_; clear H_
    refine wpL_take (i := 0) (v := ?v1_) rfl (by kernel_rfl) (fun _ _ _ h => h) hR_ (by rfl) (fun w_ hw_ => ?h1_) ?_
    case h1_ => have ho_ := hw_.old0.1; have hz_ := hw_.old0.2; have hr_ := hw_.rules; clear hw_; simp only [Rules, and_true] at hr_; go_split_ands; go_simp; try with_reducible rfl
    simp only [List.getElem_toArray, List.getElem_cons_zero, List.getElem_cons_succ, Act.put, List.setIfInBounds_toArray, List.set_cons_zero, List.set_cons_succ]
    refine wpL_take (i := 1) (v := ?v2_) rfl (by kernel_rfl) (fun _ _ _ h => h) hR_ (by rfl) (fun w_ hw_ => ?h2_) ?_
    case h2_ => have ho_ := hw_.old0.1; have hz_ := hw_.old0.2; have hr_ := hw_.rules; clear hw_; simp only [Rules, and_true] at hr_; go_split_ands; go_simp; try with_reducible rfl
    simp only [List.getElem_toArray, List.getElem_cons_zero, List.getElem_cons_succ, Act.put, List.setIfInBounds_toArray, List.set_cons_zero, List.set_cons_succ]
    refine wpL_take (i := 2) (v := ?v3_) rfl (by kernel_rfl) (fun _ _ _ h => h) hR_ (by rfl) (fun w_ hw_ => ?h3_) ?_
    case h3_ => have ho_ := hw_.old0.1; have hz_ := hw_.old0.2; have hr_ := hw_.rules; clear hw_; simp only [Rules, and_true] at hr_; go_split_ands; go_simp; try with_reducible rfl
    simp only [List.getElem_toArray, List.getElem_cons_zero, List.getElem_cons_succ, Act.put, List.setIfInBounds_toArray, List.set_cons_zero, List.set_cons_succ]
    refine wpL_take (i := 3) (v := ?v4_) rfl (by kernel_rfl) (fun _ _ _ h => h) hR_ (by rfl) (fun w_ hw_ => ?h4_) ?_
    case h4_ => have ho_ := hw_.old0.1; have hz_ := hw_.old0.2; have hr_ := hw_.rules; clear hw_; simp only [Rules, and_true] at hr_; go_split_ands; go_simp; try with_reducible rfl
    simp only [List.getElem_toArray, List.getElem_cons_zero, List.getElem_cons_succ, Act.put, List.setIfInBounds_toArray, List.set_cons_zero, List.set_cons_succ]
    refine wpL_take (i := 4) (v := ?v5_) rfl (by kernel_rfl) (fun _ _ _ h => h) hR_ (by rfl) (fun w_ hw_ => ?h5_) ?_
    case h5_ => have ho_ := hw_.old0.1; have hz_ := hw_.old0.2; have hr_ := hw_.rules; clear hw_; simp only [Rules, and_true] at hr_; go_split_ands; go_simp; try with_reducible rfl
    simp only [List.getElem_toArray, List.getElem_cons_zero, List.getElem_cons_succ, Act.put, List.setIfInBounds_toArray, List.set_cons_zero, List.set_cons_succ]
    refine wpL_take (i := 5) (v := (.agg cs.toArray)) rfl (by kernel_rfl) (fun _ _ _ h => h) hR_ (by rfl) (fun w_ hw_ => ?h6_) ?_
    case h6_ => exact run_loadL aggDecl rfl (by go_simp) HX.out (hw_.lies hb no_not HI.out)
    simp only [List.getElem_toArray, List.getElem_cons_zero, List.getElem_cons_succ, Act.put, List.setIfInBounds_toArray, List.set_cons_zero, List.set_cons_succ]
    refine wpL_take (i := 6) (v := ?v7_) rfl (by kernel_rfl) (fun _ _ _ h => h) hR_ (by rfl) (fun w_ hw_ => ?h7_) ?_
    case h7_ => have ho_ := hw_.old0.1; have hz_ := hw_.old0.2; have hr_ := hw_.rules; clear hw_; simp only [Rules, and_true] at hr_; go_split_ands; go_simp; try with_reducible rfl
    simp only [List.getElem_toArray, List.getElem_cons_zero, List.getElem_cons_succ, Act.put, List.setIfInBounds_toArray, List.set_cons_zero, List.set_cons_succ]
    refine wpL_take (i := 7) (v := ?v8_) rfl (by kernel_rfl) (fun _ _ _ h => h) hR_ (by rfl) (fun w_ hw_ => ?h8_) ?_
    case h8_ => have ho_ := hw_.old0.1; have hz_ := hw_.old0.2; have hr_ := hw_.rules; clear hw_; simp only [Rules, and_true] at hr_; go_split_ands; go_simp; try with_reducible rfl
    simp only [List.getElem_toArray, List.getElem_cons_zero, List.getElem_cons_succ, Act.put, List.setIfInBounds_toArray, List.set_cons_zero, List.set_cons_succ]
    refine wpL_take (i := 8) (v := ?v9_) rfl (by kernel_rfl) (fun _ _ _ h => h) hR_ (by rfl) (fun w_ hw_ => ?h9_) ?_
    case h9_ => have ho_ := hw_.old0.1; have hz_ := hw_.old0.2; have hr_ := hw_.rules; clear hw_; simp only [Rules, and_true] at hr_; go_split_ands; go_simp; try with_reducible rfl
    simp only [List.getElem_toArray, List.getElem_cons_zero, List.getElem_cons_succ, Act.put, List.setIfInBounds_toArray, List.set_cons_zero, List.set_cons_succ]
    refine wpL_take (i := 9) (v := ?v10_) rfl (by kernel_rfl) (fun _ _ _ h => h) hR_ (by rfl) (fun w_ hw_ => ?h10_) ?_
    case h10_ => have ho_ := hw_.old0.1; have hz_ := hw_.old0.2; have hr_ := hw_.rules; clear hw_; simp only [Rules, and_true] at hr_; go_split_ands; go_simp; try with_reducible rfl
    simp only [List.getElem_toArray, List.getElem_cons_zero, List.getElem_cons_succ, Act.put, List.setIfInBounds_toArray, List.set_cons_zero, List.set_cons_succ]
    refine wpL_take (i := 10) (v := ?v11_) rfl (by kernel_rfl) (fun _ _ _ h => h) hR_ (by rfl) (fun w_ hw_ => ?h11_) ?_
    case h11_ => have ho_ := hw_.old0.1; have hz_ := hw_.old0.2; have hr_ := hw_.rules; clear hw_; simp only [Rules, and_true] at hr_; go_split_ands; go_simp; try with_reducible rfl
    simp only [List.getElem_toArray, List.getElem_cons_zero, List.getElem_cons_succ, Act.put, List.setIfInBounds_toArray, List.set_cons_zero, List.set_cons_succ]
    refine wpL_take (i := 11) (v := ?v12_) rfl (by kernel_rfl) (fun _ _ _ h => h) hR_ (by rfl) (fun w_ hw_ => ?h12_) ?_
    case h12_ => have ho_ := hw_.old0.1; have hz_ := hw_.old0.2; have hr_ := hw_.rules; clear hw_; simp only [Rules, and_true] at hr_; go_split_ands; go_simp; try with_reducible rfl
    simp only [List.getElem_toArray, List.getElem_cons_zero, List.getElem_cons_succ, Act.put, List.setIfInBounds_toArray, List.set_cons_zero, List.set_cons_succ]
    refine wpL_do (i := 12) rfl (by kernel_rfl) (by rfl) (fun K_ hK_ => ?_)
    refine wp_storeH (x := .tmp 4) (y := .tmp 28) (g := w.heap.size + 1 + 1) (cs' := cs) rfl (by go_simp) (by go_simp) H (.tail .head) (by rw [HX.out]; exact aggDecl) (by rw [HX.out]; rfl) (RC.one _ _ hd) (fun w3 H => ?_)
    refine hK_ _ _ (fun _ => H.sub (by simp)) (fun hR_ => ?_)
    replace hR_ := hR_ (by decide)
    refine wpL_take (i := 13) (v := ?v13_) rfl (by kernel_rfl) (fun _ _ _ h => h) hR_ (by rfl) (fun w_ hw_ => ?h13_) ?_
    case h13_ => have ho_ := hw_.old0.1; have hz_ := hw_.old0.2; have hr_ := hw_.rules; clear hw_; simp only [Rules, and_true] at hr_; go_split_ands; go_simp; try with_reducible rfl
    simp only [List.getElem_toArray, List.getElem_cons_zero, List.getElem_cons_succ, Act.put, List.setIfInBounds_toArray, List.set_cons_zero, List.set_cons_succ]
    refine wpL_done (by kernel_rfl) ?_ _
    have hr_ := H.rules
    simp only [Rules, and_true] at hr_
    go_wp2_with fail
    refine bodyPost_ret (v := .tuple #[.agg cs.toArray, .int .i64 at_[j]]) (Res.two Tryd.results167 (H.resBox (.tail .head) aggDecl HX.out rfl) rfl) rfl ⟨H.ext, .inl ⟨j, hj1, hj2, cs, rfl, rfl, hd, hi⟩⟩
end Go.Proofs.YteelplgdojjakaaDoor
