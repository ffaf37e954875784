/- carry: the constants of names of each kind: contracts. -/
import Derived.Test.YteelplgdojjakaaDoorCarry2
namespace Go.Proofs.YteelplgdojjakaaDoor
set_option linter.unusedSimpArgs false
set_option linter.unusedVariables false
open Go.RowKit

theorem nameOf_in {ds : List Dc} {at_ : List Int} {k a : Int} {j : Nat} (h1 : j < ds.length) (h2 : j < at_.length) : nameOf ds at_ k j a =
    if k = 3 then (if ds[j].kind = 1 ∨ ds[j].kind = 2 then some at_[j] else none)
    else if ds[j].kind = 3 ∧ 0 ≤ a then
      if k = 8 then (if a < ds[j].members.length then some (wrap64 (wrap64 (at_[j] + 5) + a)) else none)
      else if k = 9 then (if a < ds[j].ctors.length then some (wrap64 (wrap64 (wrap64 (at_[j] + 5) + ds[j].members.length) + a)) else none)
      else if k = 10 then (if a < ds[j].members.length then some (wrap64 (wrap64 (wrap64 (wrap64 (at_[j] + 6) + ds[j].members.length) + ds[j].ctors.length) + a)) else none)
      else none
    else none := by
  simp [nameOf, h1, h2]
theorem nameOf_out {ds : List Dc} {at_ : List Int} {k n a : Int} (h : ¬ (0 ≤ n ∧ n < ds.length ∧ n < at_.length)) : nameOf ds at_ k n a = none := by
  unfold nameOf
  by_cases h0 : 0 ≤ n
  · by_cases h1 : n < ds.length
    · rw [if_pos h0, if_pos h0, List.getElem?_eq_none (l := at_) (by omega)]
      split <;> simp_all
    · rw [if_pos h0, List.getElem?_eq_none (l := ds) (by omega)]
  · simp [h0]
theorem nameOf3 {ds : List Dc} {at_ : List Int} {a : Int} {j : Nat} (h1 : j < ds.length) (h2 : j < at_.length) : nameOf ds at_ 3 j a = if ds[j].kind = 1 ∨ ds[j].kind = 2 then some at_[j] else none := by
  rw [nameOf_in h1 h2, if_pos rfl]
theorem nameOf8 {ds : List Dc} {at_ : List Int} {a : Int} {j : Nat} (h1 : j < ds.length) (h2 : j < at_.length) : nameOf ds at_ 8 j a = if ds[j].kind = 3 ∧ 0 ≤ a ∧ a < ds[j].members.length then some (wrap64 (wrap64 (at_[j] + 5) + a)) else none := by
  rw [nameOf_in h1 h2]
  by_cases p : ds[j].kind = 3 <;> by_cases q : 0 ≤ a <;> simp [p, q]
theorem nameOf9 {ds : List Dc} {at_ : List Int} {a : Int} {j : Nat} (h1 : j < ds.length) (h2 : j < at_.length) : nameOf ds at_ 9 j a = if ds[j].kind = 3 ∧ 0 ≤ a ∧ a < ds[j].ctors.length then some (wrap64 (wrap64 (wrap64 (at_[j] + 5) + ds[j].members.length) + a)) else none := by
  rw [nameOf_in h1 h2]
  by_cases p : ds[j].kind = 3 <;> by_cases q : 0 ≤ a <;> simp [p, q]
theorem nameOf10 {ds : List Dc} {at_ : List Int} {a : Int} {j : Nat} (h1 : j < ds.length) (h2 : j < at_.length) : nameOf ds at_ 10 j a = if ds[j].kind = 3 ∧ 0 ≤ a ∧ a < ds[j].members.length then some (wrap64 (wrap64 (wrap64 (wrap64 (at_[j] + 6) + ds[j].members.length) + ds[j].ctors.length) + a)) else none := by
  rw [nameOf_in h1 h2]
  by_cases p : ds[j].kind = 3 <;> by_cases q : 0 ≤ a <;> simp [p, q]
set_option maxRecDepth 100000 in
set_option maxHeartbeats 2000000 in
theorem member_calls {w : World} {S S2 : Nat → Prop} {ds : List Dc} {at_ : List Int} {A B : Option Addr} {c c2 : Nat} {k n a : Int} {v1 v2 : Value} (h : RC w S (.l 42 16 (ds.map Dc.d)) [.slice A ds.length c]) (h2 : RC w S2 (.l 3 1 (at_.map D.i)) [.slice B at_.length c2]) :
    Calls Tryd.prog 131 #[.agg #[.slice A ds.length c, .slice B at_.length c2], .agg #[.int .i64 k, .int .i64 n, .int .i64 a, v1, v2]] w (PMay w (nameOf ds at_ 8 n a)) := by
  go_enter Tryd.func131, Tryd.ntmps131
  go_wp2_with fail
  have H := Hp.start no w
  refine callsH (by (repeat (first | with_reducible exact H | with_reducible exact H0_ | with_reducible apply Hp.alloc | with_reducible apply Hp.allocMap | with_reducible apply Hp.drew | with_reducible apply Hp.drewN | with_reducible apply Hp.set)); (try any_goals (repeat (first | with_reducible exact Upd.head | with_reducible apply Upd.tail)))) ?_
  clear H; intro w1 H; (try simp only [size_drew_, size_drewN_, World.size_alloc, World.size_setCell, List.set_cons_zero, List.set_cons_succ] at H)
  refine (of_calls (h.bd.ext0 H.ext) (h2.ext0 H.ext)).mono ?_
  rintro e w2 ⟨hx, ⟨j, h1, h2, cs, rfl, rfl, hd, hi⟩ | ⟨hn, rfl⟩⟩
  · replace hd := RC.back H.ext _ _ hd
    replace H := H.call hx
    clear hx
    obtain ⟨Am, cm, Ac, cc, hl, g0, g14, g15, hm, hc⟩ := hd.dcG
    have hlm := hm.lenM
    have hlc := hc.lenM
    have one := Lib.hid (RC.one _ _ hd)
    have HL := Lib.hid hl
    clear hl
    have hr_ := H.rules; simp only [Rules, and_true] at hr_; have hd_ := H.dif; simp only [Dif, Neq, and_true] at hd_; obtain ⟨ho_, hz_⟩ := H.old0
    go_wp2_with (first | ((with_reducible refine atStore (t := 42) ?_); go_must (refine wpList_storeH (t := 42) (cs' := cs) rfl rfl (by go_simp <;> first | rfl | exact ⟨rfl, rfl⟩) (by go_simp <;> first | rfl | exact ⟨rfl, rfl⟩) (by exact Hp.norm (by (repeat (first | with_reducible exact H | with_reducible exact H0_ | with_reducible apply Hp.alloc | with_reducible apply Hp.allocMap | with_reducible apply Hp.drew | with_reducible apply Hp.drewN | with_reducible apply Hp.set)); (try any_goals (repeat (first | with_reducible exact Upd.head | with_reducible apply Upd.tail)))) (by ((try simp only [size_drew_, size_drewN_, World.size_alloc, World.size_setCell, List.set_cons_zero, List.set_cons_succ, List.nil_append, List.cons_append]) <;> rfl))) (by (repeat (first | with_reducible exact Upd.head | with_reducible apply Upd.tail))) (by rw [HL.out]; exact aggDecl) (by rw [HL.out]; rfl) one.out ?_; clear H; intro w3 H; (try simp only [size_drew_, size_drewN_, World.size_alloc, World.size_setCell, List.set_cons_zero, List.set_cons_succ] at H); have hr2_ := H.rules; simp only [Rules, and_true] at hr2_; have hs2_ := H.ext.size)) | ((with_reducible refine atLoad (t := 42) ?_); (refine wpList_run (v := .agg (cs).toArray) rfl (run_loadL aggDecl rfl ?_ HL.out (Hp.boxlies H (by (repeat (first | with_reducible exact Pick.head | with_reducible apply Pick.tail))))) ?_); (focus (go_simp; done))))
    refine (within_calls g0).mono ?_
    rintro e w4 ⟨rfl, hx4⟩
    have hx := H.ext.seq hx4
    have E := nameOf8 (a := a) h1 h2
    by_cases hq : ds[j].kind = 3 ∧ 0 ≤ a ∧ a < ds[j].members.length
    · rw [if_pos hq]
      rw [if_pos hq] at E
      have HE := Lib.hid E
      clear E hq
      go_wp2_with fail
      go_ret
      exact ⟨by rw [HE.out]; (try simp only [wrapE]); rfl, hx⟩
    · rw [if_neg hq]
      rw [if_neg hq] at E
      exact ⟨rfl, by rw [E], hx⟩
  · exact ⟨rfl, by rw [nameOf_out hn], H.ext.seq hx⟩
set_option maxRecDepth 100000 in
set_option maxHeartbeats 2000000 in
theorem ctor_calls {w : World} {S S2 : Nat → Prop} {ds : List Dc} {at_ : List Int} {A B : Option Addr} {c c2 : Nat} {k n a : Int} {v1 v2 : Value} (h : RC w S (.l 42 16 (ds.map Dc.d)) [.slice A ds.length c]) (h2 : RC w S2 (.l 3 1 (at_.map D.i)) [.slice B at_.length c2]) :
    Calls Tryd.prog 132 #[.agg #[.slice A ds.length c, .slice B at_.length c2], .agg #[.int .i64 k, .int .i64 n, .int .i64 a, v1, v2]] w (PMay w (nameOf ds at_ 9 n a)) := by
  go_enter Tryd.func132, Tryd.ntmps132
  go_wp2_with fail
  have H := Hp.start no w
  refine callsH (by (repeat (first | with_reducible exact H | with_reducible exact H0_ | with_reducible apply Hp.alloc | with_reducible apply Hp.allocMap | with_reducible apply Hp.drew | with_reducible apply Hp.drewN | with_reducible apply Hp.set)); (try any_goals (repeat (first | with_reducible exact Upd.head | with_reducible apply Upd.tail)))) ?_
  clear H; intro w1 H; (try simp only [size_drew_, size_drewN_, World.size_alloc, World.size_setCell, List.set_cons_zero, List.set_cons_succ] at H)
  refine (of_calls (h.bd.ext0 H.ext) (h2.ext0 H.ext)).mono ?_
  rintro e w2 ⟨hx, ⟨j, h1, h2, cs, rfl, rfl, hd, hi⟩ | ⟨hn, rfl⟩⟩
  · replace hd := RC.back H.ext _ _ hd
    replace H := H.call hx
    clear hx
    obtain ⟨Am, cm, Ac, cc, hl, g0, g14, g15, hm, hc⟩ := hd.dcG
    have hlm := hm.lenM
    have hlc := hc.lenM
    have one := Lib.hid (RC.one _ _ hd)
    have HL := Lib.hid hl
    clear hl
    have hr_ := H.rules; simp only [Rules, and_true] at hr_; have hd_ := H.dif; simp only [Dif, Neq, and_true] at hd_; obtain ⟨ho_, hz_⟩ := H.old0
    go_wp2_with (first | ((with_reducible refine atStore (t := 42) ?_); go_must (refine wpList_storeH (t := 42) (cs' := cs) rfl rfl (by go_simp <;> first | rfl | exact ⟨rfl, rfl⟩) (by go_simp <;> first | rfl | exact ⟨rfl, rfl⟩) (by exact Hp.norm (by (repeat (first | with_reducible exact H | with_reducible exact H0_ | with_reducible apply Hp.alloc | with_reducible apply Hp.allocMap | with_reducible apply Hp.drew | with_reducible apply Hp.drewN | with_reducible apply Hp.set)); (try any_goals (repeat (first | with_reducible exact Upd.head | with_reducible apply Upd.tail)))) (by ((try simp only [size_drew_, size_drewN_, World.size_alloc, World.size_setCell, List.set_cons_zero, List.set_cons_succ, List.nil_append, List.cons_append]) <;> rfl))) (by (repeat (first | with_reducible exact Upd.head | with_reducible apply Upd.tail))) (by rw [HL.out]; exact aggDecl) (by rw [HL.out]; rfl) one.out ?_; clear H; intro w3 H; (try simp only [size_drew_, size_drewN_, World.size_alloc, World.size_setCell, List.set_cons_zero, List.set_cons_succ] at H); have hr2_ := H.rules; simp only [Rules, and_true] at hr2_; have hs2_ := H.ext.size)) | ((with_reducible refine atLoad (t := 42) ?_); (refine wpList_run (v := .agg (cs).toArray) rfl (run_loadL aggDecl rfl ?_ HL.out (Hp.boxlies H (by (repeat (first | with_reducible exact Pick.head | with_reducible apply Pick.tail))))) ?_); (focus (go_simp; done))))
    clear hr_ ho_ hz_ hr2_ hs2_
    refine wp_region_H 15 [false, false, false, false, false, false, false, false, false, false, false, false, false, false, false] [] H (.cons (i := 0) rfl (.cons (i := 1) rfl (.cons (i := 2) rfl .nil))) (by kernel_rfl) rfl rfl (fun H_ hR_ => ?_)
    (try clear H0_); have H0_ := H; clear H; have H := H_; clear H_
    refine wpL_take (i := 0) (v := ?v1_) rfl (by kernel_rfl) (fun _ _ _ h => h) hR_ (by rfl) (fun w_ hw_ => ?h1_) ?_
    case h1_ => have ho_ := hw_.old0.1; have hz_ := hw_.old0.2; have hr_ := hw_.rules; clear hw_; simp only [Rules, and_true] at hr_; go_split_ands; go_simp; try with_reducible rfl
    simp only [List.getElem_toArray, List.getElem_cons_zero, List.getElem_cons_succ, Act.put, List.setIfInBounds_toArray, List.set_cons_zero, List.set_cons_succ]
    refine wpL_take (i := 1) (v := ?v2_) rfl (by kernel_rfl) (fun _ _ _ h => h) hR_ (by rfl) (fun w_ hw_ => ?h2_) ?_
    case h2_ => have ho_ := hw_.old0.1; have hz_ := hw_.old0.2; have hr_ := hw_.rules; clear hw_; simp only [Rules, and_true] at hr_; go_split_ands; go_simp; try with_reducible rfl
    simp only [List.getElem_toArray, List.getElem_cons_zero, List.getElem_cons_succ, Act.put, List.setIfInBounds_toArray, List.set_cons_zero, List.set_cons_succ]
    refine wpL_take (i := 2) (v := ?v3_) rfl (by kernel_rfl) (fun _ _ _ h => h) hR_ (by rfl) (fun w_ hw_ => ?h3_) ?_
    case h3_ => have ho_ := hw_.old0.1; have hz_ := hw_.old0.2; have hr_ := hw_.rules; clear hw_; simp only [Rules, and_true] at hr_; go_split_ands; go_simp; try with_reducible rfl
    simp only [List.getElem_toArray, List.getElem_cons_zero, List.getElem_cons_succ, Act.put, List.setIfInBounds_toArray, List.set_cons_zero, List.set_cons_succ]
    refine wpL_take (i := 3) (v := ?v4_) rfl (by kernel_rfl) (fun _ _ _ h => h) hR_ (by rfl) (fun w_ hw_ => ?h4_) ?_
    case h4_ => have ho_ := hw_.old0.1; have hz_ := hw_.old0.2; have hr_ := hw_.rules; clear hw_; simp only [Rules, and_true] at hr_; go_split_ands; go_simp; try with_reducible rfl
    simp only [List.getElem_toArray, List.getElem_cons_zero, List.getElem_cons_succ, Act.put, List.setIfInBounds_toArray, List.set_cons_zero, List.set_cons_succ]
    refine wpL_take (i := 4) (v := ?v5_) rfl (by kernel_rfl) (fun _ _ _ h => h) hR_ (by rfl) (fun w_ hw_ => ?h5_) ?_
    case h5_ => have ho_ := hw_.old0.1; have hz_ := hw_.old0.2; have hr_ := hw_.rules; clear hw_; simp only [Rules, and_true] at hr_; go_split_ands; go_simp; try with_reducible rfl
    simp only [List.getElem_toArray, List.getElem_cons_zero, List.getElem_cons_succ, Act.put, List.setIfInBounds_toArray, List.set_cons_zero, List.set_cons_succ]
    refine wpL_take (i := 5) (v := ?v6_) rfl (by kernel_rfl) (fun _ _ _ h => h) hR_ (by rfl) (fun w_ hw_ => ?h6_) ?_
    case h6_ => have ho_ := hw_.old0.1; have hz_ := hw_.old0.2; have hr_ := hw_.rules; clear hw_; simp only [Rules, and_true] at hr_; go_split_ands; go_simp; try with_reducible rfl
    simp only [List.getElem_toArray, List.getElem_cons_zero, List.getElem_cons_succ, Act.put, List.setIfInBounds_toArray, List.set_cons_zero, List.set_cons_succ]
    refine wpL_take (i := 6) (v := (.agg cs.toArray)) rfl (by kernel_rfl) (fun _ _ _ h => h) hR_ (by rfl) (fun w_ hw_ => ?h7_) ?_
    case h7_ => exact run_loadL aggDecl rfl (by go_simp) HL.out (hw_.boxlies (.head _))
    simp only [List.getElem_toArray, List.getElem_cons_zero, List.getElem_cons_succ, Act.put, List.setIfInBounds_toArray, List.set_cons_zero, List.set_cons_succ]
    refine wpL_take (i := 7) (v := ?v8_) rfl (by kernel_rfl) (fun _ _ _ h => h) hR_ (by rfl) (fun w_ hw_ => ?h8_) ?_
    case h8_ => have ho_ := hw_.old0.1; have hz_ := hw_.old0.2; have hr_ := hw_.rules; clear hw_; simp only [Rules, and_true] at hr_; go_split_ands; go_simp; try with_reducible rfl
    simp only [List.getElem_toArray, List.getElem_cons_zero, List.getElem_cons_succ, Act.put, List.setIfInBounds_toArray, List.set_cons_zero, List.set_cons_succ]
    refine wpL_take (i := 8) (v := ?v9_) rfl (by kernel_rfl) (fun _ _ _ h => h) hR_ (by rfl) (fun w_ hw_ => ?h9_) ?_
    case h9_ => have ho_ := hw_.old0.1; have hz_ := hw_.old0.2; have hr_ := hw_.rules; clear hw_; simp only [Rules, and_true] at hr_; go_split_ands; go_simp; try with_reducible rfl
    simp only [List.getElem_toArray, List.getElem_cons_zero, List.getElem_cons_succ, Act.put, List.setIfInBounds_toArray, List.set_cons_zero, List.set_cons_succ]
    refine wpL_take (i := 9) (v := ?v10_) rfl (by kernel_rfl) (fun _ _ _ h => h) hR_ (by rfl) (fun w_ hw_ => ?h10_) ?_
    case h10_ => have ho_ := hw_.old0.1; have hz_ := hw_.old0.2; have hr_ := hw_.rules; clear hw_; simp only [Rules, and_true] at hr_; go_split_ands; go_simp; try with_reducible rfl
    simp only [List.getElem_toArray, List.getElem_cons_zero, List.getElem_cons_succ, Act.put, List.setIfInBounds_toArray, List.set_cons_zero, List.set_cons_succ]
    refine wpL_take (i := 10) (v := ?v11_) rfl (by kernel_rfl) (fun _ _ _ h => h) hR_ (by rfl) (fun w_ hw_ => ?h11_) ?_
    case h11_ => have ho_ := hw_.old0.1; have hz_ := hw_.old0.2; have hr_ := hw_.rules; clear hw_; simp only [Rules, and_true] at hr_; go_split_ands; go_simp; try with_reducible rfl
    simp only [List.getElem_toArray, List.getElem_cons_zero, List.getElem_cons_succ, Act.put, List.setIfInBounds_toArray, List.set_cons_zero, List.set_cons_succ]
    refine wpL_take (i := 11) (v := ?v12_) rfl (by kernel_rfl) (fun _ _ _ h => h) hR_ (by rfl) (fun w_ hw_ => ?h12_) ?_
    case h12_ => have ho_ := hw_.old0.1; have hz_ := hw_.old0.2; have hr_ := hw_.rules; clear hw_; simp only [Rules, and_true] at hr_; go_split_ands; go_simp; try with_reducible rfl
    simp only [List.getElem_toArray, List.getElem_cons_zero, List.getElem_cons_succ, Act.put, List.setIfInBounds_toArray, List.set_cons_zero, List.set_cons_succ]
    refine wpL_do (i := 12) rfl (by kernel_rfl) (by rfl) (fun K_ hK_ => ?_)
    go_simp
    refine (within_calls g0).mono ?_
    rintro e w4 ⟨rfl, hx4⟩
    have hx := H.ext.seq hx4
    have E := nameOf9 (a := a) h1 h2
    by_cases hq : ds[j].kind = 3 ∧ 0 ≤ a ∧ a < ds[j].ctors.length
    · rw [if_pos hq]
      rw [if_pos hq] at E
      have HE := Lib.hid E
      clear E hq
      refine hK_ _ _ (fun _ => (H.call hx4).sub (by simp)) (fun hR_ => ?_)
      replace hR_ := hR_ (by decide)
      refine wpL_take (i := 13) (v := ?v13_) rfl (by kernel_rfl) (fun _ _ _ h => h) hR_ (by rfl) (fun w_ hw_ => ?h13_) ?_
      case h13_ => have ho_ := hw_.old0.1; have hz_ := hw_.old0.2; have hr_ := hw_.rules; clear hw_; simp only [Rules, and_true] at hr_; go_split_ands; go_simp; try with_reducible rfl
      simp only [List.getElem_toArray, List.getElem_cons_zero, List.getElem_cons_succ, Act.put, List.setIfInBounds_toArray, List.set_cons_zero, List.set_cons_succ]
      refine wpL_take (i := 14) (v := ?v14_) rfl (by kernel_rfl) (fun _ _ _ h => h) hR_ (by rfl) (fun w_ hw_ => ?h14_) ?_
      case h14_ => have ho_ := hw_.old0.1; have hz_ := hw_.old0.2; have hr_ := hw_.rules; clear hw_; simp only [Rules, and_true] at hr_; go_split_ands; go_simp; try with_reducible rfl
      simp only [List.getElem_toArray, List.getElem_cons_zero, List.getElem_cons_succ, Act.put, List.setIfInBounds_toArray, List.set_cons_zero, List.set_cons_succ]
      refine wpL_done (by kernel_rfl) ?_ _
      go_wp2_with fail
      go_ret
      exact ⟨by rw [HE.out]; (try simp only [wrapE]); rfl, hx⟩
    · rw [if_neg hq]
      rw [if_neg hq] at E
      exact ⟨rfl, by rw [E], hx⟩
  · exact ⟨rfl, by rw [nameOf_out hn], H.ext.seq hx⟩
set_option maxRecDepth 100000 in
set_option maxHeartbeats 2000000 in
theorem recursor_calls {w : World} {S S2 : Nat → Prop} {ds : List Dc} {at_ : List Int} {A B : Option Addr} {c c2 : Nat} {k n a : Int} {v1 v2 : Value} (h : RC w S (.l 42 16 (ds.map Dc.d)) [.slice A ds.length c]) (h2 : RC w S2 (.l 3 1 (at_.map D.i)) [.slice B at_.length c2]) :
    Calls Tryd.prog 133 #[.agg #[.slice A ds.length c, .slice B at_.length c2], .agg #[.int .i64 k, .int .i64 n, .int .i64 a, v1, v2]] w (PMay w (nameOf ds at_ 10 n a)) := by
  go_enter Tryd.func133, Tryd.ntmps133
  go_wp2_with fail
  have H := Hp.start no w
  refine callsH (by (repeat (first | with_reducible exact H | with_reducible exact H0_ | with_reducible apply Hp.alloc | with_reducible apply Hp.allocMap | with_reducible apply Hp.drew | with_reducible apply Hp.drewN | with_reducible apply Hp.set)); (try any_goals (repeat (first | with_reducible exact Upd.head | with_reducible apply Upd.tail)))) ?_
  clear H; intro w1 H; (try simp only [size_drew_, size_drewN_, World.size_alloc, World.size_setCell, List.set_cons_zero, List.set_cons_succ] at H)
  refine (of_calls (h.bd.ext0 H.ext) (h2.ext0 H.ext)).mono ?_
  rintro e w2 ⟨hx, ⟨j, h1, h2, cs, rfl, rfl, hd, hi⟩ | ⟨hn, rfl⟩⟩
  · replace hd := RC.back H.ext _ _ hd
    replace H := H.call hx
    clear hx
    obtain ⟨Am, cm, Ac, cc, hl, g0, g14, g15, hm, hc⟩ := hd.dcG
    have hlm := hm.lenM
    have hlc := hc.lenM
    have one := Lib.hid (RC.one _ _ hd)
    have HL := Lib.hid hl
    clear hl
    have hr_ := H.rules; simp only [Rules, and_true] at hr_; have hd_ := H.dif; simp only [Dif, Neq, and_true] at hd_; obtain ⟨ho_, hz_⟩ := H.old0
    go_wp2_with (first | ((with_reducible refine atStore (t := 42) ?_); go_must (refine wpList_storeH (t := 42) (cs' := cs) rfl rfl (by go_simp <;> first | rfl | exact ⟨rfl, rfl⟩) (by go_simp <;> first | rfl | exact ⟨rfl, rfl⟩) (by exact Hp.norm (by (repeat (first | with_reducible exact H | with_reducible exact H0_ | with_reducible apply Hp.alloc | with_reducible apply Hp.allocMap | with_reducible apply Hp.drew | with_reducible apply Hp.drewN | with_reducible apply Hp.set)); (try any_goals (repeat (first | with_reducible exact Upd.head | with_reducible apply Upd.tail)))) (by ((try simp only [size_drew_, size_drewN_, World.size_alloc, World.size_setCell, List.set_cons_zero, List.set_cons_succ, List.nil_append, List.cons_append]) <;> rfl))) (by (repeat (first | with_reducible exact Upd.head | with_reducible apply Upd.tail))) (by rw [HL.out]; exact aggDecl) (by rw [HL.out]; rfl) one.out ?_; clear H; intro w3 H; (try simp only [size_drew_, size_drewN_, World.size_alloc, World.size_setCell, List.set_cons_zero, List.set_cons_succ] at H); have hr2_ := H.rules; simp only [Rules, and_true] at hr2_; have hs2_ := H.ext.size)) | ((with_reducible refine atLoad (t := 42) ?_); (refine wpList_run (v := .agg (cs).toArray) rfl (run_loadL aggDecl rfl ?_ HL.out (Hp.boxlies H (by (repeat (first | with_reducible exact Pick.head | with_reducible apply Pick.tail))))) ?_); (focus (go_simp; done))))
    clear hr_ ho_ hz_ hr2_ hs2_
    refine wp_region_H 19 [false, false, false, false, false, false, false, false, false, false, false, false, false, false, false, false, false, false, false] [] H (.cons (i := 0) rfl (.cons (i := 1) rfl (.cons (i := 2) rfl .nil))) (by kernel_rfl) rfl rfl (fun H_ hR_ => ?_)
    (try clear H0_); have H0_ := H; clear H; have H := H_; clear H_
    refine wpL_take (i := 0) (v := ?v15_) rfl (by kernel_rfl) (fun _ _ _ h => h) hR_ (by rfl) (fun w_ hw_ => ?h15_) ?_
    case h15_ => have ho_ := hw_.old0.1; have hz_ := hw_.old0.2; have hr_ := hw_.rules; clear hw_; simp only [Rules, and_true] at hr_; go_split_ands; go_simp; try with_reducible rfl
    simp only [List.getElem_toArray, List.getElem_cons_zero, List.getElem_cons_succ, Act.put, List.setIfInBounds_toArray, List.set_cons_zero, List.set_cons_succ]
    refine wpL_take (i := 1) (v := ?v16_) rfl (by kernel_rfl) (fun _ _ _ h => h) hR_ (by rfl) (fun w_ hw_ => ?h16_) ?_
    case h16_ => have ho_ := hw_.old0.1; have hz_ := hw_.old0.2; have hr_ := hw_.rules; clear hw_; simp only [Rules, and_true] at hr_; go_split_ands; go_simp; try with_reducible rfl
    simp only [List.getElem_toArray, List.getElem_cons_zero, List.getElem_cons_succ, Act.put, List.setIfInBounds_toArray, List.set_cons_zero, List.set_cons_succ]
    refine wpL_take (i := 2) (v := ?v17_) rfl (by kernel_rfl) (fun _ _ _ h => h) hR_ (by rfl) (fun w_ hw_ => ?h17_) ?_
    case h17_ => have ho_ := hw_.old0.1; have hz_ := hw_.old0.2; have hr_ := hw_.rules; clear hw_; simp only [Rules, and_true] at hr_; go_split_ands; go_simp; try with_reducible rfl
    simp only [List.getElem_toArray, List.getElem_cons_zero, List.getElem_cons_succ, Act.put, List.setIfInBounds_toArray, List.set_cons_zero, List.set_cons_succ]
    refine wpL_take (i := 3) (v := ?v18_) rfl (by kernel_rfl) (fun _ _ _ h => h) hR_ (by rfl) (fun w_ hw_ => ?h18_) ?_
    case h18_ => have ho_ := hw_.old0.1; have hz_ := hw_.old0.2; have hr_ := hw_.rules; clear hw_; simp only [Rules, and_true] at hr_; go_split_ands; go_simp; try with_reducible rfl
    simp only [List.getElem_toArray, List.getElem_cons_zero, List.getElem_cons_succ, Act.put, List.setIfInBounds_toArray, List.set_cons_zero, List.set_cons_succ]
    refine wpL_take (i := 4) (v := ?v19_) rfl (by kernel_rfl) (fun _ _ _ h => h) hR_ (by rfl) (fun w_ hw_ => ?h19_) ?_
    case h19_ => have ho_ := hw_.old0.1; have hz_ := hw_.old0.2; have hr_ := hw_.rules; clear hw_; simp only [Rules, and_true] at hr_; go_split_ands; go_simp; try with_reducible rfl
    simp only [List.getElem_toArray, List.getElem_cons_zero, List.getElem_cons_succ, Act.put, List.setIfInBounds_toArray, List.set_cons_zero, List.set_cons_succ]
    refine wpL_take (i := 5) (v := ?v20_) rfl (by kernel_rfl) (fun _ _ _ h => h) hR_ (by rfl) (fun w_ hw_ => ?h20_) ?_
    case h20_ => have ho_ := hw_.old0.1; have hz_ := hw_.old0.2; have hr_ := hw_.rules; clear hw_; simp only [Rules, and_true] at hr_; go_split_ands; go_simp; try with_reducible rfl
    simp only [List.getElem_toArray, List.getElem_cons_zero, List.getElem_cons_succ, Act.put, List.setIfInBounds_toArray, List.set_cons_zero, List.set_cons_succ]
    refine wpL_take (i := 6) (v := ?v21_) rfl (by kernel_rfl) (fun _ _ _ h => h) hR_ (by rfl) (fun w_ hw_ => ?h21_) ?_
    case h21_ => have ho_ := hw_.old0.1; have hz_ := hw_.old0.2; have hr_ := hw_.rules; clear hw_; simp only [Rules, and_true] at hr_; go_split_ands; go_simp; try with_reducible rfl
    simp only [List.getElem_toArray, List.getElem_cons_zero, List.getElem_cons_succ, Act.put, List.setIfInBounds_toArray, List.set_cons_zero, List.set_cons_succ]
    refine wpL_take (i := 7) (v := ?v22_) rfl (by kernel_rfl) (fun _ _ _ h => h) hR_ (by rfl) (fun w_ hw_ => ?h22_) ?_
    case h22_ => have ho_ := hw_.old0.1; have hz_ := hw_.old0.2; have hr_ := hw_.rules; clear hw_; simp only [Rules, and_true] at hr_; go_split_ands; go_simp; try with_reducible rfl
    simp only [List.getElem_toArray, List.getElem_cons_zero, List.getElem_cons_succ, Act.put, List.setIfInBounds_toArray, List.set_cons_zero, List.set_cons_succ]
    refine wpL_take (i := 8) (v := ?v23_) rfl (by kernel_rfl) (fun _ _ _ h => h) hR_ (by rfl) (fun w_ hw_ => ?h23_) ?_
    case h23_ => have ho_ := hw_.old0.1; have hz_ := hw_.old0.2; have hr_ := hw_.rules; clear hw_; simp only [Rules, and_true] at hr_; go_split_ands; go_simp; try with_reducible rfl
    simp only [List.getElem_toArray, List.getElem_cons_zero, List.getElem_cons_succ, Act.put, List.setIfInBounds_toArray, List.set_cons_zero, List.set_cons_succ]
    refine wpL_take (i := 9) (v := ?v24_) rfl (by kernel_rfl) (fun _ _ _ h => h) hR_ (by rfl) (fun w_ hw_ => ?h24_) ?_
    case h24_ => have ho_ := hw_.old0.1; have hz_ := hw_.old0.2; have hr_ := hw_.rules; clear hw_; simp only [Rules, and_true] at hr_; go_split_ands; go_simp; try with_reducible rfl
    simp only [List.getElem_toArray, List.getElem_cons_zero, List.getElem_cons_succ, Act.put, List.setIfInBounds_toArray, List.set_cons_zero, List.set_cons_succ]
    refine wpL_take (i := 10) (v := (.agg cs.toArray)) rfl (by kernel_rfl) (fun _ _ _ h => h) hR_ (by rfl) (fun w_ hw_ => ?h25_) ?_
    case h25_ => exact run_loadL aggDecl rfl (by go_simp) HL.out (hw_.boxlies (.head _))
    simp only [List.getElem_toArray, List.getElem_cons_zero, List.getElem_cons_succ, Act.put, List.setIfInBounds_toArray, List.set_cons_zero, List.set_cons_succ]
    refine wpL_take (i := 11) (v := ?v26_) rfl (by kernel_rfl) (fun _ _ _ h => h) hR_ (by rfl) (fun w_ hw_ => ?h26_) ?_
    case h26_ => have ho_ := hw_.old0.1; have hz_ := hw_.old0.2; have hr_ := hw_.rules; clear hw_; simp only [Rules, and_true] at hr_; go_split_ands; go_simp; try with_reducible rfl
    simp only [List.getElem_toArray, List.getElem_cons_zero, List.getElem_cons_succ, Act.put, List.setIfInBounds_toArray, List.set_cons_zero, List.set_cons_succ]
    refine wpL_take (i := 12) (v := ?v27_) rfl (by kernel_rfl) (fun _ _ _ h => h) hR_ (by rfl) (fun w_ hw_ => ?h27_) ?_
    case h27_ => have ho_ := hw_.old0.1; have hz_ := hw_.old0.2; have hr_ := hw_.rules; clear hw_; simp only [Rules, and_true] at hr_; go_split_ands; go_simp; try with_reducible rfl
    simp only [List.getElem_toArray, List.getElem_cons_zero, List.getElem_cons_succ, Act.put, List.setIfInBounds_toArray, List.set_cons_zero, List.set_cons_succ]
    refine wpL_take (i := 13) (v := ?v28_) rfl (by kernel_rfl) (fun _ _ _ h => h) hR_ (by rfl) (fun w_ hw_ => ?h28_) ?_
    case h28_ => have ho_ := hw_.old0.1; have hz_ := hw_.old0.2; have hr_ := hw_.rules; clear hw_; simp only [Rules, and_true] at hr_; go_split_ands; go_simp; try with_reducible rfl
    simp only [List.getElem_toArray, List.getElem_cons_zero, List.getElem_cons_succ, Act.put, List.setIfInBounds_toArray, List.set_cons_zero, List.set_cons_succ]
    refine wpL_take (i := 14) (v := ?v29_) rfl (by kernel_rfl) (fun _ _ _ h => h) hR_ (by rfl) (fun w_ hw_ => ?h29_) ?_
    case h29_ => have ho_ := hw_.old0.1; have hz_ := hw_.old0.2; have hr_ := hw_.rules; clear hw_; simp only [Rules, and_true] at hr_; go_split_ands; go_simp; try with_reducible rfl
    simp only [List.getElem_toArray, List.getElem_cons_zero, List.getElem_cons_succ, Act.put, List.setIfInBounds_toArray, List.set_cons_zero, List.set_cons_succ]
    refine wpL_take (i := 15) (v := ?v30_) rfl (by kernel_rfl) (fun _ _ _ h => h) hR_ (by rfl) (fun w_ hw_ => ?h30_) ?_
    case h30_ => have ho_ := hw_.old0.1; have hz_ := hw_.old0.2; have hr_ := hw_.rules; clear hw_; simp only [Rules, and_true] at hr_; go_split_ands; go_simp; try with_reducible rfl
    simp only [List.getElem_toArray, List.getElem_cons_zero, List.getElem_cons_succ, Act.put, List.setIfInBounds_toArray, List.set_cons_zero, List.set_cons_succ]
    refine wpL_do (i := 16) rfl (by kernel_rfl) (by rfl) (fun K_ hK_ => ?_)
    go_simp
    refine (within_calls g0).mono ?_
    rintro e w4 ⟨rfl, hx4⟩
    have hx := H.ext.seq hx4
    have E := nameOf10 (a := a) h1 h2
    by_cases hq : ds[j].kind = 3 ∧ 0 ≤ a ∧ a < ds[j].members.length
    · rw [if_pos hq]
      rw [if_pos hq] at E
      have HE := Lib.hid E
      clear E hq
      refine hK_ _ _ (fun _ => (H.call hx4).sub (by simp)) (fun hR_ => ?_)
      replace hR_ := hR_ (by decide)
      refine wpL_take (i := 17) (v := ?v31_) rfl (by kernel_rfl) (fun _ _ _ h => h) hR_ (by rfl) (fun w_ hw_ => ?h31_) ?_
      case h31_ => have ho_ := hw_.old0.1; have hz_ := hw_.old0.2; have hr_ := hw_.rules; clear hw_; simp only [Rules, and_true] at hr_; go_split_ands; go_simp; try with_reducible rfl
      simp only [List.getElem_toArray, List.getElem_cons_zero, List.getElem_cons_succ, Act.put, List.setIfInBounds_toArray, List.set_cons_zero, List.set_cons_succ]
      refine wpL_take (i := 18) (v := ?v32_) rfl (by kernel_rfl) (fun _ _ _ h => h) hR_ (by rfl) (fun w_ hw_ => ?h32_) ?_
      case h32_ => have ho_ := hw_.old0.1; have hz_ := hw_.old0.2; have hr_ := hw_.rules; clear hw_; simp only [Rules, and_true] at hr_; go_split_ands; go_simp; try with_reducible rfl
      simp only [List.getElem_toArray, List.getElem_cons_zero, List.getElem_cons_succ, Act.put, List.setIfInBounds_toArray, List.set_cons_zero, List.set_cons_succ]
      refine wpL_done (by kernel_rfl) ?_ _
      go_wp2_with fail
      go_ret
      exact ⟨by rw [HE.out]; (try simp only [wrapE]); rfl, hx⟩
    · rw [if_neg hq]
      rw [if_neg hq] at E
      exact ⟨rfl, by rw [E], hx⟩
  · exact ⟨rfl, by rw [nameOf_out hn], H.ext.seq hx⟩
set_option maxRecDepth 100000 in
set_option maxHeartbeats 2000000 in
theorem constant_calls {w : World} {S S2 : Nat → Prop} {ds : List Dc} {at_ : List Int} {A B : Option Addr} {c c2 : Nat} {k n a : Int} {v1 v2 : Value} (h : RC w S (.l 42 16 (ds.map Dc.d)) [.slice A ds.length c]) (h2 : RC w S2 (.l 3 1 (at_.map D.i)) [.slice B at_.length c2]) :
    Calls Tryd.prog 130 #[.agg #[.slice A ds.length c, .slice B at_.length c2], .agg #[.int .i64 k, .int .i64 n, .int .i64 a, v1, v2]] w (PMay w (nameOf ds at_ 3 n a)) := by
  go_enter Tryd.func130, Tryd.ntmps130
  go_wp2_with fail
  have H := Hp.start no w
  refine callsH (by (repeat (first | with_reducible exact H | with_reducible exact H0_ | with_reducible apply Hp.alloc | with_reducible apply Hp.allocMap | with_reducible apply Hp.drew | with_reducible apply Hp.drewN | with_reducible apply Hp.set)); (try any_goals (repeat (first | with_reducible exact Upd.head | with_reducible apply Upd.tail)))) ?_
  clear H; intro w1 H; (try simp only [size_drew_, size_drewN_, World.size_alloc, World.size_setCell, List.set_cons_zero, List.set_cons_succ] at H)
  refine (of_calls (h.bd.ext0 H.ext) (h2.ext0 H.ext)).mono ?_
  rintro e w2 ⟨hx, ⟨j, h1, h2, cs, rfl, rfl, hd, hi⟩ | ⟨hn, rfl⟩⟩
  · replace hd := RC.back H.ext _ _ hd
    replace H := H.call hx
    clear hx
    obtain ⟨Am, cm, Ac, cc, hl, g0, g14, g15, hm, hc⟩ := hd.dcG
    have hlm := hm.lenM
    have hlc := hc.lenM
    have one := Lib.hid (RC.one _ _ hd)
    have HL := Lib.hid hl
    clear hl
    have hr_ := H.rules; simp only [Rules, and_true] at hr_; have hd_ := H.dif; simp only [Dif, Neq, and_true] at hd_; obtain ⟨ho_, hz_⟩ := H.old0
    have E := nameOf3 (a := a) h1 h2
    by_cases q1 : ds[j].kind = 1
    · have g1 : (ds[j].kind == 1) = true := by simpa using q1
      rw [if_pos (.inl q1)] at E
      have HE := Lib.hid E
      clear E q1
      go_wp2_with (first | ((with_reducible refine atStore (t := 42) ?_); go_must (refine wpList_storeH (t := 42) (cs' := cs) rfl rfl (by go_simp <;> first | rfl | exact ⟨rfl, rfl⟩) (by go_simp <;> first | rfl | exact ⟨rfl, rfl⟩) (by exact Hp.norm (by (repeat (first | with_reducible exact H | with_reducible exact H0_ | with_reducible apply Hp.alloc | with_reducible apply Hp.allocMap | with_reducible apply Hp.drew | with_reducible apply Hp.drewN | with_reducible apply Hp.set)); (try any_goals (repeat (first | with_reducible exact Upd.head | with_reducible apply Upd.tail)))) (by ((try simp only [size_drew_, size_drewN_, World.size_alloc, World.size_setCell, List.set_cons_zero, List.set_cons_succ, List.nil_append, List.cons_append]) <;> rfl))) (by (repeat (first | with_reducible exact Upd.head | with_reducible apply Upd.tail))) (by rw [HL.out]; exact aggDecl) (by rw [HL.out]; rfl) one.out ?_; clear H; intro w3 H; (try simp only [size_drew_, size_drewN_, World.size_alloc, World.size_setCell, List.set_cons_zero, List.set_cons_succ] at H); have hr2_ := H.rules; simp only [Rules, and_true] at hr2_; have hs2_ := H.ext.size)) | ((with_reducible refine atLoad (t := 42) ?_); (refine wpList_run (v := .agg (cs).toArray) rfl (run_loadL aggDecl rfl ?_ HL.out (Hp.boxlies H (by (repeat (first | with_reducible exact Pick.head | with_reducible apply Pick.tail))))) ?_); (focus (go_simp; done))))
      refine callsH (by (repeat (first | with_reducible exact H | with_reducible exact H0_ | with_reducible apply Hp.alloc | with_reducible apply Hp.allocMap | with_reducible apply Hp.drew | with_reducible apply Hp.drewN | with_reducible apply Hp.set)); (try any_goals (repeat (first | with_reducible exact Upd.head | with_reducible apply Upd.tail)))) ?_
      clear H; intro w4 H; (try simp only [size_drew_, size_drewN_, World.size_alloc, World.size_setCell, List.set_cons_zero, List.set_cons_succ] at H)
      refine (must_calls (Blk.truths1 (H.blk .head)) rfl).mono ?_
      rintro e w5 ⟨rfl, hx5⟩
      have hx := H.ext.seq hx5
      simp only [List.all_cons, List.all_nil, id, Bool.and_true, if_true]
      go_wp2_with fail
      go_ret
      exact ⟨by rw [HE.out]; rfl, hx⟩
    · have g1 : (ds[j].kind == 1) = false := by simpa using q1
      have E2 : ∀ q : Bool, (ds[j].kind == 2) = q → nameOf ds at_ 3 j a = if q then some at_[j] else none := by
        rintro q rfl
        rw [E]
        simp [q1]
      have HE := Lib.hid E2
      clear E E2 q1
      go_wp2_with (first | ((with_reducible refine atStore (t := 42) ?_); go_must (refine wpList_storeH (t := 42) (cs' := cs) rfl rfl (by go_simp <;> first | rfl | exact ⟨rfl, rfl⟩) (by go_simp <;> first | rfl | exact ⟨rfl, rfl⟩) (by exact Hp.norm (by (repeat (first | with_reducible exact H | with_reducible exact H0_ | with_reducible apply Hp.alloc | with_reducible apply Hp.allocMap | with_reducible apply Hp.drew | with_reducible apply Hp.drewN | with_reducible apply Hp.set)); (try any_goals (repeat (first | with_reducible exact Upd.head | with_reducible apply Upd.tail)))) (by ((try simp only [size_drew_, size_drewN_, World.size_alloc, World.size_setCell, List.set_cons_zero, List.set_cons_succ, List.nil_append, List.cons_append]) <;> rfl))) (by (repeat (first | with_reducible exact Upd.head | with_reducible apply Upd.tail))) (by rw [HL.out]; exact aggDecl) (by rw [HL.out]; rfl) one.out ?_; clear H; intro w3 H; (try simp only [size_drew_, size_drewN_, World.size_alloc, World.size_setCell, List.set_cons_zero, List.set_cons_succ] at H); have hr2_ := H.rules; simp only [Rules, and_true] at hr2_; have hs2_ := H.ext.size)) | ((with_reducible refine atLoad (t := 42) ?_); (refine wpList_run (v := .agg (cs).toArray) rfl (run_loadL aggDecl rfl ?_ HL.out (Hp.boxlies H (by (repeat (first | with_reducible exact Pick.head | with_reducible apply Pick.tail))))) ?_); (focus (go_simp; done))))
      refine callsH (by (repeat (first | with_reducible exact H | with_reducible exact H0_ | with_reducible apply Hp.alloc | with_reducible apply Hp.allocMap | with_reducible apply Hp.drew | with_reducible apply Hp.drewN | with_reducible apply Hp.set)); (try any_goals (repeat (first | with_reducible exact Upd.head | with_reducible apply Upd.tail)))) ?_
      clear H; intro w4 H; (try simp only [size_drew_, size_drewN_, World.size_alloc, World.size_setCell, List.set_cons_zero, List.set_cons_succ] at H)
      refine (must_calls (Blk.truths1 (H.blk .head)) rfl).mono ?_
      rintro e w5 ⟨rfl, hx5⟩
      have hx := H.ext.seq hx5
      simp only [List.all_cons, List.all_nil, id, Bool.and_true]
      cases hq : (ds[j].kind == 2)
      · exact ⟨rfl, by rw [HE.out _ hq]; rfl, hx⟩
      · have HQ := Lib.hid hq
        clear hq
        simp only [if_true]
        go_wp2_with fail
        go_ret
        exact ⟨by rw [HE.out _ HQ.out]; rfl, hx⟩
  · exact ⟨rfl, by rw [nameOf_out hn], H.ext.seq hx⟩
end Go.Proofs.YteelplgdojjakaaDoor
