/- StrictRules: from the guard on. No statement of the seat is proved here. -/
import Derived.Test.YtmedomglemllnaaGreatDoorSr3
namespace Go.Proofs.YtmedomglemllnaaGreatDoor
set_option linter.unusedSimpArgs false
set_option linter.unusedVariables false
open Go.RowKit

set_option maxRecDepth 100000 in
set_option maxHeartbeats 16000000 in
theorem srA {w W : World} {S S1 S3 : Nat → Prop} {ds wd : List Dc} {d : Dc} {A0 Aw : Option Addr} {c cw gd : Nat} {Aty Kty Abody Kbody Aparams Asort Amembers Actors : Option Addr} {cty kty cbody kbody cparams csort cmembers cctors : Nat} {num ai : Int} {x1 x2 x5 x6 x8 x9 x10 x12 x13 x14 x15 x16 x17 x18 x19 x20 x21 x22 x23 x24 x25 x26 x27 x28 x29 x30 x31 x32 x33 x34 x35 x36 x37 x38 x39 x40 x41 x42 x43 x44 x45 x46 x47 x48 x49 x50 x51 x52 x53 x54 x55 x56 x57 x58 x59 x60 x61 x62 x63 x64 x65 x66 x67 x68 x69 x70 x71 x72 x73 x74 x75 x76 x77 : Value}
    (hT : Tab w) (hx : Ext no w W) (hds : RC w S (.l 51 16 (ds.map Dc.d)) [.slice A0 ds.length c]) (hwd : RC W S3 (.l 51 16 (wd.map Dc.d)) [.slice Aw wd.length cw]) (hd : RC w S1 d.d [.int .i64 d.kind, .int .i64 d.levels, .int .i64 d.ty.k, .int .i64 d.ty.n, .int .i64 d.ty.a, .slice Aty d.ty.ls.length cty, .slice Kty d.ty.ks.length kty, .int .i64 d.body.k, .int .i64 d.body.n, .int .i64 d.body.a, .slice Abody d.body.ls.length cbody, .slice Kbody d.body.ks.length kbody, .slice Aparams d.params.length cparams, .slice Asort d.sort.length csort, .slice Amembers d.members.length cmembers, .slice Actors d.ctors.length cctors]) (hbd : Blk W gd 51 [.int .i64 d.kind, .int .i64 d.levels, .int .i64 d.ty.k, .int .i64 d.ty.n, .int .i64 d.ty.a, .slice Aty d.ty.ls.length cty, .slice Kty d.ty.ks.length kty, .int .i64 d.body.k, .int .i64 d.body.n, .int .i64 d.body.a, .slice Abody d.body.ls.length cbody, .slice Kbody d.body.ks.length kbody, .slice Aparams d.params.length cparams, .slice Asort d.sort.length csort, .slice Amembers d.members.length cmembers, .slice Actors d.ctors.length cctors].toArray) (sm : ∀ x ∈ wd, SmDc x) (smd : SmDc d) (hwl : Wide ds wd d) (hln : wd.length ≤ 4194304)
    (hpp : ∀ x ∈ wd ++ [d], x.params.length ≤ 4000000 ∧ ∀ m ∈ x.members, m.index.length ≤ 4000000) :
    (fromF 4 (Tryz.f8.body.getD .skip)).wp Tryz.prog (bodyPost Tryz.prog Tryz.f8 (PV w (.bool true))) { tmps := #[.slice A0 ds.length c, x1, x2, .int .i64 num, .int .i64 ai, x5, x6, .pointer (some ⟨gd, 0, none⟩), x8, x9, x10, .slice Aw wd.length cw, x12, x13, x14, x15, x16, x17, x18, x19, x20, x21, x22, x23, x24, x25, x26, x27, x28, x29, x30, x31, x32, x33, x34, x35, x36, x37, x38, x39, x40, x41, x42, x43, x44, x45, x46, x47, x48, x49, x50, x51, x52, x53, x54, x55, x56, x57, x58, x59, x60, x61, x62, x63, x64, x65, x66, x67, x68, x69, x70, x71, x72, x73, x74, x75, x76, x77], defers := [] } W := by
  have HT0 := Lib.hid hT
  have HH0 := Lib.hid hds
  have HD0 := Lib.hid hd
  have HX := Lib.hid hx
  have HD := Lib.hid (hd.ext0 hx)
  have HW := Lib.hid hwd
  have HBD := Lib.hid hbd
  have HSM := Lib.hid sm
  have HSMD := Lib.hid smd
  have HWL := Lib.hid hwl
  have HLN := Lib.hid hln
  have HPP := Lib.hid hpp
  obtain ⟨u0, u1, u2, u3, u4, u5, u6, u7, u8, u9, u10, u11, u12, u13, u14, u15⟩ := hbd.cells16
  have lb := hbd.lt
  clear hT hx hds hwd hd hbd sm smd hwl hln hpp
  conv => arg 2; whnf
  have H := Hp.start no W
  by_cases h8 : (8 : Int) < (wd.length : Int)
  · have e8 : decide ((8 : Int) < (wd.length : Int)) = true := decide_eq_true h8
    clear h8
    have hr_ := H.rules; simp only [Rules, and_true] at hr_; have hd_ := H.dif; simp only [Dif, Neq, and_true] at hd_; obtain ⟨ho_, hz_⟩ := H.old0
    go_wp2_with fail
    (try clear hr_ hd_ ho_ hz_)
    refine regionH (by (repeat (first | with_reducible exact H | with_reducible exact H0_ | with_reducible apply Hp.alloc | with_reducible apply Hp.allocMap | with_reducible apply Hp.drew | with_reducible apply Hp.drewN | with_reducible apply Hp.set)); (try any_goals (repeat (first | with_reducible exact Upd.head | with_reducible apply Upd.tail)))) ?_
    clear H; intro w2 H; (try simp only [size_drew_, size_drewN_, World.size_alloc, World.size_setCell, List.set_cons_zero, List.set_cons_succ] at H)
    refine wp_region_H 12 [false, false, false, false, false, false, false, false, false, false, false, false] [] H .nil (by kernel_rfl) rfl rfl (fun H_ hR_ => ?_)
    (try clear H0_); have H0_ := H; clear H; have H := H_; clear H_
    refine wpL_reads (is := [(0, ?v1_0), (1, ?v1_1), (2, ?v1_2), (3, ?v1_3), (4, ?v1_4), (5, ?v1_5), (6, ?v1_6), (7, ?v1_7), (8, ?v1_8), (9, ?v1_9), (10, ?v1_10), (11, ?v1_11)]) (by kernel_rfl) (Nat.le_of_ble_eq_true rfl) (by intro _ _ d_ _ _ h_; cases d_ <;> exact h_) (by kernel_rfl) hR_ (fun w_ hw_ => ?h1_) ?_
    case h1_ =>
      have ho_ := hw_.old0.1; have hz_ := hw_.old0.2; have hr_ := hw_.rules; clear hw_; simp only [Rules, and_true] at hr_; go_split_ands
      (repeat (first | with_reducible exact RdOps.nil | (refine RdOps.run rfl (by rfl) ?_ ?_; (focus (first | (go_simp; done) | (go_simp; with_reducible rfl))); simp only [List.getElem_toArray, List.getElem_cons_zero, List.getElem_cons_succ, Act.put, List.setIfInBounds_toArray, List.set_cons_zero, List.set_cons_succ]) | (refine RdOps.skip rfl (by rfl) ?_ ?_; (focus (with_reducible rfl)); simp only [List.getElem_toArray, List.getElem_cons_zero, List.getElem_cons_succ, Act.put, List.setIfInBounds_toArray, List.set_cons_zero, List.set_cons_succ])))
    simp only [rdMark, rdAct, List.map_cons, List.map_nil, List.length_cons, List.length_nil, Nat.reduceAdd, Nat.reduceSub, Nat.zero_add, List.getElem?_toArray, List.getElem?_cons_zero, List.getElem?_cons_succ, Option.bind_some, Act.put, List.setIfInBounds_toArray, List.set_cons_zero, List.set_cons_succ]
    refine wpL_done (by kernel_rfl) ?_ _
    go_wp2_with fail
    go_ret
    exact ⟨rfl, HX.out.seq H.ext⟩
  · have e8 : decide ((8 : Int) < (wd.length : Int)) = false := decide_eq_false h8
    clear h8
    have hr_ := H.rules; simp only [Rules, and_true] at hr_; have hd_ := H.dif; simp only [Dif, Neq, and_true] at hd_; obtain ⟨ho_, hz_⟩ := H.old0
    go_wp2_with fail
    (try clear hr_ hd_ ho_ hz_)
    refine regionH (by (repeat (first | with_reducible exact H | with_reducible exact H0_ | with_reducible apply Hp.alloc | with_reducible apply Hp.allocMap | with_reducible apply Hp.drew | with_reducible apply Hp.drewN | with_reducible apply Hp.set)); (try any_goals (repeat (first | with_reducible exact Upd.head | with_reducible apply Upd.tail)))) ?_
    clear H; intro w2 H; (try simp only [size_drew_, size_drewN_, World.size_alloc, World.size_setCell, List.set_cons_zero, List.set_cons_succ] at H)
    refine wp_region_H 12 [false, false, false, false, false, false, false, false, false, false, false, false] [] H .nil (by kernel_rfl) rfl rfl (fun H_ hR_ => ?_)
    (try clear H0_); have H0_ := H; clear H; have H := H_; clear H_
    refine wpL_reads (is := [(0, ?v2_0), (1, ?v2_1), (2, ?v2_2), (3, ?v2_3), (5, ?v2_4), (7, ?v2_5)]) (by kernel_rfl) (Nat.le_of_ble_eq_true rfl) (by intro _ _ d_ _ _ h_; cases d_ <;> exact h_) (by kernel_rfl) hR_ (fun w_ hw_ => ?h2_) ?_
    case h2_ =>
      have ho_ := hw_.old0.1; have hz_ := hw_.old0.2; have hr_ := hw_.rules; clear hw_; simp only [Rules, and_true] at hr_; go_split_ands
      (repeat (first | with_reducible exact RdOps.nil | (refine RdOps.run rfl (by rfl) ?_ ?_; (focus (first | (go_simp; done) | (go_simp; with_reducible rfl))); simp only [List.getElem_toArray, List.getElem_cons_zero, List.getElem_cons_succ, Act.put, List.setIfInBounds_toArray, List.set_cons_zero, List.set_cons_succ]) | (refine RdOps.skip rfl (by rfl) ?_ ?_; (focus (with_reducible rfl)); simp only [List.getElem_toArray, List.getElem_cons_zero, List.getElem_cons_succ, Act.put, List.setIfInBounds_toArray, List.set_cons_zero, List.set_cons_succ])))
    simp only [rdMark, rdAct, List.map_cons, List.map_nil, List.length_cons, List.length_nil, Nat.reduceAdd, Nat.reduceSub, Nat.zero_add, List.getElem?_toArray, List.getElem?_cons_zero, List.getElem?_cons_succ, Option.bind_some, Act.put, List.setIfInBounds_toArray, List.set_cons_zero, List.set_cons_succ]
    refine wpL_many (is := [4, 8]) (by kernel_rfl) (by simp) ?_
    simp only [List.forall_mem_cons]
    refine ⟨?_, ?_, fun _ h => by cases h⟩
    · refine wpOp_do (i := 4) rfl (by rfl) (fun K_ hK_ => ?_)
      go_simp
      refine kontH (by (repeat (first | with_reducible exact H | with_reducible exact H0_ | with_reducible apply Hp.alloc | with_reducible apply Hp.allocMap | with_reducible apply Hp.drew | with_reducible apply Hp.drewN | with_reducible apply Hp.set)); (try any_goals (repeat (first | with_reducible exact Upd.head | with_reducible apply Upd.tail)))) ?_
      clear H; intro wb_ H; (try simp only [size_drew_, size_drewN_, World.size_alloc, World.size_setCell, List.set_cons_zero, List.set_cons_succ] at H)
      replace H := H.boxRow0P (e := 51) (z := 16) (by (repeat (first | with_reducible exact Pick.head | with_reducible apply Pick.tail)))
      refine hK_ _ _ (fun _ => H.sub (by simp)) (fun hR_ => ?_)
      replace hR_ := hR_ (by decide)
      refine wpL_many (is := [6, 8]) (by kernel_rfl) (by simp) ?_
      simp only [List.forall_mem_cons]
      refine ⟨?_, ?_, fun _ h => by cases h⟩
      · refine wpOp_do (i := 6) rfl (by rfl) (fun K_ hK_ => ?_)
        refine wp_pushRs (.tmp 25) (.tmp 26) 43 rfl stDcs (by go_simp <;> first | rfl | exact ⟨rfl, rfl⟩) (by go_simp <;> first | rfl | exact ⟨rfl, rfl⟩) H (by (repeat (first | with_reducible exact Pick.head | with_reducible apply Pick.tail))) (HW.out.oldP H.ext) ?_ ?_
        focus (have := HLN.out; simp [M]; omega)
        clear H; intro v1 w5 H
        obtain ⟨P1, p1_, rfl, _, _, _⟩ := (H.rowRd (by (repeat (first | with_reducible exact Pick.head | with_reducible apply Pick.tail)))).slice
        rw [List.nil_append, List.length_map] at H
        (try rw [List.nil_append, List.length_map])
        refine hK_ _ _ (fun _ => H.sub (by simp)) (fun hR_ => ?_)
        replace hR_ := hR_ (by decide)
        simp only [List.getElem_toArray, List.getElem_cons_zero, List.getElem_cons_succ, Act.put, List.setIfInBounds_toArray, List.set_cons_zero, List.set_cons_succ]
        refine wpL_do (i := 8) rfl (by kernel_rfl) (by rfl) (fun K_ hK_ => ?_)
        go_simp
        refine kontH (by (repeat (first | with_reducible exact H | with_reducible exact H0_ | with_reducible apply Hp.alloc | with_reducible apply Hp.allocMap | with_reducible apply Hp.drew | with_reducible apply Hp.drewN | with_reducible apply Hp.set)); (try any_goals (repeat (first | with_reducible exact Upd.head | with_reducible apply Upd.tail)))) ?_
        clear H; intro wb_ H; (try simp only [size_drew_, size_drewN_, World.size_alloc, World.size_setCell, List.set_cons_zero, List.set_cons_succ] at H)
        refine hK_ _ _ (fun _ => H.sub (by simp)) (fun hR_ => ?_)
        replace hR_ := hR_ (by decide)
        refine wpL_do (i := 9) rfl (by kernel_rfl) (by rfl) (fun K_ hK_ => ?_)
        refine wp_pushR (.tmp 27) (.tmp 29) 43 rfl stDcs (by go_simp <;> first | rfl | exact ⟨rfl, rfl⟩) (by go_simp <;> first | rfl | exact ⟨rfl, rfl⟩) H (by (repeat (first | with_reducible exact Pick.head | with_reducible apply Pick.tail))) (by (repeat (first | with_reducible exact Pick.head | with_reducible apply Pick.tail))) (HD.out.oldP H.ext) (Dc.size_d _) ?_ ?_
        focus (have := HLN.out; simp [M]; omega)
        clear H; intro v2 w6 H
        rw [show wd.map Dc.d ++ [d.d] = (wd ++ [d]).map Dc.d by simp] at H
        obtain ⟨P2, p2_, rfl, _, _, _⟩ := (H.rowRd (by (repeat (first | with_reducible exact Pick.head | with_reducible apply Pick.tail)))).slice
        rw [show ((wd ++ [d]).map Dc.d).length = wd.length + 1 by simp] at H
        (try rw [show ((wd ++ [d]).map Dc.d).length = wd.length + 1 by simp])
        refine hK_ _ _ (fun _ => H.sub (by simp)) (fun hR_ => ?_)
        replace hR_ := hR_ (by decide)
        simp only [List.getElem_toArray, List.getElem_cons_zero, List.getElem_cons_succ, Act.put, List.setIfInBounds_toArray, List.set_cons_zero, List.set_cons_succ]
        refine wpL_do (i := 10) rfl (by kernel_rfl) (by rfl) (fun K_ hK_ => ?_)
        go_simp
        have hrow := H.rowRd (e := 51) (z := 16) (ds := (wd ++ [d]).map Dc.d) (v := .slice P2 (wd.length + 1) p2_) (by (repeat (first | with_reducible exact Pick.head | with_reducible apply Pick.tail)))
        have hgr := great18_calls (ds := wd ++ [d]) (A0 := P2) (c := p2_) (by rw [List.length_append, List.length_singleton]; exact hrow) HPP.out
        rw [List.length_append, List.length_singleton] at hgr
        refine hgr.mono ?_
        clear hrow hgr
        rintro e w_ ⟨z, rfl, hx⟩
        replace H := H.call hx
        clear hx
        refine hK_ _ _ (fun _ => H.sub (by simp)) (fun hR_ => ?_)
        replace hR_ := hR_ (by decide)
        refine wpL_reads (is := [(11, ?v3_0)]) (by kernel_rfl) (Nat.le_of_ble_eq_true rfl) (by intro _ _ d_ _ _ h_; cases d_ <;> exact h_) (by kernel_rfl) hR_ (fun w_ hw_ => ?h3_) ?_
        case h3_ =>
          have ho_ := hw_.old0.1; have hz_ := hw_.old0.2; have hr_ := hw_.rules; clear hw_; simp only [Rules, and_true] at hr_; go_split_ands
          (repeat (first | with_reducible exact RdOps.nil | (refine RdOps.run rfl (by rfl) ?_ ?_; (focus (first | (go_simp; done) | (go_simp; with_reducible rfl))); simp only [List.getElem_toArray, List.getElem_cons_zero, List.getElem_cons_succ, Act.put, List.setIfInBounds_toArray, List.set_cons_zero, List.set_cons_succ]) | (refine RdOps.skip rfl (by rfl) ?_ ?_; (focus (with_reducible rfl)); simp only [List.getElem_toArray, List.getElem_cons_zero, List.getElem_cons_succ, Act.put, List.setIfInBounds_toArray, List.set_cons_zero, List.set_cons_succ])))
        simp only [rdMark, rdAct, List.map_cons, List.map_nil, List.length_cons, List.length_nil, Nat.reduceAdd, Nat.reduceSub, Nat.zero_add, List.getElem?_toArray, List.getElem?_cons_zero, List.getElem?_cons_succ, Option.bind_some, Act.put, List.setIfInBounds_toArray, List.set_cons_zero, List.set_cons_succ]
        refine wpL_done (by kernel_rfl) ?_ _
        have HX2 := Lib.hid H.ext
        clear H
        cases z
        · repeat ((fail_if_success (with_reducible (first | show Code.wp _ (Code.seq (Code.region 6 _ _) _) _ _ _ | show Code.wp _ (Code.seq (Code.seq (Code.region 6 _ _) _) _) _ _ _))); go_step)
          exact srB HT0.out (HX.out.seq HX2.out) HH0.out (HW.out.ext0 HX2.out) HD0.out (HBD.out.ext0 HX2.out) HSM.out HSMD.out HWL.out
        · go_wp2_with fail
          go_ret
          exact ⟨rfl, HX.out.seq HX2.out⟩
      · refine wpOp_do (i := 8) rfl (by rfl) (fun K_ hK_ => ?_)
        go_simp
        refine kontH (by (repeat (first | with_reducible exact H | with_reducible exact H0_ | with_reducible apply Hp.alloc | with_reducible apply Hp.allocMap | with_reducible apply Hp.drew | with_reducible apply Hp.drewN | with_reducible apply Hp.set)); (try any_goals (repeat (first | with_reducible exact Upd.head | with_reducible apply Upd.tail)))) ?_
        clear H; intro wb_ H; (try simp only [size_drew_, size_drewN_, World.size_alloc, World.size_setCell, List.set_cons_zero, List.set_cons_succ] at H)
        refine hK_ _ _ (fun _ => H.sub (by simp)) (fun hR_ => ?_)
        replace hR_ := hR_ (by decide)
        refine wpL_do (i := 6) rfl (by kernel_rfl) (by rfl) (fun K_ hK_ => ?_)
        refine wp_pushRs (.tmp 25) (.tmp 26) 43 rfl stDcs (by go_simp <;> first | rfl | exact ⟨rfl, rfl⟩) (by go_simp <;> first | rfl | exact ⟨rfl, rfl⟩) H (by (repeat (first | with_reducible exact Pick.head | with_reducible apply Pick.tail))) (HW.out.oldP H.ext) ?_ ?_
        focus (have := HLN.out; simp [M]; omega)
        clear H; intro v1 w5 H
        obtain ⟨P1, p1_, rfl, _, _, _⟩ := (H.rowRd (by (repeat (first | with_reducible exact Pick.head | with_reducible apply Pick.tail)))).slice
        rw [List.nil_append, List.length_map] at H
        (try rw [List.nil_append, List.length_map])
        refine hK_ _ _ (fun _ => H.sub (by simp)) (fun hR_ => ?_)
        replace hR_ := hR_ (by decide)
        simp only [List.getElem_toArray, List.getElem_cons_zero, List.getElem_cons_succ, Act.put, List.setIfInBounds_toArray, List.set_cons_zero, List.set_cons_succ]
        refine wpL_do (i := 9) rfl (by kernel_rfl) (by rfl) (fun K_ hK_ => ?_)
        refine wp_pushR (.tmp 27) (.tmp 29) 43 rfl stDcs (by go_simp <;> first | rfl | exact ⟨rfl, rfl⟩) (by go_simp <;> first | rfl | exact ⟨rfl, rfl⟩) H (by (repeat (first | with_reducible exact Pick.head | with_reducible apply Pick.tail))) (by (repeat (first | with_reducible exact Pick.head | with_reducible apply Pick.tail))) (HD.out.oldP H.ext) (Dc.size_d _) ?_ ?_
        focus (have := HLN.out; simp [M]; omega)
        clear H; intro v2 w6 H
        rw [show wd.map Dc.d ++ [d.d] = (wd ++ [d]).map Dc.d by simp] at H
        obtain ⟨P2, p2_, rfl, _, _, _⟩ := (H.rowRd (by (repeat (first | with_reducible exact Pick.head | with_reducible apply Pick.tail)))).slice
        rw [show ((wd ++ [d]).map Dc.d).length = wd.length + 1 by simp] at H
        (try rw [show ((wd ++ [d]).map Dc.d).length = wd.length + 1 by simp])
        refine hK_ _ _ (fun _ => H.sub (by simp)) (fun hR_ => ?_)
        replace hR_ := hR_ (by decide)
        simp only [List.getElem_toArray, List.getElem_cons_zero, List.getElem_cons_succ, Act.put, List.setIfInBounds_toArray, List.set_cons_zero, List.set_cons_succ]
        refine wpL_do (i := 10) rfl (by kernel_rfl) (by rfl) (fun K_ hK_ => ?_)
        go_simp
        have hrow := H.rowRd (e := 51) (z := 16) (ds := (wd ++ [d]).map Dc.d) (v := .slice P2 (wd.length + 1) p2_) (by (repeat (first | with_reducible exact Pick.head | with_reducible apply Pick.tail)))
        have hgr := great18_calls (ds := wd ++ [d]) (A0 := P2) (c := p2_) (by rw [List.length_append, List.length_singleton]; exact hrow) HPP.out
        rw [List.length_append, List.length_singleton] at hgr
        refine hgr.mono ?_
        clear hrow hgr
        rintro e w_ ⟨z, rfl, hx⟩
        replace H := H.call hx
        clear hx
        refine hK_ _ _ (fun _ => H.sub (by simp)) (fun hR_ => ?_)
        replace hR_ := hR_ (by decide)
        refine wpL_reads (is := [(11, ?v4_0)]) (by kernel_rfl) (Nat.le_of_ble_eq_true rfl) (by intro _ _ d_ _ _ h_; cases d_ <;> exact h_) (by kernel_rfl) hR_ (fun w_ hw_ => ?h4_) ?_
        case h4_ =>
          have ho_ := hw_.old0.1; have hz_ := hw_.old0.2; have hr_ := hw_.rules; clear hw_; simp only [Rules, and_true] at hr_; go_split_ands
          (repeat (first | with_reducible exact RdOps.nil | (refine RdOps.run rfl (by rfl) ?_ ?_; (focus (first | (go_simp; done) | (go_simp; with_reducible rfl))); simp only [List.getElem_toArray, List.getElem_cons_zero, List.getElem_cons_succ, Act.put, List.setIfInBounds_toArray, List.set_cons_zero, List.set_cons_succ]) | (refine RdOps.skip rfl (by rfl) ?_ ?_; (focus (with_reducible rfl)); simp only [List.getElem_toArray, List.getElem_cons_zero, List.getElem_cons_succ, Act.put, List.setIfInBounds_toArray, List.set_cons_zero, List.set_cons_succ])))
        simp only [rdMark, rdAct, List.map_cons, List.map_nil, List.length_cons, List.length_nil, Nat.reduceAdd, Nat.reduceSub, Nat.zero_add, List.getElem?_toArray, List.getElem?_cons_zero, List.getElem?_cons_succ, Option.bind_some, Act.put, List.setIfInBounds_toArray, List.set_cons_zero, List.set_cons_succ]
        refine wpL_done (by kernel_rfl) ?_ _
        have HX2 := Lib.hid H.ext
        clear H
        cases z
        · repeat ((fail_if_success (with_reducible (first | show Code.wp _ (Code.seq (Code.region 6 _ _) _) _ _ _ | show Code.wp _ (Code.seq (Code.seq (Code.region 6 _ _) _) _) _ _ _))); go_step)
          exact srB HT0.out (HX.out.seq HX2.out) HH0.out (HW.out.ext0 HX2.out) HD0.out (HBD.out.ext0 HX2.out) HSM.out HSMD.out HWL.out
        · go_wp2_with fail
          go_ret
          exact ⟨rfl, HX.out.seq HX2.out⟩
    · refine wpOp_do (i := 8) rfl (by rfl) (fun K_ hK_ => ?_)
      go_simp
      refine kontH (by (repeat (first | with_reducible exact H | with_reducible exact H0_ | with_reducible apply Hp.alloc | with_reducible apply Hp.allocMap | with_reducible apply Hp.drew | with_reducible apply Hp.drewN | with_reducible apply Hp.set)); (try any_goals (repeat (first | with_reducible exact Upd.head | with_reducible apply Upd.tail)))) ?_
      clear H; intro wb_ H; (try simp only [size_drew_, size_drewN_, World.size_alloc, World.size_setCell, List.set_cons_zero, List.set_cons_succ] at H)
      refine hK_ _ _ (fun _ => H.sub (by simp)) (fun hR_ => ?_)
      replace hR_ := hR_ (by decide)
      refine wpL_do (i := 4) rfl (by kernel_rfl) (by rfl) (fun K_ hK_ => ?_)
      go_simp
      refine kontH (by (repeat (first | with_reducible exact H | with_reducible exact H0_ | with_reducible apply Hp.alloc | with_reducible apply Hp.allocMap | with_reducible apply Hp.drew | with_reducible apply Hp.drewN | with_reducible apply Hp.set)); (try any_goals (repeat (first | with_reducible exact Upd.head | with_reducible apply Upd.tail)))) ?_
      clear H; intro wb_ H; (try simp only [size_drew_, size_drewN_, World.size_alloc, World.size_setCell, List.set_cons_zero, List.set_cons_succ] at H)
      replace H := H.boxRow0P (e := 51) (z := 16) (by (repeat (first | with_reducible exact Pick.head | with_reducible apply Pick.tail)))
      refine hK_ _ _ (fun _ => H.sub (by simp)) (fun hR_ => ?_)
      replace hR_ := hR_ (by decide)
      refine wpL_do (i := 6) rfl (by kernel_rfl) (by rfl) (fun K_ hK_ => ?_)
      refine wp_pushRs (.tmp 25) (.tmp 26) 43 rfl stDcs (by go_simp <;> first | rfl | exact ⟨rfl, rfl⟩) (by go_simp <;> first | rfl | exact ⟨rfl, rfl⟩) H (by (repeat (first | with_reducible exact Pick.head | with_reducible apply Pick.tail))) (HW.out.oldP H.ext) ?_ ?_
      focus (have := HLN.out; simp [M]; omega)
      clear H; intro v1 w5 H
      obtain ⟨P1, p1_, rfl, _, _, _⟩ := (H.rowRd (by (repeat (first | with_reducible exact Pick.head | with_reducible apply Pick.tail)))).slice
      rw [List.nil_append, List.length_map] at H
      (try rw [List.nil_append, List.length_map])
      refine hK_ _ _ (fun _ => H.sub (by simp)) (fun hR_ => ?_)
      replace hR_ := hR_ (by decide)
      simp only [List.getElem_toArray, List.getElem_cons_zero, List.getElem_cons_succ, Act.put, List.setIfInBounds_toArray, List.set_cons_zero, List.set_cons_succ]
      refine wpL_do (i := 9) rfl (by kernel_rfl) (by rfl) (fun K_ hK_ => ?_)
      refine wp_pushR (.tmp 27) (.tmp 29) 43 rfl stDcs (by go_simp <;> first | rfl | exact ⟨rfl, rfl⟩) (by go_simp <;> first | rfl | exact ⟨rfl, rfl⟩) H (by (repeat (first | with_reducible exact Pick.head | with_reducible apply Pick.tail))) (by (repeat (first | with_reducible exact Pick.head | with_reducible apply Pick.tail))) (HD.out.oldP H.ext) (Dc.size_d _) ?_ ?_
      focus (have := HLN.out; simp [M]; omega)
      clear H; intro v2 w6 H
      rw [show wd.map Dc.d ++ [d.d] = (wd ++ [d]).map Dc.d by simp] at H
      obtain ⟨P2, p2_, rfl, _, _, _⟩ := (H.rowRd (by (repeat (first | with_reducible exact Pick.head | with_reducible apply Pick.tail)))).slice
      rw [show ((wd ++ [d]).map Dc.d).length = wd.length + 1 by simp] at H
      (try rw [show ((wd ++ [d]).map Dc.d).length = wd.length + 1 by simp])
      refine hK_ _ _ (fun _ => H.sub (by simp)) (fun hR_ => ?_)
      replace hR_ := hR_ (by decide)
      simp only [List.getElem_toArray, List.getElem_cons_zero, List.getElem_cons_succ, Act.put, List.setIfInBounds_toArray, List.set_cons_zero, List.set_cons_succ]
      refine wpL_do (i := 10) rfl (by kernel_rfl) (by rfl) (fun K_ hK_ => ?_)
      go_simp
      have hrow := H.rowRd (e := 51) (z := 16) (ds := (wd ++ [d]).map Dc.d) (v := .slice P2 (wd.length + 1) p2_) (by (repeat (first | with_reducible exact Pick.head | with_reducible apply Pick.tail)))
      have hgr := great18_calls (ds := wd ++ [d]) (A0 := P2) (c := p2_) (by rw [List.length_append, List.length_singleton]; exact hrow) HPP.out
      rw [List.length_append, List.length_singleton] at hgr
      refine hgr.mono ?_
      clear hrow hgr
      rintro e w_ ⟨z, rfl, hx⟩
      replace H := H.call hx
      clear hx
      refine hK_ _ _ (fun _ => H.sub (by simp)) (fun hR_ => ?_)
      replace hR_ := hR_ (by decide)
      refine wpL_reads (is := [(11, ?v5_0)]) (by kernel_rfl) (Nat.le_of_ble_eq_true rfl) (by intro _ _ d_ _ _ h_; cases d_ <;> exact h_) (by kernel_rfl) hR_ (fun w_ hw_ => ?h5_) ?_
      case h5_ =>
        have ho_ := hw_.old0.1; have hz_ := hw_.old0.2; have hr_ := hw_.rules; clear hw_; simp only [Rules, and_true] at hr_; go_split_ands
        (repeat (first | with_reducible exact RdOps.nil | (refine RdOps.run rfl (by rfl) ?_ ?_; (focus (first | (go_simp; done) | (go_simp; with_reducible rfl))); simp only [List.getElem_toArray, List.getElem_cons_zero, List.getElem_cons_succ, Act.put, List.setIfInBounds_toArray, List.set_cons_zero, List.set_cons_succ]) | (refine RdOps.skip rfl (by rfl) ?_ ?_; (focus (with_reducible rfl)); simp only [List.getElem_toArray, List.getElem_cons_zero, List.getElem_cons_succ, Act.put, List.setIfInBounds_toArray, List.set_cons_zero, List.set_cons_succ])))
      simp only [rdMark, rdAct, List.map_cons, List.map_nil, List.length_cons, List.length_nil, Nat.reduceAdd, Nat.reduceSub, Nat.zero_add, List.getElem?_toArray, List.getElem?_cons_zero, List.getElem?_cons_succ, Option.bind_some, Act.put, List.setIfInBounds_toArray, List.set_cons_zero, List.set_cons_succ]
      refine wpL_done (by kernel_rfl) ?_ _
      have HX2 := Lib.hid H.ext
      clear H
      cases z
      · repeat ((fail_if_success (with_reducible (first | show Code.wp _ (Code.seq (Code.region 6 _ _) _) _ _ _ | show Code.wp _ (Code.seq (Code.seq (Code.region 6 _ _) _) _) _ _ _))); go_step)
        exact srB HT0.out (HX.out.seq HX2.out) HH0.out (HW.out.ext0 HX2.out) HD0.out (HBD.out.ext0 HX2.out) HSM.out HSMD.out HWL.out
      · go_wp2_with fail
        go_ret
        exact ⟨rfl, HX.out.seq HX2.out⟩
end Go.Proofs.YtmedomglemllnaaGreatDoor
