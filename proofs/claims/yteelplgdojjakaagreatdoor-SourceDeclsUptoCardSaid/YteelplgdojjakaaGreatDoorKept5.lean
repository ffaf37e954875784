/- The kit's looks whether two are the same, where they are: contracts. No statement of the seat is proved here. -/
import Derived.Test.YteelplgdojjakaaGreatDoorMgKept3
import Derived.Test.YteelplgdojjakaaGreatDoorMgSrc1
namespace Go.Proofs.YteelplgdojjakaaGreatDoor
set_option linter.unusedSimpArgs false
set_option linter.unusedVariables false
open Go.RowKit

theorem PB.yes {w w' : World} {e : Ending} (h : PB w True e w') : PV w (.bool true) e w' := by
  obtain ⟨q, rfl, hq, hx⟩ := h
  obtain rfl : q = true := hq.2 trivial
  exact ⟨rfl, hx⟩
theorem sameLvK (x : Lv) (w : World) (S S' : Nat → Prop) (cs cs' : List Value) (h : RC w S (lvD x) cs) (k : RC w S' (lvD x) cs') : Calls Tryz.prog 106 #[.agg cs.toArray, .agg cs'.toArray] w (PV w (.bool true)) := by
  obtain ⟨A, c, rfl, h1⟩ := RC.lv.1 h
  obtain ⟨B, c', rfl, h2⟩ := RC.lv.1 k
  exact (sameLevel h1 h2).mono fun e w' hp => PB.yes (by simpa using hp)
theorem sameTmK (x : Tm) (w : World) (S S' : Nat → Prop) (cs cs' : List Value) (h : RC w S x.d cs) (k : RC w S' x.d cs') : Calls Tryz.prog 22 #[.agg cs.toArray, .agg cs'.toArray] w (PV w (.bool true)) := by
  obtain ⟨A, c, B, d, rfl, _⟩ := RC.tm.1 h
  obtain ⟨A', c', B', d', rfl, _⟩ := RC.tm.1 k
  exact (sameTerm (x := x) (y := x) ⟨_, _, _, _, rfl, h⟩ ⟨_, _, _, _, rfl, k⟩).mono fun e w' hp => PB.yes (by simpa using hp)
theorem sameTmsK {w : World} {S S' : Nat → Prop} {xs : List Tm} {A B : Option Addr} {c c' : Nat} (h : RC w S (.l 35 5 (xs.map Tm.d)) [.slice A xs.length c]) (k : RC w S' (.l 35 5 (xs.map Tm.d)) [.slice B xs.length c']) : Calls Tryz.prog 20 #[.slice A xs.length c, .slice B xs.length c'] w (PV w (.bool true)) :=
  (sameTerms h k).mono fun e w' hp => PB.yes (by simpa using hp)
set_option maxRecDepth 100000 in
set_option maxHeartbeats 4000000 in
theorem sameMbK (x : Mb) (w : World) (S S' : Nat → Prop) (cs cs' : List Value) (h : RC w S x.d cs) (k : RC w S' x.d cs') : Calls Tryz.prog 180 #[.agg cs.toArray, .agg cs'.toArray] w (PV w (.bool true)) := by
  obtain ⟨A, c, rfl, h1⟩ := RC.mb.1 h
  obtain ⟨B, c', rfl, h2⟩ := RC.mb.1 k
  have H1 := Lib.hid h1
  have H2 := Lib.hid h2
  clear h k h1 h2
  go_enter Tryz.func180, Tryz.ntmps180
  go_wp2_with fail
  have H := Hp.start no w
  refine callsH (by (repeat (first | with_reducible exact H | with_reducible exact H0_ | with_reducible apply Hp.alloc | with_reducible apply Hp.allocMap | with_reducible apply Hp.drew | with_reducible apply Hp.drewN | with_reducible apply Hp.set)); (try any_goals (repeat (first | with_reducible exact Upd.head | with_reducible apply Upd.tail)))) ?_
  clear H; intro w1 H; (try simp only [size_drew_, size_drewN_, World.size_alloc, World.size_setCell, List.set_cons_zero, List.set_cons_succ] at H)
  refine (sameTmsK (H1.out.ext0 H.ext) (H2.out.ext0 H.ext)).mono ?_
  rintro e w_ ⟨rfl, hx⟩
  replace H := H.call hx
  clear hx
  go_wp2_with fail
  go_ret
  exact ⟨rfl, H.ext⟩
set_option maxRecDepth 100000 in
set_option maxHeartbeats 4000000 in
theorem sameCtK (x : Ct) (w : World) (S S' : Nat → Prop) (cs cs' : List Value) (h : RC w S x.d cs) (k : RC w S' x.d cs') : Calls Tryz.prog 181 #[.agg cs.toArray, .agg cs'.toArray] w (PV w (.bool true)) := by
  obtain ⟨A, ca, B, cb, rfl, _, h1⟩ := RC.ct.1 h
  obtain ⟨A', ca', B', cb', rfl, _, h2⟩ := RC.ct.1 k
  have H1 := Lib.hid h1
  have H2 := Lib.hid h2
  clear h k h1 h2
  go_enter Tryz.func181, Tryz.ntmps181
  go_wp2_with fail
  have H := Hp.start no w
  refine callsH (by (repeat (first | with_reducible exact H | with_reducible exact H0_ | with_reducible apply Hp.alloc | with_reducible apply Hp.allocMap | with_reducible apply Hp.drew | with_reducible apply Hp.drewN | with_reducible apply Hp.set)); (try any_goals (repeat (first | with_reducible exact Upd.head | with_reducible apply Upd.tail)))) ?_
  clear H; intro w1 H; (try simp only [size_drew_, size_drewN_, World.size_alloc, World.size_setCell, List.set_cons_zero, List.set_cons_succ] at H)
  refine (sameTmK x.ty _ _ _ _ _ (H1.out.ext0 H.ext) (H2.out.ext0 H.ext)).mono ?_
  rintro e w_ ⟨rfl, hx⟩
  replace H := H.call hx
  clear hx
  go_wp2_with fail
  go_ret
  exact ⟨rfl, H.ext⟩
set_option maxRecDepth 100000 in
set_option maxHeartbeats 4000000 in
theorem sameMbsK {w : World} {S S' : Nat → Prop} {xs : List Mb} {A B : Option Addr} {c cb : Nat} (h : RC w S (.l 151 1 (xs.map Mb.d)) [.slice A xs.length c]) (k : RC w S' (.l 151 1 (xs.map Mb.d)) [.slice B xs.length cb]) :
    Calls Tryz.prog 107 #[.slice A xs.length c, .slice B xs.length cb] w (PV w (.bool true)) := by
  have hM := h.lenM
  go_enter Tryz.func107, Tryz.ntmps107
  go_wp2_with fail
  have H := Hp.start no w
  go_loopw [5] (fun i wr => ∃ j : Nat, j ≤ xs.length ∧ i = .int .i64 j ∧ Hp no w wr []) (fun i _ => xs.length - (intOf i).toNat)
  case atStart => exact ⟨0, Nat.zero_le _, rfl, H⟩
  case round =>
    clear H
    obtain ⟨j, hj, rfl, H⟩ := hrel
    by_cases hlt : j < xs.length
    · obtain ⟨b, o, cs, rfl, hb, hS, hd, hl, hc⟩ := h.el (i := j) (d := Mb.d xs[j]) (by simp [hlt])
      obtain ⟨b', o', cs', rfl, hb', hS', hd', hl', hc'⟩ := k.el (i := j) (d := Mb.d xs[j]) (by simp [hlt])
      (try simp only [Nat.mul_one] at hc hc')
      have HD := Lib.hid hd
      have HL := Lib.hid hl
      have HC := Lib.hid hc
      have HD' := Lib.hid hd'
      have HL' := Lib.hid hl'
      have HC' := Lib.hid hc'
      clear hd hl hc hd' hl' hc'
      have hr_ := H.rules; simp only [Rules, and_true] at hr_; have hd_ := H.dif; simp only [Dif, Neq, and_true] at hd_; obtain ⟨ho_, hz_⟩ := H.old0
      go_wp2_with fail
      (try clear hr_ hd_ ho_ hz_)
      refine regionH (by (repeat (first | with_reducible exact H | with_reducible exact H0_ | with_reducible apply Hp.alloc | with_reducible apply Hp.allocMap | with_reducible apply Hp.drew | with_reducible apply Hp.drewN | with_reducible apply Hp.set)); (try any_goals (repeat (first | with_reducible exact Upd.head | with_reducible apply Upd.tail)))) ?_
      clear H; intro w2 H; (try simp only [size_drew_, size_drewN_, World.size_alloc, World.size_setCell, List.set_cons_zero, List.set_cons_succ] at H)
      refine wp_region_H 10 [false, false, false, false, false, false, false, false, false, false] [] H .nil (by kernel_rfl) rfl rfl (fun H_ hR_ => ?_)
      (try clear H0_); have H0_ := H; clear H; have H := H_; clear H_
      refine wpL_reads (is := [(0, ?v1_0), (1, ?v1_1), (2, ?v1_2), (3, ?v1_3), (4, ?v1_4), (5, ?v1_5), (6, ?v1_6), (7, ?v1_7)]) (by kernel_rfl) (Nat.le_of_ble_eq_true rfl) (by intro _ _ d_ _ _ h_; cases d_ <;> exact h_) (by kernel_rfl) hR_ (fun w_ hw_ => ?h1_) ?_
      case h1_ =>
        have ho_ := hw_.old0.1; have hz_ := hw_.old0.2; have hr_ := hw_.rules; simp only [Rules, and_true] at hr_; go_split_ands
        (repeat (first | with_reducible exact RdOps.nil | (refine RdOps.run rfl (by rfl) ?_ ?_; (focus (first | (refine Eq.trans (run_loadL aggMemberK rfl rfl HL.out (hw_.lies hb no_not HC.out)) ?_; with_reducible rfl) | (refine Eq.trans (run_loadL aggMemberK rfl rfl HL'.out (hw_.lies hb' no_not HC'.out)) ?_; with_reducible rfl) | (go_simp; done) | (go_simp; with_reducible rfl))); simp only [List.getElem_toArray, List.getElem_cons_zero, List.getElem_cons_succ, Act.put, List.setIfInBounds_toArray, List.set_cons_zero, List.set_cons_succ]) | (refine RdOps.skip rfl (by rfl) ?_ ?_; (focus (with_reducible rfl)); simp only [List.getElem_toArray, List.getElem_cons_zero, List.getElem_cons_succ, Act.put, List.setIfInBounds_toArray, List.set_cons_zero, List.set_cons_succ])))
      simp only [rdMark, rdAct, List.map_cons, List.map_nil, List.length_cons, List.length_nil, Nat.reduceAdd, Nat.reduceSub, Nat.zero_add, List.getElem?_toArray, List.getElem?_cons_zero, List.getElem?_cons_succ, Option.bind_some, Act.put, List.setIfInBounds_toArray, List.set_cons_zero, List.set_cons_succ]
      refine wpL_do (i := 8) rfl (by kernel_rfl) (by rfl) (fun K_ hK_ => ?_)
      go_simp
      refine (sameMbK xs[j] _ S S' cs cs' (HD.out.ext0 H.ext) (HD'.out.ext0 H.ext)).mono ?_
      rintro e w_ ⟨rfl, hx⟩
      replace H := H.call hx
      clear hx
      refine hK_ _ _ (fun _ => H.sub (by simp)) (fun hR_ => ?_)
      replace hR_ := hR_ (by decide)
      refine wpL_reads (is := [(9, ?v2_0)]) (by kernel_rfl) (Nat.le_of_ble_eq_true rfl) (by intro _ _ d_ _ _ h_; cases d_ <;> exact h_) (by kernel_rfl) hR_ (fun w_ hw_ => ?h2_) ?_
      case h2_ =>
        have ho_ := hw_.old0.1; have hz_ := hw_.old0.2; have hr_ := hw_.rules; clear hw_; simp only [Rules, and_true] at hr_; go_split_ands
        (repeat (first | with_reducible exact RdOps.nil | (refine RdOps.run rfl (by rfl) ?_ ?_; (focus (first | (go_simp; done) | (go_simp; with_reducible rfl))); simp only [List.getElem_toArray, List.getElem_cons_zero, List.getElem_cons_succ, Act.put, List.setIfInBounds_toArray, List.set_cons_zero, List.set_cons_succ]) | (refine RdOps.skip rfl (by rfl) ?_ ?_; (focus (with_reducible rfl)); simp only [List.getElem_toArray, List.getElem_cons_zero, List.getElem_cons_succ, Act.put, List.setIfInBounds_toArray, List.set_cons_zero, List.set_cons_succ])))
      simp only [rdMark, rdAct, List.map_cons, List.map_nil, List.length_cons, List.length_nil, Nat.reduceAdd, Nat.reduceSub, Nat.zero_add, List.getElem?_toArray, List.getElem?_cons_zero, List.getElem?_cons_succ, Option.bind_some, Act.put, List.setIfInBounds_toArray, List.set_cons_zero, List.set_cons_succ]
      refine wpL_done (by kernel_rfl) ?_ _
      go_wp2_with fail
      go_roundw
      case rel => exact ⟨j + 1, by omega, by first | go_num | rfl | simp, H⟩
      case measure => simp [intOf]; omega
    · go_wp2_with fail
      go_ret
      exact ⟨rfl, H.ext⟩
set_option maxRecDepth 100000 in
set_option maxHeartbeats 4000000 in
theorem sameCtsK {w : World} {S S' : Nat → Prop} {xs : List Ct} {A B : Option Addr} {c cb : Nat} (h : RC w S (.l 153 6 (xs.map Ct.d)) [.slice A xs.length c]) (k : RC w S' (.l 153 6 (xs.map Ct.d)) [.slice B xs.length cb]) :
    Calls Tryz.prog 108 #[.slice A xs.length c, .slice B xs.length cb] w (PV w (.bool true)) := by
  have hM := h.lenM
  go_enter Tryz.func108, Tryz.ntmps108
  go_wp2_with fail
  have H := Hp.start no w
  go_loopw [5] (fun i wr => ∃ j : Nat, j ≤ xs.length ∧ i = .int .i64 j ∧ Hp no w wr []) (fun i _ => xs.length - (intOf i).toNat)
  case atStart => exact ⟨0, Nat.zero_le _, rfl, H⟩
  case round =>
    clear H
    obtain ⟨j, hj, rfl, H⟩ := hrel
    by_cases hlt : j < xs.length
    · obtain ⟨b, o, cs, rfl, hb, hS, hd, hl, hc⟩ := h.el (i := j) (d := Ct.d xs[j]) (by simp [hlt])
      obtain ⟨b', o', cs', rfl, hb', hS', hd', hl', hc'⟩ := k.el (i := j) (d := Ct.d xs[j]) (by simp [hlt])
      (try simp only [Nat.mul_one] at hc hc')
      have HD := Lib.hid hd
      have HL := Lib.hid hl
      have HC := Lib.hid hc
      have HD' := Lib.hid hd'
      have HL' := Lib.hid hl'
      have HC' := Lib.hid hc'
      clear hd hl hc hd' hl' hc'
      have hr_ := H.rules; simp only [Rules, and_true] at hr_; have hd_ := H.dif; simp only [Dif, Neq, and_true] at hd_; obtain ⟨ho_, hz_⟩ := H.old0
      go_wp2_with fail
      (try clear hr_ hd_ ho_ hz_)
      refine regionH (by (repeat (first | with_reducible exact H | with_reducible exact H0_ | with_reducible apply Hp.alloc | with_reducible apply Hp.allocMap | with_reducible apply Hp.drew | with_reducible apply Hp.drewN | with_reducible apply Hp.set)); (try any_goals (repeat (first | with_reducible exact Upd.head | with_reducible apply Upd.tail)))) ?_
      clear H; intro w2 H; (try simp only [size_drew_, size_drewN_, World.size_alloc, World.size_setCell, List.set_cons_zero, List.set_cons_succ] at H)
      refine wp_region_H 10 [false, false, false, false, false, false, false, false, false, false] [] H .nil (by kernel_rfl) rfl rfl (fun H_ hR_ => ?_)
      (try clear H0_); have H0_ := H; clear H; have H := H_; clear H_
      refine wpL_reads (is := [(0, ?v3_0), (1, ?v3_1), (2, ?v3_2), (3, ?v3_3), (4, ?v3_4), (5, ?v3_5), (6, ?v3_6), (7, ?v3_7)]) (by kernel_rfl) (Nat.le_of_ble_eq_true rfl) (by intro _ _ d_ _ _ h_; cases d_ <;> exact h_) (by kernel_rfl) hR_ (fun w_ hw_ => ?h3_) ?_
      case h3_ =>
        have ho_ := hw_.old0.1; have hz_ := hw_.old0.2; have hr_ := hw_.rules; simp only [Rules, and_true] at hr_; go_split_ands
        (repeat (first | with_reducible exact RdOps.nil | (refine RdOps.run rfl (by rfl) ?_ ?_; (focus (first | (refine Eq.trans (run_loadL aggCtorK rfl rfl HL.out (hw_.lies hb no_not HC.out)) ?_; with_reducible rfl) | (refine Eq.trans (run_loadL aggCtorK rfl rfl HL'.out (hw_.lies hb' no_not HC'.out)) ?_; with_reducible rfl) | (go_simp; done) | (go_simp; with_reducible rfl))); simp only [List.getElem_toArray, List.getElem_cons_zero, List.getElem_cons_succ, Act.put, List.setIfInBounds_toArray, List.set_cons_zero, List.set_cons_succ]) | (refine RdOps.skip rfl (by rfl) ?_ ?_; (focus (with_reducible rfl)); simp only [List.getElem_toArray, List.getElem_cons_zero, List.getElem_cons_succ, Act.put, List.setIfInBounds_toArray, List.set_cons_zero, List.set_cons_succ])))
      simp only [rdMark, rdAct, List.map_cons, List.map_nil, List.length_cons, List.length_nil, Nat.reduceAdd, Nat.reduceSub, Nat.zero_add, List.getElem?_toArray, List.getElem?_cons_zero, List.getElem?_cons_succ, Option.bind_some, Act.put, List.setIfInBounds_toArray, List.set_cons_zero, List.set_cons_succ]
      refine wpL_do (i := 8) rfl (by kernel_rfl) (by rfl) (fun K_ hK_ => ?_)
      go_simp
      refine (sameCtK xs[j] _ S S' cs cs' (HD.out.ext0 H.ext) (HD'.out.ext0 H.ext)).mono ?_
      rintro e w_ ⟨rfl, hx⟩
      replace H := H.call hx
      clear hx
      refine hK_ _ _ (fun _ => H.sub (by simp)) (fun hR_ => ?_)
      replace hR_ := hR_ (by decide)
      refine wpL_reads (is := [(9, ?v4_0)]) (by kernel_rfl) (Nat.le_of_ble_eq_true rfl) (by intro _ _ d_ _ _ h_; cases d_ <;> exact h_) (by kernel_rfl) hR_ (fun w_ hw_ => ?h4_) ?_
      case h4_ =>
        have ho_ := hw_.old0.1; have hz_ := hw_.old0.2; have hr_ := hw_.rules; clear hw_; simp only [Rules, and_true] at hr_; go_split_ands
        (repeat (first | with_reducible exact RdOps.nil | (refine RdOps.run rfl (by rfl) ?_ ?_; (focus (first | (go_simp; done) | (go_simp; with_reducible rfl))); simp only [List.getElem_toArray, List.getElem_cons_zero, List.getElem_cons_succ, Act.put, List.setIfInBounds_toArray, List.set_cons_zero, List.set_cons_succ]) | (refine RdOps.skip rfl (by rfl) ?_ ?_; (focus (with_reducible rfl)); simp only [List.getElem_toArray, List.getElem_cons_zero, List.getElem_cons_succ, Act.put, List.setIfInBounds_toArray, List.set_cons_zero, List.set_cons_succ])))
      simp only [rdMark, rdAct, List.map_cons, List.map_nil, List.length_cons, List.length_nil, Nat.reduceAdd, Nat.reduceSub, Nat.zero_add, List.getElem?_toArray, List.getElem?_cons_zero, List.getElem?_cons_succ, Option.bind_some, Act.put, List.setIfInBounds_toArray, List.set_cons_zero, List.set_cons_succ]
      refine wpL_done (by kernel_rfl) ?_ _
      go_wp2_with fail
      go_roundw
      case rel => exact ⟨j + 1, by omega, by first | go_num | rfl | simp, H⟩
      case measure => simp [intOf]; omega
    · go_wp2_with fail
      go_ret
      exact ⟨rfl, H.ext⟩
set_option maxRecDepth 100000 in
set_option maxHeartbeats 8000000 in
theorem sameDcK (x : Dc) (w : World) (S S' : Nat → Prop) (cs cs' : List Value) (h : RC w S x.d cs) (k : RC w S' x.d cs') : Calls Tryz.prog 44 #[.agg cs.toArray, .agg cs'.toArray] w (PV w (.bool true)) := by
  obtain ⟨Aty, cty, Kty, kty, Abody, cbody, Kbody, kbody, Aparams, cparams, Asort, csort, Amembers, cmembers, Actors, cctors, rfl, _, _, h1, h2, h3, h4, h5, h6⟩ := RC.dc.1 h
  obtain ⟨pAty, pcty, pKty, pkty, pAbody, pcbody, pKbody, pkbody, pAparams, pcparams, pAsort, pcsort, pAmembers, pcmembers, pActors, pcctors, rfl, _, _, k1, k2, k3, k4, k5, k6⟩ := RC.dc.1 k
  have H1 := Lib.hid h1
  have H2 := Lib.hid h2
  have H3 := Lib.hid h3
  have H4 := Lib.hid h4
  have H5 := Lib.hid h5
  have H6 := Lib.hid h6
  have K1 := Lib.hid k1
  have K2 := Lib.hid k2
  have K3 := Lib.hid k3
  have K4 := Lib.hid k4
  have K5 := Lib.hid k5
  have K6 := Lib.hid k6
  clear h k h1 h2 h3 h4 h5 h6 k1 k2 k3 k4 k5 k6
  go_enter Tryz.func44, Tryz.ntmps44
  go_wp2_with fail
  have H := Hp.start no w
  refine callsH (by (repeat (first | with_reducible exact H | with_reducible exact H0_ | with_reducible apply Hp.alloc | with_reducible apply Hp.allocMap | with_reducible apply Hp.drew | with_reducible apply Hp.drewN | with_reducible apply Hp.set)); (try any_goals (repeat (first | with_reducible exact Upd.head | with_reducible apply Upd.tail)))) ?_
  clear H; intro w1 H; (try simp only [size_drew_, size_drewN_, World.size_alloc, World.size_setCell, List.set_cons_zero, List.set_cons_succ] at H)
  refine (sameTmK x.ty _ _ _ _ _ (H1.out.ext0 H.ext) (K1.out.ext0 H.ext)).mono ?_
  rintro e w_ ⟨rfl, hx⟩
  replace H := H.call hx
  clear hx
  have hr_ := H.rules; simp only [Rules, and_true] at hr_; have hd_ := H.dif; simp only [Dif, Neq, and_true] at hd_; obtain ⟨ho_, hz_⟩ := H.old0
  go_wp2_with fail
  (try clear hr_ hd_ ho_ hz_)
  refine (sameTmK x.body _ _ _ _ _ (H2.out.ext0 H.ext) (K2.out.ext0 H.ext)).mono ?_
  rintro e w_ ⟨rfl, hx⟩
  replace H := H.call hx
  clear hx
  have hr_ := H.rules; simp only [Rules, and_true] at hr_; have hd_ := H.dif; simp only [Dif, Neq, and_true] at hd_; obtain ⟨ho_, hz_⟩ := H.old0
  go_wp2_with fail
  (try clear hr_ hd_ ho_ hz_)
  refine (sameTmsK (H3.out.ext0 H.ext) (K3.out.ext0 H.ext)).mono ?_
  rintro e w_ ⟨rfl, hx⟩
  replace H := H.call hx
  clear hx
  have hr_ := H.rules; simp only [Rules, and_true] at hr_; have hd_ := H.dif; simp only [Dif, Neq, and_true] at hd_; obtain ⟨ho_, hz_⟩ := H.old0
  go_wp2_with fail
  (try clear hr_ hd_ ho_ hz_)
  refine (sameLvK x.sort _ _ _ _ _ (RC.lv.2 ⟨_, _, rfl, H4.out.ext0 H.ext⟩) (RC.lv.2 ⟨_, _, rfl, K4.out.ext0 H.ext⟩)).mono ?_
  rintro e w_ ⟨rfl, hx⟩
  replace H := H.call hx
  clear hx
  have hr_ := H.rules; simp only [Rules, and_true] at hr_; have hd_ := H.dif; simp only [Dif, Neq, and_true] at hd_; obtain ⟨ho_, hz_⟩ := H.old0
  go_wp2_with fail
  (try clear hr_ hd_ ho_ hz_)
  refine (sameMbsK (H5.out.ext0 H.ext) (K5.out.ext0 H.ext)).mono ?_
  rintro e w_ ⟨rfl, hx⟩
  replace H := H.call hx
  clear hx
  have hr_ := H.rules; simp only [Rules, and_true] at hr_; have hd_ := H.dif; simp only [Dif, Neq, and_true] at hd_; obtain ⟨ho_, hz_⟩ := H.old0
  go_wp2_with fail
  (try clear hr_ hd_ ho_ hz_)
  refine (sameCtsK (H6.out.ext0 H.ext) (K6.out.ext0 H.ext)).mono ?_
  rintro e w_ ⟨rfl, hx⟩
  replace H := H.call hx
  clear hx
  go_wp2_with fail
  go_ret
  exact ⟨rfl, H.ext⟩
end Go.Proofs.YteelplgdojjakaaGreatDoor
