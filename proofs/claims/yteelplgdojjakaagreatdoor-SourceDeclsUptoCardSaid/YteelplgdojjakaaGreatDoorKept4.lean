/- The kit's rows that are lent: what looks whether they have stayed: contracts. No statement of the seat is proved here. -/
import Derived.Test.YteelplgdojjakaaGreatDoorMgKept3
import Derived.Test.YteelplgdojjakaaGreatDoorMgSrc1
namespace Go.Proofs.YteelplgdojjakaaGreatDoor
set_option linter.unusedSimpArgs false
set_option linter.unusedVariables false
open Go.RowKit

theorem mk_get {f : Nat → D} {q : Nat} (h : q < 12) : ((List.range 12).map f)[q]? = some (f q) := by simp [h]
set_option maxRecDepth 100000 in
set_option maxHeartbeats 4000000 in
theorem keptLevels_ {w : World} {S S' : Nat → Prop} {xs : List Lv} {A B : Option Addr} {n c cb : Nat} (hkx : ∀ x ∈ xs, ∀ (w : World) (S S' : Nat → Prop) (cs cs' : List Value), KC mkD w S (lvD x) cs → RC w S' (lvD x) cs' → Calls Tryz.prog 110 #[.agg cs.toArray, .agg cs'.toArray] w (PV w (.bool true)))
    (hsm : ∀ (q : Nat) (w : World) (S S' : Nat → Prop) (cs cs' : List Value), RC w S (lvD (mkLv q)) cs → RC w S' (lvD (mkLv q)) cs' → Calls Tryz.prog 106 #[.agg cs.toArray, .agg cs'.toArray] w (PV w (.bool true)))
    (hk : KC mkD w S (.l 38 1 (xs.map lvD)) [.slice A n c]) (h : RC w S' (.l 38 1 (xs.map lvD)) [.slice B n cb]) (hn : n = xs.length) :
    Calls Tryz.prog 94 #[.slice A n c, .slice B n cb] w (PV w (.bool true)) := by
  subst hn
  obtain ⟨b, c0, hv, hc12, hcM, hM0, hb, hS, hel, hmk⟩ := hk.row
  simp only [List.length_map] at hv hc12 hM0 hmk
  have hM : xs.length ≤ 4294967296 := by unfold M at hM0; exact hM0
  obtain ⟨rfl, rfl⟩ : A = some ⟨b, 0, none⟩ ∧ c = c0 := by simpa using hv
  clear hv hM0
  have HEL := Lib.hid hel
  have HMK := Lib.hid hmk
  obtain ⟨N, hN⟩ : ∃ N : Nat, N = xs.length + 12 := ⟨_, rfl⟩
  have hw : IntKind.i64.wrap ((xs.length : Int) + 12) = (N : Int) := by rw [IntKind.wrap_i64]; omega
  have hNc : N ≤ c := by omega
  have hNb : N ≤ 5000000000 := by omega
  have HN := Lib.hid hN
  clear hel hmk hk hN hc12 hcM
  have HKX := Lib.hid hkx
  have HSM := Lib.hid hsm
  clear hkx hsm
  go_enter Tryz.func94, Tryz.ntmps94
  go_wp2_with fail
  have H := Hp.start no w
  go_loopw [6] (fun i wr => ∃ j : Nat, j ≤ N ∧ i = .int .i64 j ∧ Hp no w wr []) (fun i _ => N - (intOf i).toNat)
  case atStart => exact ⟨0, Nat.zero_le _, rfl, H⟩
  case round =>
    clear H
    obtain ⟨j, hj, rfl, H⟩ := hrel
    by_cases hlt : j < N
    · by_cases h2 : j < xs.length
      · obtain ⟨cs, hk1, hl1, hc1⟩ := HEL.out j (lvD xs[j]) (by simp [h2])
        obtain ⟨b', o', cs', rfl, hb', hS', hd', hl', hc'⟩ := h.el (i := j) (d := lvD xs[j]) (by simp [h2])
        (try simp only [Nat.mul_one] at hc1 hc')
        have HK1 := Lib.hid hk1
        have HL1 := Lib.hid hl1
        have HC1 := Lib.hid hc1
        have HD' := Lib.hid hd'
        have HL' := Lib.hid hl'
        have HC' := Lib.hid hc'
        clear hk1 hl1 hc1 hd' hl' hc'
        have hg : decide ((xs.length : Int) ≤ (j : Int)) = false := decide_eq_false (by omega)
        have hgn : decide (xs.length ≤ j) = false := decide_eq_false (by omega)
        have hr_ := H.rules; simp only [Rules, and_true] at hr_; have hd_ := H.dif; simp only [Dif, Neq, and_true] at hd_; obtain ⟨ho_, hz_⟩ := H.old0
        go_wp2_with fail
        (try clear hr_ hd_ ho_ hz_)
        refine regionH (by (repeat (first | with_reducible exact H | with_reducible exact H0_ | with_reducible apply Hp.alloc | with_reducible apply Hp.allocMap | with_reducible apply Hp.drew | with_reducible apply Hp.drewN | with_reducible apply Hp.set)); (try any_goals (repeat (first | with_reducible exact Upd.head | with_reducible apply Upd.tail)))) ?_
        clear H; intro w2 H; (try simp only [size_drew_, size_drewN_, World.size_alloc, World.size_setCell, List.set_cons_zero, List.set_cons_succ] at H)
        refine wp_region_H 35 [false, false, false, false, false, false, false, false, false, false, false, false, false, false, false, false, false, false, false, false, false, false, false, false, false, false, false, false, false, false, false, false, false, false, false] [] H .nil (by kernel_rfl) rfl rfl (fun H_ hR_ => ?_)
        (try clear H0_); have H0_ := H; clear H; have H := H_; clear H_
        refine wpL_reads (is := [(0, ?v1_0), (1, ?v1_1), (2, ?v1_2), (3, ?v1_3), (4, ?v1_4), (5, ?v1_5), (6, ?v1_6), (7, ?v1_7), (8, ?v1_8), (9, ?v1_9), (10, ?v1_10), (11, ?v1_11), (12, ?v1_12)]) (by kernel_rfl) (Nat.le_of_ble_eq_true rfl) (by intro _ _ d_ _ _ h_; cases d_ <;> exact h_) (by kernel_rfl) hR_ (fun w_ hw_ => ?h1_) ?_
        case h1_ =>
          have ho_ := hw_.old0.1; have hz_ := hw_.old0.2; have hr_ := hw_.rules; simp only [Rules, and_true] at hr_; go_split_ands
          (repeat (first | with_reducible exact RdOps.nil | (refine RdOps.run rfl (by rfl) ?_ ?_; (focus (first | (refine Eq.trans (run_loadL aggLevel rfl rfl HL1.out (hw_.lies hb no_not HC1.out)) ?_; with_reducible rfl) | (refine Eq.trans (run_loadL aggLevel rfl rfl HL'.out (hw_.lies hb' no_not HC'.out)) ?_; with_reducible rfl) | (go_simp; done) | (go_simp; with_reducible rfl))); simp only [List.getElem_toArray, List.getElem_cons_zero, List.getElem_cons_succ, Act.put, List.setIfInBounds_toArray, List.set_cons_zero, List.set_cons_succ]) | (refine RdOps.skip rfl (by rfl) ?_ ?_; (focus (with_reducible rfl)); simp only [List.getElem_toArray, List.getElem_cons_zero, List.getElem_cons_succ, Act.put, List.setIfInBounds_toArray, List.set_cons_zero, List.set_cons_succ])))
        simp only [rdMark, rdAct, List.map_cons, List.map_nil, List.length_cons, List.length_nil, Nat.reduceAdd, Nat.reduceSub, Nat.zero_add, List.getElem?_toArray, List.getElem?_cons_zero, List.getElem?_cons_succ, Option.bind_some, Act.put, List.setIfInBounds_toArray, List.set_cons_zero, List.set_cons_succ]
        refine wpL_do (i := 13) rfl (by kernel_rfl) (by rfl) (fun K_ hK_ => ?_)
        go_simp
        refine (HKX.out _ (List.getElem_mem h2) _ S S' cs cs' (KC.frame H.ext.size (fun _ _ h => h) (fun k h1 _ => H.ext.block k h1 no_not) _ _ HK1.out) (HD'.out.ext0 H.ext)).mono ?_
        rintro e w_ ⟨rfl, hx⟩
        replace H := H.call hx
        clear hx
        refine hK_ _ _ (fun _ => H.sub (by simp)) (fun hR_ => ?_)
        replace hR_ := hR_ (by decide)
        refine wpL_reads (is := [(14, ?v2_0), (15, ?v2_1), (16, ?v2_2), (17, ?v2_3), (18, ?v2_4), (19, ?v2_5), (20, ?v2_6), (21, ?v2_7), (22, ?v2_8), (23, ?v2_9), (24, ?v2_10), (25, ?v2_11), (26, ?v2_12), (27, ?v2_13), (28, ?v2_14), (29, ?v2_15), (30, ?v2_16), (31, ?v2_17), (32, ?v2_18), (33, ?v2_19), (34, ?v2_20)]) (by kernel_rfl) (Nat.le_of_ble_eq_true rfl) (by intro _ _ d_ _ _ h_; cases d_ <;> exact h_) (by kernel_rfl) hR_ (fun w_ hw_ => ?h2_) ?_
        case h2_ =>
          have ho_ := hw_.old0.1; have hz_ := hw_.old0.2; have hr_ := hw_.rules; clear hw_; simp only [Rules, and_true] at hr_; go_split_ands
          (repeat (first | with_reducible exact RdOps.nil | (refine RdOps.run rfl (by rfl) ?_ ?_; (focus (first | (go_simp; done) | (go_simp; with_reducible rfl))); simp only [List.getElem_toArray, List.getElem_cons_zero, List.getElem_cons_succ, Act.put, List.setIfInBounds_toArray, List.set_cons_zero, List.set_cons_succ]) | (refine RdOps.skip rfl (by rfl) ?_ ?_; (focus (with_reducible rfl)); simp only [List.getElem_toArray, List.getElem_cons_zero, List.getElem_cons_succ, Act.put, List.setIfInBounds_toArray, List.set_cons_zero, List.set_cons_succ])))
        simp only [rdMark, rdAct, List.map_cons, List.map_nil, List.length_cons, List.length_nil, Nat.reduceAdd, Nat.reduceSub, Nat.zero_add, List.getElem?_toArray, List.getElem?_cons_zero, List.getElem?_cons_succ, Option.bind_some, Act.put, List.setIfInBounds_toArray, List.set_cons_zero, List.set_cons_succ]
        refine wpL_done (by kernel_rfl) ?_ _
        go_wp2_with fail
        go_roundw
        case rel => exact ⟨j + 1, by omega, by first | go_num | rfl | simp, H⟩
        case measure => simp [intOf]; omega
      · obtain ⟨q, hq⟩ : ∃ q, j = xs.length + q := ⟨j - xs.length, by omega⟩
        have hq12 : q < 12 := by have := HN.out; omega
        obtain ⟨cs, hk1, hl1, hc1⟩ := HMK.out q (lvD (mkLv q)) (by rw [mkD_lv]; exact mk_get hq12)
        rw [← hq] at hc1
        (try simp only [Nat.mul_one] at hc1)
        have HK1 := Lib.hid hk1
        have HL1 := Lib.hid hl1
        have HC1 := Lib.hid hc1
        have hwq : IntKind.i64.wrap ((j : Int) - (xs.length : Int)) = (q : Int) := by rw [IntKind.wrap_i64]; omega
        have hg : (xs.length : Int) ≤ (j : Int) := by omega
        have hg2 : xs.length ≤ j := by omega
        clear hk1 hl1 hc1 hq
        have hr_ := H.rules; simp only [Rules, and_true] at hr_; have hd_ := H.dif; simp only [Dif, Neq, and_true] at hd_; obtain ⟨ho_, hz_⟩ := H.old0
        go_wp2_with fail
        (try clear hr_ hd_ ho_ hz_)
        refine regionH (by (repeat (first | with_reducible exact H | with_reducible exact H0_ | with_reducible apply Hp.alloc | with_reducible apply Hp.allocMap | with_reducible apply Hp.drew | with_reducible apply Hp.drewN | with_reducible apply Hp.set)); (try any_goals (repeat (first | with_reducible exact Upd.head | with_reducible apply Upd.tail)))) ?_
        clear H; intro w2 H; (try simp only [size_drew_, size_drewN_, World.size_alloc, World.size_setCell, List.set_cons_zero, List.set_cons_succ] at H)
        refine wp_region_H 35 [false, false, false, false, false, false, false, false, false, false, false, false, false, false, false, false, false, false, false, false, false, false, false, false, false, false, false, false, false, false, false, false, false, false, false] [] H .nil (by kernel_rfl) rfl rfl (fun H_ hR_ => ?_)
        (try clear H0_); have H0_ := H; clear H; have H := H_; clear H_
        refine wpL_reads (is := [(0, ?v3_0), (1, ?v3_1), (2, ?v3_2), (3, ?v3_3), (4, ?v3_4), (5, ?v3_5), (6, ?v3_6), (7, ?v3_7), (8, ?v3_8), (9, ?v3_9), (10, ?v3_10), (11, ?v3_11), (12, ?v3_12), (13, ?v3_13), (14, ?v3_14), (15, ?v3_15), (16, ?v3_16), (17, ?v3_17), (18, ?v3_18), (19, ?v3_19), (20, ?v3_20), (21, ?v3_21), (22, ?v3_22), (23, ?v3_23), (24, ?v3_24), (25, ?v3_25), (26, ?v3_26), (27, ?v3_27), (28, ?v3_28), (29, ?v3_29)]) (by kernel_rfl) (Nat.le_of_ble_eq_true rfl) (by intro _ _ d_ _ _ h_; cases d_ <;> exact h_) (by kernel_rfl) hR_ (fun w_ hw_ => ?h3_) ?_
        case h3_ =>
          have ho_ := hw_.old0.1; have hz_ := hw_.old0.2; have hr_ := hw_.rules; simp only [Rules, and_true] at hr_; go_split_ands
          (repeat (first | with_reducible exact RdOps.nil | (refine RdOps.run rfl (by rfl) ?_ ?_; (focus (first | (refine Eq.trans (run_loadL aggLevel rfl rfl HL1.out (hw_.lies hb no_not HC1.out)) ?_; with_reducible rfl) | (go_simp; done) | (go_simp; with_reducible rfl))); simp only [List.getElem_toArray, List.getElem_cons_zero, List.getElem_cons_succ, Act.put, List.setIfInBounds_toArray, List.set_cons_zero, List.set_cons_succ]) | (refine RdOps.skip rfl (by rfl) ?_ ?_; (focus (with_reducible rfl)); simp only [List.getElem_toArray, List.getElem_cons_zero, List.getElem_cons_succ, Act.put, List.setIfInBounds_toArray, List.set_cons_zero, List.set_cons_succ])))
        simp only [rdMark, rdAct, List.map_cons, List.map_nil, List.length_cons, List.length_nil, Nat.reduceAdd, Nat.reduceSub, Nat.zero_add, List.getElem?_toArray, List.getElem?_cons_zero, List.getElem?_cons_succ, Option.bind_some, Act.put, List.setIfInBounds_toArray, List.set_cons_zero, List.set_cons_succ]
        refine wpL_do (i := 30) rfl (by kernel_rfl) (by rfl) (fun K_ hK_ => ?_)
        go_simp
        refine (markLevel_calls (i := q) hq12).mono ?_
        rintro e w3 ⟨cs2, rfl, hk2, hx⟩
        obtain ⟨K2, H2⟩ := H.resR hx hk2
        clear H hx hk2
        have H := H2
        clear H2
        refine hK_ _ _ (fun _ => H.sub (by simp)) (fun hR_ => ?_)
        replace hR_ := hR_ (by decide)
        refine wpL_do (i := 31) rfl (by kernel_rfl) (by rfl) (fun K_ hK_ => ?_)
        go_simp
        refine (HSM.out q _ S _ cs cs2 (HK1.out.ext0 H.ext) (H.gh .head)).mono ?_
        rintro e w_ ⟨rfl, hx⟩
        replace H := H.call hx
        clear hx
        refine hK_ _ _ (fun _ => H.sub (by simp)) (fun hR_ => ?_)
        replace hR_ := hR_ (by decide)
        refine wpL_reads (is := [(32, ?v4_0), (33, ?v4_1), (34, ?v4_2)]) (by kernel_rfl) (Nat.le_of_ble_eq_true rfl) (by intro _ _ d_ _ _ h_; cases d_ <;> exact h_) (by kernel_rfl) hR_ (fun w_ hw_ => ?h4_) ?_
        case h4_ =>
          have ho_ := hw_.old0.1; have hz_ := hw_.old0.2; have hr_ := hw_.rules; clear hw_; simp only [Rules, and_true] at hr_; go_split_ands
          (repeat (first | with_reducible exact RdOps.nil | (refine RdOps.run rfl (by rfl) ?_ ?_; (focus (first | (go_simp; done) | (go_simp; with_reducible rfl))); simp only [List.getElem_toArray, List.getElem_cons_zero, List.getElem_cons_succ, Act.put, List.setIfInBounds_toArray, List.set_cons_zero, List.set_cons_succ]) | (refine RdOps.skip rfl (by rfl) ?_ ?_; (focus (with_reducible rfl)); simp only [List.getElem_toArray, List.getElem_cons_zero, List.getElem_cons_succ, Act.put, List.setIfInBounds_toArray, List.set_cons_zero, List.set_cons_succ])))
        simp only [rdMark, rdAct, List.map_cons, List.map_nil, List.length_cons, List.length_nil, Nat.reduceAdd, Nat.reduceSub, Nat.zero_add, List.getElem?_toArray, List.getElem?_cons_zero, List.getElem?_cons_succ, Option.bind_some, Act.put, List.setIfInBounds_toArray, List.set_cons_zero, List.set_cons_succ]
        refine wpL_done (by kernel_rfl) ?_ _
        go_wp2_with fail
        go_roundw
        case rel => exact ⟨j + 1, by omega, by first | go_num | rfl | simp, (H.arr (by (repeat (first | with_reducible exact Arr.nil | refine Arr.cons (by (repeat (first | with_reducible exact Pick.head | with_reducible apply Pick.tail))) ?_)) <;> exact Arr.of_subl (by (repeat (first | with_reducible exact Subl.refl _ | with_reducible apply Subl.drop)))))⟩
        case measure => simp [intOf]; omega
    · go_wp2_with fail
      go_ret
      exact ⟨rfl, H.ext⟩
end Go.Proofs.YteelplgdojjakaaGreatDoor
