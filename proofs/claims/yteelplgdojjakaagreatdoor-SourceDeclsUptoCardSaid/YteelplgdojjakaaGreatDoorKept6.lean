/- The kit's parts that are lent: what looks whether they have stayed: contracts. No statement of the seat is proved here. -/
import Derived.Laws.StructEq
import Derived.Test.YteelplgdojjakaaGreatDoorKept4
import Derived.Test.YteelplgdojjakaaGreatDoorKept5
namespace Go.Proofs.YteelplgdojjakaaGreatDoor
set_option linter.unusedSimpArgs false
set_option linter.unusedVariables false
open Go.RowKit

set_option maxRecDepth 100000 in
set_option maxHeartbeats 4000000 in
theorem keptParts {w : World} {S S' : Nat → Prop} {xs : List (Int × Int)} {A B : Option Addr} {n c cb : Nat}
    (hk : KC mkD w S (.l 149 2 (xs.map ptD)) [.slice A n c]) (h : RC w S' (.l 149 2 (xs.map ptD)) [.slice B n cb]) (hn : n = xs.length) :
    Calls Tryz.prog 183 #[.slice A n c, .slice B n cb] w (PV w (.bool true)) := by
  subst hn
  obtain ⟨b, c0, hv, hc12, hcM, hM0, hb, hS, hel, hmk⟩ := hk.row
  simp only [List.length_map] at hv hc12 hM0 hmk
  have hM : xs.length ≤ 4294967296 := by unfold M at hM0; exact hM0
  obtain ⟨rfl, rfl⟩ : A = some ⟨b, 0, none⟩ ∧ c = c0 := by simpa using hv
  clear hv hM0
  have HEL := Lib.hid hel
  have HMK := Lib.hid hmk
  obtain ⟨N, hN⟩ : ∃ N : Nat, N = xs.length + 12 := ⟨_, rfl⟩
  have hw : IntKind.i64.wrap ((xs.length : Int) + 12) = (N : Int) := by rw [IntKind.wrap_i64]; omega
  have hNc : N ≤ c := by omega
  have hNb : N ≤ 5000000000 := by omega
  have HN := Lib.hid hN
  clear hel hmk hk hN hc12 hcM
  go_enter Tryz.func183, Tryz.ntmps183
  go_wp2_with fail
  have H := Hp.start no w
  go_loopw [6] (fun i wr => ∃ j : Nat, j ≤ N ∧ i = .int .i64 j ∧ Hp no w wr []) (fun i _ => N - (intOf i).toNat)
  case atStart => exact ⟨0, Nat.zero_le _, rfl, H⟩
  case round =>
    clear H
    obtain ⟨j, hj, rfl, H⟩ := hrel
    by_cases hlt : j < N
    · by_cases h2 : j < xs.length
      · obtain ⟨cs, hk1, hl1, hc1⟩ := HEL.out j (ptD xs[j]) (by simp [h2])
        obtain ⟨b', o', rfl, hb', hS', _, _, p0, p1⟩ := h.atPt h2
        obtain ⟨rfl, _, _⟩ := RC.pt.1 hk1.rc
        have q0 := hc1 0 _ rfl
        have q1 := hc1 1 _ rfl
        rw [Nat.add_zero] at q0
        clear hk1 hl1 hc1
        have hg : decide ((xs.length : Int) ≤ (j : Int)) = false := decide_eq_false (by omega)
        have hgn : decide (xs.length ≤ j) = false := decide_eq_false (by omega)
        have hr_ := H.rules; simp only [Rules, and_true] at hr_; have hd_ := H.dif; simp only [Dif, Neq, and_true] at hd_; obtain ⟨ho_, hz_⟩ := H.old0
        go_wp2_with fail
        (try clear hr_ hd_ ho_ hz_)
        refine regionH (by (repeat (first | with_reducible exact H | with_reducible exact H0_ | with_reducible apply Hp.alloc | with_reducible apply Hp.allocMap | with_reducible apply Hp.drew | with_reducible apply Hp.drewN | with_reducible apply Hp.set)); (try any_goals (repeat (first | with_reducible exact Upd.head | with_reducible apply Upd.tail)))) ?_
        clear H; intro w2 H; (try simp only [size_drew_, size_drewN_, World.size_alloc, World.size_setCell, List.set_cons_zero, List.set_cons_succ] at H)
        refine wp_region_H 35 [false, false, false, false, false, false, false, false, false, false, false, false, false, false, false, false, false, false, false, false, false, false, false, false, false, false, false, false, false, false, false, false, false, false, false] [] H .nil (by kernel_rfl) rfl rfl (fun H_ hR_ => ?_)
        (try clear H0_); have H0_ := H; clear H; have H := H_; clear H_
        refine wpL_reads (is := [(0, ?v1_0), (1, ?v1_1), (2, ?v1_2), (3, ?v1_3), (4, ?v1_4), (5, ?v1_5), (6, ?v1_6), (7, ?v1_7), (8, ?v1_8), (9, ?v1_9), (10, ?v1_10), (11, ?v1_11), (12, ?v1_12), (13, ?v1_13), (14, ?v1_14), (15, ?v1_15), (16, ?v1_16), (17, ?v1_17), (18, ?v1_18), (19, ?v1_19), (20, ?v1_20), (21, ?v1_21), (22, ?v1_22), (23, ?v1_23), (24, ?v1_24), (25, ?v1_25), (26, ?v1_26), (27, ?v1_27), (28, ?v1_28), (29, ?v1_29), (30, ?v1_30), (31, ?v1_31), (32, ?v1_32), (33, ?v1_33), (34, ?v1_34)]) (by kernel_rfl) (Nat.le_of_ble_eq_true rfl) (by intro _ _ d_ _ _ h_; cases d_ <;> exact h_) (by kernel_rfl) hR_ (fun w_ hw_ => ?h1_) ?_
        case h1_ =>
          have ho_ := hw_.old0.1; have hz_ := hw_.old0.2; have hr_ := hw_.rules; clear hw_; simp only [Rules, and_true] at hr_; go_split_ands
          (repeat (first | with_reducible exact RdOps.nil | (refine RdOps.run rfl (by rfl) ?_ ?_; (focus (first | (go_simp; done) | (go_simp; with_reducible rfl))); simp only [List.getElem_toArray, List.getElem_cons_zero, List.getElem_cons_succ, Act.put, List.setIfInBounds_toArray, List.set_cons_zero, List.set_cons_succ]) | (refine RdOps.skip rfl (by rfl) ?_ ?_; (focus (with_reducible rfl)); simp only [List.getElem_toArray, List.getElem_cons_zero, List.getElem_cons_succ, Act.put, List.setIfInBounds_toArray, List.set_cons_zero, List.set_cons_succ])))
        simp only [rdMark, rdAct, List.map_cons, List.map_nil, List.length_cons, List.length_nil, Nat.reduceAdd, Nat.reduceSub, Nat.zero_add, List.getElem?_toArray, List.getElem?_cons_zero, List.getElem?_cons_succ, Option.bind_some, Act.put, List.setIfInBounds_toArray, List.set_cons_zero, List.set_cons_succ]
        refine wpL_done (by kernel_rfl) ?_ _
        go_wp2_with fail
        go_roundw
        case rel => exact ⟨j + 1, by omega, by first | go_num | rfl | simp, (H.arr (by (repeat (first | with_reducible exact Arr.nil | refine Arr.cons (by (repeat (first | with_reducible exact Pick.head | with_reducible apply Pick.tail))) ?_)) <;> exact Arr.of_subl (by (repeat (first | with_reducible exact Subl.refl _ | with_reducible apply Subl.drop)))))⟩
        case measure => simp [intOf]; omega
      · obtain ⟨q, hq⟩ : ∃ q, j = xs.length + q := ⟨j - xs.length, by omega⟩
        have hq12 : q < 12 := by have := HN.out; omega
        obtain ⟨cs, hk1, hl1, hc1⟩ := HMK.out q (ptD (mkPt q)) (by rw [mkD_pt]; exact mk_get hq12)
        rw [← hq] at hc1
        obtain ⟨rfl, _, _⟩ := RC.pt.1 hk1
        have q0 := hc1 0 _ rfl
        have q1 := hc1 1 _ rfl
        rw [Nat.add_zero] at q0
        simp only [mkPt] at q0 q1
        have hwq : IntKind.i64.wrap ((j : Int) - (xs.length : Int)) = (q : Int) := by rw [IntKind.wrap_i64]; omega
        have hg : (xs.length : Int) ≤ (j : Int) := by omega
        have hg2 : xs.length ≤ j := by omega
        clear hk1 hl1 hc1 hq
        have hr_ := H.rules; simp only [Rules, and_true] at hr_; have hd_ := H.dif; simp only [Dif, Neq, and_true] at hd_; obtain ⟨ho_, hz_⟩ := H.old0
        go_wp2_with fail
        (try clear hr_ hd_ ho_ hz_)
        refine regionH (by (repeat (first | with_reducible exact H | with_reducible exact H0_ | with_reducible apply Hp.alloc | with_reducible apply Hp.allocMap | with_reducible apply Hp.drew | with_reducible apply Hp.drewN | with_reducible apply Hp.set)); (try any_goals (repeat (first | with_reducible exact Upd.head | with_reducible apply Upd.tail)))) ?_
        clear H; intro w2 H; (try simp only [size_drew_, size_drewN_, World.size_alloc, World.size_setCell, List.set_cons_zero, List.set_cons_succ] at H)
        refine wp_region_H 35 [false, false, false, false, false, false, false, false, false, false, false, false, false, false, false, false, false, false, false, false, false, false, false, false, false, false, false, false, false, false, false, false, false, false, false] [] H .nil (by kernel_rfl) rfl rfl (fun H_ hR_ => ?_)
        (try clear H0_); have H0_ := H; clear H; have H := H_; clear H_
        refine wpL_reads (is := [(0, ?v2_0), (1, ?v2_1), (2, ?v2_2), (3, ?v2_3), (4, ?v2_4), (5, ?v2_5), (6, ?v2_6), (7, ?v2_7), (8, ?v2_8), (9, ?v2_9), (10, ?v2_10), (11, ?v2_11), (12, ?v2_12), (13, ?v2_13), (14, ?v2_14), (15, ?v2_15), (16, ?v2_16), (17, ?v2_17), (18, ?v2_18), (19, ?v2_19), (20, ?v2_20), (21, ?v2_21), (22, ?v2_22), (23, ?v2_23), (24, ?v2_24), (25, ?v2_25), (26, ?v2_26), (27, ?v2_27), (28, ?v2_28), (29, ?v2_29)]) (by kernel_rfl) (Nat.le_of_ble_eq_true rfl) (by intro _ _ d_ _ _ h_; cases d_ <;> exact h_) (by kernel_rfl) hR_ (fun w_ hw_ => ?h2_) ?_
        case h2_ =>
          have ho_ := hw_.old0.1; have hz_ := hw_.old0.2; have hr_ := hw_.rules; clear hw_; simp only [Rules, and_true] at hr_; go_split_ands
          (repeat (first | with_reducible exact RdOps.nil | (refine RdOps.run rfl (by rfl) ?_ ?_; (focus (first | (go_simp; done) | (go_simp; with_reducible rfl))); simp only [List.getElem_toArray, List.getElem_cons_zero, List.getElem_cons_succ, Act.put, List.setIfInBounds_toArray, List.set_cons_zero, List.set_cons_succ]) | (refine RdOps.skip rfl (by rfl) ?_ ?_; (focus (with_reducible rfl)); simp only [List.getElem_toArray, List.getElem_cons_zero, List.getElem_cons_succ, Act.put, List.setIfInBounds_toArray, List.set_cons_zero, List.set_cons_succ])))
        simp only [rdMark, rdAct, List.map_cons, List.map_nil, List.length_cons, List.length_nil, Nat.reduceAdd, Nat.reduceSub, Nat.zero_add, List.getElem?_toArray, List.getElem?_cons_zero, List.getElem?_cons_succ, Option.bind_some, Act.put, List.setIfInBounds_toArray, List.set_cons_zero, List.set_cons_succ]
        refine wpL_do (i := 30) rfl (by kernel_rfl) (by rfl) (fun K_ hK_ => ?_)
        go_simp
        refine (markPart_calls (i := q) hq12).mono ?_
        rintro e w3 ⟨cs2, rfl, hk2, hx⟩
        obtain ⟨rfl, _, _⟩ := RC.pt.1 hk2
        replace H := H.call hx
        clear hx hk2
        refine hK_ _ _ (fun _ => H.sub (by simp)) (fun hR_ => ?_)
        replace hR_ := hR_ (by decide)
        simp only [mkPt]
        refine wpL_reads (is := [(31, ?v3_0), (32, ?v3_1), (33, ?v3_2), (34, ?v3_3)]) (by kernel_rfl) (Nat.le_of_ble_eq_true rfl) (by intro _ _ d_ _ _ h_; cases d_ <;> exact h_) (by kernel_rfl) hR_ (fun w_ hw_ => ?h3_) ?_
        case h3_ =>
          have ho_ := hw_.old0.1; have hz_ := hw_.old0.2; have hr_ := hw_.rules; clear hw_; simp only [Rules, and_true] at hr_; go_split_ands
          (repeat (first | with_reducible exact RdOps.nil | (refine RdOps.run rfl (by rfl) ?_ ?_; (focus (first | (go_simp; done) | (go_simp; with_reducible rfl))); simp only [List.getElem_toArray, List.getElem_cons_zero, List.getElem_cons_succ, Act.put, List.setIfInBounds_toArray, List.set_cons_zero, List.set_cons_succ]) | (refine RdOps.skip rfl (by rfl) ?_ ?_; (focus (with_reducible rfl)); simp only [List.getElem_toArray, List.getElem_cons_zero, List.getElem_cons_succ, Act.put, List.setIfInBounds_toArray, List.set_cons_zero, List.set_cons_succ])))
        simp only [rdMark, rdAct, List.map_cons, List.map_nil, List.length_cons, List.length_nil, Nat.reduceAdd, Nat.reduceSub, Nat.zero_add, List.getElem?_toArray, List.getElem?_cons_zero, List.getElem?_cons_succ, Option.bind_some, Act.put, List.setIfInBounds_toArray, List.set_cons_zero, List.set_cons_succ]
        refine wpL_done (by kernel_rfl) ?_ _
        go_wp2_with fail
        go_roundw
        case rel => exact ⟨j + 1, by omega, by first | go_num | rfl | simp, (H.arr (by (repeat (first | with_reducible exact Arr.nil | refine Arr.cons (by (repeat (first | with_reducible exact Pick.head | with_reducible apply Pick.tail))) ?_)) <;> exact Arr.of_subl (by (repeat (first | with_reducible exact Subl.refl _ | with_reducible apply Subl.drop)))))⟩
        case measure => simp [intOf]; omega
    · go_wp2_with fail
      go_ret
      exact ⟨rfl, H.ext⟩
theorem RC.ofLv {w : World} {S : Nat → Prop} {x : Lv} {cs : List Value} (h : RC w S (lvD x) cs) : ∃ A c, cs = [.slice A x.length c] ∧ RC w S (.l 149 2 (x.map ptD)) [.slice A x.length c] := by
  obtain ⟨A, c, h1, h2⟩ := RC.lv.1 h
  exact ⟨A, c, h1, h2⟩
theorem KC.unlv {mk : Nat → List D} {w : World} {S : Nat → Prop} {x : Lv} {cs : List Value} (h : KC mk w S (lvD x) cs) : ∃ A c, cs = [.slice A x.length c] ∧ KC mk w S (.l 149 2 (x.map ptD)) [.slice A x.length c] := by
  obtain ⟨A, c, rfl, _⟩ := RC.lv.1 h.rc
  refine ⟨A, c, rfl, ?_⟩
  unfold lvD KC KCs at h
  obtain ⟨c1, c2, h1, h2, h3⟩ := h
  unfold KCs at h3
  subst h3
  rw [List.append_nil] at h1
  rw [h1]
  exact h2
set_option maxRecDepth 100000 in
set_option maxHeartbeats 4000000 in
theorem keptLevel (x : Lv) (w : World) (S S' : Nat → Prop) (cs cs' : List Value) (h : KC mkD w S (lvD x) cs) (k : RC w S' (lvD x) cs') : Calls Tryz.prog 110 #[.agg cs.toArray, .agg cs'.toArray] w (PV w (.bool true)) := by
  obtain ⟨A, c, rfl, h1⟩ := h.unlv
  obtain ⟨B, c', rfl, k1⟩ := k.ofLv
  have H0 := Lib.hid h
  have H1 := Lib.hid h1
  have K0 := Lib.hid k
  have K1 := Lib.hid k1
  clear h k h1 k1
  go_enter Tryz.func110, Tryz.ntmps110
  go_wp2_with fail
  have H := Hp.start no w
  refine callsH (by (repeat (first | with_reducible exact H | with_reducible exact H0_ | with_reducible apply Hp.alloc | with_reducible apply Hp.allocMap | with_reducible apply Hp.drew | with_reducible apply Hp.drewN | with_reducible apply Hp.set)); (try any_goals (repeat (first | with_reducible exact Upd.head | with_reducible apply Upd.tail)))) ?_
  clear H; intro w1 H; (try simp only [size_drew_, size_drewN_, World.size_alloc, World.size_setCell, List.set_cons_zero, List.set_cons_succ] at H)
  refine (sameLvK x _ _ _ _ _ (H0.out.rc.ext0 H.ext) (K0.out.ext0 H.ext)).mono ?_
  rintro e w_ ⟨rfl, hx⟩
  replace H := H.call hx
  clear hx
  have hr_ := H.rules; simp only [Rules, and_true] at hr_; have hd_ := H.dif; simp only [Dif, Neq, and_true] at hd_; obtain ⟨ho_, hz_⟩ := H.old0
  go_wp2_with fail
  (try clear hr_ hd_ ho_ hz_)
  refine (keptParts (KC.frame H.ext.size (fun _ _ h => h) (fun k h1 _ => H.ext.block k h1 no_not) _ _ H1.out) (K1.out.ext0 H.ext) rfl).mono ?_
  rintro e w_ ⟨rfl, hx⟩
  replace H := H.call hx
  clear hx
  go_wp2_with fail
  go_ret
  exact ⟨rfl, H.ext⟩
end Go.Proofs.YteelplgdojjakaaGreatDoor
