/- law 04: TeleOpens: contract. No statement of the seat is proved here. -/
import Derived.Test.YteelplgdojjakaaDoorTo9
import Derived.Test.YteelplgdojjakaaDoorAwake04
namespace Go.Proofs.YteelplgdojjakaaDoor
set_option linter.unusedSimpArgs false
set_option linter.unusedVariables false
open Go.RowKit

set_option maxRecDepth 100000 in
set_option maxHeartbeats 0 in
theorem teleOpens_calls {w : World} {S1 S2 S3 : Nat → Prop} {row by_ : List Tm} {t : Tm} {A B : Option Addr} {c cb : Nat} {v : Value} (hT : Tab w) (hrow : RC w S1 (.l 30 5 (row.map Tm.d)) [.slice A row.length c]) (ht : TV w S2 t v) (hby : RC w S3 (.l 30 5 (by_.map Tm.d)) [.slice B by_.length cb]) (n : Int) (hn : inI n)
    (b1 : D.bulks (row.map Tm.d) ≤ 1048576) (b2 : t.d.bulk ≤ 1048576) (b3 : D.bulks (by_.map Tm.d) ≤ 1048576) :
    Calls Tryd.prog 5 #[.slice A row.length c, v, .slice B by_.length cb, .int .i64 n] w (PV w (.bool true)) := by
  obtain ⟨A0, ca, K0, ck, rfl, hrc⟩ := ht
  have hrl : row.length ≤ 1048576 := by have := D.len_bulks (row.map Tm.d); simp only [List.length_map] at this; omega
  have hbl : by_.length ≤ 1048576 := by have := D.len_bulks (by_.map Tm.d); simp only [List.length_map] at this; omega
  have hDT : depthT t ≤ 1048576 := by have := depthT_bulk t; omega
  have hcT : countT t ≤ 1048576 := by have := countT_depth t; omega
  have hsT : sizeT t ≤ 1048576 := by have := sizeT_bulk t; omega
  have hsR : sizesT row ≤ 1048576 := by have := sizesT_bulk (ks := row) (fun t _ => sizeT_bulk t); omega
  have hDR : depthsT row ≤ 1048576 := by have := depthsT_bulk (ks := row) (fun t _ => depthT_bulk t); omega
  have hM := hrow.lenM
  have hrc' := hM.2
  have hmin : ∃ f : Nat, min (max n 0) (row.length : Int) = (f : Int) ∧ f ≤ row.length := ⟨(min (max n 0) (row.length : Int)).toNat, by omega, by omega⟩
  obtain ⟨f, hf, hfl⟩ := hmin
  have HF := Lib.hid hf
  have HT := Lib.hid hT
  have HR := Lib.hid hrow
  have HV := Lib.hid hrc
  have HB := Lib.hid hby
  have HN := Lib.hid hn
  have HDT := Lib.hid hDT
  have HDR := Lib.hid hDR
  clear hT hrow hrc hby hn b1 b2 b3 hM hf hDT hDR
  go_enter Tryd.func5, Tryd.ntmps5
  go_wp2_with fail
  have H := Hp.start no w
  refine callsH (by (repeat (first | with_reducible exact H | with_reducible exact H0_ | with_reducible apply Hp.alloc | with_reducible apply Hp.allocMap | with_reducible apply Hp.drew | with_reducible apply Hp.drewN | with_reducible apply Hp.set)); (try any_goals (repeat (first | with_reducible exact Upd.head | with_reducible apply Upd.tail)))) ?_
  clear H; intro w1 H; (try simp only [size_drew_, size_drewN_, World.size_alloc, World.size_setCell, List.set_cons_zero, List.set_cons_succ] at H)
  refine (awake04_calls (HT.out.ext H.ext)).mono ?_
  rintro e w_ ⟨rfl, hx⟩
  replace H := H.call hx
  clear hx
  have hr_ := H.rules; simp only [Rules, and_true] at hr_; have hd_ := H.dif; simp only [Dif, Neq, and_true] at hd_; obtain ⟨ho_, hz_⟩ := H.old0
  go_wp2_with fail
  clear hr_ hd_ ho_ hz_
  refine (great04_calls (t := t) (ts := row) ⟨_, _, _, _, rfl, HV.out.ext0 H.ext⟩ (HR.out.ext0 H.ext) rfl (by omega)).mono ?_
  rintro e w_ ⟨q, rfl, hx⟩
  replace H := H.call hx
  clear hx
  have hr_ := H.rules; simp only [Rules, and_true] at hr_; have hd_ := H.dif; simp only [Dif, Neq, and_true] at hd_; obtain ⟨ho_, hz_⟩ := H.old0
  cases q
  case true =>
    go_wp2_with fail
    go_ret
    exact ⟨rfl, H.ext⟩
  go_wp2_with fail
  clear hr_ hd_ ho_ hz_
  refine (great04_calls (t := t) (ts := by_) ⟨_, _, _, _, rfl, HV.out.ext0 H.ext⟩ (HB.out.ext0 H.ext) rfl (by omega)).mono ?_
  rintro e w_ ⟨q, rfl, hx⟩
  replace H := H.call hx
  clear hx
  have hr_ := H.rules; simp only [Rules, and_true] at hr_; have hd_ := H.dif; simp only [Dif, Neq, and_true] at hd_; obtain ⟨ho_, hz_⟩ := H.old0
  cases q
  case true =>
    go_wp2_with fail
    go_ret
    exact ⟨rfl, H.ext⟩
  go_wp2_with fail
  clear hr_ hd_ ho_ hz_
  refine (sizeN (t := t) ⟨_, _, _, _, rfl, HV.out.ext0 H.ext⟩ (by omega)).mono ?_
  rintro e w_ ⟨rfl, hx⟩
  replace H := H.call hx
  clear hx
  have hr_ := H.rules; simp only [Rules, and_true] at hr_; have hd_ := H.dif; simp only [Dif, Neq, and_true] at hd_; obtain ⟨ho_, hz_⟩ := H.old0
  by_cases hbig : (200 : Int) < (sizeT t : Int) + (row.length : Int)
  · go_wp2_with fail
    go_ret
    exact ⟨rfl, H.ext⟩
  go_wp2_with fail
  clear hr_ hd_ ho_ hz_
  refine (pis_calls (ts := row) (b := t) (HT.out.ext H.ext) (HR.out.ext0 H.ext) rfl ⟨_, _, _, _, rfl, HV.out.ext0 H.ext⟩).mono ?_
  rintro e w_ ⟨v, rfl, hto, hx⟩
  obtain ⟨P1, Pc, P2, Pk, rfl, H_⟩ := H.resTm hx hto
  clear H hx hto
  have H := H_
  clear H_
  obtain ⟨T, hTT⟩ : ∃ T, T = aboveT 4 row t := ⟨_, rfl⟩
  rw [← hTT] at H ⊢
  have HTT := Lib.hid hTT
  clear hTT
  have hr_ := H.rules; simp only [Rules, and_true] at hr_; have hd_ := H.dif; simp only [Dif, Neq, and_true] at hd_; obtain ⟨ho_, hz_⟩ := H.old0
  go_wp2_with ((with_reducible refine atStore (t := 30) ?_); go_must (refine wpList_storeH (t := 30) rfl rfl (by go_simp <;> first | rfl | exact ⟨rfl, rfl⟩) (by go_simp <;> first | rfl | exact ⟨rfl, rfl⟩) (by exact Hp.norm (by (repeat (first | with_reducible exact H | with_reducible exact H0_ | with_reducible apply Hp.alloc | with_reducible apply Hp.allocMap | with_reducible apply Hp.drew | with_reducible apply Hp.drewN | with_reducible apply Hp.set)); (try any_goals (repeat (first | with_reducible exact Upd.head | with_reducible apply Upd.tail)))) (by ((try simp only [size_drew_, size_drewN_, World.size_alloc, World.size_setCell, List.set_cons_zero, List.set_cons_succ, List.nil_append, List.cons_append]) <;> rfl))) (by (repeat (first | with_reducible exact Upd.head | with_reducible apply Upd.tail))) (by exact aggTerm) (by rfl) (by simp [Value.oneCell']) ?_; clear H; intro w7 H; (try simp only [size_drew_, size_drewN_, World.size_alloc, World.size_setCell, List.set_cons_zero, List.set_cons_succ] at H); (try clear hr_ hd_ ho_ hz_); have hr_ := H.rules; simp only [Rules, and_true] at hr_; have hd_ := H.dif; simp only [Dif, Neq, and_true] at hd_; obtain ⟨ho_, hz_⟩ := H.old0))
  (try clear hr_ hd_ ho_ hz_)
  refine callsH (by (repeat (first | with_reducible exact H | with_reducible exact H0_ | with_reducible apply Hp.alloc | with_reducible apply Hp.allocMap | with_reducible apply Hp.drew | with_reducible apply Hp.drewN | with_reducible apply Hp.set)); (try any_goals (repeat (first | with_reducible exact Upd.head | with_reducible apply Upd.tail)))) ?_
  clear H; intro w8 H; (try simp only [size_drew_, size_drewN_, World.size_alloc, World.size_setCell, List.set_cons_zero, List.set_cons_succ] at H)
  refine (openS (t := T) (r := t) (ls := row) (HT.out.ext H.ext) ⟨_, _, _, _, rfl, H.rd (by (repeat (first | with_reducible exact Pick.head | with_reducible apply Pick.tail)))⟩ row.length (.inr (by omega)) (by unfold inI; omega) (by rw [HTT.out]; exact openN_above row t)).mono ?_
  rintro e w_ ⟨D1, D1c, D2, D2c, D3, D3c, rfl, H2⟩
  replace H := H.res2 H2
  clear H2
  have hr_ := H.rules; simp only [Rules, and_true] at hr_; have hd_ := H.dif; simp only [Dif, Neq, and_true] at hd_; obtain ⟨ho_, hz_⟩ := H.old0
  go_wp2_with ((with_reducible refine atStore (t := 30) ?_); go_must (refine wpList_storeH (t := 30) rfl rfl (by go_simp <;> first | rfl | exact ⟨rfl, rfl⟩) (by go_simp <;> first | rfl | exact ⟨rfl, rfl⟩) (by exact Hp.norm (by (repeat (first | with_reducible exact H | with_reducible exact H0_ | with_reducible apply Hp.alloc | with_reducible apply Hp.allocMap | with_reducible apply Hp.drew | with_reducible apply Hp.drewN | with_reducible apply Hp.set)); (try any_goals (repeat (first | with_reducible exact Upd.head | with_reducible apply Upd.tail)))) (by ((try simp only [size_drew_, size_drewN_, World.size_alloc, World.size_setCell, List.set_cons_zero, List.set_cons_succ, List.nil_append, List.cons_append]) <;> rfl))) (by (repeat (first | with_reducible exact Upd.head | with_reducible apply Upd.tail))) (by exact aggTerm) (by rfl) (by simp [Value.oneCell']) ?_; clear H; intro w7 H; (try simp only [size_drew_, size_drewN_, World.size_alloc, World.size_setCell, List.set_cons_zero, List.set_cons_succ] at H); (try clear hr_ hd_ ho_ hz_); have hr_ := H.rules; simp only [Rules, and_true] at hr_; have hd_ := H.dif; simp only [Dif, Neq, and_true] at hd_; obtain ⟨ho_, hz_⟩ := H.old0))
  (try clear hr_ hd_ ho_ hz_)
  refine regionH (by (repeat (first | with_reducible exact H | with_reducible exact H0_ | with_reducible apply Hp.alloc | with_reducible apply Hp.allocMap | with_reducible apply Hp.drew | with_reducible apply Hp.drewN | with_reducible apply Hp.set)); (try any_goals (repeat (first | with_reducible exact Upd.head | with_reducible apply Upd.tail)))) ?_
  clear H; intro w9 H; (try simp only [size_drew_, size_drewN_, World.size_alloc, World.size_setCell, List.set_cons_zero, List.set_cons_succ] at H)
  have hw1 : IntKind.i64.wrap ((row.length : Int) + (countT t : Int)) = (row.length : Int) + (countT t : Int) := by rw [IntKind.wrap_i64]; omega
  have hw2 : IntKind.i64.wrap ((sizeT t : Int) + ((sizesT row : Int) + 1)) = (sizeT t : Int) + ((sizesT row : Int) + 1) := by rw [IntKind.wrap_i64]; omega
  have hw3 : IntKind.i64.wrap ((sizeT t : Int) + ((sizesT row : Int) + 1) - 1) = (sizeT t : Int) + (sizesT row : Int) := by rw [IntKind.wrap_i64]; omega
  have hw4 : IntKind.i64.wrap ((sizeT t : Int) + (sizesT row : Int) + (row.length : Int)) = (sizesT row : Int) + (row.length : Int) + (sizeT t : Int) := by rw [IntKind.wrap_i64]; omega
  refine wp_region_H 39 [false, false, false, false, false, false, false, false, false, false, false, false, false, false, false, false, false, false, false, false, false, false, false, false, false, false, false, false, false, false, false, false, false, false, false, false, false, false, false] [] H (.cons (i := 0) rfl (.cons (i := 3) rfl (.cons (i := 5) rfl .nil))) (by kernel_rfl) rfl rfl (fun H_ hR_ => ?_)
  (try clear H0_); have H0_ := H; clear H; have H := H_; clear H_
  refine wpL_reads (is := [(0, ?v1_0), (1, ?v1_1), (2, ?v1_2), (3, ?v1_3), (4, ?v1_4)]) (by kernel_rfl) (Nat.le_of_ble_eq_true rfl) (by intro _ _ d_ _ _ h_; cases d_ <;> exact h_) (by kernel_rfl) hR_ (fun w_ hw_ => ?h1_) ?_
  case h1_ =>
    have ho_ := hw_.old0.1; have hz_ := hw_.old0.2; have hr_ := hw_.rules; clear hw_; simp only [Rules, and_true] at hr_; go_split_ands
    (repeat (first | with_reducible exact RdOps.nil | (refine RdOps.run rfl (by rfl) ?_ ?_; (focus (first | (go_simp; done) | (go_simp; with_reducible rfl))); simp only [List.getElem_toArray, List.getElem_cons_zero, List.getElem_cons_succ, Act.put, List.setIfInBounds_toArray, List.set_cons_zero, List.set_cons_succ]) | (refine RdOps.skip rfl (by rfl) ?_; simp only [List.getElem_toArray, List.getElem_cons_zero, List.getElem_cons_succ, Act.put, List.setIfInBounds_toArray, List.set_cons_zero, List.set_cons_succ])))
  simp only [rdMark, rdAct, List.map_cons, List.map_nil, List.length_cons, List.length_nil, Nat.reduceAdd, Nat.reduceSub, Nat.zero_add, List.getElem?_toArray, List.getElem?_cons_zero, List.getElem?_cons_succ, Option.bind_some, Act.put, List.setIfInBounds_toArray, List.set_cons_zero, List.set_cons_succ]
  refine wpL_do (i := 5) rfl (by kernel_rfl) (by rfl) (fun K_ hK_ => ?_)
  go_simp
  refine (rows04_calls (xs := row) (ys := row) (H.rd (by (repeat (first | with_reducible exact Pick.head | with_reducible apply Pick.tail)))) (HR.out.ext0 H.ext)).mono ?_
  rintro e w_ ⟨q, rfl, hq, hx⟩
  obtain rfl : q = true := hq.2 (rfl)
  replace H := H.call hx
  clear hx hq
  refine hK_ _ _ (fun _ => H.sub (by simp)) (fun hR_ => ?_)
  replace hR_ := hR_ (by decide)
  refine wpL_reads (is := [(6, ?v2_0), (7, ?v2_1), (8, ?v2_2), (9, ?v2_3), (10, ?v2_4)]) (by kernel_rfl) (Nat.le_of_ble_eq_true rfl) (by intro _ _ d_ _ _ h_; cases d_ <;> exact h_) (by kernel_rfl) hR_ (fun w_ hw_ => ?h2_) ?_
  case h2_ =>
    have ho_ := hw_.old0.1; have hz_ := hw_.old0.2; have hr_ := hw_.rules; clear hw_; simp only [Rules, and_true] at hr_; go_split_ands
    (repeat (first | with_reducible exact RdOps.nil | (refine RdOps.run rfl (by rfl) ?_ ?_; (focus (first | (go_simp; done) | (go_simp; with_reducible rfl))); simp only [List.getElem_toArray, List.getElem_cons_zero, List.getElem_cons_succ, Act.put, List.setIfInBounds_toArray, List.set_cons_zero, List.set_cons_succ]) | (refine RdOps.skip rfl (by rfl) ?_; simp only [List.getElem_toArray, List.getElem_cons_zero, List.getElem_cons_succ, Act.put, List.setIfInBounds_toArray, List.set_cons_zero, List.set_cons_succ])))
  simp only [rdMark, rdAct, List.map_cons, List.map_nil, List.length_cons, List.length_nil, Nat.reduceAdd, Nat.reduceSub, Nat.zero_add, List.getElem?_toArray, List.getElem?_cons_zero, List.getElem?_cons_succ, Option.bind_some, Act.put, List.setIfInBounds_toArray, List.set_cons_zero, List.set_cons_succ]
  refine wpL_do (i := 11) rfl (by kernel_rfl) (by rfl) (fun K_ hK_ => ?_)
  go_simp
  refine (same04_calls (x := t) (y := t) ⟨_, _, _, _, rfl, H.rd (by (repeat (first | with_reducible exact Pick.head | with_reducible apply Pick.tail)))⟩ ⟨_, _, _, _, rfl, HV.out.ext0 H.ext⟩).mono ?_
  rintro e w_ ⟨q, rfl, hq, hx⟩
  obtain rfl : q = true := hq.2 (rfl)
  replace H := H.call hx
  clear hx hq
  refine hK_ _ _ (fun _ => H.sub (by simp)) (fun hR_ => ?_)
  replace hR_ := hR_ (by decide)
  refine wpL_reads (is := [(12, ?v3_0), (13, ?v3_1), (14, ?v3_2), (15, ?v3_3), (17, ?v3_4), (18, ?v3_5), (19, ?v3_6)]) (by kernel_rfl) (Nat.le_of_ble_eq_true rfl) (by intro _ _ d_ _ _ h_; cases d_ <;> exact h_) (by kernel_rfl) hR_ (fun w_ hw_ => ?h3_) ?_
  case h3_ =>
    have ho_ := hw_.old0.1; have hz_ := hw_.old0.2; have hr_ := hw_.rules; clear hw_; simp only [Rules, and_true] at hr_; go_split_ands
    (repeat (first | with_reducible exact RdOps.nil | (refine RdOps.run rfl (by rfl) ?_ ?_; (focus (first | (go_simp; done) | (go_simp; with_reducible rfl))); simp only [List.getElem_toArray, List.getElem_cons_zero, List.getElem_cons_succ, Act.put, List.setIfInBounds_toArray, List.set_cons_zero, List.set_cons_succ]) | (refine RdOps.skip rfl (by rfl) ?_; simp only [List.getElem_toArray, List.getElem_cons_zero, List.getElem_cons_succ, Act.put, List.setIfInBounds_toArray, List.set_cons_zero, List.set_cons_succ])))
  simp only [rdMark, rdAct, List.map_cons, List.map_nil, List.length_cons, List.length_nil, Nat.reduceAdd, Nat.reduceSub, Nat.zero_add, List.getElem?_toArray, List.getElem?_cons_zero, List.getElem?_cons_succ, Option.bind_some, Act.put, List.setIfInBounds_toArray, List.set_cons_zero, List.set_cons_succ]
  refine wpL_do (i := 16) rfl (by kernel_rfl) (by rfl) (fun K_ hK_ => ?_)
  go_simp
  have hcall := teleCount (w := w_) (t := T) ⟨_, _, _, _, rfl, H.rd (by (repeat (first | with_reducible exact Pick.head | with_reducible apply Pick.tail)))⟩ (by rw [HTT.out, countT_above]; omega)
  rw [show countT T = row.length + countT t by rw [HTT.out, countT_above], Int.natCast_add] at hcall
  refine hcall.mono ?_
  clear hcall
  rintro e w_ ⟨rfl, hx⟩
  replace H := H.call hx
  clear hx
  refine hK_ _ _ (fun _ => H.sub (by simp)) (fun hR_ => ?_)
  replace hR_ := hR_ (by decide)
  refine wpL_do (i := 20) rfl (by kernel_rfl) (by rfl) (fun K_ hK_ => ?_)
  go_simp
  refine (teleCount (t := t) ⟨_, _, _, _, rfl, HV.out.ext0 H.ext⟩ (by omega)).mono ?_
  rintro e w_ ⟨rfl, hx⟩
  replace H := H.call hx
  clear hx
  refine hK_ _ _ (fun _ => H.sub (by simp)) (fun hR_ => ?_)
  replace hR_ := hR_ (by decide)
  refine wpL_reads (is := [(21, ?v4_0), (22, ?v4_1), (23, ?v4_2), (24, ?v4_3), (25, ?v4_4), (27, ?v4_5), (29, ?v4_6), (30, ?v4_7), (34, ?v4_8), (35, ?v4_9)]) (by kernel_rfl) (Nat.le_of_ble_eq_true rfl) (by intro _ _ d_ _ _ h_; cases d_ <;> exact h_) (by kernel_rfl) hR_ (fun w_ hw_ => ?h4_) ?_
  case h4_ =>
    have ho_ := hw_.old0.1; have hz_ := hw_.old0.2; have hr_ := hw_.rules; clear hw_; simp only [Rules, and_true] at hr_; go_split_ands
    (repeat (first | with_reducible exact RdOps.nil | (refine RdOps.run rfl (by rfl) ?_ ?_; (focus (first | (go_simp; done) | (go_simp; with_reducible rfl))); simp only [List.getElem_toArray, List.getElem_cons_zero, List.getElem_cons_succ, Act.put, List.setIfInBounds_toArray, List.set_cons_zero, List.set_cons_succ]) | (refine RdOps.skip rfl (by rfl) ?_; simp only [List.getElem_toArray, List.getElem_cons_zero, List.getElem_cons_succ, Act.put, List.setIfInBounds_toArray, List.set_cons_zero, List.set_cons_succ])))
  simp only [rdMark, rdAct, List.map_cons, List.map_nil, List.length_cons, List.length_nil, Nat.reduceAdd, Nat.reduceSub, Nat.zero_add, List.getElem?_toArray, List.getElem?_cons_zero, List.getElem?_cons_succ, Option.bind_some, Act.put, List.setIfInBounds_toArray, List.set_cons_zero, List.set_cons_succ]
  refine wpL_do (i := 26) rfl (by kernel_rfl) (by rfl) (fun K_ hK_ => ?_)
  go_simp
  have hcall := sizeN (w := w_) (t := T) ⟨_, _, _, _, rfl, H.rd (by (repeat (first | with_reducible exact Pick.head | with_reducible apply Pick.tail)))⟩ (by rw [HTT.out, sizeT_above]; omega)
  rw [show sizeT T = sizesT row + row.length + sizeT t by rw [HTT.out, sizeT_above], Int.natCast_add, Int.natCast_add] at hcall
  refine hcall.mono ?_
  clear hcall
  rintro e w_ ⟨rfl, hx⟩
  replace H := H.call hx
  clear hx
  refine hK_ _ _ (fun _ => H.sub (by simp)) (fun hR_ => ?_)
  replace hR_ := hR_ (by decide)
  refine wpL_do (i := 28) rfl (by kernel_rfl) (by rfl) (fun K_ hK_ => ?_)
  go_simp
  refine (sizeN (t := t) ⟨_, _, _, _, rfl, HV.out.ext0 H.ext⟩ (by omega)).mono ?_
  rintro e w_ ⟨rfl, hx⟩
  replace H := H.call hx
  clear hx
  refine hK_ _ _ (fun _ => H.sub (by simp)) (fun hR_ => ?_)
  replace hR_ := hR_ (by decide)
  refine wpL_do (i := 31) rfl (by kernel_rfl) (by rfl) (fun K_ hK_ => ?_)
  go_simp
  have hcall := sizeN (w := w_) (t := .mk 0 0 0 [] row) ⟨none, 0, A, c, rfl, RC.tm.2 ⟨none, 0, A, c, rfl, (show inI 0 from ⟨by decide, by decide⟩), (show inI 0 from ⟨by decide, by decide⟩), (show inI 0 from ⟨by decide, by decide⟩), RC.nil, HR.out.ext0 H.ext⟩⟩ (by rw [sizeT]; omega)
  rw [show sizeT (.mk 0 0 0 [] row) = sizesT row + 1 by rw [sizeT], Int.natCast_add] at hcall
  refine hcall.mono ?_
  clear hcall
  rintro e w_ ⟨rfl, hx⟩
  replace H := H.call hx
  clear hx
  refine hK_ _ _ (fun _ => H.sub (by simp)) (fun hR_ => ?_)
  replace hR_ := hR_ (by decide)
  refine wpL_reads (is := [(32, ?v5_0), (33, ?v5_1), (36, ?v5_2), (37, ?v5_3), (38, ?v5_4)]) (by kernel_rfl) (Nat.le_of_ble_eq_true rfl) (by intro _ _ d_ _ _ h_; cases d_ <;> exact h_) (by kernel_rfl) hR_ (fun w_ hw_ => ?h5_) ?_
  case h5_ =>
    have ho_ := hw_.old0.1; have hz_ := hw_.old0.2; have hr_ := hw_.rules; clear hw_; simp only [Rules, and_true] at hr_; go_split_ands
    (repeat (first | with_reducible exact RdOps.nil | (refine RdOps.run rfl (by rfl) ?_ ?_; (focus (first | (go_simp; done) | (go_simp; with_reducible rfl))); simp only [List.getElem_toArray, List.getElem_cons_zero, List.getElem_cons_succ, Act.put, List.setIfInBounds_toArray, List.set_cons_zero, List.set_cons_succ]) | (refine RdOps.skip rfl (by rfl) ?_; simp only [List.getElem_toArray, List.getElem_cons_zero, List.getElem_cons_succ, Act.put, List.setIfInBounds_toArray, List.set_cons_zero, List.set_cons_succ])))
  simp only [rdMark, rdAct, List.map_cons, List.map_nil, List.length_cons, List.length_nil, Nat.reduceAdd, Nat.reduceSub, Nat.zero_add, List.getElem?_toArray, List.getElem?_cons_zero, List.getElem?_cons_succ, Option.bind_some, Act.put, List.setIfInBounds_toArray, List.set_cons_zero, List.set_cons_succ]
  refine wpL_done (by kernel_rfl) ?_ _
  clear hw1 hw2 hw3 hw4 hR_ H0_ hK_ hbig
  iterate 6 go_step
  exact tail9 ⟨HT.out, HR.out.any, HV.out.any, HB.out.any, hrl, hbl, hcT, hsT, hsR, HDT.out, HDR.out, hrc', HF.out, hfl, HTT.out⟩ (H.arr (by (repeat (first | with_reducible exact Arr.nil | refine Arr.cons (by (repeat (first | with_reducible exact Pick.head | with_reducible apply Pick.tail))) ?_)) <;> exact Arr.of_subl (by (repeat (first | with_reducible exact Subl.refl _ | with_reducible apply Subl.drop)))))
end Go.Proofs.YteelplgdojjakaaDoor
