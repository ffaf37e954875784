/- strict: a type: contract, by fuel; a row of types. No statement of the seat is proved here. -/
import Derived.Test.YtmedomglemllnaaGreatDoorStr5
namespace Go.Proofs.YtmedomglemllnaaGreatDoor
set_option linter.unusedSimpArgs false
set_option linter.unusedVariables false
open Go.RowKit

set_option maxRecDepth 100000 in
set_option maxHeartbeats 16000000 in
theorem strA {n F : Nat} {ds : List Dc} (IHs : StrictAt ds n F) (IHp : ∀ num, num < n → ParamOK ds num) : StrictAt ds n (F + 1) := by
  intro w g A0 c es mk fs fi ha S t v below hv hS hb hF hsz hb2
  obtain ⟨B0, ca, K0, ck, rfl, hrc⟩ := hv
  obtain ⟨F1, y1, rfl, eg, hst⟩ := ha.st
  obtain ⟨F2, y2, rfl, eg2, his⟩ := ha.is
  obtain ⟨q, hq⟩ : ∃ q, q = strictF (ds.take n) (parT ds n) (F + 1) (upM mk below) t := ⟨_, rfl⟩
  rw [← hq]
  have hq1 := hq
  rw [strictF_eq] at hq1
  have HA := Lib.hid ha
  have HRC := Lib.hid hrc
  have HST := Lib.hid hst
  have HQ := Lib.hid hq1
  have HB := Lib.hid hb2
  have HSZ := Lib.hid hsz
  have HF := Lib.hid hF
  have hbb : below ≤ 1000000000 := by omega
  have hMn := ha.len
  clear ha hrc hst his hq hq1 hb2 hsz hF
  go_enter Tryz.func208, Tryz.ntmps208
  have H := Hp.start no w
  have hr_ := H.rules; simp only [Rules, and_true] at hr_; have hd_ := H.dif; simp only [Dif, Neq, and_true] at hd_; obtain ⟨ho_, hz_⟩ := H.old0
  go_wp2_with fail
  (try clear hr_ hd_ ho_ hz_)
  refine callsH (by (repeat (first | with_reducible exact H | with_reducible exact H0_ | with_reducible apply Hp.alloc | with_reducible apply Hp.allocMap | with_reducible apply Hp.drew | with_reducible apply Hp.drewN | with_reducible apply Hp.set)); (try any_goals (repeat (first | with_reducible exact Upd.head | with_reducible apply Upd.tail)))) ?_
  clear H; intro w1 H; (try simp only [size_drew_, size_drewN_, World.size_alloc, World.size_setCell, List.set_cons_zero, List.set_cons_succ] at H)
  obtain ⟨z, hz⟩ : ∃ z, z = standsM (upM mk below) t := ⟨_, rfl⟩
  have hcall := HST.out _ H.ext.noX (HA.out.ext H.ext).tab _ t _ below ⟨_, _, _, _, rfl, HRC.out.ext0 H.ext⟩ HSZ.out hb hbb
  rw [← hz] at hcall
  have HZ := Lib.hid hz
  clear hz
  refine (hcall).mono ?_
  rintro e w_ ⟨rfl, hx⟩
  replace H := H.call hx
  clear hx
  clear hcall
  have hq2 := HQ.out
  rw [← HZ.out] at hq2
  cases z
  · have HQ2 := Lib.hid hq2
    clear hq2 HQ
    go_wp2_with fail
    go_end0
    exact ⟨by rw [HQ2.out]; rfl, (Kn.start HA.out.mp).ext H.ext⟩
  · rw [if_neg (by simp)] at hq2
    obtain ⟨N, hN⟩ : ∃ N, N = countT t := ⟨_, rfl⟩
    have hct : N ≤ 4000000 := by rw [hN]; exact Nat.le_trans (countT_size t) HSZ.out
    have hct2 : countT t ≤ 4000000 := by rw [← hN]; exact hct
    rw [← hN] at hq2
    have ho : openN (N : Int) t = some (openAll t) := by
      unfold openN
      rw [if_neg (by omega), Int.toNat_natCast, hN]
      exact openAll_eq t
    have HO := Lib.hid ho
    have HN := Lib.hid hN
    have HQ2 := Lib.hid hq2
    clear hq2 HQ ho hN
    have hr_ := H.rules; simp only [Rules, and_true] at hr_; have hd_ := H.dif; simp only [Dif, Neq, and_true] at hd_; obtain ⟨ho_, hz_⟩ := H.old0
    go_wp2_with fail
    (try clear hr_ hd_ ho_ hz_)
    refine regionH (by (repeat (first | with_reducible exact H | with_reducible exact H0_ | with_reducible apply Hp.alloc | with_reducible apply Hp.allocMap | with_reducible apply Hp.drew | with_reducible apply Hp.drewN | with_reducible apply Hp.set)); (try any_goals (repeat (first | with_reducible exact Upd.head | with_reducible apply Upd.tail)))) ?_
    clear H; intro w2 H; (try simp only [size_drew_, size_drewN_, World.size_alloc, World.size_setCell, List.set_cons_zero, List.set_cons_succ] at H)
    refine wp_region_H 12 [false, false, false, false, false, false, false, false, false, false, false, false] [] H (.cons (i := 0) rfl .nil) (by kernel_rfl) rfl rfl (fun H_ hR_ => ?_)
    (try clear H0_); have H0_ := H; clear H; have H := H_; clear H_
    refine wpL_reads (is := [(0, ?v1_0), (1, ?v1_1)]) (by kernel_rfl) (Nat.le_of_ble_eq_true rfl) (by intro _ _ d_ _ _ h_; cases d_ <;> exact h_) (by kernel_rfl) hR_ (fun w_ hw_ => ?h1_) ?_
    case h1_ =>
      have ho_ := hw_.old0.1; have hz_ := hw_.old0.2; have hr_ := hw_.rules; clear hw_; simp only [Rules, and_true] at hr_; go_split_ands
      (repeat (first | with_reducible exact RdOps.nil | (refine RdOps.run rfl (by rfl) ?_ ?_; (focus (first | (go_simp; done) | (go_simp; with_reducible rfl))); simp only [List.getElem_toArray, List.getElem_cons_zero, List.getElem_cons_succ, Act.put, List.setIfInBounds_toArray, List.set_cons_zero, List.set_cons_succ]) | (refine RdOps.skip rfl (by rfl) ?_ ?_; (focus (with_reducible rfl)); simp only [List.getElem_toArray, List.getElem_cons_zero, List.getElem_cons_succ, Act.put, List.setIfInBounds_toArray, List.set_cons_zero, List.set_cons_succ])))
    simp only [rdMark, rdAct, List.map_cons, List.map_nil, List.length_cons, List.length_nil, Nat.reduceAdd, Nat.reduceSub, Nat.zero_add, List.getElem?_toArray, List.getElem?_cons_zero, List.getElem?_cons_succ, Option.bind_some, Act.put, List.setIfInBounds_toArray, List.set_cons_zero, List.set_cons_succ]
    refine wpL_many (is := [2, 8]) (by kernel_rfl) (by simp) ?_
    simp only [List.forall_mem_cons]
    refine ⟨?_, ?_, fun _ h => by cases h⟩
    · refine wpOp_do (i := 2) rfl (by rfl) (fun K_ hK_ => ?_)
      go_simp
      have hcall := teleCount (t := t) ⟨_, _, _, _, rfl, HRC.out.ext0 H.ext⟩ (by omega)
      rw [← HN.out] at hcall
      refine (hcall).mono ?_
      rintro e w_ ⟨rfl, hx⟩
      replace H := H.call hx
      clear hx
      clear hcall
      refine hK_ _ _ (fun _ => H.sub (by simp)) (fun hR_ => ?_)
      replace hR_ := hR_ (by decide)
      refine wpL_many (is := [3, 8]) (by kernel_rfl) (by simp) ?_
      simp only [List.forall_mem_cons]
      refine ⟨?_, ?_, fun _ h => by cases h⟩
      · refine wpOp_do (i := 3) rfl (by rfl) (fun K_ hK_ => ?_)
        go_simp
        refine (teleOpen (t := t) (HA.out.ext H.ext).tab ⟨_, _, _, _, rfl, HRC.out.ext0 H.ext⟩ (N : Int) (.inr (by omega)) (by unfold inI; omega)).mono ?_
        rintro e w_ ⟨A1, c1, B1, cb1, K1, kb1, ls, r, hlr, rfl, H2⟩
        rw [HO.out] at hlr ⊢
        simp only [Option.getD_some, Option.isSome_some] at hlr ⊢
        obtain ⟨e1, e2⟩ := Prod.mk.inj hlr
        have HE1 := Lib.hid e1
        have HE2 := Lib.hid e2
        clear hlr e1 e2
        replace H := H.res2 H2
        clear H2
        refine hK_ _ _ (fun _ => H.sub (by simp)) (fun hR_ => ?_)
        replace hR_ := hR_ (by decide)
        refine wpL_reads (is := [(4, ?v2_0), (5, ?v2_1), (6, ?v2_2), (7, ?v2_3)]) (by kernel_rfl) (Nat.le_of_ble_eq_true rfl) (by intro _ _ d_ _ _ h_; cases d_ <;> exact h_) (by kernel_rfl) hR_ (fun w_ hw_ => ?h2_) ?_
        case h2_ =>
          have ho_ := hw_.old0.1; have hz_ := hw_.old0.2; have hr_ := hw_.rules; clear hw_; simp only [Rules, and_true] at hr_; go_split_ands
          (repeat (first | with_reducible exact RdOps.nil | (refine RdOps.run rfl (by rfl) ?_ ?_; (focus (first | (go_simp; done) | (go_simp; with_reducible rfl))); simp only [List.getElem_toArray, List.getElem_cons_zero, List.getElem_cons_succ, Act.put, List.setIfInBounds_toArray, List.set_cons_zero, List.set_cons_succ]) | (refine RdOps.skip rfl (by rfl) ?_ ?_; (focus (with_reducible rfl)); simp only [List.getElem_toArray, List.getElem_cons_zero, List.getElem_cons_succ, Act.put, List.setIfInBounds_toArray, List.set_cons_zero, List.set_cons_succ])))
        simp only [rdMark, rdAct, List.map_cons, List.map_nil, List.length_cons, List.length_nil, Nat.reduceAdd, Nat.reduceSub, Nat.zero_add, List.getElem?_toArray, List.getElem?_cons_zero, List.getElem?_cons_succ, Option.bind_some, Act.put, List.setIfInBounds_toArray, List.set_cons_zero, List.set_cons_succ]
        refine wpL_do (i := 8) rfl (by kernel_rfl) (by rfl) (fun K_ hK_ => ?_)
        go_simp
        refine kontH (by (repeat (first | with_reducible exact H | with_reducible exact H0_ | with_reducible apply Hp.alloc | with_reducible apply Hp.allocMap | with_reducible apply Hp.drew | with_reducible apply Hp.drewN | with_reducible apply Hp.set)); (try any_goals (repeat (first | with_reducible exact Upd.head | with_reducible apply Upd.tail)))) ?_
        clear H; intro wb_ H; (try simp only [size_drew_, size_drewN_, World.size_alloc, World.size_setCell, List.set_cons_zero, List.set_cons_succ] at H)
        refine hK_ _ _ (fun _ => H.sub (by simp)) (fun hR_ => ?_)
        replace hR_ := hR_ (by decide)
        refine wpL_reads (is := [(9, ?v3_0)]) (by kernel_rfl) (Nat.le_of_ble_eq_true rfl) (by intro _ _ d_ _ _ h_; cases d_ <;> exact h_) (by kernel_rfl) hR_ (fun w_ hw_ => ?h3_) ?_
        case h3_ =>
          have ho_ := hw_.old0.1; have hz_ := hw_.old0.2; have hr_ := hw_.rules; clear hw_; simp only [Rules, and_true] at hr_; go_split_ands
          (repeat (first | with_reducible exact RdOps.nil | (refine RdOps.run rfl (by rfl) ?_ ?_; (focus (first | (go_simp; done) | (go_simp; with_reducible rfl))); simp only [List.getElem_toArray, List.getElem_cons_zero, List.getElem_cons_succ, Act.put, List.setIfInBounds_toArray, List.set_cons_zero, List.set_cons_succ]) | (refine RdOps.skip rfl (by rfl) ?_ ?_; (focus (with_reducible rfl)); simp only [List.getElem_toArray, List.getElem_cons_zero, List.getElem_cons_succ, Act.put, List.setIfInBounds_toArray, List.set_cons_zero, List.set_cons_succ])))
        simp only [rdMark, rdAct, List.map_cons, List.map_nil, List.length_cons, List.length_nil, Nat.reduceAdd, Nat.reduceSub, Nat.zero_add, List.getElem?_toArray, List.getElem?_cons_zero, List.getElem?_cons_succ, Option.bind_some, Act.put, List.setIfInBounds_toArray, List.set_cons_zero, List.set_cons_succ]
        refine wpL_do (i := 10) rfl (by kernel_rfl) (by rfl) (fun K_ hK_ => ?_)
        refine wp_storeH rfl (by go_simp <;> first | rfl | exact ⟨rfl, rfl⟩) (by go_simp <;> first | rfl | exact ⟨rfl, rfl⟩) H (by (repeat (first | with_reducible exact Upd.head | with_reducible apply Upd.tail))) (by exact aggTerm) (by rfl) (by simp [Value.oneCell']) (fun w12 H_ => ?_)
        clear H; have H := H_; clear H_
        refine hK_ _ _ (fun _ => H.sub (by simp)) (fun hR_ => ?_)
        replace hR_ := hR_ (by decide)
        refine wpL_reads (is := [(11, ?v4_0)]) (by kernel_rfl) (Nat.le_of_ble_eq_true rfl) (by intro _ _ d_ _ _ h_; cases d_ <;> exact h_) (by kernel_rfl) hR_ (fun w_ hw_ => ?h4_) ?_
        case h4_ =>
          have ho_ := hw_.old0.1; have hz_ := hw_.old0.2; have hr_ := hw_.rules; clear hw_; simp only [Rules, and_true] at hr_; go_split_ands
          (repeat (first | with_reducible exact RdOps.nil | (refine RdOps.run rfl (by rfl) ?_ ?_; (focus (first | (go_simp; done) | (go_simp; with_reducible rfl))); simp only [List.getElem_toArray, List.getElem_cons_zero, List.getElem_cons_succ, Act.put, List.setIfInBounds_toArray, List.set_cons_zero, List.set_cons_succ]) | (refine RdOps.skip rfl (by rfl) ?_ ?_; (focus (with_reducible rfl)); simp only [List.getElem_toArray, List.getElem_cons_zero, List.getElem_cons_succ, Act.put, List.setIfInBounds_toArray, List.set_cons_zero, List.set_cons_succ])))
        simp only [rdMark, rdAct, List.map_cons, List.map_nil, List.length_cons, List.length_nil, Nat.reduceAdd, Nat.reduceSub, Nat.zero_add, List.getElem?_toArray, List.getElem?_cons_zero, List.getElem?_cons_succ, Option.bind_some, Act.put, List.setIfInBounds_toArray, List.set_cons_zero, List.set_cons_succ]
        refine wpL_done (by kernel_rfl) ?_ _
        repeat ((fail_if_success (with_reducible (first | show Code.wp _ (Code.seq (Code.region 3 _ _) _) _ _ _ | show Code.wp _ (Code.seq (Code.seq (Code.region 3 _ _) _) _) _ _ _))); go_step)
        have hq3 := HQ2.out
        have h1 : ls = (openAll t).1 := HE1.out
        have h2 : r = (openAll t).2 := HE2.out
        have hsz2 := openAll_size t
        rw [← h1, ← h2] at hsz2
        have hNl : N = ls.length := by rw [HN.out]; exact hsz2.2.symm
        rw [← h1, ← h2, upM_up, hNl] at hq3
        rw [hq3]
        have hF := HF.out
        have hS4 := HSZ.out
        have hB9 := HB.out
        have hl3 := length_sizes ls
        have hsp := spineT_size r
        have hh1 := sizeT_eq (spineT r).1
        have b5 := H.blk (g := w.heap.size) (t := 161) (by (repeat (first | with_reducible exact Pick.head | with_reducible apply Pick.tail)))
        have b7 := H.blk (t := 26) (cs := [.int .i64 r.k, .int .i64 r.n, .int .i64 r.a, .slice B1 r.ls.length cb1, .slice K1 r.ks.length kb1]) (by (repeat (first | with_reducible exact Pick.head | with_reducible apply Pick.tail)))
        have hgl := HA.out.lt
        refine strB (S := fun k => w.heap.size ≤ k) (S1 := fun k => w.heap.size ≤ k) (ls := ls) (r := r) IHs IHp (HA.out.ext H.ext) H.ext (H.rd (d := .l 26 5 (ls.map Tm.d)) (by (repeat (first | with_reducible exact Pick.head | with_reducible apply Pick.tail)))) (H.rd (d := r.d) (by (repeat (first | with_reducible exact Pick.head | with_reducible apply Pick.tail)))) (fun x hx => by have := sizesT_memS hx; omega) (by omega) hb (by omega) (fun x hx => by have := sizesT_memS hx; omega) ?_
        simp only [Cells_cons, Cells_nil, and_true]
        exact ⟨b5.cells 0, b5.cells 1, b5.cells 2, b5.cells 3, b7.cells 0, b7.cells 1, b7.cells 2, b7.cells 3, b7.cells 4⟩
      · refine wpOp_do (i := 8) rfl (by rfl) (fun K_ hK_ => ?_)
        go_simp
        refine kontH (by (repeat (first | with_reducible exact H | with_reducible exact H0_ | with_reducible apply Hp.alloc | with_reducible apply Hp.allocMap | with_reducible apply Hp.drew | with_reducible apply Hp.drewN | with_reducible apply Hp.set)); (try any_goals (repeat (first | with_reducible exact Upd.head | with_reducible apply Upd.tail)))) ?_
        clear H; intro wb_ H; (try simp only [size_drew_, size_drewN_, World.size_alloc, World.size_setCell, List.set_cons_zero, List.set_cons_succ] at H)
        refine hK_ _ _ (fun _ => H.sub (by simp)) (fun hR_ => ?_)
        replace hR_ := hR_ (by decide)
        refine wpL_do (i := 3) rfl (by kernel_rfl) (by rfl) (fun K_ hK_ => ?_)
        go_simp
        refine (teleOpen (t := t) (HA.out.ext H.ext).tab ⟨_, _, _, _, rfl, HRC.out.ext0 H.ext⟩ (N : Int) (.inr (by omega)) (by unfold inI; omega)).mono ?_
        rintro e w_ ⟨A1, c1, B1, cb1, K1, kb1, ls, r, hlr, rfl, H2⟩
        rw [HO.out] at hlr ⊢
        simp only [Option.getD_some, Option.isSome_some] at hlr ⊢
        obtain ⟨e1, e2⟩ := Prod.mk.inj hlr
        have HE1 := Lib.hid e1
        have HE2 := Lib.hid e2
        clear hlr e1 e2
        replace H := H.res2 H2
        clear H2
        refine hK_ _ _ (fun _ => H.sub (by simp)) (fun hR_ => ?_)
        replace hR_ := hR_ (by decide)
        refine wpL_reads (is := [(4, ?v5_0), (5, ?v5_1), (6, ?v5_2), (7, ?v5_3), (9, ?v5_4)]) (by kernel_rfl) (Nat.le_of_ble_eq_true rfl) (by intro _ _ d_ _ _ h_; cases d_ <;> exact h_) (by kernel_rfl) hR_ (fun w_ hw_ => ?h5_) ?_
        case h5_ =>
          have ho_ := hw_.old0.1; have hz_ := hw_.old0.2; have hr_ := hw_.rules; clear hw_; simp only [Rules, and_true] at hr_; go_split_ands
          (repeat (first | with_reducible exact RdOps.nil | (refine RdOps.run rfl (by rfl) ?_ ?_; (focus (first | (go_simp; done) | (go_simp; with_reducible rfl))); simp only [List.getElem_toArray, List.getElem_cons_zero, List.getElem_cons_succ, Act.put, List.setIfInBounds_toArray, List.set_cons_zero, List.set_cons_succ]) | (refine RdOps.skip rfl (by rfl) ?_ ?_; (focus (with_reducible rfl)); simp only [List.getElem_toArray, List.getElem_cons_zero, List.getElem_cons_succ, Act.put, List.setIfInBounds_toArray, List.set_cons_zero, List.set_cons_succ])))
        simp only [rdMark, rdAct, List.map_cons, List.map_nil, List.length_cons, List.length_nil, Nat.reduceAdd, Nat.reduceSub, Nat.zero_add, List.getElem?_toArray, List.getElem?_cons_zero, List.getElem?_cons_succ, Option.bind_some, Act.put, List.setIfInBounds_toArray, List.set_cons_zero, List.set_cons_succ]
        refine wpL_do (i := 10) rfl (by kernel_rfl) (by rfl) (fun K_ hK_ => ?_)
        refine wp_storeH rfl (by go_simp <;> first | rfl | exact ⟨rfl, rfl⟩) (by go_simp <;> first | rfl | exact ⟨rfl, rfl⟩) H (by (repeat (first | with_reducible exact Upd.head | with_reducible apply Upd.tail))) (by exact aggTerm) (by rfl) (by simp [Value.oneCell']) (fun w12 H_ => ?_)
        clear H; have H := H_; clear H_
        refine hK_ _ _ (fun _ => H.sub (by simp)) (fun hR_ => ?_)
        replace hR_ := hR_ (by decide)
        refine wpL_reads (is := [(11, ?v6_0)]) (by kernel_rfl) (Nat.le_of_ble_eq_true rfl) (by intro _ _ d_ _ _ h_; cases d_ <;> exact h_) (by kernel_rfl) hR_ (fun w_ hw_ => ?h6_) ?_
        case h6_ =>
          have ho_ := hw_.old0.1; have hz_ := hw_.old0.2; have hr_ := hw_.rules; clear hw_; simp only [Rules, and_true] at hr_; go_split_ands
          (repeat (first | with_reducible exact RdOps.nil | (refine RdOps.run rfl (by rfl) ?_ ?_; (focus (first | (go_simp; done) | (go_simp; with_reducible rfl))); simp only [List.getElem_toArray, List.getElem_cons_zero, List.getElem_cons_succ, Act.put, List.setIfInBounds_toArray, List.set_cons_zero, List.set_cons_succ]) | (refine RdOps.skip rfl (by rfl) ?_ ?_; (focus (with_reducible rfl)); simp only [List.getElem_toArray, List.getElem_cons_zero, List.getElem_cons_succ, Act.put, List.setIfInBounds_toArray, List.set_cons_zero, List.set_cons_succ])))
        simp only [rdMark, rdAct, List.map_cons, List.map_nil, List.length_cons, List.length_nil, Nat.reduceAdd, Nat.reduceSub, Nat.zero_add, List.getElem?_toArray, List.getElem?_cons_zero, List.getElem?_cons_succ, Option.bind_some, Act.put, List.setIfInBounds_toArray, List.set_cons_zero, List.set_cons_succ]
        refine wpL_done (by kernel_rfl) ?_ _
        repeat ((fail_if_success (with_reducible (first | show Code.wp _ (Code.seq (Code.region 3 _ _) _) _ _ _ | show Code.wp _ (Code.seq (Code.seq (Code.region 3 _ _) _) _) _ _ _))); go_step)
        have hq3 := HQ2.out
        have h1 : ls = (openAll t).1 := HE1.out
        have h2 : r = (openAll t).2 := HE2.out
        have hsz2 := openAll_size t
        rw [← h1, ← h2] at hsz2
        have hNl : N = ls.length := by rw [HN.out]; exact hsz2.2.symm
        rw [← h1, ← h2, upM_up, hNl] at hq3
        rw [hq3]
        have hF := HF.out
        have hS4 := HSZ.out
        have hB9 := HB.out
        have hl3 := length_sizes ls
        have hsp := spineT_size r
        have hh1 := sizeT_eq (spineT r).1
        have b5 := H.blk (g := w.heap.size) (t := 161) (by (repeat (first | with_reducible exact Pick.head | with_reducible apply Pick.tail)))
        have b7 := H.blk (t := 26) (cs := [.int .i64 r.k, .int .i64 r.n, .int .i64 r.a, .slice B1 r.ls.length cb1, .slice K1 r.ks.length kb1]) (by (repeat (first | with_reducible exact Pick.head | with_reducible apply Pick.tail)))
        have hgl := HA.out.lt
        refine strB (S := fun k => w.heap.size ≤ k) (S1 := fun k => w.heap.size ≤ k) (ls := ls) (r := r) IHs IHp (HA.out.ext H.ext) H.ext (H.rd (d := .l 26 5 (ls.map Tm.d)) (by (repeat (first | with_reducible exact Pick.head | with_reducible apply Pick.tail)))) (H.rd (d := r.d) (by (repeat (first | with_reducible exact Pick.head | with_reducible apply Pick.tail)))) (fun x hx => by have := sizesT_memS hx; omega) (by omega) hb (by omega) (fun x hx => by have := sizesT_memS hx; omega) ?_
        simp only [Cells_cons, Cells_nil, and_true]
        exact ⟨b5.cells 0, b5.cells 1, b5.cells 2, b5.cells 3, b7.cells 0, b7.cells 1, b7.cells 2, b7.cells 3, b7.cells 4⟩
    · refine wpOp_do (i := 8) rfl (by rfl) (fun K_ hK_ => ?_)
      go_simp
      refine kontH (by (repeat (first | with_reducible exact H | with_reducible exact H0_ | with_reducible apply Hp.alloc | with_reducible apply Hp.allocMap | with_reducible apply Hp.drew | with_reducible apply Hp.drewN | with_reducible apply Hp.set)); (try any_goals (repeat (first | with_reducible exact Upd.head | with_reducible apply Upd.tail)))) ?_
      clear H; intro wb_ H; (try simp only [size_drew_, size_drewN_, World.size_alloc, World.size_setCell, List.set_cons_zero, List.set_cons_succ] at H)
      refine hK_ _ _ (fun _ => H.sub (by simp)) (fun hR_ => ?_)
      replace hR_ := hR_ (by decide)
      refine wpL_do (i := 2) rfl (by kernel_rfl) (by rfl) (fun K_ hK_ => ?_)
      go_simp
      have hcall := teleCount (t := t) ⟨_, _, _, _, rfl, HRC.out.ext0 H.ext⟩ (by omega)
      rw [← HN.out] at hcall
      refine (hcall).mono ?_
      rintro e w_ ⟨rfl, hx⟩
      replace H := H.call hx
      clear hx
      clear hcall
      refine hK_ _ _ (fun _ => H.sub (by simp)) (fun hR_ => ?_)
      replace hR_ := hR_ (by decide)
      refine wpL_do (i := 3) rfl (by kernel_rfl) (by rfl) (fun K_ hK_ => ?_)
      go_simp
      refine (teleOpen (t := t) (HA.out.ext H.ext).tab ⟨_, _, _, _, rfl, HRC.out.ext0 H.ext⟩ (N : Int) (.inr (by omega)) (by unfold inI; omega)).mono ?_
      rintro e w_ ⟨A1, c1, B1, cb1, K1, kb1, ls, r, hlr, rfl, H2⟩
      rw [HO.out] at hlr ⊢
      simp only [Option.getD_some, Option.isSome_some] at hlr ⊢
      obtain ⟨e1, e2⟩ := Prod.mk.inj hlr
      have HE1 := Lib.hid e1
      have HE2 := Lib.hid e2
      clear hlr e1 e2
      replace H := H.res2 H2
      clear H2
      refine hK_ _ _ (fun _ => H.sub (by simp)) (fun hR_ => ?_)
      replace hR_ := hR_ (by decide)
      refine wpL_reads (is := [(4, ?v7_0), (5, ?v7_1), (6, ?v7_2), (7, ?v7_3), (9, ?v7_4)]) (by kernel_rfl) (Nat.le_of_ble_eq_true rfl) (by intro _ _ d_ _ _ h_; cases d_ <;> exact h_) (by kernel_rfl) hR_ (fun w_ hw_ => ?h7_) ?_
      case h7_ =>
        have ho_ := hw_.old0.1; have hz_ := hw_.old0.2; have hr_ := hw_.rules; clear hw_; simp only [Rules, and_true] at hr_; go_split_ands
        (repeat (first | with_reducible exact RdOps.nil | (refine RdOps.run rfl (by rfl) ?_ ?_; (focus (first | (go_simp; done) | (go_simp; with_reducible rfl))); simp only [List.getElem_toArray, List.getElem_cons_zero, List.getElem_cons_succ, Act.put, List.setIfInBounds_toArray, List.set_cons_zero, List.set_cons_succ]) | (refine RdOps.skip rfl (by rfl) ?_ ?_; (focus (with_reducible rfl)); simp only [List.getElem_toArray, List.getElem_cons_zero, List.getElem_cons_succ, Act.put, List.setIfInBounds_toArray, List.set_cons_zero, List.set_cons_succ])))
      simp only [rdMark, rdAct, List.map_cons, List.map_nil, List.length_cons, List.length_nil, Nat.reduceAdd, Nat.reduceSub, Nat.zero_add, List.getElem?_toArray, List.getElem?_cons_zero, List.getElem?_cons_succ, Option.bind_some, Act.put, List.setIfInBounds_toArray, List.set_cons_zero, List.set_cons_succ]
      refine wpL_do (i := 10) rfl (by kernel_rfl) (by rfl) (fun K_ hK_ => ?_)
      refine wp_storeH rfl (by go_simp <;> first | rfl | exact ⟨rfl, rfl⟩) (by go_simp <;> first | rfl | exact ⟨rfl, rfl⟩) H (by (repeat (first | with_reducible exact Upd.head | with_reducible apply Upd.tail))) (by exact aggTerm) (by rfl) (by simp [Value.oneCell']) (fun w12 H_ => ?_)
      clear H; have H := H_; clear H_
      refine hK_ _ _ (fun _ => H.sub (by simp)) (fun hR_ => ?_)
      replace hR_ := hR_ (by decide)
      refine wpL_reads (is := [(11, ?v8_0)]) (by kernel_rfl) (Nat.le_of_ble_eq_true rfl) (by intro _ _ d_ _ _ h_; cases d_ <;> exact h_) (by kernel_rfl) hR_ (fun w_ hw_ => ?h8_) ?_
      case h8_ =>
        have ho_ := hw_.old0.1; have hz_ := hw_.old0.2; have hr_ := hw_.rules; clear hw_; simp only [Rules, and_true] at hr_; go_split_ands
        (repeat (first | with_reducible exact RdOps.nil | (refine RdOps.run rfl (by rfl) ?_ ?_; (focus (first | (go_simp; done) | (go_simp; with_reducible rfl))); simp only [List.getElem_toArray, List.getElem_cons_zero, List.getElem_cons_succ, Act.put, List.setIfInBounds_toArray, List.set_cons_zero, List.set_cons_succ]) | (refine RdOps.skip rfl (by rfl) ?_ ?_; (focus (with_reducible rfl)); simp only [List.getElem_toArray, List.getElem_cons_zero, List.getElem_cons_succ, Act.put, List.setIfInBounds_toArray, List.set_cons_zero, List.set_cons_succ])))
      simp only [rdMark, rdAct, List.map_cons, List.map_nil, List.length_cons, List.length_nil, Nat.reduceAdd, Nat.reduceSub, Nat.zero_add, List.getElem?_toArray, List.getElem?_cons_zero, List.getElem?_cons_succ, Option.bind_some, Act.put, List.setIfInBounds_toArray, List.set_cons_zero, List.set_cons_succ]
      refine wpL_done (by kernel_rfl) ?_ _
      repeat ((fail_if_success (with_reducible (first | show Code.wp _ (Code.seq (Code.region 3 _ _) _) _ _ _ | show Code.wp _ (Code.seq (Code.seq (Code.region 3 _ _) _) _) _ _ _))); go_step)
      have hq3 := HQ2.out
      have h1 : ls = (openAll t).1 := HE1.out
      have h2 : r = (openAll t).2 := HE2.out
      have hsz2 := openAll_size t
      rw [← h1, ← h2] at hsz2
      have hNl : N = ls.length := by rw [HN.out]; exact hsz2.2.symm
      rw [← h1, ← h2, upM_up, hNl] at hq3
      rw [hq3]
      have hF := HF.out
      have hS4 := HSZ.out
      have hB9 := HB.out
      have hl3 := length_sizes ls
      have hsp := spineT_size r
      have hh1 := sizeT_eq (spineT r).1
      have b5 := H.blk (g := w.heap.size) (t := 161) (by (repeat (first | with_reducible exact Pick.head | with_reducible apply Pick.tail)))
      have b7 := H.blk (t := 26) (cs := [.int .i64 r.k, .int .i64 r.n, .int .i64 r.a, .slice B1 r.ls.length cb1, .slice K1 r.ks.length kb1]) (by (repeat (first | with_reducible exact Pick.head | with_reducible apply Pick.tail)))
      have hgl := HA.out.lt
      refine strB (S := fun k => w.heap.size ≤ k) (S1 := fun k => w.heap.size ≤ k) (ls := ls) (r := r) IHs IHp (HA.out.ext H.ext) H.ext (H.rd (d := .l 26 5 (ls.map Tm.d)) (by (repeat (first | with_reducible exact Pick.head | with_reducible apply Pick.tail)))) (H.rd (d := r.d) (by (repeat (first | with_reducible exact Pick.head | with_reducible apply Pick.tail)))) (fun x hx => by have := sizesT_memS hx; omega) (by omega) hb (by omega) (fun x hx => by have := sizesT_memS hx; omega) ?_
      simp only [Cells_cons, Cells_nil, and_true]
      exact ⟨b5.cells 0, b5.cells 1, b5.cells 2, b5.cells 3, b7.cells 0, b7.cells 1, b7.cells 2, b7.cells 3, b7.cells 4⟩
end Go.Proofs.YtmedomglemllnaaGreatDoor
