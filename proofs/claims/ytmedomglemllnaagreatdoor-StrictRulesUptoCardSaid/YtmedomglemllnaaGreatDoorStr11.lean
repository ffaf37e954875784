/- strict: Positive: contract. No statement of the seat is proved here. -/
import Derived.Test.YtmedomglemllnaaGreatDoorStr10
namespace Go.Proofs.YtmedomglemllnaaGreatDoor
set_option linter.unusedSimpArgs false
set_option linter.unusedVariables false
open Go.RowKit

set_option maxRecDepth 100000 in
set_option maxHeartbeats 16000000 in
theorem positive1_calls {w : World} {g n c gd ga : Nat} {ds : List Dc} {d : Dc} {A0 : Option Addr} {es : List (Ky × Bool)} {fs fi : Value} {S1 : Nat → Prop} {Aty Kty Abody Kbody Aparams Asort Amembers Actors : Option Addr} {cty kty cbody kbody cparams csort cmembers cctors : Nat} (ha : Ask w g ds n A0 c es none fs fi) (hd : RC w S1 d.d [.int .i64 d.kind, .int .i64 d.levels, .int .i64 d.ty.k, .int .i64 d.ty.n, .int .i64 d.ty.a, .slice Aty d.ty.ls.length cty, .slice Kty d.ty.ks.length kty, .int .i64 d.body.k, .int .i64 d.body.n, .int .i64 d.body.a, .slice Abody d.body.ls.length cbody, .slice Kbody d.body.ks.length kbody, .slice Aparams d.params.length cparams, .slice Asort d.sort.length csort, .slice Amembers d.members.length cmembers, .slice Actors d.ctors.length cctors]) (hS1 : ¬ S1 g) (sm : SmDc d)
    (hc : Cells w [(⟨gd, 15, none⟩, .slice Actors d.ctors.length cctors), (⟨ga, 0, none⟩, fs), (⟨ga, 1, none⟩, fi), (⟨ga, 2, none⟩, .slice A0 n c), (⟨ga, 3, none⟩, .map (some g))]) :
    Calls Tryz.prog 126 #[.pointer (some ⟨gd, 0, none⟩), .pointer (some ⟨ga, 0, none⟩)] w (PLo w g ds n es (d.ctors.all fun ct => typesQ (ds.take n) (parT ds n) none 0 (openAll ct.ty).1 && (decide ((spineT (openAll ct.ty).2).1.k = 11) && (spineT (openAll ct.ty).2).2.all fun x => !selfT x))) := by
  have IHs := stricts_ok ds n
  obtain ⟨F1, x1, y1, rfl⟩ := ha.st.fn
  obtain ⟨F2, x2, y2, rfl⟩ := ha.is.fn
  obtain ⟨_, _, _, _, _, _, _, _, _, _, _, _, _, _, _, _, he, _, _, r1, r2, hpa, hso, hmb, hct⟩ := RC.dc.1 hd
  simp only [List.cons.injEq, Value.slice.injEq, and_true, true_and] at he
  obtain ⟨⟨rfl, rfl⟩, ⟨rfl, rfl⟩, ⟨rfl, rfl⟩, ⟨rfl, rfl⟩, ⟨rfl, rfl⟩, ⟨rfl, rfl⟩, ⟨rfl, rfl⟩, rfl, rfl⟩ := he
  have HA2 := Lib.hid ha
  have HCT2 := Lib.hid hct
  have HC2 := Lib.hid hc
  have hM2 := hct.lenM
  have HSMD := Lib.hid sm
  obtain ⟨PP, hPP⟩ : ∃ PP, PP = (fun ct : Ct => typesQ (ds.take n) (parT ds n) none 0 (openAll ct.ty).1 && (decide ((spineT (openAll ct.ty).2).1.k = 11) && (spineT (openAll ct.ty).2).2.all fun x => !selfT x)) := ⟨_, rfl⟩
  rw [← hPP]
  obtain ⟨q, hq⟩ : ∃ q, q = d.ctors.all PP := ⟨_, rfl⟩
  rw [← hq]
  have HQ := Lib.hid hq
  have HPP := Lib.hid hPP
  simp only [Cells_cons, Cells_nil, and_true] at hc
  obtain ⟨q1, q2, q3, q4, q5⟩ := hc
  have m0 := cell_lt q1
  have m2 := cell_lt q2
  clear ha hd r1 r2 hpa hso hmb hct sm hq hPP
  go_enter Tryz.func126, Tryz.ntmps126
  go_wp2_with fail
  go_loopw [12] (fun i wr => ∃ j : Nat, j ≤ d.ctors.length ∧ i = .int .i64 j ∧ Hid ((d.ctors.drop j).all PP = q) ∧ Hid (Kn w g ds n es wr)) (fun i _ => d.ctors.length - (intOf i).toNat)
  case atStart => exact ⟨0, Nat.zero_le _, rfl, Lib.hid (by rw [HQ.out]; rfl), Lib.hid (Kn.start HA2.out.mp)⟩
  case round =>
    clear q1 q2 q3 q4 q5 m0 m2
    obtain ⟨j2, hj2, rfl, HS2, HKN⟩ := hrel
    obtain ⟨ex, hx, hm, hr⟩ := HKN.out
    have HAK := Lib.hid (HA2.out.turn hx hm hr HA2.out.hn)
    have HX1 := Lib.hid hx
    have HR := Lib.hid hr
    have hc := HC2.out.turn hx HA2.out.mp
    simp only [Cells_cons, Cells_nil, and_true] at hc
    obtain ⟨q1, q2, q3, q4, q5⟩ := hc
    have m0 := cell_lt q1
    have m2 := cell_lt q2
    clear hx hm hr
    by_cases hlt2 : j2 < d.ctors.length
    · have hct2 := HCT2.out.turn HX1.out hS1
      obtain ⟨b, o, A1, a1, K1, k1, hA_, hb_, hS_, hcd, p0, p1, p2, p3, p4, p5⟩ := hct2.atCt hlt2
      subst hA_
      have hsm := HSMD.out.ct _ (List.getElem_mem hlt2)
      have HE := Lib.hid (show (d.ctors.drop j2).all PP = ((typesQ (ds.take n) (parT ds n) none 0 (openAll d.ctors[j2].ty).1 && (decide ((spineT (openAll d.ctors[j2].ty).2).1.k = 11) && (spineT (openAll d.ctors[j2].ty).2).2.all fun x => !selfT x)) && (d.ctors.drop (j2 + 1)).all PP) from (all_dropS (p := PP) hlt2).trans (by rw [HPP.out]))
      obtain ⟨_, _, _, _, he, _, hty⟩ := RC.ct.1 hcd
      simp only [List.cons.injEq, Value.slice.injEq, and_true, true_and] at he
      obtain ⟨⟨rfl, rfl⟩, rfl, rfl⟩ := he
      clear hct2 hcd hS_
      generalize d.ctors[j2] = ct at p0 p1 p2 p3 p4 p5 hty hsm HE
      have HTY := Lib.hid hty
      have HSM := Lib.hid hsm
      obtain ⟨N, hN⟩ : ∃ N, N = countT ct.ty := ⟨_, rfl⟩
      have hct9 : N ≤ 4000000 := by rw [hN]; exact Nat.le_trans (countT_size ct.ty) hsm
      have hct8 : countT ct.ty ≤ 4000000 := by rw [← hN]; exact hct9
      have ho : openN (N : Int) ct.ty = some (openAll ct.ty) := by
        unfold openN
        rw [if_neg (by omega), Int.toNat_natCast, hN]
        exact openAll_eq ct.ty
      have HO := Lib.hid ho
      have HN := Lib.hid hN
      clear ho hN hty hsm
      have H := Hp.start no wr
      have hr_ := H.rules; simp only [Rules, and_true] at hr_; have hd_ := H.dif; simp only [Dif, Neq, and_true] at hd_; obtain ⟨ho_, hz_⟩ := H.old0
      go_wp2_with ((with_reducible refine atStore (t := 148) ?_); go_must (refine wpList_storeH (t := 148) rfl rfl (by go_simp <;> first | rfl | exact ⟨rfl, rfl⟩) (by go_simp <;> first | rfl | exact ⟨rfl, rfl⟩) (by exact Hp.norm (by (repeat (first | with_reducible exact H | with_reducible exact H0_ | with_reducible apply Hp.alloc | with_reducible apply Hp.allocMap | with_reducible apply Hp.drew | with_reducible apply Hp.drewN | with_reducible apply Hp.set)); (try any_goals (repeat (first | with_reducible exact Upd.head | with_reducible apply Upd.tail)))) (by ((try simp only [size_drew_, size_drewN_, World.size_alloc, World.size_setCell, List.set_cons_zero, List.set_cons_succ, List.nil_append, List.cons_append]) <;> rfl))) (by (repeat (first | with_reducible exact Upd.head | with_reducible apply Upd.tail))) (by exact aggCtS) (by rfl) (by simp [Value.oneCell']) ?_; clear H; intro w7 H; (try simp only [size_drew_, size_drewN_, World.size_alloc, World.size_setCell, List.set_cons_zero, List.set_cons_succ] at H); (try clear hr_ hd_ ho_ hz_); have hr_ := H.rules; simp only [Rules, and_true] at hr_; have hd_ := H.dif; simp only [Dif, Neq, and_true] at hd_; obtain ⟨ho_, hz_⟩ := H.old0))
      (try clear hr_ hd_ ho_ hz_)
      refine regionH (by (repeat (first | with_reducible exact H | with_reducible exact H0_ | with_reducible apply Hp.alloc | with_reducible apply Hp.allocMap | with_reducible apply Hp.drew | with_reducible apply Hp.drewN | with_reducible apply Hp.set)); (try any_goals (repeat (first | with_reducible exact Upd.head | with_reducible apply Upd.tail)))) ?_
      clear H; intro w8 H; (try simp only [size_drew_, size_drewN_, World.size_alloc, World.size_setCell, List.set_cons_zero, List.set_cons_succ] at H)
      refine wp_region_H 14 [false, false, false, false, false, false, false, false, false, false, false, false, false, false] [] H (.cons (i := 0) rfl .nil) (by kernel_rfl) rfl rfl (fun H_ hR_ => ?_)
      (try clear H0_); have H0_ := H; clear H; have H := H_; clear H_
      refine wpL_reads (is := [(0, ?v1_0), (1, ?v1_1), (2, ?v1_2), (3, ?v1_3)]) (by kernel_rfl) (Nat.le_of_ble_eq_true rfl) (by intro _ _ d_ _ _ h_; cases d_ <;> exact h_) (by kernel_rfl) hR_ (fun w_ hw_ => ?h1_) ?_
      case h1_ =>
        have ho_ := hw_.old0.1; have hz_ := hw_.old0.2; have hr_ := hw_.rules; clear hw_; simp only [Rules, and_true] at hr_; go_split_ands
        (repeat (first | with_reducible exact RdOps.nil | (refine RdOps.run rfl (by rfl) ?_ ?_; (focus (first | (go_simp; done) | (go_simp; with_reducible rfl))); simp only [List.getElem_toArray, List.getElem_cons_zero, List.getElem_cons_succ, Act.put, List.setIfInBounds_toArray, List.set_cons_zero, List.set_cons_succ]) | (refine RdOps.skip rfl (by rfl) ?_ ?_; (focus (with_reducible rfl)); simp only [List.getElem_toArray, List.getElem_cons_zero, List.getElem_cons_succ, Act.put, List.setIfInBounds_toArray, List.set_cons_zero, List.set_cons_succ])))
      simp only [rdMark, rdAct, List.map_cons, List.map_nil, List.length_cons, List.length_nil, Nat.reduceAdd, Nat.reduceSub, Nat.zero_add, List.getElem?_toArray, List.getElem?_cons_zero, List.getElem?_cons_succ, Option.bind_some, Act.put, List.setIfInBounds_toArray, List.set_cons_zero, List.set_cons_succ]
      refine wpL_many (is := [4, 10]) (by kernel_rfl) (by simp) ?_
      simp only [List.forall_mem_cons]
      refine ⟨?_, ?_, fun _ h => by cases h⟩
      · refine wpOp_do (i := 4) rfl (by rfl) (fun K_ hK_ => ?_)
        go_simp
        have hcall := teleCount (t := ct.ty) ⟨_, _, _, _, rfl, HTY.out.ext0 H.ext⟩ (by omega)
        rw [← HN.out] at hcall
        refine (hcall).mono ?_
        rintro e w_ ⟨rfl, hx⟩
        replace H := H.call hx
        clear hx
        clear hcall
        refine hK_ _ _ (fun _ => H.sub (by simp)) (fun hR_ => ?_)
        replace hR_ := hR_ (by decide)
        refine wpL_many (is := [5, 10]) (by kernel_rfl) (by simp) ?_
        simp only [List.forall_mem_cons]
        refine ⟨?_, ?_, fun _ h => by cases h⟩
        · refine wpOp_do (i := 5) rfl (by rfl) (fun K_ hK_ => ?_)
          go_simp
          refine (teleOpen (t := ct.ty) (HAK.out.ext H.ext).tab ⟨_, _, _, _, rfl, HTY.out.ext0 H.ext⟩ (N : Int) (.inr (by omega)) (by unfold inI; omega)).mono ?_
          rintro e w_ ⟨A2, c2, B2, cb2, K2, kb2, ls, r, hlr, rfl, H2⟩
          rw [HO.out] at hlr ⊢
          simp only [Option.getD_some, Option.isSome_some] at hlr ⊢
          obtain ⟨e1, e2⟩ := Prod.mk.inj (Option.some.inj (congrArg some hlr))
          have HE1 := Lib.hid e1
          have HE2 := Lib.hid e2
          clear hlr e1 e2
          replace H := H.res2 H2
          clear H2
          refine hK_ _ _ (fun _ => H.sub (by simp)) (fun hR_ => ?_)
          replace hR_ := hR_ (by decide)
          refine wpL_reads (is := [(6, ?v2_0), (7, ?v2_1), (8, ?v2_2), (9, ?v2_3)]) (by kernel_rfl) (Nat.le_of_ble_eq_true rfl) (by intro _ _ d_ _ _ h_; cases d_ <;> exact h_) (by kernel_rfl) hR_ (fun w_ hw_ => ?h2_) ?_
          case h2_ =>
            have ho_ := hw_.old0.1; have hz_ := hw_.old0.2; have hr_ := hw_.rules; clear hw_; simp only [Rules, and_true] at hr_; go_split_ands
            (repeat (first | with_reducible exact RdOps.nil | (refine RdOps.run rfl (by rfl) ?_ ?_; (focus (first | (go_simp; done) | (go_simp; with_reducible rfl))); simp only [List.getElem_toArray, List.getElem_cons_zero, List.getElem_cons_succ, Act.put, List.setIfInBounds_toArray, List.set_cons_zero, List.set_cons_succ]) | (refine RdOps.skip rfl (by rfl) ?_ ?_; (focus (with_reducible rfl)); simp only [List.getElem_toArray, List.getElem_cons_zero, List.getElem_cons_succ, Act.put, List.setIfInBounds_toArray, List.set_cons_zero, List.set_cons_succ])))
          simp only [rdMark, rdAct, List.map_cons, List.map_nil, List.length_cons, List.length_nil, Nat.reduceAdd, Nat.reduceSub, Nat.zero_add, List.getElem?_toArray, List.getElem?_cons_zero, List.getElem?_cons_succ, Option.bind_some, Act.put, List.setIfInBounds_toArray, List.set_cons_zero, List.set_cons_succ]
          refine wpL_do (i := 10) rfl (by kernel_rfl) (by rfl) (fun K_ hK_ => ?_)
          go_simp
          refine kontH (by (repeat (first | with_reducible exact H | with_reducible exact H0_ | with_reducible apply Hp.alloc | with_reducible apply Hp.allocMap | with_reducible apply Hp.drew | with_reducible apply Hp.drewN | with_reducible apply Hp.set)); (try any_goals (repeat (first | with_reducible exact Upd.head | with_reducible apply Upd.tail)))) ?_
          clear H; intro wb_ H; (try simp only [size_drew_, size_drewN_, World.size_alloc, World.size_setCell, List.set_cons_zero, List.set_cons_succ] at H)
          refine hK_ _ _ (fun _ => H.sub (by simp)) (fun hR_ => ?_)
          replace hR_ := hR_ (by decide)
          refine wpL_reads (is := [(11, ?v3_0)]) (by kernel_rfl) (Nat.le_of_ble_eq_true rfl) (by intro _ _ d_ _ _ h_; cases d_ <;> exact h_) (by kernel_rfl) hR_ (fun w_ hw_ => ?h3_) ?_
          case h3_ =>
            have ho_ := hw_.old0.1; have hz_ := hw_.old0.2; have hr_ := hw_.rules; clear hw_; simp only [Rules, and_true] at hr_; go_split_ands
            (repeat (first | with_reducible exact RdOps.nil | (refine RdOps.run rfl (by rfl) ?_ ?_; (focus (first | (go_simp; done) | (go_simp; with_reducible rfl))); simp only [List.getElem_toArray, List.getElem_cons_zero, List.getElem_cons_succ, Act.put, List.setIfInBounds_toArray, List.set_cons_zero, List.set_cons_succ]) | (refine RdOps.skip rfl (by rfl) ?_ ?_; (focus (with_reducible rfl)); simp only [List.getElem_toArray, List.getElem_cons_zero, List.getElem_cons_succ, Act.put, List.setIfInBounds_toArray, List.set_cons_zero, List.set_cons_succ])))
          simp only [rdMark, rdAct, List.map_cons, List.map_nil, List.length_cons, List.length_nil, Nat.reduceAdd, Nat.reduceSub, Nat.zero_add, List.getElem?_toArray, List.getElem?_cons_zero, List.getElem?_cons_succ, Option.bind_some, Act.put, List.setIfInBounds_toArray, List.set_cons_zero, List.set_cons_succ]
          refine wpL_do (i := 12) rfl (by kernel_rfl) (by rfl) (fun K_ hK_ => ?_)
          refine wp_storeH rfl (by go_simp <;> first | rfl | exact ⟨rfl, rfl⟩) (by go_simp <;> first | rfl | exact ⟨rfl, rfl⟩) H (by (repeat (first | with_reducible exact Upd.head | with_reducible apply Upd.tail))) (by exact aggTerm) (by rfl) (by simp [Value.oneCell']) (fun w12 H_ => ?_)
          clear H; have H := H_; clear H_
          refine hK_ _ _ (fun _ => H.sub (by simp)) (fun hR_ => ?_)
          replace hR_ := hR_ (by decide)
          refine wpL_reads (is := [(13, ?v4_0)]) (by kernel_rfl) (Nat.le_of_ble_eq_true rfl) (by intro _ _ d_ _ _ h_; cases d_ <;> exact h_) (by kernel_rfl) hR_ (fun w_ hw_ => ?h4_) ?_
          case h4_ =>
            have ho_ := hw_.old0.1; have hz_ := hw_.old0.2; have hr_ := hw_.rules; clear hw_; simp only [Rules, and_true] at hr_; go_split_ands
            (repeat (first | with_reducible exact RdOps.nil | (refine RdOps.run rfl (by rfl) ?_ ?_; (focus (first | (go_simp; done) | (go_simp; with_reducible rfl))); simp only [List.getElem_toArray, List.getElem_cons_zero, List.getElem_cons_succ, Act.put, List.setIfInBounds_toArray, List.set_cons_zero, List.set_cons_succ]) | (refine RdOps.skip rfl (by rfl) ?_ ?_; (focus (with_reducible rfl)); simp only [List.getElem_toArray, List.getElem_cons_zero, List.getElem_cons_succ, Act.put, List.setIfInBounds_toArray, List.set_cons_zero, List.set_cons_succ])))
          simp only [rdMark, rdAct, List.map_cons, List.map_nil, List.length_cons, List.length_nil, Nat.reduceAdd, Nat.reduceSub, Nat.zero_add, List.getElem?_toArray, List.getElem?_cons_zero, List.getElem?_cons_succ, Option.bind_some, Act.put, List.setIfInBounds_toArray, List.set_cons_zero, List.set_cons_succ]
          refine wpL_done (by kernel_rfl) ?_ _
          have hr_ := H.rules; simp only [Rules, and_true] at hr_; have hd_ := H.dif; simp only [Dif, Neq, and_true] at hd_; obtain ⟨ho_, hz_⟩ := H.old0
          go_wp2_with fail
          (try clear hr_ hd_ ho_ hz_)
          refine callsH (by (repeat (first | with_reducible exact H | with_reducible exact H0_ | with_reducible apply Hp.alloc | with_reducible apply Hp.allocMap | with_reducible apply Hp.drew | with_reducible apply Hp.drewN | with_reducible apply Hp.set)); (try any_goals (repeat (first | with_reducible exact Upd.head | with_reducible apply Upd.tail)))) ?_
          clear H; intro w13 H; (try simp only [size_drew_, size_drewN_, World.size_alloc, World.size_setCell, List.set_cons_zero, List.set_cons_succ] at H)
          have h1 : ls = (openAll ct.ty).1 := HE1.out
          have h2 : r = (openAll ct.ty).2 := HE2.out
          have hsz2 := openAll_size ct.ty
          rw [← h1, ← h2] at hsz2
          have hsty := HSM.out
          have hl3 := length_sizes ls
          have hq8 : q = ((typesQ (ds.take n) (parT ds n) none 0 ls && (decide ((spineT r).1.k = 11) && (spineT r).2.all fun x => !selfT x)) && (d.ctors.drop (j2 + 1)).all PP) := by
            rw [← HS2.out, HE.out, ← h1, ← h2]
          have hll9 : ls.length ≤ 4000000 := by omega
          have hszr : sizeT r ≤ 4000000 := by omega
          obtain ⟨z, hz⟩ : ∃ z, z = typesQ (ds.take n) (parT ds n) none 0 ls := ⟨_, rfl⟩
          rw [← hz] at hq8
          have hcall := types_calls IHs (HAK.out.ext H.ext) (H.rd (d := .l 26 5 (ls.map Tm.d)) (by (repeat (first | with_reducible exact Pick.head | with_reducible apply Pick.tail)))) (by have := HAK.out.lt; omega) (by omega)
          rw [← hz] at hcall
          have HQ8 := Lib.hid hq8
          clear hz hsz2 hsty hq8 h1 h2 hl3
          refine hcall.mono ?_
          clear hcall
          rintro e w14 hm
          have HK2 := Lib.hid (Kn.seq (HX1.out.also H.ext fun _ h => h.elim) HR.out hm.2)
          obtain ⟨_, hx, _, _⟩ := hm.2
          have hrr := (H.rd (d := r.d) (by (repeat (first | with_reducible exact Pick.head | with_reducible apply Pick.tail)))).turn hx (by have := HAK.out.lt; omega)
          have b9 := H.blk (t := 26) (cs := [.int .i64 r.k, .int .i64 r.n, .int .i64 r.a, .slice B2 r.ls.length cb2, .slice K2 r.ks.length kb2]) (by (repeat (first | with_reducible exact Pick.head | with_reducible apply Pick.tail)))
          have hc9 := (Blk.cells5 b9).turn hx (HAK.out.ext H.ext).mp
          cases z
          · obtain rfl := hm.no rfl
            clear hm
            go_wp2_with fail
            refine ⟨rfl, ?_, HK2.out⟩
            rw [HQ8.out, Bool.false_and, Bool.false_and]
            rfl
          · obtain rfl := hm.yes rfl
            clear hm H hx b9
            obtain ⟨ex2, hx, hm, hr⟩ := HK2.out
            have HAK2 := Lib.hid (HA2.out.turn hx hm hr HA2.out.hn)
            have hc2 := HC2.out.turn hx HA2.out.mp
            have HRR := Lib.hid hrr
            simp only [Cells_cons, Cells_nil, and_true] at hc2 hc9
            obtain ⟨q1, q2, q3, q4, q5⟩ := hc2
            obtain ⟨t0, t1, t2, t3, t4⟩ := hc9
            have m0 := cell_lt q1
            have m2 := cell_lt q2
            have m9 := cell_lt t0
            clear hx hm hr hrr p0 p1 p2 p3 p4 p5
            have hsp := spineT_size r
            have hll := length_sizes (spineT r).2
            obtain ⟨hd, hhd⟩ : ∃ hd, hd = (spineT r).1 := ⟨_, rfl⟩
            obtain ⟨l, hl⟩ : ∃ l, l = (spineT r).2 := ⟨_, rfl⟩
            rw [← hl] at hsp hll
            have hq9 := HQ8.out
            rw [show spineT r = (hd, l) by rw [hhd, hl], Bool.true_and] at hq9
            dsimp only at hq9
            have HQ9 := Lib.hid hq9
            have HHD := Lib.hid hhd
            have HL := Lib.hid hl
            have HLS := Lib.hid (show ∀ x ∈ l, sizeT x ≤ 4000000 from fun x hx => by have := sizesT_memS hx; omega)
            have HLL := Lib.hid (show l.length ≤ 4000000 by omega)
            clear hq9 hhd hl hsp hll HQ8
            have H := Hp.start no w14
            have hr_ := H.rules; simp only [Rules, and_true] at hr_; have hd_ := H.dif; simp only [Dif, Neq, and_true] at hd_; obtain ⟨ho_, hz_⟩ := H.old0
            go_wp2_with fail
            (try clear hr_ hd_ ho_ hz_)
            refine callsH (by (repeat (first | with_reducible exact H | with_reducible exact H0_ | with_reducible apply Hp.alloc | with_reducible apply Hp.allocMap | with_reducible apply Hp.drew | with_reducible apply Hp.drewN | with_reducible apply Hp.set)); (try any_goals (repeat (first | with_reducible exact Upd.head | with_reducible apply Upd.tail)))) ?_
            clear H; intro w15 H; (try simp only [size_drew_, size_drewN_, World.size_alloc, World.size_setCell, List.set_cons_zero, List.set_cons_succ] at H)
            refine (teleSpine (t := r) (HAK2.out.ext H.ext).tab ⟨_, _, _, _, rfl, HRR.out.ext0 H.ext⟩ (by rw [← HL.out]; exact Nat.le_trans HLL.out (by omega))).mono ?_
            rw [show spineT r = (hd, l) by rw [HHD.out, HL.out]]
            rintro e w9_ ⟨B4, cb4, K4, kb4, A4, c4, rfl, H2⟩
            replace H := H.res2 H2
            clear H2
            dsimp only at H ⊢
            have hr_ := H.rules; simp only [Rules, and_true] at hr_; have hd_ := H.dif; simp only [Dif, Neq, and_true] at hd_; obtain ⟨ho_, hz_⟩ := H.old0
            go_wp2_with ((with_reducible refine atStore (t := 26) ?_); go_must (refine wpList_storeH (t := 26) rfl rfl (by go_simp <;> first | rfl | exact ⟨rfl, rfl⟩) (by go_simp <;> first | rfl | exact ⟨rfl, rfl⟩) (by exact Hp.norm (by (repeat (first | with_reducible exact H | with_reducible exact H0_ | with_reducible apply Hp.alloc | with_reducible apply Hp.allocMap | with_reducible apply Hp.drew | with_reducible apply Hp.drewN | with_reducible apply Hp.set)); (try any_goals (repeat (first | with_reducible exact Upd.head | with_reducible apply Upd.tail)))) (by ((try simp only [size_drew_, size_drewN_, World.size_alloc, World.size_setCell, List.set_cons_zero, List.set_cons_succ, List.nil_append, List.cons_append]) <;> rfl))) (by (repeat (first | with_reducible exact Upd.head | with_reducible apply Upd.tail))) (by exact aggTerm) (by rfl) (by simp [Value.oneCell']) ?_; clear H; intro w10_ H; (try simp only [size_drew_, size_drewN_, World.size_alloc, World.size_setCell, List.set_cons_zero, List.set_cons_succ] at H); (try clear hr_ hd_ ho_ hz_); have hr_ := H.rules; simp only [Rules, and_true] at hr_; have hd_ := H.dif; simp only [Dif, Neq, and_true] at hd_; obtain ⟨ho_, hz_⟩ := H.old0))
            (try clear hr_ hd_ ho_ hz_)
            refine callsH (by (repeat (first | with_reducible exact H | with_reducible exact H0_ | with_reducible apply Hp.alloc | with_reducible apply Hp.allocMap | with_reducible apply Hp.drew | with_reducible apply Hp.drewN | with_reducible apply Hp.set)); (try any_goals (repeat (first | with_reducible exact Upd.head | with_reducible apply Upd.tail)))) ?_
            clear H; intro w11_ H; (try simp only [size_drew_, size_drewN_, World.size_alloc, World.size_setCell, List.set_cons_zero, List.set_cons_succ] at H)
            refine (tmust1 H (by (repeat (first | with_reducible exact Pick.head | with_reducible apply Pick.tail)))).mono ?_
            rintro e w16 hm
            have hx := hm.2
            have HMU := Lib.hid hm
            clear hm
            replace H := H.call hx
            clear hx
            by_cases hk3 : hd.k = 11
            · obtain rfl := HMU.out.yes (by simpa using hk3)
              have HK3 := Lib.hid hk3
              clear hk3 HMU
              have hr_ := H.rules; simp only [Rules, and_true] at hr_; have hd_ := H.dif; simp only [Dif, Neq, and_true] at hd_; obtain ⟨ho_, hz_⟩ := H.old0
              go_wp2_with fail
              (try clear hr_ hd_ ho_ hz_)
              refine callsH (by (repeat (first | with_reducible exact H | with_reducible exact H0_ | with_reducible apply Hp.alloc | with_reducible apply Hp.allocMap | with_reducible apply Hp.drew | with_reducible apply Hp.drewN | with_reducible apply Hp.set)); (try any_goals (repeat (first | with_reducible exact Upd.head | with_reducible apply Upd.tail)))) ?_
              clear H; intro w12_ H; (try simp only [size_drew_, size_drewN_, World.size_alloc, World.size_setCell, List.set_cons_zero, List.set_cons_succ] at H)
              obtain ⟨z3, hz3⟩ : ∃ z3, z3 = l.all (fun x => !selfT x) := ⟨_, rfl⟩
              have hcall := mfree_calls (below := (ls.length : Int)) (fi := .func F2 x2 y2) (HAK2.out.ext H.ext).tab (HAK2.out.ext H.ext).st (H.rd (d := .l 26 5 (l.map Tm.d)) (by (repeat (first | with_reducible exact Pick.head | with_reducible apply Pick.tail)))) HLS.out (by omega) (by omega)
              rw [show (l.all fun t => !standsM (upM none (ls.length : Int)) t) = z3 by rw [hz3]; rfl] at hcall
              have HZ3 := Lib.hid hz3
              clear hz3
              refine hcall.mono ?_
              clear hcall
              rintro e w18 hm
              have hx := hm.2
              replace H := H.call hx
              clear hx
              cases z3
              · obtain rfl := hm.no rfl
                clear hm
                go_wp2_with fail
                refine ⟨rfl, ?_, (HK2.out.ext H.ext)⟩
                rw [HQ9.out, ← HZ3.out, Bool.and_false, Bool.false_and]
                rfl
              · obtain rfl := hm.yes rfl
                clear hm
                go_wp2_with fail
                go_roundw
                case rel => exact ⟨j2 + 1, by omega, by first | go_num | rfl | simp, Lib.hid (by rw [HQ9.out, ← HZ3.out, decide_eq_true HK3.out, Bool.true_and, Bool.true_and]), Lib.hid (HK2.out.ext H.ext)⟩
                case measure => simp [intOf]; omega
            · obtain rfl := HMU.out.no (by simpa using hk3)
              have HK3 := Lib.hid hk3
              clear hk3 HMU
              go_wp2_with fail
              refine ⟨rfl, ?_, (HK2.out.ext H.ext)⟩
              rw [HQ9.out, decide_eq_false HK3.out, Bool.false_and, Bool.false_and]
              rfl
        · refine wpOp_do (i := 10) rfl (by rfl) (fun K_ hK_ => ?_)
          go_simp
          refine kontH (by (repeat (first | with_reducible exact H | with_reducible exact H0_ | with_reducible apply Hp.alloc | with_reducible apply Hp.allocMap | with_reducible apply Hp.drew | with_reducible apply Hp.drewN | with_reducible apply Hp.set)); (try any_goals (repeat (first | with_reducible exact Upd.head | with_reducible apply Upd.tail)))) ?_
          clear H; intro wb_ H; (try simp only [size_drew_, size_drewN_, World.size_alloc, World.size_setCell, List.set_cons_zero, List.set_cons_succ] at H)
          refine hK_ _ _ (fun _ => H.sub (by simp)) (fun hR_ => ?_)
          replace hR_ := hR_ (by decide)
          refine wpL_do (i := 5) rfl (by kernel_rfl) (by rfl) (fun K_ hK_ => ?_)
          go_simp
          refine (teleOpen (t := ct.ty) (HAK.out.ext H.ext).tab ⟨_, _, _, _, rfl, HTY.out.ext0 H.ext⟩ (N : Int) (.inr (by omega)) (by unfold inI; omega)).mono ?_
          rintro e w_ ⟨A2, c2, B2, cb2, K2, kb2, ls, r, hlr, rfl, H2⟩
          rw [HO.out] at hlr ⊢
          simp only [Option.getD_some, Option.isSome_some] at hlr ⊢
          obtain ⟨e1, e2⟩ := Prod.mk.inj (Option.some.inj (congrArg some hlr))
          have HE1 := Lib.hid e1
          have HE2 := Lib.hid e2
          clear hlr e1 e2
          replace H := H.res2 H2
          clear H2
          refine hK_ _ _ (fun _ => H.sub (by simp)) (fun hR_ => ?_)
          replace hR_ := hR_ (by decide)
          refine wpL_reads (is := [(6, ?v5_0), (7, ?v5_1), (8, ?v5_2), (9, ?v5_3), (11, ?v5_4)]) (by kernel_rfl) (Nat.le_of_ble_eq_true rfl) (by intro _ _ d_ _ _ h_; cases d_ <;> exact h_) (by kernel_rfl) hR_ (fun w_ hw_ => ?h5_) ?_
          case h5_ =>
            have ho_ := hw_.old0.1; have hz_ := hw_.old0.2; have hr_ := hw_.rules; clear hw_; simp only [Rules, and_true] at hr_; go_split_ands
            (repeat (first | with_reducible exact RdOps.nil | (refine RdOps.run rfl (by rfl) ?_ ?_; (focus (first | (go_simp; done) | (go_simp; with_reducible rfl))); simp only [List.getElem_toArray, List.getElem_cons_zero, List.getElem_cons_succ, Act.put, List.setIfInBounds_toArray, List.set_cons_zero, List.set_cons_succ]) | (refine RdOps.skip rfl (by rfl) ?_ ?_; (focus (with_reducible rfl)); simp only [List.getElem_toArray, List.getElem_cons_zero, List.getElem_cons_succ, Act.put, List.setIfInBounds_toArray, List.set_cons_zero, List.set_cons_succ])))
          simp only [rdMark, rdAct, List.map_cons, List.map_nil, List.length_cons, List.length_nil, Nat.reduceAdd, Nat.reduceSub, Nat.zero_add, List.getElem?_toArray, List.getElem?_cons_zero, List.getElem?_cons_succ, Option.bind_some, Act.put, List.setIfInBounds_toArray, List.set_cons_zero, List.set_cons_succ]
          refine wpL_do (i := 12) rfl (by kernel_rfl) (by rfl) (fun K_ hK_ => ?_)
          refine wp_storeH rfl (by go_simp <;> first | rfl | exact ⟨rfl, rfl⟩) (by go_simp <;> first | rfl | exact ⟨rfl, rfl⟩) H (by (repeat (first | with_reducible exact Upd.head | with_reducible apply Upd.tail))) (by exact aggTerm) (by rfl) (by simp [Value.oneCell']) (fun w12 H_ => ?_)
          clear H; have H := H_; clear H_
          refine hK_ _ _ (fun _ => H.sub (by simp)) (fun hR_ => ?_)
          replace hR_ := hR_ (by decide)
          refine wpL_reads (is := [(13, ?v6_0)]) (by kernel_rfl) (Nat.le_of_ble_eq_true rfl) (by intro _ _ d_ _ _ h_; cases d_ <;> exact h_) (by kernel_rfl) hR_ (fun w_ hw_ => ?h6_) ?_
          case h6_ =>
            have ho_ := hw_.old0.1; have hz_ := hw_.old0.2; have hr_ := hw_.rules; clear hw_; simp only [Rules, and_true] at hr_; go_split_ands
            (repeat (first | with_reducible exact RdOps.nil | (refine RdOps.run rfl (by rfl) ?_ ?_; (focus (first | (go_simp; done) | (go_simp; with_reducible rfl))); simp only [List.getElem_toArray, List.getElem_cons_zero, List.getElem_cons_succ, Act.put, List.setIfInBounds_toArray, List.set_cons_zero, List.set_cons_succ]) | (refine RdOps.skip rfl (by rfl) ?_ ?_; (focus (with_reducible rfl)); simp only [List.getElem_toArray, List.getElem_cons_zero, List.getElem_cons_succ, Act.put, List.setIfInBounds_toArray, List.set_cons_zero, List.set_cons_succ])))
          simp only [rdMark, rdAct, List.map_cons, List.map_nil, List.length_cons, List.length_nil, Nat.reduceAdd, Nat.reduceSub, Nat.zero_add, List.getElem?_toArray, List.getElem?_cons_zero, List.getElem?_cons_succ, Option.bind_some, Act.put, List.setIfInBounds_toArray, List.set_cons_zero, List.set_cons_succ]
          refine wpL_done (by kernel_rfl) ?_ _
          have hr_ := H.rules; simp only [Rules, and_true] at hr_; have hd_ := H.dif; simp only [Dif, Neq, and_true] at hd_; obtain ⟨ho_, hz_⟩ := H.old0
          go_wp2_with fail
          (try clear hr_ hd_ ho_ hz_)
          refine callsH (by (repeat (first | with_reducible exact H | with_reducible exact H0_ | with_reducible apply Hp.alloc | with_reducible apply Hp.allocMap | with_reducible apply Hp.drew | with_reducible apply Hp.drewN | with_reducible apply Hp.set)); (try any_goals (repeat (first | with_reducible exact Upd.head | with_reducible apply Upd.tail)))) ?_
          clear H; intro w13 H; (try simp only [size_drew_, size_drewN_, World.size_alloc, World.size_setCell, List.set_cons_zero, List.set_cons_succ] at H)
          have h1 : ls = (openAll ct.ty).1 := HE1.out
          have h2 : r = (openAll ct.ty).2 := HE2.out
          have hsz2 := openAll_size ct.ty
          rw [← h1, ← h2] at hsz2
          have hsty := HSM.out
          have hl3 := length_sizes ls
          have hq8 : q = ((typesQ (ds.take n) (parT ds n) none 0 ls && (decide ((spineT r).1.k = 11) && (spineT r).2.all fun x => !selfT x)) && (d.ctors.drop (j2 + 1)).all PP) := by
            rw [← HS2.out, HE.out, ← h1, ← h2]
          have hll9 : ls.length ≤ 4000000 := by omega
          have hszr : sizeT r ≤ 4000000 := by omega
          obtain ⟨z, hz⟩ : ∃ z, z = typesQ (ds.take n) (parT ds n) none 0 ls := ⟨_, rfl⟩
          rw [← hz] at hq8
          have hcall := types_calls IHs (HAK.out.ext H.ext) (H.rd (d := .l 26 5 (ls.map Tm.d)) (by (repeat (first | with_reducible exact Pick.head | with_reducible apply Pick.tail)))) (by have := HAK.out.lt; omega) (by omega)
          rw [← hz] at hcall
          have HQ8 := Lib.hid hq8
          clear hz hsz2 hsty hq8 h1 h2 hl3
          refine hcall.mono ?_
          clear hcall
          rintro e w14 hm
          have HK2 := Lib.hid (Kn.seq (HX1.out.also H.ext fun _ h => h.elim) HR.out hm.2)
          obtain ⟨_, hx, _, _⟩ := hm.2
          have hrr := (H.rd (d := r.d) (by (repeat (first | with_reducible exact Pick.head | with_reducible apply Pick.tail)))).turn hx (by have := HAK.out.lt; omega)
          have b9 := H.blk (t := 26) (cs := [.int .i64 r.k, .int .i64 r.n, .int .i64 r.a, .slice B2 r.ls.length cb2, .slice K2 r.ks.length kb2]) (by (repeat (first | with_reducible exact Pick.head | with_reducible apply Pick.tail)))
          have hc9 := (Blk.cells5 b9).turn hx (HAK.out.ext H.ext).mp
          cases z
          · obtain rfl := hm.no rfl
            clear hm
            go_wp2_with fail
            refine ⟨rfl, ?_, HK2.out⟩
            rw [HQ8.out, Bool.false_and, Bool.false_and]
            rfl
          · obtain rfl := hm.yes rfl
            clear hm H hx b9
            obtain ⟨ex2, hx, hm, hr⟩ := HK2.out
            have HAK2 := Lib.hid (HA2.out.turn hx hm hr HA2.out.hn)
            have hc2 := HC2.out.turn hx HA2.out.mp
            have HRR := Lib.hid hrr
            simp only [Cells_cons, Cells_nil, and_true] at hc2 hc9
            obtain ⟨q1, q2, q3, q4, q5⟩ := hc2
            obtain ⟨t0, t1, t2, t3, t4⟩ := hc9
            have m0 := cell_lt q1
            have m2 := cell_lt q2
            have m9 := cell_lt t0
            clear hx hm hr hrr p0 p1 p2 p3 p4 p5
            have hsp := spineT_size r
            have hll := length_sizes (spineT r).2
            obtain ⟨hd, hhd⟩ : ∃ hd, hd = (spineT r).1 := ⟨_, rfl⟩
            obtain ⟨l, hl⟩ : ∃ l, l = (spineT r).2 := ⟨_, rfl⟩
            rw [← hl] at hsp hll
            have hq9 := HQ8.out
            rw [show spineT r = (hd, l) by rw [hhd, hl], Bool.true_and] at hq9
            dsimp only at hq9
            have HQ9 := Lib.hid hq9
            have HHD := Lib.hid hhd
            have HL := Lib.hid hl
            have HLS := Lib.hid (show ∀ x ∈ l, sizeT x ≤ 4000000 from fun x hx => by have := sizesT_memS hx; omega)
            have HLL := Lib.hid (show l.length ≤ 4000000 by omega)
            clear hq9 hhd hl hsp hll HQ8
            have H := Hp.start no w14
            have hr_ := H.rules; simp only [Rules, and_true] at hr_; have hd_ := H.dif; simp only [Dif, Neq, and_true] at hd_; obtain ⟨ho_, hz_⟩ := H.old0
            go_wp2_with fail
            (try clear hr_ hd_ ho_ hz_)
            refine callsH (by (repeat (first | with_reducible exact H | with_reducible exact H0_ | with_reducible apply Hp.alloc | with_reducible apply Hp.allocMap | with_reducible apply Hp.drew | with_reducible apply Hp.drewN | with_reducible apply Hp.set)); (try any_goals (repeat (first | with_reducible exact Upd.head | with_reducible apply Upd.tail)))) ?_
            clear H; intro w15 H; (try simp only [size_drew_, size_drewN_, World.size_alloc, World.size_setCell, List.set_cons_zero, List.set_cons_succ] at H)
            refine (teleSpine (t := r) (HAK2.out.ext H.ext).tab ⟨_, _, _, _, rfl, HRR.out.ext0 H.ext⟩ (by rw [← HL.out]; exact Nat.le_trans HLL.out (by omega))).mono ?_
            rw [show spineT r = (hd, l) by rw [HHD.out, HL.out]]
            rintro e w9_ ⟨B4, cb4, K4, kb4, A4, c4, rfl, H2⟩
            replace H := H.res2 H2
            clear H2
            dsimp only at H ⊢
            have hr_ := H.rules; simp only [Rules, and_true] at hr_; have hd_ := H.dif; simp only [Dif, Neq, and_true] at hd_; obtain ⟨ho_, hz_⟩ := H.old0
            go_wp2_with ((with_reducible refine atStore (t := 26) ?_); go_must (refine wpList_storeH (t := 26) rfl rfl (by go_simp <;> first | rfl | exact ⟨rfl, rfl⟩) (by go_simp <;> first | rfl | exact ⟨rfl, rfl⟩) (by exact Hp.norm (by (repeat (first | with_reducible exact H | with_reducible exact H0_ | with_reducible apply Hp.alloc | with_reducible apply Hp.allocMap | with_reducible apply Hp.drew | with_reducible apply Hp.drewN | with_reducible apply Hp.set)); (try any_goals (repeat (first | with_reducible exact Upd.head | with_reducible apply Upd.tail)))) (by ((try simp only [size_drew_, size_drewN_, World.size_alloc, World.size_setCell, List.set_cons_zero, List.set_cons_succ, List.nil_append, List.cons_append]) <;> rfl))) (by (repeat (first | with_reducible exact Upd.head | with_reducible apply Upd.tail))) (by exact aggTerm) (by rfl) (by simp [Value.oneCell']) ?_; clear H; intro w10_ H; (try simp only [size_drew_, size_drewN_, World.size_alloc, World.size_setCell, List.set_cons_zero, List.set_cons_succ] at H); (try clear hr_ hd_ ho_ hz_); have hr_ := H.rules; simp only [Rules, and_true] at hr_; have hd_ := H.dif; simp only [Dif, Neq, and_true] at hd_; obtain ⟨ho_, hz_⟩ := H.old0))
            (try clear hr_ hd_ ho_ hz_)
            refine callsH (by (repeat (first | with_reducible exact H | with_reducible exact H0_ | with_reducible apply Hp.alloc | with_reducible apply Hp.allocMap | with_reducible apply Hp.drew | with_reducible apply Hp.drewN | with_reducible apply Hp.set)); (try any_goals (repeat (first | with_reducible exact Upd.head | with_reducible apply Upd.tail)))) ?_
            clear H; intro w11_ H; (try simp only [size_drew_, size_drewN_, World.size_alloc, World.size_setCell, List.set_cons_zero, List.set_cons_succ] at H)
            refine (tmust1 H (by (repeat (first | with_reducible exact Pick.head | with_reducible apply Pick.tail)))).mono ?_
            rintro e w16 hm
            have hx := hm.2
            have HMU := Lib.hid hm
            clear hm
            replace H := H.call hx
            clear hx
            by_cases hk3 : hd.k = 11
            · obtain rfl := HMU.out.yes (by simpa using hk3)
              have HK3 := Lib.hid hk3
              clear hk3 HMU
              have hr_ := H.rules; simp only [Rules, and_true] at hr_; have hd_ := H.dif; simp only [Dif, Neq, and_true] at hd_; obtain ⟨ho_, hz_⟩ := H.old0
              go_wp2_with fail
              (try clear hr_ hd_ ho_ hz_)
              refine callsH (by (repeat (first | with_reducible exact H | with_reducible exact H0_ | with_reducible apply Hp.alloc | with_reducible apply Hp.allocMap | with_reducible apply Hp.drew | with_reducible apply Hp.drewN | with_reducible apply Hp.set)); (try any_goals (repeat (first | with_reducible exact Upd.head | with_reducible apply Upd.tail)))) ?_
              clear H; intro w12_ H; (try simp only [size_drew_, size_drewN_, World.size_alloc, World.size_setCell, List.set_cons_zero, List.set_cons_succ] at H)
              obtain ⟨z3, hz3⟩ : ∃ z3, z3 = l.all (fun x => !selfT x) := ⟨_, rfl⟩
              have hcall := mfree_calls (below := (ls.length : Int)) (fi := .func F2 x2 y2) (HAK2.out.ext H.ext).tab (HAK2.out.ext H.ext).st (H.rd (d := .l 26 5 (l.map Tm.d)) (by (repeat (first | with_reducible exact Pick.head | with_reducible apply Pick.tail)))) HLS.out (by omega) (by omega)
              rw [show (l.all fun t => !standsM (upM none (ls.length : Int)) t) = z3 by rw [hz3]; rfl] at hcall
              have HZ3 := Lib.hid hz3
              clear hz3
              refine hcall.mono ?_
              clear hcall
              rintro e w18 hm
              have hx := hm.2
              replace H := H.call hx
              clear hx
              cases z3
              · obtain rfl := hm.no rfl
                clear hm
                go_wp2_with fail
                refine ⟨rfl, ?_, (HK2.out.ext H.ext)⟩
                rw [HQ9.out, ← HZ3.out, Bool.and_false, Bool.false_and]
                rfl
              · obtain rfl := hm.yes rfl
                clear hm
                go_wp2_with fail
                go_roundw
                case rel => exact ⟨j2 + 1, by omega, by first | go_num | rfl | simp, Lib.hid (by rw [HQ9.out, ← HZ3.out, decide_eq_true HK3.out, Bool.true_and, Bool.true_and]), Lib.hid (HK2.out.ext H.ext)⟩
                case measure => simp [intOf]; omega
            · obtain rfl := HMU.out.no (by simpa using hk3)
              have HK3 := Lib.hid hk3
              clear hk3 HMU
              go_wp2_with fail
              refine ⟨rfl, ?_, (HK2.out.ext H.ext)⟩
              rw [HQ9.out, decide_eq_false HK3.out, Bool.false_and, Bool.false_and]
              rfl
      · refine wpOp_do (i := 10) rfl (by rfl) (fun K_ hK_ => ?_)
        go_simp
        refine kontH (by (repeat (first | with_reducible exact H | with_reducible exact H0_ | with_reducible apply Hp.alloc | with_reducible apply Hp.allocMap | with_reducible apply Hp.drew | with_reducible apply Hp.drewN | with_reducible apply Hp.set)); (try any_goals (repeat (first | with_reducible exact Upd.head | with_reducible apply Upd.tail)))) ?_
        clear H; intro wb_ H; (try simp only [size_drew_, size_drewN_, World.size_alloc, World.size_setCell, List.set_cons_zero, List.set_cons_succ] at H)
        refine hK_ _ _ (fun _ => H.sub (by simp)) (fun hR_ => ?_)
        replace hR_ := hR_ (by decide)
        refine wpL_do (i := 4) rfl (by kernel_rfl) (by rfl) (fun K_ hK_ => ?_)
        go_simp
        have hcall := teleCount (t := ct.ty) ⟨_, _, _, _, rfl, HTY.out.ext0 H.ext⟩ (by omega)
        rw [← HN.out] at hcall
        refine (hcall).mono ?_
        rintro e w_ ⟨rfl, hx⟩
        replace H := H.call hx
        clear hx
        clear hcall
        refine hK_ _ _ (fun _ => H.sub (by simp)) (fun hR_ => ?_)
        replace hR_ := hR_ (by decide)
        refine wpL_do (i := 5) rfl (by kernel_rfl) (by rfl) (fun K_ hK_ => ?_)
        go_simp
        refine (teleOpen (t := ct.ty) (HAK.out.ext H.ext).tab ⟨_, _, _, _, rfl, HTY.out.ext0 H.ext⟩ (N : Int) (.inr (by omega)) (by unfold inI; omega)).mono ?_
        rintro e w_ ⟨A2, c2, B2, cb2, K2, kb2, ls, r, hlr, rfl, H2⟩
        rw [HO.out] at hlr ⊢
        simp only [Option.getD_some, Option.isSome_some] at hlr ⊢
        obtain ⟨e1, e2⟩ := Prod.mk.inj (Option.some.inj (congrArg some hlr))
        have HE1 := Lib.hid e1
        have HE2 := Lib.hid e2
        clear hlr e1 e2
        replace H := H.res2 H2
        clear H2
        refine hK_ _ _ (fun _ => H.sub (by simp)) (fun hR_ => ?_)
        replace hR_ := hR_ (by decide)
        refine wpL_reads (is := [(6, ?v7_0), (7, ?v7_1), (8, ?v7_2), (9, ?v7_3), (11, ?v7_4)]) (by kernel_rfl) (Nat.le_of_ble_eq_true rfl) (by intro _ _ d_ _ _ h_; cases d_ <;> exact h_) (by kernel_rfl) hR_ (fun w_ hw_ => ?h7_) ?_
        case h7_ =>
          have ho_ := hw_.old0.1; have hz_ := hw_.old0.2; have hr_ := hw_.rules; clear hw_; simp only [Rules, and_true] at hr_; go_split_ands
          (repeat (first | with_reducible exact RdOps.nil | (refine RdOps.run rfl (by rfl) ?_ ?_; (focus (first | (go_simp; done) | (go_simp; with_reducible rfl))); simp only [List.getElem_toArray, List.getElem_cons_zero, List.getElem_cons_succ, Act.put, List.setIfInBounds_toArray, List.set_cons_zero, List.set_cons_succ]) | (refine RdOps.skip rfl (by rfl) ?_ ?_; (focus (with_reducible rfl)); simp only [List.getElem_toArray, List.getElem_cons_zero, List.getElem_cons_succ, Act.put, List.setIfInBounds_toArray, List.set_cons_zero, List.set_cons_succ])))
        simp only [rdMark, rdAct, List.map_cons, List.map_nil, List.length_cons, List.length_nil, Nat.reduceAdd, Nat.reduceSub, Nat.zero_add, List.getElem?_toArray, List.getElem?_cons_zero, List.getElem?_cons_succ, Option.bind_some, Act.put, List.setIfInBounds_toArray, List.set_cons_zero, List.set_cons_succ]
        refine wpL_do (i := 12) rfl (by kernel_rfl) (by rfl) (fun K_ hK_ => ?_)
        refine wp_storeH rfl (by go_simp <;> first | rfl | exact ⟨rfl, rfl⟩) (by go_simp <;> first | rfl | exact ⟨rfl, rfl⟩) H (by (repeat (first | with_reducible exact Upd.head | with_reducible apply Upd.tail))) (by exact aggTerm) (by rfl) (by simp [Value.oneCell']) (fun w12 H_ => ?_)
        clear H; have H := H_; clear H_
        refine hK_ _ _ (fun _ => H.sub (by simp)) (fun hR_ => ?_)
        replace hR_ := hR_ (by decide)
        refine wpL_reads (is := [(13, ?v8_0)]) (by kernel_rfl) (Nat.le_of_ble_eq_true rfl) (by intro _ _ d_ _ _ h_; cases d_ <;> exact h_) (by kernel_rfl) hR_ (fun w_ hw_ => ?h8_) ?_
        case h8_ =>
          have ho_ := hw_.old0.1; have hz_ := hw_.old0.2; have hr_ := hw_.rules; clear hw_; simp only [Rules, and_true] at hr_; go_split_ands
          (repeat (first | with_reducible exact RdOps.nil | (refine RdOps.run rfl (by rfl) ?_ ?_; (focus (first | (go_simp; done) | (go_simp; with_reducible rfl))); simp only [List.getElem_toArray, List.getElem_cons_zero, List.getElem_cons_succ, Act.put, List.setIfInBounds_toArray, List.set_cons_zero, List.set_cons_succ]) | (refine RdOps.skip rfl (by rfl) ?_ ?_; (focus (with_reducible rfl)); simp only [List.getElem_toArray, List.getElem_cons_zero, List.getElem_cons_succ, Act.put, List.setIfInBounds_toArray, List.set_cons_zero, List.set_cons_succ])))
        simp only [rdMark, rdAct, List.map_cons, List.map_nil, List.length_cons, List.length_nil, Nat.reduceAdd, Nat.reduceSub, Nat.zero_add, List.getElem?_toArray, List.getElem?_cons_zero, List.getElem?_cons_succ, Option.bind_some, Act.put, List.setIfInBounds_toArray, List.set_cons_zero, List.set_cons_succ]
        refine wpL_done (by kernel_rfl) ?_ _
        have hr_ := H.rules; simp only [Rules, and_true] at hr_; have hd_ := H.dif; simp only [Dif, Neq, and_true] at hd_; obtain ⟨ho_, hz_⟩ := H.old0
        go_wp2_with fail
        (try clear hr_ hd_ ho_ hz_)
        refine callsH (by (repeat (first | with_reducible exact H | with_reducible exact H0_ | with_reducible apply Hp.alloc | with_reducible apply Hp.allocMap | with_reducible apply Hp.drew | with_reducible apply Hp.drewN | with_reducible apply Hp.set)); (try any_goals (repeat (first | with_reducible exact Upd.head | with_reducible apply Upd.tail)))) ?_
        clear H; intro w13 H; (try simp only [size_drew_, size_drewN_, World.size_alloc, World.size_setCell, List.set_cons_zero, List.set_cons_succ] at H)
        have h1 : ls = (openAll ct.ty).1 := HE1.out
        have h2 : r = (openAll ct.ty).2 := HE2.out
        have hsz2 := openAll_size ct.ty
        rw [← h1, ← h2] at hsz2
        have hsty := HSM.out
        have hl3 := length_sizes ls
        have hq8 : q = ((typesQ (ds.take n) (parT ds n) none 0 ls && (decide ((spineT r).1.k = 11) && (spineT r).2.all fun x => !selfT x)) && (d.ctors.drop (j2 + 1)).all PP) := by
          rw [← HS2.out, HE.out, ← h1, ← h2]
        have hll9 : ls.length ≤ 4000000 := by omega
        have hszr : sizeT r ≤ 4000000 := by omega
        obtain ⟨z, hz⟩ : ∃ z, z = typesQ (ds.take n) (parT ds n) none 0 ls := ⟨_, rfl⟩
        rw [← hz] at hq8
        have hcall := types_calls IHs (HAK.out.ext H.ext) (H.rd (d := .l 26 5 (ls.map Tm.d)) (by (repeat (first | with_reducible exact Pick.head | with_reducible apply Pick.tail)))) (by have := HAK.out.lt; omega) (by omega)
        rw [← hz] at hcall
        have HQ8 := Lib.hid hq8
        clear hz hsz2 hsty hq8 h1 h2 hl3
        refine hcall.mono ?_
        clear hcall
        rintro e w14 hm
        have HK2 := Lib.hid (Kn.seq (HX1.out.also H.ext fun _ h => h.elim) HR.out hm.2)
        obtain ⟨_, hx, _, _⟩ := hm.2
        have hrr := (H.rd (d := r.d) (by (repeat (first | with_reducible exact Pick.head | with_reducible apply Pick.tail)))).turn hx (by have := HAK.out.lt; omega)
        have b9 := H.blk (t := 26) (cs := [.int .i64 r.k, .int .i64 r.n, .int .i64 r.a, .slice B2 r.ls.length cb2, .slice K2 r.ks.length kb2]) (by (repeat (first | with_reducible exact Pick.head | with_reducible apply Pick.tail)))
        have hc9 := (Blk.cells5 b9).turn hx (HAK.out.ext H.ext).mp
        cases z
        · obtain rfl := hm.no rfl
          clear hm
          go_wp2_with fail
          refine ⟨rfl, ?_, HK2.out⟩
          rw [HQ8.out, Bool.false_and, Bool.false_and]
          rfl
        · obtain rfl := hm.yes rfl
          clear hm H hx b9
          obtain ⟨ex2, hx, hm, hr⟩ := HK2.out
          have HAK2 := Lib.hid (HA2.out.turn hx hm hr HA2.out.hn)
          have hc2 := HC2.out.turn hx HA2.out.mp
          have HRR := Lib.hid hrr
          simp only [Cells_cons, Cells_nil, and_true] at hc2 hc9
          obtain ⟨q1, q2, q3, q4, q5⟩ := hc2
          obtain ⟨t0, t1, t2, t3, t4⟩ := hc9
          have m0 := cell_lt q1
          have m2 := cell_lt q2
          have m9 := cell_lt t0
          clear hx hm hr hrr p0 p1 p2 p3 p4 p5
          have hsp := spineT_size r
          have hll := length_sizes (spineT r).2
          obtain ⟨hd, hhd⟩ : ∃ hd, hd = (spineT r).1 := ⟨_, rfl⟩
          obtain ⟨l, hl⟩ : ∃ l, l = (spineT r).2 := ⟨_, rfl⟩
          rw [← hl] at hsp hll
          have hq9 := HQ8.out
          rw [show spineT r = (hd, l) by rw [hhd, hl], Bool.true_and] at hq9
          dsimp only at hq9
          have HQ9 := Lib.hid hq9
          have HHD := Lib.hid hhd
          have HL := Lib.hid hl
          have HLS := Lib.hid (show ∀ x ∈ l, sizeT x ≤ 4000000 from fun x hx => by have := sizesT_memS hx; omega)
          have HLL := Lib.hid (show l.length ≤ 4000000 by omega)
          clear hq9 hhd hl hsp hll HQ8
          have H := Hp.start no w14
          have hr_ := H.rules; simp only [Rules, and_true] at hr_; have hd_ := H.dif; simp only [Dif, Neq, and_true] at hd_; obtain ⟨ho_, hz_⟩ := H.old0
          go_wp2_with fail
          (try clear hr_ hd_ ho_ hz_)
          refine callsH (by (repeat (first | with_reducible exact H | with_reducible exact H0_ | with_reducible apply Hp.alloc | with_reducible apply Hp.allocMap | with_reducible apply Hp.drew | with_reducible apply Hp.drewN | with_reducible apply Hp.set)); (try any_goals (repeat (first | with_reducible exact Upd.head | with_reducible apply Upd.tail)))) ?_
          clear H; intro w15 H; (try simp only [size_drew_, size_drewN_, World.size_alloc, World.size_setCell, List.set_cons_zero, List.set_cons_succ] at H)
          refine (teleSpine (t := r) (HAK2.out.ext H.ext).tab ⟨_, _, _, _, rfl, HRR.out.ext0 H.ext⟩ (by rw [← HL.out]; exact Nat.le_trans HLL.out (by omega))).mono ?_
          rw [show spineT r = (hd, l) by rw [HHD.out, HL.out]]
          rintro e w9_ ⟨B4, cb4, K4, kb4, A4, c4, rfl, H2⟩
          replace H := H.res2 H2
          clear H2
          dsimp only at H ⊢
          have hr_ := H.rules; simp only [Rules, and_true] at hr_; have hd_ := H.dif; simp only [Dif, Neq, and_true] at hd_; obtain ⟨ho_, hz_⟩ := H.old0
          go_wp2_with ((with_reducible refine atStore (t := 26) ?_); go_must (refine wpList_storeH (t := 26) rfl rfl (by go_simp <;> first | rfl | exact ⟨rfl, rfl⟩) (by go_simp <;> first | rfl | exact ⟨rfl, rfl⟩) (by exact Hp.norm (by (repeat (first | with_reducible exact H | with_reducible exact H0_ | with_reducible apply Hp.alloc | with_reducible apply Hp.allocMap | with_reducible apply Hp.drew | with_reducible apply Hp.drewN | with_reducible apply Hp.set)); (try any_goals (repeat (first | with_reducible exact Upd.head | with_reducible apply Upd.tail)))) (by ((try simp only [size_drew_, size_drewN_, World.size_alloc, World.size_setCell, List.set_cons_zero, List.set_cons_succ, List.nil_append, List.cons_append]) <;> rfl))) (by (repeat (first | with_reducible exact Upd.head | with_reducible apply Upd.tail))) (by exact aggTerm) (by rfl) (by simp [Value.oneCell']) ?_; clear H; intro w10_ H; (try simp only [size_drew_, size_drewN_, World.size_alloc, World.size_setCell, List.set_cons_zero, List.set_cons_succ] at H); (try clear hr_ hd_ ho_ hz_); have hr_ := H.rules; simp only [Rules, and_true] at hr_; have hd_ := H.dif; simp only [Dif, Neq, and_true] at hd_; obtain ⟨ho_, hz_⟩ := H.old0))
          (try clear hr_ hd_ ho_ hz_)
          refine callsH (by (repeat (first | with_reducible exact H | with_reducible exact H0_ | with_reducible apply Hp.alloc | with_reducible apply Hp.allocMap | with_reducible apply Hp.drew | with_reducible apply Hp.drewN | with_reducible apply Hp.set)); (try any_goals (repeat (first | with_reducible exact Upd.head | with_reducible apply Upd.tail)))) ?_
          clear H; intro w11_ H; (try simp only [size_drew_, size_drewN_, World.size_alloc, World.size_setCell, List.set_cons_zero, List.set_cons_succ] at H)
          refine (tmust1 H (by (repeat (first | with_reducible exact Pick.head | with_reducible apply Pick.tail)))).mono ?_
          rintro e w16 hm
          have hx := hm.2
          have HMU := Lib.hid hm
          clear hm
          replace H := H.call hx
          clear hx
          by_cases hk3 : hd.k = 11
          · obtain rfl := HMU.out.yes (by simpa using hk3)
            have HK3 := Lib.hid hk3
            clear hk3 HMU
            have hr_ := H.rules; simp only [Rules, and_true] at hr_; have hd_ := H.dif; simp only [Dif, Neq, and_true] at hd_; obtain ⟨ho_, hz_⟩ := H.old0
            go_wp2_with fail
            (try clear hr_ hd_ ho_ hz_)
            refine callsH (by (repeat (first | with_reducible exact H | with_reducible exact H0_ | with_reducible apply Hp.alloc | with_reducible apply Hp.allocMap | with_reducible apply Hp.drew | with_reducible apply Hp.drewN | with_reducible apply Hp.set)); (try any_goals (repeat (first | with_reducible exact Upd.head | with_reducible apply Upd.tail)))) ?_
            clear H; intro w12_ H; (try simp only [size_drew_, size_drewN_, World.size_alloc, World.size_setCell, List.set_cons_zero, List.set_cons_succ] at H)
            obtain ⟨z3, hz3⟩ : ∃ z3, z3 = l.all (fun x => !selfT x) := ⟨_, rfl⟩
            have hcall := mfree_calls (below := (ls.length : Int)) (fi := .func F2 x2 y2) (HAK2.out.ext H.ext).tab (HAK2.out.ext H.ext).st (H.rd (d := .l 26 5 (l.map Tm.d)) (by (repeat (first | with_reducible exact Pick.head | with_reducible apply Pick.tail)))) HLS.out (by omega) (by omega)
            rw [show (l.all fun t => !standsM (upM none (ls.length : Int)) t) = z3 by rw [hz3]; rfl] at hcall
            have HZ3 := Lib.hid hz3
            clear hz3
            refine hcall.mono ?_
            clear hcall
            rintro e w18 hm
            have hx := hm.2
            replace H := H.call hx
            clear hx
            cases z3
            · obtain rfl := hm.no rfl
              clear hm
              go_wp2_with fail
              refine ⟨rfl, ?_, (HK2.out.ext H.ext)⟩
              rw [HQ9.out, ← HZ3.out, Bool.and_false, Bool.false_and]
              rfl
            · obtain rfl := hm.yes rfl
              clear hm
              go_wp2_with fail
              go_roundw
              case rel => exact ⟨j2 + 1, by omega, by first | go_num | rfl | simp, Lib.hid (by rw [HQ9.out, ← HZ3.out, decide_eq_true HK3.out, Bool.true_and, Bool.true_and]), Lib.hid (HK2.out.ext H.ext)⟩
              case measure => simp [intOf]; omega
          · obtain rfl := HMU.out.no (by simpa using hk3)
            have HK3 := Lib.hid hk3
            clear hk3 HMU
            go_wp2_with fail
            refine ⟨rfl, ?_, (HK2.out.ext H.ext)⟩
            rw [HQ9.out, decide_eq_false HK3.out, Bool.false_and, Bool.false_and]
            rfl
    · go_wp2_with fail
      go_end0
      refine ⟨?_, HKN.out⟩
      rw [← HS2.out, List.drop_eq_nil_of_le (by omega)]
      rfl
set_option maxRecDepth 100000 in
set_option maxHeartbeats 8000000 in
theorem positive_calls {w : World} {S S1 : Nat → Prop} {ds : List Dc} {d : Dc} {A0 : Option Addr} {c : Nat} {cs : List Value} (hT : Tab w) (h : RC w S (.l 51 16 (ds.map Dc.d)) [.slice A0 ds.length c]) (hd : RC w S1 d.d cs) (sm : ∀ x ∈ ds, SmDc x) (smd : SmDc d) :
    Calls Tryz.prog 40 #[.slice A0 ds.length c, .agg cs.toArray] w (PV w (.bool (positiveV ds d))) := by
  have hM := h.lenM
  have HT := Lib.hid hT
  have HH := Lib.hid h
  have HSM := Lib.hid sm
  have HSMD := Lib.hid smd
  have HD := Lib.hid hd
  obtain ⟨Aty, cty, Kty, kty, Abody, cbody, Kbody, kbody, Aparams, cparams, Asort, csort, Amembers, cmembers, Actors, cctors, rfl, _⟩ := RC.dc.1 hd
  have hmf : ∀ (fn : Fn) (first cap : Array Value) (w : World), (Instr.makeFunc fn first cap).run Tryz.prog w = .ok (.func fn first cap) w := fun _ _ _ _ => rfl
  have hmm : ∀ w : World, (Instr.makeMap 159 none).run Tryz.prog w = .ok (.map (some w.heap.size)) (w.alloc (.map #[] 0)) := fun _ => rfl
  obtain ⟨q, hq⟩ : ∃ q, q = positiveV ds d := ⟨_, rfl⟩
  rw [← hq]
  unfold positiveV at hq
  clear hT h sm smd hd
  by_cases h3 : d.kind = 3
  · have e3 : (d.kind == 3) = true := by rw [h3]; rfl
    have hq2 : q = d.ctors.all (ctorS ds) := by rw [hq, decide_eq_true h3, Bool.true_and]
    have HQ := Lib.hid hq2
    have HK := Lib.hid h3
    clear hq hq2 h3
    go_enter Tryz.func40, Tryz.ntmps40
    have H := Hp.start no w
    go_wp2_with fail
    refine callsH (by (repeat (first | with_reducible exact H | with_reducible exact H0_ | with_reducible apply Hp.alloc | with_reducible apply Hp.allocMap | with_reducible apply Hp.drew | with_reducible apply Hp.drewN | with_reducible apply Hp.set)); (try any_goals (repeat (first | with_reducible exact Upd.head | with_reducible apply Upd.tail)))) ?_
    clear H; intro w1 H; (try simp only [size_drew_, size_drewN_, World.size_alloc, World.size_setCell, List.set_cons_zero, List.set_cons_succ] at H)
    refine (members_calls).mono ?_
    rintro e w_ ⟨rfl, hx⟩
    replace H := H.call hx
    clear hx
    have hr_ := H.rules; simp only [Rules, and_true] at hr_; have hd_ := H.dif; simp only [Dif, Neq, and_true] at hd_; obtain ⟨ho_, hz_⟩ := H.old0
    go_wp2_with ((with_reducible refine atStore (t := 161) ?_); go_must (refine wpList_storeH (t := 161) rfl rfl (by go_simp <;> first | rfl | exact ⟨rfl, rfl⟩) (by go_simp <;> first | rfl | exact ⟨rfl, rfl⟩) (by exact Hp.norm (by (repeat (first | with_reducible exact H | with_reducible exact H0_ | with_reducible apply Hp.alloc | with_reducible apply Hp.allocMap | with_reducible apply Hp.drew | with_reducible apply Hp.drewN | with_reducible apply Hp.set)); (try any_goals (repeat (first | with_reducible exact Upd.head | with_reducible apply Upd.tail)))) (by ((try simp only [size_drew_, size_drewN_, World.size_alloc, World.size_setCell, List.set_cons_zero, List.set_cons_succ, List.nil_append, List.cons_append]) <;> rfl))) (by (repeat (first | with_reducible exact Upd.head | with_reducible apply Upd.tail))) (by exact aggAsker) (by rfl) (by simp [Value.oneCell']) ?_; clear H; intro w7 H; (try simp only [size_drew_, size_drewN_, World.size_alloc, World.size_setCell, List.set_cons_zero, List.set_cons_succ] at H); (try clear hr_ hd_ ho_ hz_); have hr_ := H.rules; simp only [Rules, and_true] at hr_; have hd_ := H.dif; simp only [Dif, Neq, and_true] at hd_; obtain ⟨ho_, hz_⟩ := H.old0))
    (try clear hr_ hd_ ho_ hz_)
    refine callsH (by (repeat (first | with_reducible exact H | with_reducible exact H0_ | with_reducible apply Hp.alloc | with_reducible apply Hp.allocMap | with_reducible apply Hp.drew | with_reducible apply Hp.drewN | with_reducible apply Hp.set)); (try any_goals (repeat (first | with_reducible exact Upd.head | with_reducible apply Upd.tail)))) ?_
    clear H; intro w2 H; (try simp only [size_drew_, size_drewN_, World.size_alloc, World.size_setCell, List.set_cons_zero, List.set_cons_succ] at H)
    have bD := H.blk (t := 51) (cs := [.int .i64 d.kind, .int .i64 d.levels, .int .i64 d.ty.k, .int .i64 d.ty.n, .int .i64 d.ty.a, .slice Aty d.ty.ls.length cty, .slice Kty d.ty.ks.length kty, .int .i64 d.body.k, .int .i64 d.body.n, .int .i64 d.body.a, .slice Abody d.body.ls.length cbody, .slice Kbody d.body.ks.length kbody, .slice Aparams d.params.length cparams, .slice Asort d.sort.length csort, .slice Amembers d.members.length cmembers, .slice Actors d.ctors.length cctors]) (by (repeat (first | with_reducible exact Pick.head | with_reducible apply Pick.tail)))
    have bA := H.blk (t := 161) (cs := [.func (.func 204) #[] #[], .func (.func 206) #[] #[], .slice A0 ds.length c, .map (some w_.heap.size)]) (by (repeat (first | with_reducible exact Pick.head | with_reducible apply Pick.tail)))
    obtain ⟨hg, hm⟩ := H.mapAt (g := w_.heap.size) (by (repeat (first | with_reducible exact Pick.head | with_reducible apply Pick.tail)))
    have hAK := ask_members (HT.out.ext H.ext) HH.out H.ext hg hm HSM.out
    have hcall := theld_calls (w := w2) (g := w_.heap.size) (ds := ds) (n := ds.length) (es := []) hAK.lt (enters_of Tryz.func126 (by kernel_rfl) rfl) (fun w' hx =>
      positive1_calls (S1 := fun k => S1 k ∧ k < w.heap.size) (hAK.ext hx) (HD.out.bd.ext0 (H.ext.seq hx)) (fun e => by have := e.2; omega) HSMD.out ⟨hx.keep (bD.cells 15), hx.keep (bA.cells 0), hx.keep (bA.cells 1), hx.keep (bA.cells 2), hx.keep (bA.cells 3), trivial⟩)
    rw [show (d.ctors.all fun ct => typesQ (ds.take ds.length) (parT ds ds.length) none 0 (openAll ct.ty).1 && (decide ((spineT (openAll ct.ty).2).1.k = 11) && (spineT (openAll ct.ty).2).2.all fun x => !selfT x)) = q by rw [HQ.out, List.take_length]; rfl] at hcall
    refine hcall.mono ?_
    clear hcall bD bA hAK
    rintro e w3 ⟨rfl, hk⟩
    obtain ⟨ex, hx, _, _⟩ := hk
    have H2 := (H.pick (c := .map w_.heap.size []) (by (repeat (first | with_reducible exact Pick.head | with_reducible apply Pick.tail)))).callG hx
    have HX := H2.ext
    clear H H2 hx hg hm
    go_wp2_with fail
    go_ret
    exact ⟨rfl, HX⟩
  · have e3 : (d.kind == 3) = false := by rw [beq_eq_false_iff_ne]; exact h3
    have hq2 : q = false := by rw [hq, decide_eq_false h3, Bool.false_and]
    have HQ := Lib.hid hq2
    clear hq hq2 h3
    go_enter Tryz.func40, Tryz.ntmps40
    have H := Hp.start no w
    go_wp2_with fail
    refine callsH (by (repeat (first | with_reducible exact H | with_reducible exact H0_ | with_reducible apply Hp.alloc | with_reducible apply Hp.allocMap | with_reducible apply Hp.drew | with_reducible apply Hp.drewN | with_reducible apply Hp.set)); (try any_goals (repeat (first | with_reducible exact Upd.head | with_reducible apply Upd.tail)))) ?_
    clear H; intro w1 H; (try simp only [size_drew_, size_drewN_, World.size_alloc, World.size_setCell, List.set_cons_zero, List.set_cons_succ] at H)
    refine (members_calls).mono ?_
    rintro e w_ ⟨rfl, hx⟩
    replace H := H.call hx
    clear hx
    have hr_ := H.rules; simp only [Rules, and_true] at hr_; have hd_ := H.dif; simp only [Dif, Neq, and_true] at hd_; obtain ⟨ho_, hz_⟩ := H.old0
    go_wp2_with ((with_reducible refine atStore (t := 161) ?_); go_must (refine wpList_storeH (t := 161) rfl rfl (by go_simp <;> first | rfl | exact ⟨rfl, rfl⟩) (by go_simp <;> first | rfl | exact ⟨rfl, rfl⟩) (by exact Hp.norm (by (repeat (first | with_reducible exact H | with_reducible exact H0_ | with_reducible apply Hp.alloc | with_reducible apply Hp.allocMap | with_reducible apply Hp.drew | with_reducible apply Hp.drewN | with_reducible apply Hp.set)); (try any_goals (repeat (first | with_reducible exact Upd.head | with_reducible apply Upd.tail)))) (by ((try simp only [size_drew_, size_drewN_, World.size_alloc, World.size_setCell, List.set_cons_zero, List.set_cons_succ, List.nil_append, List.cons_append]) <;> rfl))) (by (repeat (first | with_reducible exact Upd.head | with_reducible apply Upd.tail))) (by exact aggAsker) (by rfl) (by simp [Value.oneCell']) ?_; clear H; intro w7 H; (try simp only [size_drew_, size_drewN_, World.size_alloc, World.size_setCell, List.set_cons_zero, List.set_cons_succ] at H); (try clear hr_ hd_ ho_ hz_); have hr_ := H.rules; simp only [Rules, and_true] at hr_; have hd_ := H.dif; simp only [Dif, Neq, and_true] at hd_; obtain ⟨ho_, hz_⟩ := H.old0))
    (try clear hr_ hd_ ho_ hz_)
    go_ret
    exact ⟨by rw [HQ.out]; rfl, H.ext⟩
end Go.Proofs.YtmedomglemllnaaGreatDoor
