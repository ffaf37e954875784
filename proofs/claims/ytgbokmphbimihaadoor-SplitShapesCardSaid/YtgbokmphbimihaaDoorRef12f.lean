/- Reference 12: Rules: contract. No statement of the seat is proved here. -/
import Derived.Test.YtgbokmphbimihaaDoorRef12d
import Derived.Test.YtgbokmphbimihaaDoorMgAboveO
namespace Go.Proofs.YtgbokmphbimihaaDoor
set_option linter.unusedSimpArgs false
set_option linter.unusedVariables false
open Go.RowKit

set_option maxRecDepth 100000 in
set_option maxHeartbeats 8000000 in
theorem refRules {S : Nat → Prop} {d : Dc} {w : World} {cs : List Value} (hd : RC w S d.d cs) (hb : CtsOK d.ctors) :
    Calls Tryd.prog 50 #[.agg cs.toArray] w (PRules w (rulesQ d)) := by
  have HDD := Lib.hid hd
  obtain ⟨Aty, cty, Kty, kty, Abody, cbody, Kbody, kbody, Aparams, cparams, Asort, csort, Amembers, cmembers, Actors, cctors, rfl, hparts⟩ := RC.dc.1 hd
  have hct := hparts.2.2.2.2.2.2.2
  have hM := hct.lenM
  have HB := Lib.hid hb
  obtain ⟨R, hR⟩ : ∃ R, R = rulesQ d := ⟨_, rfl⟩
  rw [← hR]
  have HR0 := Lib.hid hR
  clear hb hR hd hparts
  by_cases h3 : d.kind = 3
  · have HR : Hid (R = ctorsQ d.members d.ctors) := by unfold Hid; rw [HR0.out, rulesQ, if_pos h3]
    have h32 : (d.kind == 3) = true := by simpa using h3
    have h33 : (d.kind != 3) = false := by simpa using h3
    clear h3 HR0
    go_enter Tryd.func50, Tryd.ntmps50
    have H := Hp.start no w
    have hr_ := H.rules; simp only [Rules, and_true] at hr_; have hd_ := H.dif; simp only [Dif, Neq, and_true] at hd_; obtain ⟨ho_, hz_⟩ := H.old0
    go_wp2_with fail
    (try clear hr_ hd_ ho_ hz_)
    refine codeH (by (repeat (first | with_reducible exact H | with_reducible exact H0_ | with_reducible apply Hp.alloc | with_reducible apply Hp.allocMap | with_reducible apply Hp.drew | with_reducible apply Hp.drewN | with_reducible apply Hp.set)); (try any_goals (repeat (first | with_reducible exact Upd.head | with_reducible apply Upd.tail)))) ?_
    clear H; intro w1 H; (try simp only [size_drew_, size_drewN_, World.size_alloc, World.size_setCell, List.set_cons_zero, List.set_cons_succ] at H)
    have H := H.nil 68 3
    have H0_ := H
    clear H
    go_loopw [4, 5] (fun o i wr => ∃ (j : Nat) (got : List Ru) (A : Option Addr) (cA : Nat), j ≤ d.ctors.length ∧ i = .int .i64 j ∧ o = .slice A got.length cA ∧ Hid (ctorsQ d.members d.ctors = (ctorsQ d.members (d.ctors.drop j)).map (got ++ ·)) ∧ got.length = j ∧ Hp no w wr [.dat (.l 68 3 (got.map Ru.d)) [.slice A got.length cA], .box w.heap.size 37 [.int .i64 d.kind, .int .i64 d.levels, .int .i64 d.ty.k, .int .i64 d.ty.n, .int .i64 d.ty.a, .slice Aty d.ty.ls.length cty, .slice Kty d.ty.ks.length kty, .int .i64 d.body.k, .int .i64 d.body.n, .int .i64 d.body.a, .slice Abody d.body.ls.length cbody, .slice Kbody d.body.ks.length kbody, .slice Aparams d.params.length cparams, .slice Asort d.sort.length csort, .slice Amembers d.members.length cmembers, .slice Actors d.ctors.length cctors]]) (fun _ i _ => d.ctors.length - (intOf i).toNat)
    case atStart =>
      refine ⟨0, [], none, 0, Nat.zero_le _, rfl, rfl, Lib.hid (mapR_none _), rfl, ?_⟩
      simp only [List.length_nil, List.map_nil]
      exact (H0_.arr (by (repeat (first | with_reducible exact Arr.nil | refine Arr.cons (by (repeat (first | with_reducible exact Pick.head | with_reducible apply Pick.tail))) ?_)) <;> exact Arr.of_subl (by (repeat (first | with_reducible exact Subl.refl _ | with_reducible apply Subl.drop)))))
    case round =>
      clear H0_
      obtain ⟨j, got, A, cA, hj, rfl, rfl, HS, hgl, H⟩ := hrel
      have HGL := Lib.hid hgl
      clear hgl
      by_cases hlt : j < d.ctors.length
      · obtain ⟨b_, o, A1, ca1, K1, ck1, hA, hb1, hS, hcd, p0, p1, p2, p3, p4, p5⟩ := hct.atCt hlt
        subst hA
        have HT := Lib.hid hcd
        have HAD := Lib.hid (ctorsQ_drop (ms := d.members) hlt)
        have HSZ := Lib.hid (HB.out _ (List.getElem_mem hlt))
        have hlt0 := (H.blk (g := w.heap.size) (t := 37) (by (repeat (first | with_reducible exact Pick.head | with_reducible apply Pick.tail)))).lt
        have hrw := H.rules
        simp only [Rules, and_true] at hrw
        clear hcd
        generalize d.ctors[j] = ct at p0 p1 p2 p3 p4 p5 HT HAD HSZ
        have hr_ := H.rules; simp only [Rules, and_true] at hr_; have hd_ := H.dif; simp only [Dif, Neq, and_true] at hd_; obtain ⟨ho_, hz_⟩ := H.old0
        go_wp2_with fail
        (try clear hr_ hd_ ho_ hz_)
        have hext := H.ext
        replace p0 := hext.keep p0
        replace p1 := hext.keep p1
        replace p2 := hext.keep p2
        replace p3 := hext.keep p3
        replace p4 := hext.keep p4
        replace p5 := hext.keep p5
        have hbw : b_ < wr.heap.size := Nat.lt_of_lt_of_le hb1 hext.size
        clear hext
        have H9 := Hp.start no wr
        refine wp_region_H 13 [false, false, false, false, false, false, false, false, false, false, false, false, false] [] H9 .nil (by kernel_rfl) rfl rfl (fun H9_ hR_ => ?_)
        (try clear H0_); have H0_ := H9; clear H9; have H9 := H9_; clear H9_
        refine wpL_reads (is := [(0, ?v1_0), (1, ?v1_1), (2, ?v1_2), (3, ?v1_3), (4, ?v1_4), (5, ?v1_5)]) (by kernel_rfl) (Nat.le_of_ble_eq_true rfl) (by intro _ _ d_ _ _ h_; cases d_ <;> exact h_) (by kernel_rfl) hR_ (fun w_ hw_ => ?h1_) ?_
        case h1_ =>
          have ho_ := hw_.old0.1; have hz_ := hw_.old0.2; have hr_ := hw_.rules; clear hw_; simp only [Rules, and_true] at hr_; go_split_ands
          (repeat (first | with_reducible exact RdOps.nil | (refine RdOps.run rfl (by rfl) ?_ ?_; (focus (first | (go_simp; done) | (go_simp; with_reducible rfl))); simp only [List.getElem_toArray, List.getElem_cons_zero, List.getElem_cons_succ, Act.put, List.setIfInBounds_toArray, List.set_cons_zero, List.set_cons_succ]) | (refine RdOps.skip rfl (by rfl) ?_ ?_; (focus (with_reducible rfl)); simp only [List.getElem_toArray, List.getElem_cons_zero, List.getElem_cons_succ, Act.put, List.setIfInBounds_toArray, List.set_cons_zero, List.set_cons_succ])))
        simp only [rdMark, rdAct, List.map_cons, List.map_nil, List.length_cons, List.length_nil, Nat.reduceAdd, Nat.reduceSub, Nat.zero_add, List.getElem?_toArray, List.getElem?_cons_zero, List.getElem?_cons_succ, Option.bind_some, Act.put, List.setIfInBounds_toArray, List.set_cons_zero, List.set_cons_succ]
        refine wpL_many (is := [6, 10]) (by kernel_rfl) (by simp) ?_
        simp only [List.forall_mem_cons]
        refine ⟨?_, ?_, fun _ h => by cases h⟩
        · refine wpOp_do (i := 6) rfl (by rfl) (fun K_ hK_ => ?_)
          go_simp
          obtain ⟨ra, hra⟩ : ∃ ra, ra = readQ d.members ct := ⟨_, rfl⟩
          have hcall := refOne (d := d) (c := ct) (HDD.out.ext0 (H.ext.seq H9.ext)) (HT.out.ext0 (H.ext.seq H9.ext)) HSZ.out
          rw [← hra] at hcall
          have HRA := Lib.hid hra
          clear hra
          refine hcall.mono ?_
          clear hcall
          cases ra with
          | error k =>
            rintro e_ w_ ⟨ae, Ae, ne, ce, Be, me, ce', rfl, hx, hk0⟩
            replace H9 := H9.call hx
            clear hx
            refine hK_ _ _ (fun _ => H9.sub (by simp)) (fun hR_ => ?_)
            replace hR_ := hR_ (by decide)
            refine wpL_reads (is := [(7, ?v2_0), (8, ?v2_1), (9, ?v2_2)]) (by kernel_rfl) (Nat.le_of_ble_eq_true rfl) (by intro _ _ d_ _ _ h_; cases d_ <;> exact h_) (by kernel_rfl) hR_ (fun w_ hw_ => ?h2_) ?_
            case h2_ =>
              have ho_ := hw_.old0.1; have hz_ := hw_.old0.2; have hr_ := hw_.rules; clear hw_; simp only [Rules, and_true] at hr_; go_split_ands
              (repeat (first | with_reducible exact RdOps.nil | (refine RdOps.run rfl (by rfl) ?_ ?_; (focus (first | (go_simp; done) | (go_simp; with_reducible rfl))); simp only [List.getElem_toArray, List.getElem_cons_zero, List.getElem_cons_succ, Act.put, List.setIfInBounds_toArray, List.set_cons_zero, List.set_cons_succ]) | (refine RdOps.skip rfl (by rfl) ?_ ?_; (focus (with_reducible rfl)); simp only [List.getElem_toArray, List.getElem_cons_zero, List.getElem_cons_succ, Act.put, List.setIfInBounds_toArray, List.set_cons_zero, List.set_cons_succ])))
            simp only [rdMark, rdAct, List.map_cons, List.map_nil, List.length_cons, List.length_nil, Nat.reduceAdd, Nat.reduceSub, Nat.zero_add, List.getElem?_toArray, List.getElem?_cons_zero, List.getElem?_cons_succ, Option.bind_some, Act.put, List.setIfInBounds_toArray, List.set_cons_zero, List.set_cons_succ]
            refine wpL_do (i := 10) rfl (by kernel_rfl) (by rfl) (fun K_ hK_ => ?_)
            go_simp
            refine kontH (by (repeat (first | with_reducible exact H9 | with_reducible exact H0_ | with_reducible apply Hp.alloc | with_reducible apply Hp.allocMap | with_reducible apply Hp.drew | with_reducible apply Hp.drewN | with_reducible apply Hp.set)); (try any_goals (repeat (first | with_reducible exact Upd.head | with_reducible apply Upd.tail)))) ?_
            clear H9; intro wb_ H9; (try simp only [size_drew_, size_drewN_, World.size_alloc, World.size_setCell, List.set_cons_zero, List.set_cons_succ] at H9)
            refine hK_ _ _ (fun _ => H9.sub (by simp)) (fun hR_ => ?_)
            replace hR_ := hR_ (by decide)
            refine wpL_do (i := 11) rfl (by kernel_rfl) (by rfl) (fun K_ hK_ => ?_)
            refine wp_storeH rfl (by go_simp <;> first | rfl | exact ⟨rfl, rfl⟩) (by go_simp <;> first | rfl | exact ⟨rfl, rfl⟩) H9 (by (repeat (first | with_reducible exact Upd.head | with_reducible apply Upd.tail))) (by exact aggRule) (by rfl) (by simp [Value.oneCell']) (fun w12 H_ => ?_)
            clear H9; have H9 := H_; clear H_
            refine hK_ _ _ (fun _ => H9.sub (by simp)) (fun hR_ => ?_)
            replace hR_ := hR_ (by decide)
            refine wpL_reads (is := [(12, ?v3_0)]) (by kernel_rfl) (Nat.le_of_ble_eq_true rfl) (by intro _ _ d_ _ _ h_; cases d_ <;> exact h_) (by kernel_rfl) hR_ (fun w_ hw_ => ?h3_) ?_
            case h3_ =>
              have ho_ := hw_.old0.1; have hz_ := hw_.old0.2; have hr_ := hw_.rules; clear hw_; simp only [Rules, and_true] at hr_; go_split_ands
              (repeat (first | with_reducible exact RdOps.nil | (refine RdOps.run rfl (by rfl) ?_ ?_; (focus (first | (go_simp; done) | (go_simp; with_reducible rfl))); simp only [List.getElem_toArray, List.getElem_cons_zero, List.getElem_cons_succ, Act.put, List.setIfInBounds_toArray, List.set_cons_zero, List.set_cons_succ]) | (refine RdOps.skip rfl (by rfl) ?_ ?_; (focus (with_reducible rfl)); simp only [List.getElem_toArray, List.getElem_cons_zero, List.getElem_cons_succ, Act.put, List.setIfInBounds_toArray, List.set_cons_zero, List.set_cons_succ])))
            simp only [rdMark, rdAct, List.map_cons, List.map_nil, List.length_cons, List.length_nil, Nat.reduceAdd, Nat.reduceSub, Nat.zero_add, List.getElem?_toArray, List.getElem?_cons_zero, List.getElem?_cons_succ, Option.bind_some, Act.put, List.setIfInBounds_toArray, List.set_cons_zero, List.set_cons_succ]
            refine wpL_done (by kernel_rfl) ?_ _
            have H1 := H.resAll H9 rfl
            simp only [List.cons_append, List.nil_append] at H1
            clear H H9 p0 p1 p2 p3 p4 p5 hrw hlt0
            have H := H1
            clear H1
            have HZ : Hid (R = .error k) := by
              unfold Hid
              rw [HR.out, HS.out, HAD.out, ← HRA.out]; rfl
            have g1 : (k == 0) = false := by simpa using hk0
            have g1' : (k != 0) = true := by simpa using hk0
            have HK0 := Lib.hid hk0
            clear hk0
            have hr_ := H.rules; simp only [Rules, and_true] at hr_; have hd_ := H.dif; simp only [Dif, Neq, and_true] at hd_; obtain ⟨ho_, hz_⟩ := H.old0
            go_wp2_with fail
            (try clear hr_ hd_ ho_ hz_)
            refine bodyPost_ret (v := .tuple #[.slice none 0 0, .int .i64 k]) (Res.two Tryd.results50 rfl rfl) rfl ?_
            rw [HZ.out]
            exact ⟨rfl, H.ext, HK0.out⟩
          | ok a =>
            rintro e_ w_ ⟨cs_, rfl, H2⟩
            obtain ⟨E1, f1, E2, f2, rfl, -⟩ := RC.ru.1 (H2.rd .head)
            replace H9 := H9.res1 H2
            clear H2
            refine hK_ _ _ (fun _ => H9.sub (by simp)) (fun hR_ => ?_)
            replace hR_ := hR_ (by decide)
            refine wpL_reads (is := [(7, ?v4_0), (8, ?v4_1), (9, ?v4_2)]) (by kernel_rfl) (Nat.le_of_ble_eq_true rfl) (by intro _ _ d_ _ _ h_; cases d_ <;> exact h_) (by kernel_rfl) hR_ (fun w_ hw_ => ?h4_) ?_
            case h4_ =>
              have ho_ := hw_.old0.1; have hz_ := hw_.old0.2; have hr_ := hw_.rules; clear hw_; simp only [Rules, and_true] at hr_; go_split_ands
              (repeat (first | with_reducible exact RdOps.nil | (refine RdOps.run rfl (by rfl) ?_ ?_; (focus (first | (go_simp; done) | (go_simp; with_reducible rfl))); simp only [List.getElem_toArray, List.getElem_cons_zero, List.getElem_cons_succ, Act.put, List.setIfInBounds_toArray, List.set_cons_zero, List.set_cons_succ]) | (refine RdOps.skip rfl (by rfl) ?_ ?_; (focus (with_reducible rfl)); simp only [List.getElem_toArray, List.getElem_cons_zero, List.getElem_cons_succ, Act.put, List.setIfInBounds_toArray, List.set_cons_zero, List.set_cons_succ])))
            simp only [rdMark, rdAct, List.map_cons, List.map_nil, List.length_cons, List.length_nil, Nat.reduceAdd, Nat.reduceSub, Nat.zero_add, List.getElem?_toArray, List.getElem?_cons_zero, List.getElem?_cons_succ, Option.bind_some, Act.put, List.setIfInBounds_toArray, List.set_cons_zero, List.set_cons_succ]
            refine wpL_do (i := 10) rfl (by kernel_rfl) (by rfl) (fun K_ hK_ => ?_)
            go_simp
            refine kontH (by (repeat (first | with_reducible exact H9 | with_reducible exact H0_ | with_reducible apply Hp.alloc | with_reducible apply Hp.allocMap | with_reducible apply Hp.drew | with_reducible apply Hp.drewN | with_reducible apply Hp.set)); (try any_goals (repeat (first | with_reducible exact Upd.head | with_reducible apply Upd.tail)))) ?_
            clear H9; intro wb_ H9; (try simp only [size_drew_, size_drewN_, World.size_alloc, World.size_setCell, List.set_cons_zero, List.set_cons_succ] at H9)
            refine hK_ _ _ (fun _ => H9.sub (by simp)) (fun hR_ => ?_)
            replace hR_ := hR_ (by decide)
            refine wpL_do (i := 11) rfl (by kernel_rfl) (by rfl) (fun K_ hK_ => ?_)
            refine wp_storeH rfl (by go_simp <;> first | rfl | exact ⟨rfl, rfl⟩) (by go_simp <;> first | rfl | exact ⟨rfl, rfl⟩) H9 (by (repeat (first | with_reducible exact Upd.head | with_reducible apply Upd.tail))) (by exact aggRule) (by rfl) (by simp [Value.oneCell']) (fun w12 H_ => ?_)
            clear H9; have H9 := H_; clear H_
            refine hK_ _ _ (fun _ => H9.sub (by simp)) (fun hR_ => ?_)
            replace hR_ := hR_ (by decide)
            refine wpL_reads (is := [(12, ?v5_0)]) (by kernel_rfl) (Nat.le_of_ble_eq_true rfl) (by intro _ _ d_ _ _ h_; cases d_ <;> exact h_) (by kernel_rfl) hR_ (fun w_ hw_ => ?h5_) ?_
            case h5_ =>
              have ho_ := hw_.old0.1; have hz_ := hw_.old0.2; have hr_ := hw_.rules; clear hw_; simp only [Rules, and_true] at hr_; go_split_ands
              (repeat (first | with_reducible exact RdOps.nil | (refine RdOps.run rfl (by rfl) ?_ ?_; (focus (first | (go_simp; done) | (go_simp; with_reducible rfl))); simp only [List.getElem_toArray, List.getElem_cons_zero, List.getElem_cons_succ, Act.put, List.setIfInBounds_toArray, List.set_cons_zero, List.set_cons_succ]) | (refine RdOps.skip rfl (by rfl) ?_ ?_; (focus (with_reducible rfl)); simp only [List.getElem_toArray, List.getElem_cons_zero, List.getElem_cons_succ, Act.put, List.setIfInBounds_toArray, List.set_cons_zero, List.set_cons_succ])))
            simp only [rdMark, rdAct, List.map_cons, List.map_nil, List.length_cons, List.length_nil, Nat.reduceAdd, Nat.reduceSub, Nat.zero_add, List.getElem?_toArray, List.getElem?_cons_zero, List.getElem?_cons_succ, Option.bind_some, Act.put, List.setIfInBounds_toArray, List.set_cons_zero, List.set_cons_succ]
            refine wpL_done (by kernel_rfl) ?_ _
            have H1 := H.resAll H9 rfl
            simp only [List.cons_append, List.nil_append] at H1
            clear H H9 p0 p1 p2 p3 p4 p5 hrw hlt0
            have H := H1
            clear H1
            have HS2 : Hid (ctorsQ d.members d.ctors = (ctorsQ d.members (d.ctors.drop (j + 1))).map ((got ++ [a]) ++ ·)) := by
              unfold Hid
              rw [HS.out, HAD.out, ← HRA.out]
              exact mapR_step
            have hub : got.length ≤ 4294967295 := by have := HGL.out; omega
            have hr_ := H.rules; simp only [Rules, and_true] at hr_; have hd_ := H.dif; simp only [Dif, Neq, and_true] at hd_; obtain ⟨ho_, hz_⟩ := H.old0
            repeat ((fail_if_success (with_reducible (first | show Code.wp _ (Code.seq (Code.region 6 _ _) _) _ _ _ | show Code.wp _ (Code.region 6 _ _) _ _ _))); (first | (at_builtin; go_must (refine wpList_pushH rfl (.tmp 31) (.tmp 33) 61 rfl stRus (by go_simp <;> first | rfl | exact ⟨rfl, rfl⟩) (by go_simp <;> first | rfl | exact ⟨rfl, rfl⟩) (by exact Hp.norm (by (repeat (first | with_reducible exact H | with_reducible exact H0_ | with_reducible apply Hp.alloc | with_reducible apply Hp.allocMap | with_reducible apply Hp.drew | with_reducible apply Hp.drewN | with_reducible apply Hp.set)); (try any_goals (repeat (first | with_reducible exact Upd.head | with_reducible apply Upd.tail)))) (by ((try simp only [size_drew_, size_drewN_, World.size_alloc, World.size_setCell, List.set_cons_zero, List.set_cons_succ, List.nil_append, List.cons_append]) <;> rfl))) (by (repeat (first | with_reducible exact Pick.head | with_reducible apply Pick.tail))) (by (repeat (first | with_reducible exact Pick.head | with_reducible apply Pick.tail))) (by (repeat (first | with_reducible exact Pick.head | with_reducible apply Pick.tail))) (Ru.size_d _) ?_ ?_; (focus (simp [M]; omega)); clear H; intro v' w13 H; obtain ⟨A5, c6, rfl, _, _, _⟩ := H.slice (e := 68) (z := 3) (v := v') (by (repeat (first | with_reducible exact Pick.head | with_reducible apply Pick.tail))); (try clear hr_ hd_ ho_ hz_); have hr_ := H.rules; simp only [Rules, and_true] at hr_; have hd_ := H.dif; simp only [Dif, Neq, and_true] at hd_; obtain ⟨ho_, hz_⟩ := H.old0)) | go_step))
            (try clear hr_ hd_ ho_ hz_)
            (try rw [show (got.map Ru.d ++ [a.d]).length = (got ++ [a]).length by simp] at H)
            (try rw [show got.length + 1 = (got ++ [a]).length by simp] at H)
            rw [show got.map Ru.d ++ [a.d] = (got ++ [a]).map Ru.d by simp] at H
            (try rw [show (got.map Ru.d ++ [a.d]).length = (got ++ [a]).length by simp])
            (try rw [show got.length + 1 = (got ++ [a]).length by simp])
            have hgl2 : (got ++ [a]).length = j + 1 := by simp [HGL.out]
            have HGL2 := Lib.hid hgl2
            clear hgl2
            generalize got ++ [a] = got2 at H HGL2 HS2 ⊢
            go_wp2_with fail
            go_roundw
            case rel => first | exact ⟨j + 1, got2, _, _, by omega, by first | go_num | rfl | simp, rfl, HS2, HGL2.out, (H.arr (by (repeat (first | with_reducible exact Arr.nil | refine Arr.cons (by (repeat (first | with_reducible exact Pick.head | with_reducible apply Pick.tail))) ?_)) <;> exact Arr.of_subl (by (repeat (first | with_reducible exact Subl.refl _ | with_reducible apply Subl.drop)))))⟩ | ((repeat apply Exists.intro); refine ⟨⟨j + 1, got2, _, _, by omega, by first | go_num | rfl | simp, rfl, HS2, HGL2.out, (H.arr (by (repeat (first | with_reducible exact Arr.nil | refine Arr.cons (by (repeat (first | with_reducible exact Pick.head | with_reducible apply Pick.tail))) ?_)) <;> exact Arr.of_subl (by (repeat (first | with_reducible exact Subl.refl _ | with_reducible apply Subl.drop)))))⟩, ?_⟩; rfl)
            case measure => simp [intOf]; omega
        · refine wpOp_do (i := 10) rfl (by rfl) (fun K_ hK_ => ?_)
          go_simp
          refine kontH (by (repeat (first | with_reducible exact H9 | with_reducible exact H0_ | with_reducible apply Hp.alloc | with_reducible apply Hp.allocMap | with_reducible apply Hp.drew | with_reducible apply Hp.drewN | with_reducible apply Hp.set)); (try any_goals (repeat (first | with_reducible exact Upd.head | with_reducible apply Upd.tail)))) ?_
          clear H9; intro wb_ H9; (try simp only [size_drew_, size_drewN_, World.size_alloc, World.size_setCell, List.set_cons_zero, List.set_cons_succ] at H9)
          refine hK_ _ _ (fun _ => H9.sub (by simp)) (fun hR_ => ?_)
          replace hR_ := hR_ (by decide)
          refine wpL_do (i := 6) rfl (by kernel_rfl) (by rfl) (fun K_ hK_ => ?_)
          go_simp
          obtain ⟨ra, hra⟩ : ∃ ra, ra = readQ d.members ct := ⟨_, rfl⟩
          have hcall := refOne (d := d) (c := ct) (HDD.out.ext0 (H.ext.seq H9.ext)) (HT.out.ext0 (H.ext.seq H9.ext)) HSZ.out
          rw [← hra] at hcall
          have HRA := Lib.hid hra
          clear hra
          refine hcall.mono ?_
          clear hcall
          cases ra with
          | error k =>
            rintro e_ w_ ⟨ae, Ae, ne, ce, Be, me, ce', rfl, hx, hk0⟩
            replace H9 := H9.call hx
            clear hx
            refine hK_ _ _ (fun _ => H9.sub (by simp)) (fun hR_ => ?_)
            replace hR_ := hR_ (by decide)
            refine wpL_reads (is := [(7, ?v6_0), (8, ?v6_1), (9, ?v6_2)]) (by kernel_rfl) (Nat.le_of_ble_eq_true rfl) (by intro _ _ d_ _ _ h_; cases d_ <;> exact h_) (by kernel_rfl) hR_ (fun w_ hw_ => ?h6_) ?_
            case h6_ =>
              have ho_ := hw_.old0.1; have hz_ := hw_.old0.2; have hr_ := hw_.rules; clear hw_; simp only [Rules, and_true] at hr_; go_split_ands
              (repeat (first | with_reducible exact RdOps.nil | (refine RdOps.run rfl (by rfl) ?_ ?_; (focus (first | (go_simp; done) | (go_simp; with_reducible rfl))); simp only [List.getElem_toArray, List.getElem_cons_zero, List.getElem_cons_succ, Act.put, List.setIfInBounds_toArray, List.set_cons_zero, List.set_cons_succ]) | (refine RdOps.skip rfl (by rfl) ?_ ?_; (focus (with_reducible rfl)); simp only [List.getElem_toArray, List.getElem_cons_zero, List.getElem_cons_succ, Act.put, List.setIfInBounds_toArray, List.set_cons_zero, List.set_cons_succ])))
            simp only [rdMark, rdAct, List.map_cons, List.map_nil, List.length_cons, List.length_nil, Nat.reduceAdd, Nat.reduceSub, Nat.zero_add, List.getElem?_toArray, List.getElem?_cons_zero, List.getElem?_cons_succ, Option.bind_some, Act.put, List.setIfInBounds_toArray, List.set_cons_zero, List.set_cons_succ]
            refine wpL_do (i := 11) rfl (by kernel_rfl) (by rfl) (fun K_ hK_ => ?_)
            refine wp_storeH rfl (by go_simp <;> first | rfl | exact ⟨rfl, rfl⟩) (by go_simp <;> first | rfl | exact ⟨rfl, rfl⟩) H9 (by (repeat (first | with_reducible exact Upd.head | with_reducible apply Upd.tail))) (by exact aggRule) (by rfl) (by simp [Value.oneCell']) (fun w12 H_ => ?_)
            clear H9; have H9 := H_; clear H_
            refine hK_ _ _ (fun _ => H9.sub (by simp)) (fun hR_ => ?_)
            replace hR_ := hR_ (by decide)
            refine wpL_reads (is := [(12, ?v7_0)]) (by kernel_rfl) (Nat.le_of_ble_eq_true rfl) (by intro _ _ d_ _ _ h_; cases d_ <;> exact h_) (by kernel_rfl) hR_ (fun w_ hw_ => ?h7_) ?_
            case h7_ =>
              have ho_ := hw_.old0.1; have hz_ := hw_.old0.2; have hr_ := hw_.rules; clear hw_; simp only [Rules, and_true] at hr_; go_split_ands
              (repeat (first | with_reducible exact RdOps.nil | (refine RdOps.run rfl (by rfl) ?_ ?_; (focus (first | (go_simp; done) | (go_simp; with_reducible rfl))); simp only [List.getElem_toArray, List.getElem_cons_zero, List.getElem_cons_succ, Act.put, List.setIfInBounds_toArray, List.set_cons_zero, List.set_cons_succ]) | (refine RdOps.skip rfl (by rfl) ?_ ?_; (focus (with_reducible rfl)); simp only [List.getElem_toArray, List.getElem_cons_zero, List.getElem_cons_succ, Act.put, List.setIfInBounds_toArray, List.set_cons_zero, List.set_cons_succ])))
            simp only [rdMark, rdAct, List.map_cons, List.map_nil, List.length_cons, List.length_nil, Nat.reduceAdd, Nat.reduceSub, Nat.zero_add, List.getElem?_toArray, List.getElem?_cons_zero, List.getElem?_cons_succ, Option.bind_some, Act.put, List.setIfInBounds_toArray, List.set_cons_zero, List.set_cons_succ]
            refine wpL_done (by kernel_rfl) ?_ _
            have H1 := H.resAll H9 rfl
            simp only [List.cons_append, List.nil_append] at H1
            clear H H9 p0 p1 p2 p3 p4 p5 hrw hlt0
            have H := H1
            clear H1
            have HZ : Hid (R = .error k) := by
              unfold Hid
              rw [HR.out, HS.out, HAD.out, ← HRA.out]; rfl
            have g1 : (k == 0) = false := by simpa using hk0
            have g1' : (k != 0) = true := by simpa using hk0
            have HK0 := Lib.hid hk0
            clear hk0
            have hr_ := H.rules; simp only [Rules, and_true] at hr_; have hd_ := H.dif; simp only [Dif, Neq, and_true] at hd_; obtain ⟨ho_, hz_⟩ := H.old0
            go_wp2_with fail
            (try clear hr_ hd_ ho_ hz_)
            refine bodyPost_ret (v := .tuple #[.slice none 0 0, .int .i64 k]) (Res.two Tryd.results50 rfl rfl) rfl ?_
            rw [HZ.out]
            exact ⟨rfl, H.ext, HK0.out⟩
          | ok a =>
            rintro e_ w_ ⟨cs_, rfl, H2⟩
            obtain ⟨E1, f1, E2, f2, rfl, -⟩ := RC.ru.1 (H2.rd .head)
            replace H9 := H9.res1 H2
            clear H2
            refine hK_ _ _ (fun _ => H9.sub (by simp)) (fun hR_ => ?_)
            replace hR_ := hR_ (by decide)
            refine wpL_reads (is := [(7, ?v8_0), (8, ?v8_1), (9, ?v8_2)]) (by kernel_rfl) (Nat.le_of_ble_eq_true rfl) (by intro _ _ d_ _ _ h_; cases d_ <;> exact h_) (by kernel_rfl) hR_ (fun w_ hw_ => ?h8_) ?_
            case h8_ =>
              have ho_ := hw_.old0.1; have hz_ := hw_.old0.2; have hr_ := hw_.rules; clear hw_; simp only [Rules, and_true] at hr_; go_split_ands
              (repeat (first | with_reducible exact RdOps.nil | (refine RdOps.run rfl (by rfl) ?_ ?_; (focus (first | (go_simp; done) | (go_simp; with_reducible rfl))); simp only [List.getElem_toArray, List.getElem_cons_zero, List.getElem_cons_succ, Act.put, List.setIfInBounds_toArray, List.set_cons_zero, List.set_cons_succ]) | (refine RdOps.skip rfl (by rfl) ?_ ?_; (focus (with_reducible rfl)); simp only [List.getElem_toArray, List.getElem_cons_zero, List.getElem_cons_succ, Act.put, List.setIfInBounds_toArray, List.set_cons_zero, List.set_cons_succ])))
            simp only [rdMark, rdAct, List.map_cons, List.map_nil, List.length_cons, List.length_nil, Nat.reduceAdd, Nat.reduceSub, Nat.zero_add, List.getElem?_toArray, List.getElem?_cons_zero, List.getElem?_cons_succ, Option.bind_some, Act.put, List.setIfInBounds_toArray, List.set_cons_zero, List.set_cons_succ]
            refine wpL_do (i := 11) rfl (by kernel_rfl) (by rfl) (fun K_ hK_ => ?_)
            refine wp_storeH rfl (by go_simp <;> first | rfl | exact ⟨rfl, rfl⟩) (by go_simp <;> first | rfl | exact ⟨rfl, rfl⟩) H9 (by (repeat (first | with_reducible exact Upd.head | with_reducible apply Upd.tail))) (by exact aggRule) (by rfl) (by simp [Value.oneCell']) (fun w12 H_ => ?_)
            clear H9; have H9 := H_; clear H_
            refine hK_ _ _ (fun _ => H9.sub (by simp)) (fun hR_ => ?_)
            replace hR_ := hR_ (by decide)
            refine wpL_reads (is := [(12, ?v9_0)]) (by kernel_rfl) (Nat.le_of_ble_eq_true rfl) (by intro _ _ d_ _ _ h_; cases d_ <;> exact h_) (by kernel_rfl) hR_ (fun w_ hw_ => ?h9_) ?_
            case h9_ =>
              have ho_ := hw_.old0.1; have hz_ := hw_.old0.2; have hr_ := hw_.rules; clear hw_; simp only [Rules, and_true] at hr_; go_split_ands
              (repeat (first | with_reducible exact RdOps.nil | (refine RdOps.run rfl (by rfl) ?_ ?_; (focus (first | (go_simp; done) | (go_simp; with_reducible rfl))); simp only [List.getElem_toArray, List.getElem_cons_zero, List.getElem_cons_succ, Act.put, List.setIfInBounds_toArray, List.set_cons_zero, List.set_cons_succ]) | (refine RdOps.skip rfl (by rfl) ?_ ?_; (focus (with_reducible rfl)); simp only [List.getElem_toArray, List.getElem_cons_zero, List.getElem_cons_succ, Act.put, List.setIfInBounds_toArray, List.set_cons_zero, List.set_cons_succ])))
            simp only [rdMark, rdAct, List.map_cons, List.map_nil, List.length_cons, List.length_nil, Nat.reduceAdd, Nat.reduceSub, Nat.zero_add, List.getElem?_toArray, List.getElem?_cons_zero, List.getElem?_cons_succ, Option.bind_some, Act.put, List.setIfInBounds_toArray, List.set_cons_zero, List.set_cons_succ]
            refine wpL_done (by kernel_rfl) ?_ _
            have H1 := H.resAll H9 rfl
            simp only [List.cons_append, List.nil_append] at H1
            clear H H9 p0 p1 p2 p3 p4 p5 hrw hlt0
            have H := H1
            clear H1
            have HS2 : Hid (ctorsQ d.members d.ctors = (ctorsQ d.members (d.ctors.drop (j + 1))).map ((got ++ [a]) ++ ·)) := by
              unfold Hid
              rw [HS.out, HAD.out, ← HRA.out]
              exact mapR_step
            have hub : got.length ≤ 4294967295 := by have := HGL.out; omega
            have hr_ := H.rules; simp only [Rules, and_true] at hr_; have hd_ := H.dif; simp only [Dif, Neq, and_true] at hd_; obtain ⟨ho_, hz_⟩ := H.old0
            repeat ((fail_if_success (with_reducible (first | show Code.wp _ (Code.seq (Code.region 6 _ _) _) _ _ _ | show Code.wp _ (Code.region 6 _ _) _ _ _))); (first | (at_builtin; go_must (refine wpList_pushH rfl (.tmp 31) (.tmp 33) 61 rfl stRus (by go_simp <;> first | rfl | exact ⟨rfl, rfl⟩) (by go_simp <;> first | rfl | exact ⟨rfl, rfl⟩) (by exact Hp.norm (by (repeat (first | with_reducible exact H | with_reducible exact H0_ | with_reducible apply Hp.alloc | with_reducible apply Hp.allocMap | with_reducible apply Hp.drew | with_reducible apply Hp.drewN | with_reducible apply Hp.set)); (try any_goals (repeat (first | with_reducible exact Upd.head | with_reducible apply Upd.tail)))) (by ((try simp only [size_drew_, size_drewN_, World.size_alloc, World.size_setCell, List.set_cons_zero, List.set_cons_succ, List.nil_append, List.cons_append]) <;> rfl))) (by (repeat (first | with_reducible exact Pick.head | with_reducible apply Pick.tail))) (by (repeat (first | with_reducible exact Pick.head | with_reducible apply Pick.tail))) (by (repeat (first | with_reducible exact Pick.head | with_reducible apply Pick.tail))) (Ru.size_d _) ?_ ?_; (focus (simp [M]; omega)); clear H; intro v' w13 H; obtain ⟨A5, c6, rfl, _, _, _⟩ := H.slice (e := 68) (z := 3) (v := v') (by (repeat (first | with_reducible exact Pick.head | with_reducible apply Pick.tail))); (try clear hr_ hd_ ho_ hz_); have hr_ := H.rules; simp only [Rules, and_true] at hr_; have hd_ := H.dif; simp only [Dif, Neq, and_true] at hd_; obtain ⟨ho_, hz_⟩ := H.old0)) | go_step))
            (try clear hr_ hd_ ho_ hz_)
            (try rw [show (got.map Ru.d ++ [a.d]).length = (got ++ [a]).length by simp] at H)
            (try rw [show got.length + 1 = (got ++ [a]).length by simp] at H)
            rw [show got.map Ru.d ++ [a.d] = (got ++ [a]).map Ru.d by simp] at H
            (try rw [show (got.map Ru.d ++ [a.d]).length = (got ++ [a]).length by simp])
            (try rw [show got.length + 1 = (got ++ [a]).length by simp])
            have hgl2 : (got ++ [a]).length = j + 1 := by simp [HGL.out]
            have HGL2 := Lib.hid hgl2
            clear hgl2
            generalize got ++ [a] = got2 at H HGL2 HS2 ⊢
            go_wp2_with fail
            go_roundw
            case rel => first | exact ⟨j + 1, got2, _, _, by omega, by first | go_num | rfl | simp, rfl, HS2, HGL2.out, (H.arr (by (repeat (first | with_reducible exact Arr.nil | refine Arr.cons (by (repeat (first | with_reducible exact Pick.head | with_reducible apply Pick.tail))) ?_)) <;> exact Arr.of_subl (by (repeat (first | with_reducible exact Subl.refl _ | with_reducible apply Subl.drop)))))⟩ | ((repeat apply Exists.intro); refine ⟨⟨j + 1, got2, _, _, by omega, by first | go_num | rfl | simp, rfl, HS2, HGL2.out, (H.arr (by (repeat (first | with_reducible exact Arr.nil | refine Arr.cons (by (repeat (first | with_reducible exact Pick.head | with_reducible apply Pick.tail))) ?_)) <;> exact Arr.of_subl (by (repeat (first | with_reducible exact Subl.refl _ | with_reducible apply Subl.drop)))))⟩, ?_⟩; rfl)
            case measure => simp [intOf]; omega
      · have HZ : Hid (R = .ok got) := by
          unfold Hid
          rw [HR.out, HS.out, List.drop_eq_nil_of_le (by omega), ctorsQ]
          simp [Except.map]
        have hr_ := H.rules; simp only [Rules, and_true] at hr_; have hd_ := H.dif; simp only [Dif, Neq, and_true] at hd_; obtain ⟨ho_, hz_⟩ := H.old0
        go_wp2_with fail
        (try clear hr_ hd_ ho_ hz_)
        refine bodyPost_ret (v := .tuple #[.slice A got.length cA, .int .i64 0]) (Res.two Tryd.results50 rfl rfl) rfl ?_
        rw [HZ.out]
        exact ⟨_, _, rfl, (H.only (by (repeat (first | with_reducible exact Subl.nil | with_reducible apply Subl.keep | with_reducible apply Subl.drop))))⟩
  · have HZ : Hid (R = .error 2) := by unfold Hid; rw [HR0.out, rulesQ, if_neg h3]
    have h32 : (d.kind == 3) = false := by simpa using h3
    have h33 : (d.kind != 3) = true := by simpa using h3
    clear h3
    go_enter Tryd.func50, Tryd.ntmps50
    have H := Hp.start no w
    have hr_ := H.rules; simp only [Rules, and_true] at hr_; have hd_ := H.dif; simp only [Dif, Neq, and_true] at hd_; obtain ⟨ho_, hz_⟩ := H.old0
    go_wp2_with fail
    (try clear hr_ hd_ ho_ hz_)
    refine endH (by (repeat (first | with_reducible exact H | with_reducible exact H0_ | with_reducible apply Hp.alloc | with_reducible apply Hp.allocMap | with_reducible apply Hp.drew | with_reducible apply Hp.drewN | with_reducible apply Hp.set)); (try any_goals (repeat (first | with_reducible exact Upd.head | with_reducible apply Upd.tail)))) ?_
    clear H; intro w2 H; (try simp only [size_drew_, size_drewN_, World.size_alloc, World.size_setCell, List.set_cons_zero, List.set_cons_succ] at H)
    refine bodyPost_ret (v := .tuple #[.slice none 0 0, .int .i64 2]) (Res.two Tryd.results50 rfl rfl) rfl ?_
    rw [HZ.out]
    exact ⟨rfl, H.ext, by decide⟩
end Go.Proofs.YtgbokmphbimihaaDoor
