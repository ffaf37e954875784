/- Reference 12: one: contract. No statement of the seat is proved here. -/
import Derived.Test.YtgbokmphbimihaaDoorRef12e
namespace Go.Proofs.YtgbokmphbimihaaDoor
set_option linter.unusedSimpArgs false
set_option linter.unusedVariables false
open Go.RowKit

theorem argsQ_ok {ms : List Mb} : ∀ {ts : List Tm} {as_ : List Ar}, argsQ ms ts = .ok as_ → ∀ a ∈ as_, ArOK a
  | [], as_, h => by cases h; simp
  | t :: ts, as_, h => by
    rw [argsQ] at h
    cases ha : argQ ms t with
    | error c => rw [ha] at h; cases h
    | ok a =>
      rw [ha] at h
      cases hr : argsQ ms ts with
      | error c => rw [hr] at h; cases h
      | ok r =>
        rw [hr] at h
        cases h
        intro x hx
        rcases List.mem_cons.1 hx with rfl | hx
        · exact argQ_ok ha
        · exact argsQ_ok hr x hx
set_option maxRecDepth 100000 in
set_option maxHeartbeats 8000000 in
theorem refOne {S S1 : Nat → Prop} {d : Dc} {c : Ct} {w : World} {csd cs : List Value} (hd : RC w S d.d csd) (hc : RC w S1 c.d cs) (hb : sizeT c.ty ≤ 4000000) :
    Calls Tryd.prog 112 #[.agg csd.toArray, .agg cs.toArray] w (PRuR w (readQ d.members c)) := by
  have HDD := Lib.hid hd
  obtain ⟨Aty, cty, Kty, kty, Abody, cbody, Kbody, kbody, Aparams, cparams, Asort, csort, Amembers, cmembers, Actors, cctors, rfl, hparts⟩ := RC.dc.1 hd
  obtain ⟨A0, ca, K0, ck, rfl, im, hty⟩ := RC.ct.1 hc
  have HPARTS := Lib.hid hparts
  have hM2 := hparts.2.2.2.2.2.2.1.lenM
  have HM2 := Lib.hid hM2
  have HTY := Lib.hid hty
  have HB := Lib.hid hb
  have HIM := Lib.hid im
  obtain ⟨R, hR⟩ : ∃ R, R = readQ d.members c := ⟨_, rfl⟩
  rw [← hR]
  have HR := Lib.hid hR
  clear hd hparts hty hb hR hc im hM2
  go_enter Tryd.func112, Tryd.ntmps112
  have H := Hp.start no w
  have hr_ := H.rules; simp only [Rules, and_true] at hr_; have hd_ := H.dif; simp only [Dif, Neq, and_true] at hd_; obtain ⟨ho_, hz_⟩ := H.old0
  go_wp2_with fail
  (try clear hr_ hd_ ho_ hz_)
  refine callsH (by (repeat (first | with_reducible exact H | with_reducible exact H0_ | with_reducible apply Hp.alloc | with_reducible apply Hp.allocMap | with_reducible apply Hp.drew | with_reducible apply Hp.drewN | with_reducible apply Hp.set)); (try any_goals (repeat (first | with_reducible exact Upd.head | with_reducible apply Upd.tail)))) ?_
  clear H; intro w1 H; (try simp only [size_drew_, size_drewN_, World.size_alloc, World.size_setCell, List.set_cons_zero, List.set_cons_succ] at H)
  obtain ⟨N, hN⟩ : ∃ N, N = countT c.ty := ⟨_, rfl⟩
  have hct : N ≤ 4000000 := by rw [hN]; exact Nat.le_trans (countT_size c.ty) HB.out
  have hR2 := HR.out
  rw [readQ, ← hN] at hR2
  have HR2 := Lib.hid hR2
  have hcall := refCount (t := c.ty) ⟨_, _, _, _, rfl, HTY.out.ext0 H.ext⟩ (by omega)
  rw [← hN] at hcall
  have HN := Lib.hid hN
  clear hR2 hN
  refine (hcall).mono ?_
  rintro e w_ ⟨rfl, hx⟩
  replace H := H.call hx
  clear hx
  clear hcall
  by_cases h6 : (N : Int) ≤ 10
  · have hR3 := HR2.out
    rw [if_pos h6] at hR3
    have HR3 := Lib.hid hR3
    have hN10 : N ≤ 10 := by omega
    clear hR3
    have hr_ := H.rules; simp only [Rules, and_true] at hr_; have hd_ := H.dif; simp only [Dif, Neq, and_true] at hd_; obtain ⟨ho_, hz_⟩ := H.old0
    go_wp2_with fail
    (try clear hr_ hd_ ho_ hz_)
    clear h6
    refine callsH (by (repeat (first | with_reducible exact H | with_reducible exact H0_ | with_reducible apply Hp.alloc | with_reducible apply Hp.allocMap | with_reducible apply Hp.drew | with_reducible apply Hp.drewN | with_reducible apply Hp.set)); (try any_goals (repeat (first | with_reducible exact Upd.head | with_reducible apply Upd.tail)))) ?_
    clear H; intro w5 H; (try simp only [size_drew_, size_drewN_, World.size_alloc, World.size_setCell, List.set_cons_zero, List.set_cons_succ] at H)
    have hcall := refOpen (t := c.ty) ⟨_, _, _, _, rfl, HTY.out.ext0 H.ext⟩ (by rw [← HN.out]; omega)
    rw [← HN.out] at hcall
    refine hcall.mono ?_
    clear hcall
    have hsz := openAll_size c.ty
    obtain ⟨ts, e1⟩ : ∃ ts, ts = (openAll c.ty).1 := ⟨_, rfl⟩
    obtain ⟨r, e2⟩ : ∃ r, r = (openAll c.ty).2 := ⟨_, rfl⟩
    rw [← e1, ← e2, ← HN.out] at hsz
    have hR4 := HR3.out
    rw [← e1, ← e2] at hR4
    rw [show openAll c.ty = (ts, r) by rw [e1, e2]]
    clear e1 e2
    rintro e w6 ⟨B1, cb1, K1, kb1, A1, c1, rfl, H2⟩
    dsimp only at H2 ⊢
    have hsp := spineT_size r
    obtain ⟨hd, hhd⟩ : ∃ hd, hd = (spineT r).1 := ⟨_, rfl⟩
    obtain ⟨ix, hl⟩ : ∃ ix, ix = (spineT r).2 := ⟨_, rfl⟩
    rw [show spineT r = (hd, ix) by rw [hhd, hl]] at hR4 hsp
    have HR4 := Lib.hid hR4
    have hb := HB.out
    have HSL := Lib.hid (show sizesT ix ≤ 4000000 by dsimp only at hsp; omega)
    have HST := Lib.hid (show sizesT ts ≤ 4000000 by omega)
    have hts : ts.length = N := hsz.2
    have HHD := Lib.hid (show spineT r = (hd, ix) by rw [hhd, hl])
    have hll := length_sizes ix
    have HLL := Lib.hid (show ix.length ≤ 1000000000 by have := HSL.out; omega)
    clear hsz hsp hR4 hhd hl hb hll HR3 HR2
    subst hts
    replace H := H.res2 H2
    clear H2
    have hr_ := H.rules; simp only [Rules, and_true] at hr_; have hd_ := H.dif; simp only [Dif, Neq, and_true] at hd_; obtain ⟨ho_, hz_⟩ := H.old0
    go_wp2_with (first | ((with_reducible refine atStore (t := 26) ?_); go_must (refine wpList_storeH (t := 26) rfl rfl (by go_simp <;> first | rfl | exact ⟨rfl, rfl⟩) (by go_simp <;> first | rfl | exact ⟨rfl, rfl⟩) (by exact Hp.norm (by (repeat (first | with_reducible exact H | with_reducible exact H0_ | with_reducible apply Hp.alloc | with_reducible apply Hp.allocMap | with_reducible apply Hp.drew | with_reducible apply Hp.drewN | with_reducible apply Hp.set)); (try any_goals (repeat (first | with_reducible exact Upd.head | with_reducible apply Upd.tail)))) (by ((try simp only [size_drew_, size_drewN_, World.size_alloc, World.size_setCell, List.set_cons_zero, List.set_cons_succ, List.nil_append, List.cons_append]) <;> rfl))) (by (repeat (first | with_reducible exact Upd.head | with_reducible apply Upd.tail))) (by exact aggTerm) (by rfl) (by simp [Value.oneCell']) ?_; clear H; intro w7 H; (try simp only [size_drew_, size_drewN_, World.size_alloc, World.size_setCell, List.set_cons_zero, List.set_cons_succ] at H); (try clear hr_ hd_ ho_ hz_); have hr_ := H.rules; simp only [Rules, and_true] at hr_; have hd_ := H.dif; simp only [Dif, Neq, and_true] at hd_; obtain ⟨ho_, hz_⟩ := H.old0)) | ((with_reducible refine atStore (t := 68) ?_); go_must (refine wpList_storeH (t := 68) rfl rfl (by go_simp <;> first | rfl | exact ⟨rfl, rfl⟩) (by go_simp <;> first | rfl | exact ⟨rfl, rfl⟩) (by exact Hp.norm (by (repeat (first | with_reducible exact H | with_reducible exact H0_ | with_reducible apply Hp.alloc | with_reducible apply Hp.allocMap | with_reducible apply Hp.drew | with_reducible apply Hp.drewN | with_reducible apply Hp.set)); (try any_goals (repeat (first | with_reducible exact Upd.head | with_reducible apply Upd.tail)))) (by ((try simp only [size_drew_, size_drewN_, World.size_alloc, World.size_setCell, List.set_cons_zero, List.set_cons_succ, List.nil_append, List.cons_append]) <;> rfl))) (by (repeat (first | with_reducible exact Upd.head | with_reducible apply Upd.tail))) (by exact aggRule) (by rfl) (by simp [Value.oneCell']) ?_; clear H; intro w8 H; (try simp only [size_drew_, size_drewN_, World.size_alloc, World.size_setCell, List.set_cons_zero, List.set_cons_succ] at H); (try clear hr_ hd_ ho_ hz_); have hr_ := H.rules; simp only [Rules, and_true] at hr_; have hd_ := H.dif; simp only [Dif, Neq, and_true] at hd_; obtain ⟨ho_, hz_⟩ := H.old0)))
    (try clear hr_ hd_ ho_ hz_)
    refine codeH (by (repeat (first | with_reducible exact H | with_reducible exact H0_ | with_reducible apply Hp.alloc | with_reducible apply Hp.allocMap | with_reducible apply Hp.drew | with_reducible apply Hp.drewN | with_reducible apply Hp.set)); (try any_goals (repeat (first | with_reducible exact Upd.head | with_reducible apply Upd.tail)))) ?_
    clear H; intro w9 H; (try simp only [size_drew_, size_drewN_, World.size_alloc, World.size_setCell, List.set_cons_zero, List.set_cons_succ] at H)
    have H := H.nil 80 9
    have H0_ := H
    clear H
    go_loopw [11] (fun i wr => ∃ (j : Nat) (got : List Ar) (A : Option Addr) (cA : Nat), j ≤ ts.length ∧ i = .int .i64 j ∧ Hid (argsQ d.members ts = (argsQ d.members (ts.drop j)).map (got ++ ·)) ∧ got.length = j ∧ Hp no w wr [.box w7.heap.size 68 [.int .i64 c.member, .slice A got.length cA, .slice none 0 0], .dat (.l 80 9 (got.map Ar.d)) [.slice A got.length cA], .box w6.heap.size 26 [.int .i64 r.k, .int .i64 r.n, .int .i64 r.a, .slice B1 r.ls.length cb1, .slice K1 r.ks.length kb1], .dat r.d [.int .i64 r.k, .int .i64 r.n, .int .i64 r.a, .slice B1 r.ls.length cb1, .slice K1 r.ks.length kb1], .dat (.l 26 5 (ts.map Tm.d)) [.slice A1 ts.length c1], .box (w.heap.size + 1 + 1) 68 [.int .i64 0, .slice none 0 0, .slice none 0 0], .box (w.heap.size + 1) 40 [.int .i64 c.member, .int .i64 c.ty.k, .int .i64 c.ty.n, .int .i64 c.ty.a, .slice A0 c.ty.ls.length ca, .slice K0 c.ty.ks.length ck], .box w.heap.size 37 [.int .i64 d.kind, .int .i64 d.levels, .int .i64 d.ty.k, .int .i64 d.ty.n, .int .i64 d.ty.a, .slice Aty d.ty.ls.length cty, .slice Kty d.ty.ks.length kty, .int .i64 d.body.k, .int .i64 d.body.n, .int .i64 d.body.a, .slice Abody d.body.ls.length cbody, .slice Kbody d.body.ks.length kbody, .slice Aparams d.params.length cparams, .slice Asort d.sort.length csort, .slice Amembers d.members.length cmembers, .slice Actors d.ctors.length cctors]]) (fun i _ => ts.length - (intOf i).toNat)
    case atStart =>
      refine ⟨0, [], none, 0, Nat.zero_le _, rfl, Lib.hid (map_none _), rfl, ?_⟩
      simp only [List.length_nil, List.map_nil]
      exact (H0_.arr (by (repeat (first | with_reducible exact Arr.nil | refine Arr.cons (by (repeat (first | with_reducible exact Pick.head | with_reducible apply Pick.tail))) ?_)) <;> exact Arr.of_subl (by (repeat (first | with_reducible exact Subl.refl _ | with_reducible apply Subl.drop)))))
    case round =>
      clear H0_
      obtain ⟨j, got, A, cA, hj, rfl, HS, hgl, H⟩ := hrel
      have HGL := Lib.hid hgl
      clear hgl
      by_cases hlt : j < ts.length
      · have harow := H.rd (d := .l 26 5 (ts.map Tm.d)) (cs := [.slice A1 ts.length c1]) (by (repeat (first | with_reducible exact Pick.head | with_reducible apply Pick.tail)))
        obtain ⟨b_, o, C1, g1, C2, g2, hA, hb_, hS, hdt, p0, p1, p2, p3, p4⟩ := harow.atTm hlt
        subst hA
        have HT := Lib.hid hdt
        have HAD := Lib.hid (argsQ_drop (ms := d.members) hlt)
        have HSZ := Lib.hid (Nat.le_trans (sizesT_mem (List.getElem_mem hlt)) HST.out)
        have hlt0 := (H.blk (g := w.heap.size) (t := 37) (by (repeat (first | with_reducible exact Pick.head | with_reducible apply Pick.tail)))).lt
        have hrw := H.rules
        simp only [Rules, and_true] at hrw
        clear harow hdt hS
        generalize ts[j] = t at p0 p1 p2 p3 p4 HT HAD HSZ
        go_wp2_with fail
        have H9 := Hp.start no wr
        refine wp_region_H 12 [false, false, false, false, false, false, false, false, false, false, false, false] [] H9 .nil (by kernel_rfl) rfl rfl (fun H9_ hR_ => ?_)
        (try clear H0_); have H0_ := H9; clear H9; have H9 := H9_; clear H9_
        refine wpL_reads (is := [(0, ?v1_0), (1, ?v1_1), (2, ?v1_2), (3, ?v1_3), (4, ?v1_4)]) (by kernel_rfl) (Nat.le_of_ble_eq_true rfl) (by intro _ _ d_ _ _ h_; cases d_ <;> exact h_) (by kernel_rfl) hR_ (fun w_ hw_ => ?h1_) ?_
        case h1_ =>
          have ho_ := hw_.old0.1; have hz_ := hw_.old0.2; have hr_ := hw_.rules; clear hw_; simp only [Rules, and_true] at hr_; go_split_ands
          (repeat (first | with_reducible exact RdOps.nil | (refine RdOps.run rfl (by rfl) ?_ ?_; (focus (first | (go_simp; done) | (go_simp; with_reducible rfl))); simp only [List.getElem_toArray, List.getElem_cons_zero, List.getElem_cons_succ, Act.put, List.setIfInBounds_toArray, List.set_cons_zero, List.set_cons_succ]) | (refine RdOps.skip rfl (by rfl) ?_ ?_; (focus (with_reducible rfl)); simp only [List.getElem_toArray, List.getElem_cons_zero, List.getElem_cons_succ, Act.put, List.setIfInBounds_toArray, List.set_cons_zero, List.set_cons_succ])))
        simp only [rdMark, rdAct, List.map_cons, List.map_nil, List.length_cons, List.length_nil, Nat.reduceAdd, Nat.reduceSub, Nat.zero_add, List.getElem?_toArray, List.getElem?_cons_zero, List.getElem?_cons_succ, Option.bind_some, Act.put, List.setIfInBounds_toArray, List.set_cons_zero, List.set_cons_succ]
        refine wpL_many (is := [5, 9]) (by kernel_rfl) (by simp) ?_
        simp only [List.forall_mem_cons]
        refine ⟨?_, ?_, fun _ h => by cases h⟩
        · refine wpOp_do (i := 5) rfl (by rfl) (fun K_ hK_ => ?_)
          go_simp
          obtain ⟨ra, hra⟩ : ∃ ra, ra = argQ d.members t := ⟨_, rfl⟩
          have hcall := refArg (d := d) (t := t) (HDD.out.ext0 (H.ext.seq H9.ext)) ⟨_, _, _, _, rfl, HT.out.ext0 H9.ext⟩ HSZ.out
          rw [← hra] at hcall
          have HRA := Lib.hid hra
          clear hra
          refine hcall.mono ?_
          clear hcall
          cases ra with
          | error k =>
            rintro e_ w_ ⟨rfl, hx, hk0⟩
            replace H9 := H9.call hx
            clear hx
            refine hK_ _ _ (fun _ => H9.sub (by simp)) (fun hR_ => ?_)
            replace hR_ := hR_ (by decide)
            refine wpL_reads (is := [(6, ?v2_0), (7, ?v2_1), (8, ?v2_2)]) (by kernel_rfl) (Nat.le_of_ble_eq_true rfl) (by intro _ _ d_ _ _ h_; cases d_ <;> exact h_) (by kernel_rfl) hR_ (fun w_ hw_ => ?h2_) ?_
            case h2_ =>
              have ho_ := hw_.old0.1; have hz_ := hw_.old0.2; have hr_ := hw_.rules; clear hw_; simp only [Rules, and_true] at hr_; go_split_ands
              (repeat (first | with_reducible exact RdOps.nil | (refine RdOps.run rfl (by rfl) ?_ ?_; (focus (first | (go_simp; done) | (go_simp; with_reducible rfl))); simp only [List.getElem_toArray, List.getElem_cons_zero, List.getElem_cons_succ, Act.put, List.setIfInBounds_toArray, List.set_cons_zero, List.set_cons_succ]) | (refine RdOps.skip rfl (by rfl) ?_ ?_; (focus (with_reducible rfl)); simp only [List.getElem_toArray, List.getElem_cons_zero, List.getElem_cons_succ, Act.put, List.setIfInBounds_toArray, List.set_cons_zero, List.set_cons_succ])))
            simp only [rdMark, rdAct, List.map_cons, List.map_nil, List.length_cons, List.length_nil, Nat.reduceAdd, Nat.reduceSub, Nat.zero_add, List.getElem?_toArray, List.getElem?_cons_zero, List.getElem?_cons_succ, Option.bind_some, Act.put, List.setIfInBounds_toArray, List.set_cons_zero, List.set_cons_succ]
            refine wpL_do (i := 9) rfl (by kernel_rfl) (by rfl) (fun K_ hK_ => ?_)
            go_simp
            refine kontH (by (repeat (first | with_reducible exact H9 | with_reducible exact H0_ | with_reducible apply Hp.alloc | with_reducible apply Hp.allocMap | with_reducible apply Hp.drew | with_reducible apply Hp.drewN | with_reducible apply Hp.set)); (try any_goals (repeat (first | with_reducible exact Upd.head | with_reducible apply Upd.tail)))) ?_
            clear H9; intro wb_ H9; (try simp only [size_drew_, size_drewN_, World.size_alloc, World.size_setCell, List.set_cons_zero, List.set_cons_succ] at H9)
            refine hK_ _ _ (fun _ => H9.sub (by simp)) (fun hR_ => ?_)
            replace hR_ := hR_ (by decide)
            refine wpL_do (i := 10) rfl (by kernel_rfl) (by rfl) (fun K_ hK_ => ?_)
            refine wp_storeH rfl (by go_simp <;> first | rfl | exact ⟨rfl, rfl⟩) (by go_simp <;> first | rfl | exact ⟨rfl, rfl⟩) H9 (by (repeat (first | with_reducible exact Upd.head | with_reducible apply Upd.tail))) (by exact aggArg) (by rfl) (by simp [Value.oneCell']) (fun w12 H_ => ?_)
            clear H9; have H9 := H_; clear H_
            refine hK_ _ _ (fun _ => H9.sub (by simp)) (fun hR_ => ?_)
            replace hR_ := hR_ (by decide)
            refine wpL_reads (is := [(11, ?v3_0)]) (by kernel_rfl) (Nat.le_of_ble_eq_true rfl) (by intro _ _ d_ _ _ h_; cases d_ <;> exact h_) (by kernel_rfl) hR_ (fun w_ hw_ => ?h3_) ?_
            case h3_ =>
              have ho_ := hw_.old0.1; have hz_ := hw_.old0.2; have hr_ := hw_.rules; clear hw_; simp only [Rules, and_true] at hr_; go_split_ands
              (repeat (first | with_reducible exact RdOps.nil | (refine RdOps.run rfl (by rfl) ?_ ?_; (focus (first | (go_simp; done) | (go_simp; with_reducible rfl))); simp only [List.getElem_toArray, List.getElem_cons_zero, List.getElem_cons_succ, Act.put, List.setIfInBounds_toArray, List.set_cons_zero, List.set_cons_succ]) | (refine RdOps.skip rfl (by rfl) ?_ ?_; (focus (with_reducible rfl)); simp only [List.getElem_toArray, List.getElem_cons_zero, List.getElem_cons_succ, Act.put, List.setIfInBounds_toArray, List.set_cons_zero, List.set_cons_succ])))
            simp only [rdMark, rdAct, List.map_cons, List.map_nil, List.length_cons, List.length_nil, Nat.reduceAdd, Nat.reduceSub, Nat.zero_add, List.getElem?_toArray, List.getElem?_cons_zero, List.getElem?_cons_succ, Option.bind_some, Act.put, List.setIfInBounds_toArray, List.set_cons_zero, List.set_cons_succ]
            refine wpL_done (by kernel_rfl) ?_ _
            have H1 := H.resAll H9 rfl
            simp only [List.cons_append, List.nil_append] at H1
            clear H H9 p0 p1 p2 p3 p4 hrw hlt0 hb_
            have H := H1
            clear H1
            have HZ : Hid (R = .error k) := by
              unfold Hid
              rw [HR4.out, HS.out, HAD.out, ← HRA.out]; rfl
            have g1 : (k == 0) = false := by simpa using hk0
            have g1' : (k != 0) = true := by simpa using hk0
            have HK0 := Lib.hid hk0
            clear hk0
            have hr_ := H.rules; simp only [Rules, and_true] at hr_; have hd_ := H.dif; simp only [Dif, Neq, and_true] at hd_; obtain ⟨ho_, hz_⟩ := H.old0
            go_wp2_with ((with_reducible refine atStore (t := 68) ?_); go_must (refine wpList_storeH (t := 68) rfl rfl (by go_simp <;> first | rfl | exact ⟨rfl, rfl⟩) (by go_simp <;> first | rfl | exact ⟨rfl, rfl⟩) (by exact Hp.norm (by (repeat (first | with_reducible exact H | with_reducible exact H0_ | with_reducible apply Hp.alloc | with_reducible apply Hp.allocMap | with_reducible apply Hp.drew | with_reducible apply Hp.drewN | with_reducible apply Hp.set)); (try any_goals (repeat (first | with_reducible exact Upd.head | with_reducible apply Upd.tail)))) (by ((try simp only [size_drew_, size_drewN_, World.size_alloc, World.size_setCell, List.set_cons_zero, List.set_cons_succ, List.nil_append, List.cons_append]) <;> rfl))) (by (repeat (first | with_reducible exact Upd.head | with_reducible apply Upd.tail))) (by exact aggRule) (by rfl) (by simp [Value.oneCell']) ?_; clear H; intro w14 H; (try simp only [size_drew_, size_drewN_, World.size_alloc, World.size_setCell, List.set_cons_zero, List.set_cons_succ] at H); (try clear hr_ hd_ ho_ hz_); have hr_ := H.rules; simp only [Rules, and_true] at hr_; have hd_ := H.dif; simp only [Dif, Neq, and_true] at hd_; obtain ⟨ho_, hz_⟩ := H.old0))
            (try clear hr_ hd_ ho_ hz_)
            refine bodyPost_ret (v := .tuple #[.agg #[_, _, _], .int .i64 k]) (Res.two Tryd.results112 (H.resBox (g := w.heap.size + 1 + 1) (by (repeat (first | with_reducible exact Pick.head | with_reducible apply Pick.tail))) aggRule rfl rfl) rfl) rfl ?_
            rw [HZ.out]
            exact ⟨_, _, _, _, _, _, _, rfl, H.ext, HK0.out⟩
          | ok a =>
            rintro e_ w_ ⟨cs_, rfl, H2⟩
            obtain ⟨E1, f1, E2, f2, E3, f3, E4, f4, rfl, -⟩ := RC.ar.1 (H2.rd .head)
            replace H9 := H9.res1 H2
            clear H2
            refine hK_ _ _ (fun _ => H9.sub (by simp)) (fun hR_ => ?_)
            replace hR_ := hR_ (by decide)
            refine wpL_reads (is := [(6, ?v4_0), (7, ?v4_1), (8, ?v4_2)]) (by kernel_rfl) (Nat.le_of_ble_eq_true rfl) (by intro _ _ d_ _ _ h_; cases d_ <;> exact h_) (by kernel_rfl) hR_ (fun w_ hw_ => ?h4_) ?_
            case h4_ =>
              have ho_ := hw_.old0.1; have hz_ := hw_.old0.2; have hr_ := hw_.rules; clear hw_; simp only [Rules, and_true] at hr_; go_split_ands
              (repeat (first | with_reducible exact RdOps.nil | (refine RdOps.run rfl (by rfl) ?_ ?_; (focus (first | (go_simp; done) | (go_simp; with_reducible rfl))); simp only [List.getElem_toArray, List.getElem_cons_zero, List.getElem_cons_succ, Act.put, List.setIfInBounds_toArray, List.set_cons_zero, List.set_cons_succ]) | (refine RdOps.skip rfl (by rfl) ?_ ?_; (focus (with_reducible rfl)); simp only [List.getElem_toArray, List.getElem_cons_zero, List.getElem_cons_succ, Act.put, List.setIfInBounds_toArray, List.set_cons_zero, List.set_cons_succ])))
            simp only [rdMark, rdAct, List.map_cons, List.map_nil, List.length_cons, List.length_nil, Nat.reduceAdd, Nat.reduceSub, Nat.zero_add, List.getElem?_toArray, List.getElem?_cons_zero, List.getElem?_cons_succ, Option.bind_some, Act.put, List.setIfInBounds_toArray, List.set_cons_zero, List.set_cons_succ]
            refine wpL_do (i := 9) rfl (by kernel_rfl) (by rfl) (fun K_ hK_ => ?_)
            go_simp
            refine kontH (by (repeat (first | with_reducible exact H9 | with_reducible exact H0_ | with_reducible apply Hp.alloc | with_reducible apply Hp.allocMap | with_reducible apply Hp.drew | with_reducible apply Hp.drewN | with_reducible apply Hp.set)); (try any_goals (repeat (first | with_reducible exact Upd.head | with_reducible apply Upd.tail)))) ?_
            clear H9; intro wb_ H9; (try simp only [size_drew_, size_drewN_, World.size_alloc, World.size_setCell, List.set_cons_zero, List.set_cons_succ] at H9)
            refine hK_ _ _ (fun _ => H9.sub (by simp)) (fun hR_ => ?_)
            replace hR_ := hR_ (by decide)
            refine wpL_do (i := 10) rfl (by kernel_rfl) (by rfl) (fun K_ hK_ => ?_)
            refine wp_storeH rfl (by go_simp <;> first | rfl | exact ⟨rfl, rfl⟩) (by go_simp <;> first | rfl | exact ⟨rfl, rfl⟩) H9 (by (repeat (first | with_reducible exact Upd.head | with_reducible apply Upd.tail))) (by exact aggArg) (by rfl) (by simp [Value.oneCell']) (fun w12 H_ => ?_)
            clear H9; have H9 := H_; clear H_
            refine hK_ _ _ (fun _ => H9.sub (by simp)) (fun hR_ => ?_)
            replace hR_ := hR_ (by decide)
            refine wpL_reads (is := [(11, ?v5_0)]) (by kernel_rfl) (Nat.le_of_ble_eq_true rfl) (by intro _ _ d_ _ _ h_; cases d_ <;> exact h_) (by kernel_rfl) hR_ (fun w_ hw_ => ?h5_) ?_
            case h5_ =>
              have ho_ := hw_.old0.1; have hz_ := hw_.old0.2; have hr_ := hw_.rules; clear hw_; simp only [Rules, and_true] at hr_; go_split_ands
              (repeat (first | with_reducible exact RdOps.nil | (refine RdOps.run rfl (by rfl) ?_ ?_; (focus (first | (go_simp; done) | (go_simp; with_reducible rfl))); simp only [List.getElem_toArray, List.getElem_cons_zero, List.getElem_cons_succ, Act.put, List.setIfInBounds_toArray, List.set_cons_zero, List.set_cons_succ]) | (refine RdOps.skip rfl (by rfl) ?_ ?_; (focus (with_reducible rfl)); simp only [List.getElem_toArray, List.getElem_cons_zero, List.getElem_cons_succ, Act.put, List.setIfInBounds_toArray, List.set_cons_zero, List.set_cons_succ])))
            simp only [rdMark, rdAct, List.map_cons, List.map_nil, List.length_cons, List.length_nil, Nat.reduceAdd, Nat.reduceSub, Nat.zero_add, List.getElem?_toArray, List.getElem?_cons_zero, List.getElem?_cons_succ, Option.bind_some, Act.put, List.setIfInBounds_toArray, List.set_cons_zero, List.set_cons_succ]
            refine wpL_done (by kernel_rfl) ?_ _
            have H1 := H.resAll H9 rfl
            simp only [List.cons_append, List.nil_append] at H1
            clear H H9 p0 p1 p2 p3 p4 hrw hlt0 hb_
            have H := H1
            clear H1
            have HS2 : Hid (argsQ d.members ts = (argsQ d.members (ts.drop (j + 1))).map ((got ++ [a]) ++ ·)) := by
              unfold Hid
              rw [HS.out, HAD.out, ← HRA.out]
              exact map_step
            have hub : got.length ≤ 1000 := by have := HGL.out; omega
            have hr_ := H.rules; simp only [Rules, and_true] at hr_; have hd_ := H.dif; simp only [Dif, Neq, and_true] at hd_; obtain ⟨ho_, hz_⟩ := H.old0
            repeat ((fail_if_success (with_reducible (first | show Code.wp _ (Code.seq (Code.region 8 _ _) _) _ _ _ | show Code.wp _ (Code.region 8 _ _) _ _ _))); (first | (at_builtin; go_must (refine wpList_pushH rfl (.tmp 55) (.tmp 57) 66 rfl stArs (by go_simp <;> first | rfl | exact ⟨rfl, rfl⟩) (by go_simp <;> first | rfl | exact ⟨rfl, rfl⟩) (by exact Hp.norm (by (repeat (first | with_reducible exact H | with_reducible exact H0_ | with_reducible apply Hp.alloc | with_reducible apply Hp.allocMap | with_reducible apply Hp.drew | with_reducible apply Hp.drewN | with_reducible apply Hp.set)); (try any_goals (repeat (first | with_reducible exact Upd.head | with_reducible apply Upd.tail)))) (by ((try simp only [size_drew_, size_drewN_, World.size_alloc, World.size_setCell, List.set_cons_zero, List.set_cons_succ, List.nil_append, List.cons_append]) <;> rfl))) (by (repeat (first | with_reducible exact Pick.head | with_reducible apply Pick.tail))) (by (repeat (first | with_reducible exact Pick.head | with_reducible apply Pick.tail))) (by (repeat (first | with_reducible exact Pick.head | with_reducible apply Pick.tail))) (Ar.size_d _) ?_ ?_; (focus (simp [M]; omega)); clear H; intro v' w13 H; obtain ⟨A5, c6, rfl, _, _, _⟩ := H.slice (e := 80) (z := 9) (v := v') (by (repeat (first | with_reducible exact Pick.head | with_reducible apply Pick.tail))); (try clear hr_ hd_ ho_ hz_); have hr_ := H.rules; simp only [Rules, and_true] at hr_; have hd_ := H.dif; simp only [Dif, Neq, and_true] at hd_; obtain ⟨ho_, hz_⟩ := H.old0)) | go_step))
            (try clear hr_ hd_ ho_ hz_)
            refine codeH (by (repeat (first | with_reducible exact H | with_reducible exact H0_ | with_reducible apply Hp.alloc | with_reducible apply Hp.allocMap | with_reducible apply Hp.drew | with_reducible apply Hp.drewN | with_reducible apply Hp.set)); (try any_goals (repeat (first | with_reducible exact Upd.head | with_reducible apply Upd.tail)))) ?_
            clear H; intro w15 H; (try simp only [size_drew_, size_drewN_, World.size_alloc, World.size_setCell, List.set_cons_zero, List.set_cons_succ] at H)
            (try rw [show (got.map Ar.d ++ [a.d]).length = (got ++ [a]).length by simp] at H)
            (try rw [show got.length + 1 = (got ++ [a]).length by simp] at H)
            rw [show got.map Ar.d ++ [a.d] = (got ++ [a]).map Ar.d by simp] at H
            have hgl2 : (got ++ [a]).length = j + 1 := by simp [HGL.out]
            have HGL2 := Lib.hid hgl2
            clear hgl2
            generalize got ++ [a] = got2 at H HGL2 HS2 ⊢
            go_wp2_with fail
            go_roundw
            case rel => first | exact ⟨j + 1, got2, _, _, by omega, by first | go_num | rfl | simp, HS2, HGL2.out, (H.arr (by (repeat (first | with_reducible exact Arr.nil | refine Arr.cons (by (repeat (first | with_reducible exact Pick.head | with_reducible apply Pick.tail))) ?_)) <;> exact Arr.of_subl (by (repeat (first | with_reducible exact Subl.refl _ | with_reducible apply Subl.drop)))))⟩ | ((repeat apply Exists.intro); refine ⟨⟨j + 1, got2, _, _, by omega, by first | go_num | rfl | simp, HS2, HGL2.out, (H.arr (by (repeat (first | with_reducible exact Arr.nil | refine Arr.cons (by (repeat (first | with_reducible exact Pick.head | with_reducible apply Pick.tail))) ?_)) <;> exact Arr.of_subl (by (repeat (first | with_reducible exact Subl.refl _ | with_reducible apply Subl.drop)))))⟩, ?_⟩; rfl)
            case measure => simp [intOf]; omega
        · refine wpOp_do (i := 9) rfl (by rfl) (fun K_ hK_ => ?_)
          go_simp
          refine kontH (by (repeat (first | with_reducible exact H9 | with_reducible exact H0_ | with_reducible apply Hp.alloc | with_reducible apply Hp.allocMap | with_reducible apply Hp.drew | with_reducible apply Hp.drewN | with_reducible apply Hp.set)); (try any_goals (repeat (first | with_reducible exact Upd.head | with_reducible apply Upd.tail)))) ?_
          clear H9; intro wb_ H9; (try simp only [size_drew_, size_drewN_, World.size_alloc, World.size_setCell, List.set_cons_zero, List.set_cons_succ] at H9)
          refine hK_ _ _ (fun _ => H9.sub (by simp)) (fun hR_ => ?_)
          replace hR_ := hR_ (by decide)
          refine wpL_do (i := 5) rfl (by kernel_rfl) (by rfl) (fun K_ hK_ => ?_)
          go_simp
          obtain ⟨ra, hra⟩ : ∃ ra, ra = argQ d.members t := ⟨_, rfl⟩
          have hcall := refArg (d := d) (t := t) (HDD.out.ext0 (H.ext.seq H9.ext)) ⟨_, _, _, _, rfl, HT.out.ext0 H9.ext⟩ HSZ.out
          rw [← hra] at hcall
          have HRA := Lib.hid hra
          clear hra
          refine hcall.mono ?_
          clear hcall
          cases ra with
          | error k =>
            rintro e_ w_ ⟨rfl, hx, hk0⟩
            replace H9 := H9.call hx
            clear hx
            refine hK_ _ _ (fun _ => H9.sub (by simp)) (fun hR_ => ?_)
            replace hR_ := hR_ (by decide)
            refine wpL_reads (is := [(6, ?v6_0), (7, ?v6_1), (8, ?v6_2)]) (by kernel_rfl) (Nat.le_of_ble_eq_true rfl) (by intro _ _ d_ _ _ h_; cases d_ <;> exact h_) (by kernel_rfl) hR_ (fun w_ hw_ => ?h6_) ?_
            case h6_ =>
              have ho_ := hw_.old0.1; have hz_ := hw_.old0.2; have hr_ := hw_.rules; clear hw_; simp only [Rules, and_true] at hr_; go_split_ands
              (repeat (first | with_reducible exact RdOps.nil | (refine RdOps.run rfl (by rfl) ?_ ?_; (focus (first | (go_simp; done) | (go_simp; with_reducible rfl))); simp only [List.getElem_toArray, List.getElem_cons_zero, List.getElem_cons_succ, Act.put, List.setIfInBounds_toArray, List.set_cons_zero, List.set_cons_succ]) | (refine RdOps.skip rfl (by rfl) ?_ ?_; (focus (with_reducible rfl)); simp only [List.getElem_toArray, List.getElem_cons_zero, List.getElem_cons_succ, Act.put, List.setIfInBounds_toArray, List.set_cons_zero, List.set_cons_succ])))
            simp only [rdMark, rdAct, List.map_cons, List.map_nil, List.length_cons, List.length_nil, Nat.reduceAdd, Nat.reduceSub, Nat.zero_add, List.getElem?_toArray, List.getElem?_cons_zero, List.getElem?_cons_succ, Option.bind_some, Act.put, List.setIfInBounds_toArray, List.set_cons_zero, List.set_cons_succ]
            refine wpL_do (i := 10) rfl (by kernel_rfl) (by rfl) (fun K_ hK_ => ?_)
            refine wp_storeH rfl (by go_simp <;> first | rfl | exact ⟨rfl, rfl⟩) (by go_simp <;> first | rfl | exact ⟨rfl, rfl⟩) H9 (by (repeat (first | with_reducible exact Upd.head | with_reducible apply Upd.tail))) (by exact aggArg) (by rfl) (by simp [Value.oneCell']) (fun w12 H_ => ?_)
            clear H9; have H9 := H_; clear H_
            refine hK_ _ _ (fun _ => H9.sub (by simp)) (fun hR_ => ?_)
            replace hR_ := hR_ (by decide)
            refine wpL_reads (is := [(11, ?v7_0)]) (by kernel_rfl) (Nat.le_of_ble_eq_true rfl) (by intro _ _ d_ _ _ h_; cases d_ <;> exact h_) (by kernel_rfl) hR_ (fun w_ hw_ => ?h7_) ?_
            case h7_ =>
              have ho_ := hw_.old0.1; have hz_ := hw_.old0.2; have hr_ := hw_.rules; clear hw_; simp only [Rules, and_true] at hr_; go_split_ands
              (repeat (first | with_reducible exact RdOps.nil | (refine RdOps.run rfl (by rfl) ?_ ?_; (focus (first | (go_simp; done) | (go_simp; with_reducible rfl))); simp only [List.getElem_toArray, List.getElem_cons_zero, List.getElem_cons_succ, Act.put, List.setIfInBounds_toArray, List.set_cons_zero, List.set_cons_succ]) | (refine RdOps.skip rfl (by rfl) ?_ ?_; (focus (with_reducible rfl)); simp only [List.getElem_toArray, List.getElem_cons_zero, List.getElem_cons_succ, Act.put, List.setIfInBounds_toArray, List.set_cons_zero, List.set_cons_succ])))
            simp only [rdMark, rdAct, List.map_cons, List.map_nil, List.length_cons, List.length_nil, Nat.reduceAdd, Nat.reduceSub, Nat.zero_add, List.getElem?_toArray, List.getElem?_cons_zero, List.getElem?_cons_succ, Option.bind_some, Act.put, List.setIfInBounds_toArray, List.set_cons_zero, List.set_cons_succ]
            refine wpL_done (by kernel_rfl) ?_ _
            have H1 := H.resAll H9 rfl
            simp only [List.cons_append, List.nil_append] at H1
            clear H H9 p0 p1 p2 p3 p4 hrw hlt0 hb_
            have H := H1
            clear H1
            have HZ : Hid (R = .error k) := by
              unfold Hid
              rw [HR4.out, HS.out, HAD.out, ← HRA.out]; rfl
            have g1 : (k == 0) = false := by simpa using hk0
            have g1' : (k != 0) = true := by simpa using hk0
            have HK0 := Lib.hid hk0
            clear hk0
            have hr_ := H.rules; simp only [Rules, and_true] at hr_; have hd_ := H.dif; simp only [Dif, Neq, and_true] at hd_; obtain ⟨ho_, hz_⟩ := H.old0
            go_wp2_with ((with_reducible refine atStore (t := 68) ?_); go_must (refine wpList_storeH (t := 68) rfl rfl (by go_simp <;> first | rfl | exact ⟨rfl, rfl⟩) (by go_simp <;> first | rfl | exact ⟨rfl, rfl⟩) (by exact Hp.norm (by (repeat (first | with_reducible exact H | with_reducible exact H0_ | with_reducible apply Hp.alloc | with_reducible apply Hp.allocMap | with_reducible apply Hp.drew | with_reducible apply Hp.drewN | with_reducible apply Hp.set)); (try any_goals (repeat (first | with_reducible exact Upd.head | with_reducible apply Upd.tail)))) (by ((try simp only [size_drew_, size_drewN_, World.size_alloc, World.size_setCell, List.set_cons_zero, List.set_cons_succ, List.nil_append, List.cons_append]) <;> rfl))) (by (repeat (first | with_reducible exact Upd.head | with_reducible apply Upd.tail))) (by exact aggRule) (by rfl) (by simp [Value.oneCell']) ?_; clear H; intro w14 H; (try simp only [size_drew_, size_drewN_, World.size_alloc, World.size_setCell, List.set_cons_zero, List.set_cons_succ] at H); (try clear hr_ hd_ ho_ hz_); have hr_ := H.rules; simp only [Rules, and_true] at hr_; have hd_ := H.dif; simp only [Dif, Neq, and_true] at hd_; obtain ⟨ho_, hz_⟩ := H.old0))
            (try clear hr_ hd_ ho_ hz_)
            refine bodyPost_ret (v := .tuple #[.agg #[_, _, _], .int .i64 k]) (Res.two Tryd.results112 (H.resBox (g := w.heap.size + 1 + 1) (by (repeat (first | with_reducible exact Pick.head | with_reducible apply Pick.tail))) aggRule rfl rfl) rfl) rfl ?_
            rw [HZ.out]
            exact ⟨_, _, _, _, _, _, _, rfl, H.ext, HK0.out⟩
          | ok a =>
            rintro e_ w_ ⟨cs_, rfl, H2⟩
            obtain ⟨E1, f1, E2, f2, E3, f3, E4, f4, rfl, -⟩ := RC.ar.1 (H2.rd .head)
            replace H9 := H9.res1 H2
            clear H2
            refine hK_ _ _ (fun _ => H9.sub (by simp)) (fun hR_ => ?_)
            replace hR_ := hR_ (by decide)
            refine wpL_reads (is := [(6, ?v8_0), (7, ?v8_1), (8, ?v8_2)]) (by kernel_rfl) (Nat.le_of_ble_eq_true rfl) (by intro _ _ d_ _ _ h_; cases d_ <;> exact h_) (by kernel_rfl) hR_ (fun w_ hw_ => ?h8_) ?_
            case h8_ =>
              have ho_ := hw_.old0.1; have hz_ := hw_.old0.2; have hr_ := hw_.rules; clear hw_; simp only [Rules, and_true] at hr_; go_split_ands
              (repeat (first | with_reducible exact RdOps.nil | (refine RdOps.run rfl (by rfl) ?_ ?_; (focus (first | (go_simp; done) | (go_simp; with_reducible rfl))); simp only [List.getElem_toArray, List.getElem_cons_zero, List.getElem_cons_succ, Act.put, List.setIfInBounds_toArray, List.set_cons_zero, List.set_cons_succ]) | (refine RdOps.skip rfl (by rfl) ?_ ?_; (focus (with_reducible rfl)); simp only [List.getElem_toArray, List.getElem_cons_zero, List.getElem_cons_succ, Act.put, List.setIfInBounds_toArray, List.set_cons_zero, List.set_cons_succ])))
            simp only [rdMark, rdAct, List.map_cons, List.map_nil, List.length_cons, List.length_nil, Nat.reduceAdd, Nat.reduceSub, Nat.zero_add, List.getElem?_toArray, List.getElem?_cons_zero, List.getElem?_cons_succ, Option.bind_some, Act.put, List.setIfInBounds_toArray, List.set_cons_zero, List.set_cons_succ]
            refine wpL_do (i := 10) rfl (by kernel_rfl) (by rfl) (fun K_ hK_ => ?_)
            refine wp_storeH rfl (by go_simp <;> first | rfl | exact ⟨rfl, rfl⟩) (by go_simp <;> first | rfl | exact ⟨rfl, rfl⟩) H9 (by (repeat (first | with_reducible exact Upd.head | with_reducible apply Upd.tail))) (by exact aggArg) (by rfl) (by simp [Value.oneCell']) (fun w12 H_ => ?_)
            clear H9; have H9 := H_; clear H_
            refine hK_ _ _ (fun _ => H9.sub (by simp)) (fun hR_ => ?_)
            replace hR_ := hR_ (by decide)
            refine wpL_reads (is := [(11, ?v9_0)]) (by kernel_rfl) (Nat.le_of_ble_eq_true rfl) (by intro _ _ d_ _ _ h_; cases d_ <;> exact h_) (by kernel_rfl) hR_ (fun w_ hw_ => ?h9_) ?_
            case h9_ =>
              have ho_ := hw_.old0.1; have hz_ := hw_.old0.2; have hr_ := hw_.rules; clear hw_; simp only [Rules, and_true] at hr_; go_split_ands
              (repeat (first | with_reducible exact RdOps.nil | (refine RdOps.run rfl (by rfl) ?_ ?_; (focus (first | (go_simp; done) | (go_simp; with_reducible rfl))); simp only [List.getElem_toArray, List.getElem_cons_zero, List.getElem_cons_succ, Act.put, List.setIfInBounds_toArray, List.set_cons_zero, List.set_cons_succ]) | (refine RdOps.skip rfl (by rfl) ?_ ?_; (focus (with_reducible rfl)); simp only [List.getElem_toArray, List.getElem_cons_zero, List.getElem_cons_succ, Act.put, List.setIfInBounds_toArray, List.set_cons_zero, List.set_cons_succ])))
            simp only [rdMark, rdAct, List.map_cons, List.map_nil, List.length_cons, List.length_nil, Nat.reduceAdd, Nat.reduceSub, Nat.zero_add, List.getElem?_toArray, List.getElem?_cons_zero, List.getElem?_cons_succ, Option.bind_some, Act.put, List.setIfInBounds_toArray, List.set_cons_zero, List.set_cons_succ]
            refine wpL_done (by kernel_rfl) ?_ _
            have H1 := H.resAll H9 rfl
            simp only [List.cons_append, List.nil_append] at H1
            clear H H9 p0 p1 p2 p3 p4 hrw hlt0 hb_
            have H := H1
            clear H1
            have HS2 : Hid (argsQ d.members ts = (argsQ d.members (ts.drop (j + 1))).map ((got ++ [a]) ++ ·)) := by
              unfold Hid
              rw [HS.out, HAD.out, ← HRA.out]
              exact map_step
            have hub : got.length ≤ 1000 := by have := HGL.out; omega
            have hr_ := H.rules; simp only [Rules, and_true] at hr_; have hd_ := H.dif; simp only [Dif, Neq, and_true] at hd_; obtain ⟨ho_, hz_⟩ := H.old0
            repeat ((fail_if_success (with_reducible (first | show Code.wp _ (Code.seq (Code.region 8 _ _) _) _ _ _ | show Code.wp _ (Code.region 8 _ _) _ _ _))); (first | (at_builtin; go_must (refine wpList_pushH rfl (.tmp 55) (.tmp 57) 66 rfl stArs (by go_simp <;> first | rfl | exact ⟨rfl, rfl⟩) (by go_simp <;> first | rfl | exact ⟨rfl, rfl⟩) (by exact Hp.norm (by (repeat (first | with_reducible exact H | with_reducible exact H0_ | with_reducible apply Hp.alloc | with_reducible apply Hp.allocMap | with_reducible apply Hp.drew | with_reducible apply Hp.drewN | with_reducible apply Hp.set)); (try any_goals (repeat (first | with_reducible exact Upd.head | with_reducible apply Upd.tail)))) (by ((try simp only [size_drew_, size_drewN_, World.size_alloc, World.size_setCell, List.set_cons_zero, List.set_cons_succ, List.nil_append, List.cons_append]) <;> rfl))) (by (repeat (first | with_reducible exact Pick.head | with_reducible apply Pick.tail))) (by (repeat (first | with_reducible exact Pick.head | with_reducible apply Pick.tail))) (by (repeat (first | with_reducible exact Pick.head | with_reducible apply Pick.tail))) (Ar.size_d _) ?_ ?_; (focus (simp [M]; omega)); clear H; intro v' w13 H; obtain ⟨A5, c6, rfl, _, _, _⟩ := H.slice (e := 80) (z := 9) (v := v') (by (repeat (first | with_reducible exact Pick.head | with_reducible apply Pick.tail))); (try clear hr_ hd_ ho_ hz_); have hr_ := H.rules; simp only [Rules, and_true] at hr_; have hd_ := H.dif; simp only [Dif, Neq, and_true] at hd_; obtain ⟨ho_, hz_⟩ := H.old0)) | go_step))
            (try clear hr_ hd_ ho_ hz_)
            refine codeH (by (repeat (first | with_reducible exact H | with_reducible exact H0_ | with_reducible apply Hp.alloc | with_reducible apply Hp.allocMap | with_reducible apply Hp.drew | with_reducible apply Hp.drewN | with_reducible apply Hp.set)); (try any_goals (repeat (first | with_reducible exact Upd.head | with_reducible apply Upd.tail)))) ?_
            clear H; intro w15 H; (try simp only [size_drew_, size_drewN_, World.size_alloc, World.size_setCell, List.set_cons_zero, List.set_cons_succ] at H)
            (try rw [show (got.map Ar.d ++ [a.d]).length = (got ++ [a]).length by simp] at H)
            (try rw [show got.length + 1 = (got ++ [a]).length by simp] at H)
            rw [show got.map Ar.d ++ [a.d] = (got ++ [a]).map Ar.d by simp] at H
            have hgl2 : (got ++ [a]).length = j + 1 := by simp [HGL.out]
            have HGL2 := Lib.hid hgl2
            clear hgl2
            generalize got ++ [a] = got2 at H HGL2 HS2 ⊢
            go_wp2_with fail
            go_roundw
            case rel => first | exact ⟨j + 1, got2, _, _, by omega, by first | go_num | rfl | simp, HS2, HGL2.out, (H.arr (by (repeat (first | with_reducible exact Arr.nil | refine Arr.cons (by (repeat (first | with_reducible exact Pick.head | with_reducible apply Pick.tail))) ?_)) <;> exact Arr.of_subl (by (repeat (first | with_reducible exact Subl.refl _ | with_reducible apply Subl.drop)))))⟩ | ((repeat apply Exists.intro); refine ⟨⟨j + 1, got2, _, _, by omega, by first | go_num | rfl | simp, HS2, HGL2.out, (H.arr (by (repeat (first | with_reducible exact Arr.nil | refine Arr.cons (by (repeat (first | with_reducible exact Pick.head | with_reducible apply Pick.tail))) ?_)) <;> exact Arr.of_subl (by (repeat (first | with_reducible exact Subl.refl _ | with_reducible apply Subl.drop)))))⟩, ?_⟩; rfl)
            case measure => simp [intOf]; omega
      · have hR5 := HR4.out
        have hga : argsQ d.members ts = .ok got := by rw [HS.out, List.drop_eq_nil_of_le (by omega), argsQ]; simp [Except.map]
        rw [hga] at hR5
        have htl := argsQ_tele hga
        have hok := argsQ_ok hga
        have HR5 := Lib.hid hR5
        have HTL := Lib.hid htl
        have HOK := Lib.hid hok
        have hlen : ts.length = got.length := htl.2.symm
        have hgn : got.length ≤ 10 := by omega
        have HLEN := Lib.hid hlen
        have HGN := Lib.hid hgn
        clear hR5 htl hok hga hlen hgn HR4
        have hr_ := H.rules; simp only [Rules, and_true] at hr_; have hd_ := H.dif; simp only [Dif, Neq, and_true] at hd_; obtain ⟨ho_, hz_⟩ := H.old0
        repeat ((fail_if_success (with_reducible (first | show Code.wp _ (Code.seq (Code.region 13 _ _) _) _ _ _ | show Code.wp _ (Code.seq (Code.seq (Code.region 13 _ _) _) _) _ _ _))); go_step)
        (try clear hr_ hd_ ho_ hz_)
        rw [HLEN.out]
        exact oneM (as_ := got) HPARTS.out.2.2.2.2.2.2.1 HGN.out HTL.out.1 HOK.out HHD.out HLL.out HIM.out (H.arr (by (repeat (first | with_reducible exact Arr.nil | refine Arr.cons (by (repeat (first | with_reducible exact Pick.head | with_reducible apply Pick.tail))) ?_)) <;> exact Arr.of_subl (by (repeat (first | with_reducible exact Subl.refl _ | with_reducible apply Subl.drop))))) HR5.out
  · have HZ : Hid (R = .error 3) := by
      unfold Hid
      rw [HR2.out, if_neg h6]
    have hr_ := H.rules; simp only [Rules, and_true] at hr_; have hd_ := H.dif; simp only [Dif, Neq, and_true] at hd_; obtain ⟨ho_, hz_⟩ := H.old0
    go_wp2_with ((with_reducible refine atStore (t := 68) ?_); go_must (refine wpList_storeH (t := 68) rfl rfl (by go_simp <;> first | rfl | exact ⟨rfl, rfl⟩) (by go_simp <;> first | rfl | exact ⟨rfl, rfl⟩) (by exact Hp.norm (by (repeat (first | with_reducible exact H | with_reducible exact H0_ | with_reducible apply Hp.alloc | with_reducible apply Hp.allocMap | with_reducible apply Hp.drew | with_reducible apply Hp.drewN | with_reducible apply Hp.set)); (try any_goals (repeat (first | with_reducible exact Upd.head | with_reducible apply Upd.tail)))) (by ((try simp only [size_drew_, size_drewN_, World.size_alloc, World.size_setCell, List.set_cons_zero, List.set_cons_succ, List.nil_append, List.cons_append]) <;> rfl))) (by (repeat (first | with_reducible exact Upd.head | with_reducible apply Upd.tail))) (by exact aggRule) (by rfl) (by simp [Value.oneCell']) ?_; clear H; intro w14 H; (try simp only [size_drew_, size_drewN_, World.size_alloc, World.size_setCell, List.set_cons_zero, List.set_cons_succ] at H); (try clear hr_ hd_ ho_ hz_); have hr_ := H.rules; simp only [Rules, and_true] at hr_; have hd_ := H.dif; simp only [Dif, Neq, and_true] at hd_; obtain ⟨ho_, hz_⟩ := H.old0))
    (try clear hr_ hd_ ho_ hz_)
    refine bodyPost_ret (v := .tuple #[.agg #[_, _, _], .int .i64 3]) (Res.two Tryd.results112 (H.resBox (g := w.heap.size + 1 + 1) (by (repeat (first | with_reducible exact Pick.head | with_reducible apply Pick.tail))) aggRule rfl rfl) rfl) rfl ?_
    rw [HZ.out]
    exact ⟨_, _, _, _, _, _, _, rfl, H.ext, by decide⟩
end Go.Proofs.YtgbokmphbimihaaDoor
