/- Reference 11: bare, block: contracts. No statement of the seat is proved here. -/
import Derived.Deep.DeepCutAuto
import Derived.Test.YteelplgdojjakaaDoorMgCases1
import Derived.Test.YteelplgdojjakaaDoorMgSrcBlock
namespace Go.Proofs.YteelplgdojjakaaDoor
set_option linter.unusedSimpArgs false
set_option linter.unusedVariables false
open Go.RowKit

set_option maxRecDepth 100000 in
set_option maxHeartbeats 2000000 in
theorem ref11bare_calls {w : World} {S : Nat → Prop} {t : Tm} {v : Value} (h : TV w S t v) : Calls Tryd.prog 86 #[v] w (PV w (.bool (bareQ t))) := by
  obtain ⟨A0, ca, K0, ck, rfl, hrc⟩ := h
  clear hrc
  go_enter Tryd.func86, Tryd.ntmps86
  by_cases h1 : t.k = 0
  · by_cases h2 : t.n = 0
    · by_cases h3 : t.a = 0
      · by_cases h4 : t.ls.length = 0
        · by_cases h5 : t.ks.length = 0
          · have HB : Hid (bareQ t = true) := by unfold Hid bareQ; rw [decide_eq_true h1, decide_eq_true h2, decide_eq_true h3, decide_eq_true (by omega)]; rfl
            go_wp2_with fail
            go_ret
            exact ⟨by rw [HB.out]; rfl, (Ext.refl _ _).alloc _⟩
          · have HB : Hid (bareQ t = false) := by unfold Hid bareQ; rw [decide_eq_false (show ¬ t.ls.length + t.ks.length = 0 by omega)]; simp
            have e5 : ((t.ks.length : Int) == 0) = false := by rw [beq_eq_false_iff_ne]; omega
            go_wp2_with fail
            go_ret
            exact ⟨by rw [HB.out]; rfl, (Ext.refl _ _).alloc _⟩
        · have HB : Hid (bareQ t = false) := by unfold Hid bareQ; rw [decide_eq_false (show ¬ t.ls.length + t.ks.length = 0 by omega)]; simp
          have e4 : ((t.ls.length : Int) == 0) = false := by rw [beq_eq_false_iff_ne]; omega
          go_wp2_with fail
          go_ret
          exact ⟨by rw [HB.out]; rfl, (Ext.refl _ _).alloc _⟩
      · have HB : Hid (bareQ t = false) := by unfold Hid bareQ; simp [h3]
        go_wp2_with fail
        go_ret
        exact ⟨by rw [HB.out]; rfl, (Ext.refl _ _).alloc _⟩
    · have HB : Hid (bareQ t = false) := by unfold Hid bareQ; simp [h2]
      go_wp2_with fail
      go_ret
      exact ⟨by rw [HB.out]; rfl, (Ext.refl _ _).alloc _⟩
  · have HB : Hid (bareQ t = false) := by unfold Hid bareQ; simp [h1]
    go_wp2_with fail
    go_ret
    exact ⟨by rw [HB.out]; rfl, (Ext.refl _ _).alloc _⟩
abbrev dC (d : Dc) (Aty Kty Abody Kbody Aparams Asort Amembers Actors : Option Addr) (cty kty cbody kbody cparams csort cmembers cctors : Nat) : List Value := [.int .i64 d.kind, .int .i64 d.levels, .int .i64 d.ty.k, .int .i64 d.ty.n, .int .i64 d.ty.a, .slice Aty d.ty.ls.length cty, .slice Kty d.ty.ks.length kty, .int .i64 d.body.k, .int .i64 d.body.n, .int .i64 d.body.a, .slice Abody d.body.ls.length cbody, .slice Kbody d.body.ks.length kbody, .slice Aparams d.params.length cparams, .slice Asort d.sort.length csort, .slice Amembers d.members.length cmembers, .slice Actors d.ctors.length cctors]
set_option maxRecDepth 100000 in
set_option maxHeartbeats 8000000 in
/-- The members, the constructors, the rest. -/
theorem rblock4 {w W : World} {S S1 : Nat → Prop} {ds : List Dc} {d : Dc} {A : Option Addr} {c gD : Nat} {Aty Kty Abody Kbody Aparams Asort Amembers Actors : Option Addr} {cty kty cbody kbody cparams csort cmembers cctors : Nat} {x1 x2 x4 x6 x7 x8 x9 x10 x11 x12 x13 x14 x15 x16 x17 x18 x19 x20 x21 x22 x23 x24 x25 x26 x27 x28 x29 x30 x31 x32 x33 x34 x35 x36 x37 x38 x39 x40 x41 x42 x43 x44 x45 x46 x47 x48 x49 x50 x51 x52 x53 x54 x55 x56 x57 x58 x59 x60 x61 x62 x63 x64 x65 x66 x67 x68 x69 x70 x71 x72 x73 x74 x75 x76 x77 x78 x79 x80 x81 x82 x83 x84 x85 x86 x87 x88 x89 x90 x91 x92 x93 x94 x95 x96 x97 x98 x99 x100 x101 x102 x103 x104 x105 x106 x107 x108 x109 x110 x111 x112 x113 x114 x115 x116 x117 x118 x119 x120 x121 : Value} (h : RC w S (.l 42 16 (ds.map Dc.d)) [.slice A ds.length c]) (hd : RC w S1 d.d (dC d Aty Kty Abody Kbody Aparams Asort Amembers Actors cty kty cbody kbody cparams csort cmembers cctors))
    {R : Bool} (hR : R = ((d.members.all (mbQ ds d.levels d.params.length)) && ((d.ctors.all (ctQ ds d.levels d.params.length d.members.length)) && (bareQ d.ty && bareQ d.body)))) {K K1 : Act → World → Prop}
    (hK1 : ∀ a w', (sndC (fromN 4 (Tryd.f85.body.getD .skip))).wp Tryd.prog (bodyPost Tryd.prog Tryd.f85 (PV w (.bool R))) a w' → K1 a w')
    (hK : ∀ a w', (sndC (fstC (fromN 4 (Tryd.f85.body.getD .skip)))).wp Tryd.prog (Exit.then K1 (bodyPost Tryd.prog Tryd.f85 (PV w (.bool R)))) a w' → K a w')
    (H : Hp no w W [.box gD 42 (dC d Aty Kty Abody Kbody Aparams Asort Amembers Actors cty kty cbody kbody cparams csort cmembers cctors)]) :
    (fstC (fstC (fromN 4 (Tryd.f85.body.getD .skip)))).wp Tryd.prog (Exit.then K (Exit.then K1 (bodyPost Tryd.prog Tryd.f85 (PV w (.bool R))))) { tmps := #[.slice A ds.length c, x1, x2, .pointer (some ⟨gD, 0, none⟩), x4, .int .i64 d.params.length, x6, x7, x8, x9, x10, x11, x12, x13, x14, x15, x16, x17, x18, x19, x20, x21, x22, x23, x24, x25, x26, x27, x28, x29, x30, x31, x32, x33, x34, x35, x36, x37, x38, x39, x40, x41, x42, x43, x44, x45, x46, x47, x48, x49, x50, x51, x52, x53, x54, x55, x56, x57, x58, x59, x60, x61, x62, x63, x64, x65, x66, x67, x68, x69, x70, x71, x72, x73, x74, x75, x76, x77, x78, x79, x80, x81, x82, x83, x84, x85, x86, x87, x88, x89, x90, x91, x92, x93, x94, x95, x96, x97, x98, x99, x100, x101, x102, x103, x104, x105, x106, x107, x108, x109, x110, x111, x112, x113, x114, x115, x116, x117, x118, x119, x120, x121], defers := [] } W := by
  obtain ⟨xAty, xcty, xKty, xkty, xAbody, xcbody, xKbody, xkbody, xAparams, xcparams, xAsort, xcsort, xAmembers, xcmembers, xActors, xcctors, he, i1, i2, r1, r2, r3, r4, r5, r6⟩ := RC.dc.1 hd
  simp only [dC, List.cons.injEq, Value.slice.injEq, and_true, true_and] at he
  obtain ⟨⟨rfl, rfl⟩, ⟨rfl, rfl⟩, ⟨rfl, rfl⟩, ⟨rfl, rfl⟩, ⟨rfl, rfl⟩, ⟨rfl, rfl⟩, ⟨rfl, rfl⟩, rfl, rfl⟩ := he
  have hM5 := r5.lenM.1
  have hM6 := r6.lenM.1
  have HH := Lib.hid h
  have HR := Lib.hid hR
  have R1 := Lib.hid r1
  have R2 := Lib.hid r2
  clear h hR hd r1 r2 r3 r4 i1 i2
  conv => arg 2; whnf
  conv at hK1 => intro a w; arg 1; arg 2; whnf
  conv at hK => intro a w; arg 1; arg 2; whnf
  have hr_ := H.rules; simp only [Rules, and_true] at hr_; have hd_ := H.dif; simp only [Dif, Neq, and_true] at hd_; obtain ⟨ho_, hz_⟩ := H.old0
  go_wp2_with fail
  (try clear hr_ hd_ ho_ hz_)
  go_loopw [6] (fun i wr => ∃ j : Nat, j ≤ d.members.length ∧ i = .int .i64 j ∧ Hid ((d.members.take j).all (mbQ ds d.levels d.params.length) = true) ∧ Hp no w wr [.box gD 42 (dC d Aty Kty Abody Kbody Aparams Asort Amembers Actors cty kty cbody kbody cparams csort cmembers cctors)]) (fun i _ => d.members.length - (intOf i).toNat)
  case atStart => exact ⟨0, Nat.zero_le _, rfl, Lib.hid (by simp), (H.arr (by (repeat (first | with_reducible exact Arr.nil | refine Arr.cons (by (repeat (first | with_reducible exact Pick.head | with_reducible apply Pick.tail))) ?_)) <;> exact Arr.of_subl (by (repeat (first | with_reducible exact Subl.refl _ | with_reducible apply Subl.drop)))))⟩
  case round =>
    clear H
    obtain ⟨j, hj, rfl, HS, H⟩ := hrel
    by_cases hlt : j < d.members.length
    · obtain ⟨b, o, A1, ca1, rfl, hb1, hS, hdm, p0⟩ := r5.atMb hlt
      have HIX : Hid (RC w S1 (.l 30 5 (d.members[j].index.map Tm.d)) [.slice A1 d.members[j].index.length ca1]) := by
        obtain ⟨A2, ca2, he, h2⟩ := RC.mb.1 hdm
        simp only [List.cons.injEq, Value.slice.injEq, and_true, true_and] at he
        obtain ⟨rfl, rfl⟩ := he
        exact Lib.hid h2
      clear hdm
      by_cases q : (d.members[j].index.length : Int) ≤ 6
      · have HC : Hid (mbQ ds d.levels d.params.length d.members[j] = rowQ ds d.levels (d.params.length : Int) 0 0 d.members[j].index) := by
          unfold Hid mbQ
          rw [decide_eq_true q]
          rfl
        have q' : decide ((6 : Int) < (d.members[j].index.length : Int)) = false := decide_eq_false (by omega)
        have q2 : decide (6 < d.members[j].index.length) = false := decide_eq_false (by omega)
        clear q
        have hr_ := H.rules; simp only [Rules, and_true] at hr_; have hd_ := H.dif; simp only [Dif, Neq, and_true] at hd_; obtain ⟨ho_, hz_⟩ := H.old0
        go_wp2_with fail
        (try clear hr_ hd_ ho_ hz_)
        refine regionH (by (repeat (first | with_reducible exact H | with_reducible exact H0_ | with_reducible apply Hp.alloc | with_reducible apply Hp.allocMap | with_reducible apply Hp.drew | with_reducible apply Hp.drewN | with_reducible apply Hp.set)); (try any_goals (repeat (first | with_reducible exact Upd.head | with_reducible apply Upd.tail)))) ?_
        clear H; intro w2 H; (try simp only [size_drew_, size_drewN_, World.size_alloc, World.size_setCell, List.set_cons_zero, List.set_cons_succ] at H)
        refine wp_region_H 22 [false, false, false, false, false, false, false, false, false, false, false, false, false, false, false, false, false, false, false, false, false, false] [] H (.cons (i := 0) rfl .nil) (by kernel_rfl) rfl rfl (fun H_ hR_ => ?_)
        (try clear H0_); have H0_ := H; clear H; have H := H_; clear H_
        refine wpL_reads (is := [(0, ?v1_0), (1, ?v1_1), (2, ?v1_2), (3, ?v1_3), (4, ?v1_4), (5, ?v1_5), (6, ?v1_6), (7, ?v1_7), (8, ?v1_8), (9, ?v1_9), (10, ?v1_10), (11, ?v1_11), (12, ?v1_12), (13, ?v1_13), (14, ?v1_14), (15, ?v1_15), (16, ?v1_16), (17, ?v1_17), (18, ?v1_18)]) (by kernel_rfl) (Nat.le_of_ble_eq_true rfl) (by intro _ _ d_ _ _ h_; cases d_ <;> exact h_) (by kernel_rfl) hR_ (fun w_ hw_ => ?h1_) ?_
        case h1_ =>
          have ho_ := hw_.old0.1; have hz_ := hw_.old0.2; have hr_ := hw_.rules; clear hw_; simp only [Rules, and_true] at hr_; go_split_ands
          (repeat (first | with_reducible exact RdOps.nil | (refine RdOps.run rfl (by rfl) ?_ ?_; (focus (first | (go_simp; done) | (go_simp; with_reducible rfl))); simp only [List.getElem_toArray, List.getElem_cons_zero, List.getElem_cons_succ, Act.put, List.setIfInBounds_toArray, List.set_cons_zero, List.set_cons_succ]) | (refine RdOps.skip rfl (by rfl) ?_ ?_; (focus (with_reducible rfl)); simp only [List.getElem_toArray, List.getElem_cons_zero, List.getElem_cons_succ, Act.put, List.setIfInBounds_toArray, List.set_cons_zero, List.set_cons_succ])))
        simp only [rdMark, rdAct, List.map_cons, List.map_nil, List.length_cons, List.length_nil, Nat.reduceAdd, Nat.reduceSub, Nat.zero_add, List.getElem?_toArray, List.getElem?_cons_zero, List.getElem?_cons_succ, Option.bind_some, Act.put, List.setIfInBounds_toArray, List.set_cons_zero, List.set_cons_succ]
        refine wpL_do (i := 19) rfl (by kernel_rfl) (by rfl) (fun K_ hK_ => ?_)
        go_simp
        refine (ref11row_calls (ts := d.members[j].index) (HH.out.ext0 H.ext) (HIX.out.ext0 H.ext) rfl).mono ?_
        rintro e w_ ⟨rfl, hx⟩
        replace H := H.call hx
        clear hx
        cases hq : rowQ ds d.levels (d.params.length : Int) 0 0 d.members[j].index
        · have HF : Hid (d.members.all (mbQ ds d.levels d.params.length) = false) := Lib.hid (alls_not hlt (HC.out.trans hq))
          have HQ := Lib.hid hq
          clear hq
          refine hK_ _ _ (fun _ => H.sub (by simp)) (fun hR_ => ?_)
          replace hR_ := hR_ (by decide)
          refine wpL_reads (is := [(20, ?v2_0), (21, ?v2_1)]) (by kernel_rfl) (Nat.le_of_ble_eq_true rfl) (by intro _ _ d_ _ _ h_; cases d_ <;> exact h_) (by kernel_rfl) hR_ (fun w_ hw_ => ?h2_) ?_
          case h2_ =>
            have ho_ := hw_.old0.1; have hz_ := hw_.old0.2; have hr_ := hw_.rules; clear hw_; simp only [Rules, and_true] at hr_; go_split_ands
            (repeat (first | with_reducible exact RdOps.nil | (refine RdOps.run rfl (by rfl) ?_ ?_; (focus (first | (go_simp; done) | (go_simp; with_reducible rfl))); simp only [List.getElem_toArray, List.getElem_cons_zero, List.getElem_cons_succ, Act.put, List.setIfInBounds_toArray, List.set_cons_zero, List.set_cons_succ]) | (refine RdOps.skip rfl (by rfl) ?_ ?_; (focus (with_reducible rfl)); simp only [List.getElem_toArray, List.getElem_cons_zero, List.getElem_cons_succ, Act.put, List.setIfInBounds_toArray, List.set_cons_zero, List.set_cons_succ])))
          simp only [rdMark, rdAct, List.map_cons, List.map_nil, List.length_cons, List.length_nil, Nat.reduceAdd, Nat.reduceSub, Nat.zero_add, List.getElem?_toArray, List.getElem?_cons_zero, List.getElem?_cons_succ, Option.bind_some, Act.put, List.setIfInBounds_toArray, List.set_cons_zero, List.set_cons_succ]
          refine wpL_done (by kernel_rfl) ?_ _
          go_wp2_with fail
          go_ret
          exact ⟨by rw [HR.out, HF.out]; rfl, H.ext⟩
        · have HQ := Lib.hid hq
          clear hq
          refine hK_ _ _ (fun _ => H.sub (by simp)) (fun hR_ => ?_)
          replace hR_ := hR_ (by decide)
          refine wpL_reads (is := [(20, ?v3_0), (21, ?v3_1)]) (by kernel_rfl) (Nat.le_of_ble_eq_true rfl) (by intro _ _ d_ _ _ h_; cases d_ <;> exact h_) (by kernel_rfl) hR_ (fun w_ hw_ => ?h3_) ?_
          case h3_ =>
            have ho_ := hw_.old0.1; have hz_ := hw_.old0.2; have hr_ := hw_.rules; clear hw_; simp only [Rules, and_true] at hr_; go_split_ands
            (repeat (first | with_reducible exact RdOps.nil | (refine RdOps.run rfl (by rfl) ?_ ?_; (focus (first | (go_simp; done) | (go_simp; with_reducible rfl))); simp only [List.getElem_toArray, List.getElem_cons_zero, List.getElem_cons_succ, Act.put, List.setIfInBounds_toArray, List.set_cons_zero, List.set_cons_succ]) | (refine RdOps.skip rfl (by rfl) ?_ ?_; (focus (with_reducible rfl)); simp only [List.getElem_toArray, List.getElem_cons_zero, List.getElem_cons_succ, Act.put, List.setIfInBounds_toArray, List.set_cons_zero, List.set_cons_succ])))
          simp only [rdMark, rdAct, List.map_cons, List.map_nil, List.length_cons, List.length_nil, Nat.reduceAdd, Nat.reduceSub, Nat.zero_add, List.getElem?_toArray, List.getElem?_cons_zero, List.getElem?_cons_succ, Option.bind_some, Act.put, List.setIfInBounds_toArray, List.set_cons_zero, List.set_cons_succ]
          refine wpL_done (by kernel_rfl) ?_ _
          go_wp2_with fail
          go_roundw
          case rel => exact ⟨j + 1, by omega, by first | go_num | rfl | simp, Lib.hid (alls_take hlt HS.out (HC.out.trans HQ.out)), (H.arr (by (repeat (first | with_reducible exact Arr.nil | refine Arr.cons (by (repeat (first | with_reducible exact Pick.head | with_reducible apply Pick.tail))) ?_)) <;> exact Arr.of_subl (by (repeat (first | with_reducible exact Subl.refl _ | with_reducible apply Subl.drop)))))⟩
          case measure => simp [intOf]; omega
      · have HF : Hid (d.members.all (mbQ ds d.levels d.params.length) = false) := Lib.hid (alls_not hlt (by unfold mbQ; rw [decide_eq_false q]; rfl))
        have q' : decide ((6 : Int) < (d.members[j].index.length : Int)) = true := decide_eq_true (by omega)
        have q2 : decide (6 < d.members[j].index.length) = true := decide_eq_true (by omega)
        clear q
        have hr_ := H.rules; simp only [Rules, and_true] at hr_; have hd_ := H.dif; simp only [Dif, Neq, and_true] at hd_; obtain ⟨ho_, hz_⟩ := H.old0
        go_wp2_with fail
        (try clear hr_ hd_ ho_ hz_)
        refine regionH (by (repeat (first | with_reducible exact H | with_reducible exact H0_ | with_reducible apply Hp.alloc | with_reducible apply Hp.allocMap | with_reducible apply Hp.drew | with_reducible apply Hp.drewN | with_reducible apply Hp.set)); (try any_goals (repeat (first | with_reducible exact Upd.head | with_reducible apply Upd.tail)))) ?_
        clear H; intro w2 H; (try simp only [size_drew_, size_drewN_, World.size_alloc, World.size_setCell, List.set_cons_zero, List.set_cons_succ] at H)
        refine wp_region_H 22 [false, false, false, false, false, false, false, false, false, false, false, false, false, false, false, false, false, false, false, false, false, false] [] H (.cons (i := 0) rfl .nil) (by kernel_rfl) rfl rfl (fun H_ hR_ => ?_)
        (try clear H0_); have H0_ := H; clear H; have H := H_; clear H_
        refine wpL_reads (is := [(0, ?v4_0), (1, ?v4_1), (2, ?v4_2), (3, ?v4_3), (4, ?v4_4), (5, ?v4_5), (6, ?v4_6), (7, ?v4_7), (8, ?v4_8), (9, ?v4_9), (10, ?v4_10), (11, ?v4_11), (12, ?v4_12), (13, ?v4_13), (14, ?v4_14), (15, ?v4_15), (16, ?v4_16), (17, ?v4_17), (18, ?v4_18), (19, ?v4_19), (20, ?v4_20), (21, ?v4_21)]) (by kernel_rfl) (Nat.le_of_ble_eq_true rfl) (by intro _ _ d_ _ _ h_; cases d_ <;> exact h_) (by kernel_rfl) hR_ (fun w_ hw_ => ?h4_) ?_
        case h4_ =>
          have ho_ := hw_.old0.1; have hz_ := hw_.old0.2; have hr_ := hw_.rules; clear hw_; simp only [Rules, and_true] at hr_; go_split_ands
          (repeat (first | with_reducible exact RdOps.nil | (refine RdOps.run rfl (by rfl) ?_ ?_; (focus (first | (go_simp; done) | (go_simp; with_reducible rfl))); simp only [List.getElem_toArray, List.getElem_cons_zero, List.getElem_cons_succ, Act.put, List.setIfInBounds_toArray, List.set_cons_zero, List.set_cons_succ]) | (refine RdOps.skip rfl (by rfl) ?_ ?_; (focus (with_reducible rfl)); simp only [List.getElem_toArray, List.getElem_cons_zero, List.getElem_cons_succ, Act.put, List.setIfInBounds_toArray, List.set_cons_zero, List.set_cons_succ])))
        simp only [rdMark, rdAct, List.map_cons, List.map_nil, List.length_cons, List.length_nil, Nat.reduceAdd, Nat.reduceSub, Nat.zero_add, List.getElem?_toArray, List.getElem?_cons_zero, List.getElem?_cons_succ, Option.bind_some, Act.put, List.setIfInBounds_toArray, List.set_cons_zero, List.set_cons_succ]
        refine wpL_done (by kernel_rfl) ?_ _
        go_wp2_with fail
        go_ret
        exact ⟨by rw [HR.out, HF.out]; rfl, H.ext⟩
    · have e := HS.out
      rw [take_all hlt] at e
      have HM := Lib.hid e
      clear e HS
      have hr_ := H.rules; simp only [Rules, and_true] at hr_; have hd_ := H.dif; simp only [Dif, Neq, and_true] at hd_; obtain ⟨ho_, hz_⟩ := H.old0
      go_wp2_with fail
      (try clear hr_ hd_ ho_ hz_)
      go_loopw [7] (fun i wr => ∃ j : Nat, j ≤ d.ctors.length ∧ i = .int .i64 j ∧ Hid ((d.ctors.take j).all (ctQ ds d.levels d.params.length d.members.length) = true) ∧ Hp no w wr [.box gD 42 (dC d Aty Kty Abody Kbody Aparams Asort Amembers Actors cty kty cbody kbody cparams csort cmembers cctors)]) (fun i _ => d.ctors.length - (intOf i).toNat)
      case atStart => exact ⟨0, Nat.zero_le _, rfl, Lib.hid (by simp), (H.arr (by (repeat (first | with_reducible exact Arr.nil | refine Arr.cons (by (repeat (first | with_reducible exact Pick.head | with_reducible apply Pick.tail))) ?_)) <;> exact Arr.of_subl (by (repeat (first | with_reducible exact Subl.refl _ | with_reducible apply Subl.drop)))))⟩
      case round =>
        clear H
        obtain ⟨j, hj, rfl, HS, H⟩ := hrel
        by_cases hlt : j < d.ctors.length
        · obtain ⟨b, o, A1, ca1, K1, ck1, rfl, hb1, hS, hdc, p0, p1, p2, p3, p4, p5⟩ := r6.atCt hlt
          have HTY : Hid (RC w S1 d.ctors[j].ty.d [.int .i64 d.ctors[j].ty.k, .int .i64 d.ctors[j].ty.n, .int .i64 d.ctors[j].ty.a, .slice A1 d.ctors[j].ty.ls.length ca1, .slice K1 d.ctors[j].ty.ks.length ck1]) := by
            obtain ⟨A2, ca2, K2, ck2, he, _, h2⟩ := RC.ct.1 hdc
            simp only [List.cons.injEq, Value.slice.injEq, and_true, true_and] at he
            obtain ⟨⟨rfl, rfl⟩, rfl, rfl⟩ := he
            exact Lib.hid h2
          clear hdc
          by_cases q : 0 ≤ d.ctors[j].member ∧ d.ctors[j].member < d.members.length
          · have q1 : ¬ d.ctors[j].member < 0 := by omega
            have q2 : ¬ (d.members.length : Int) ≤ d.ctors[j].member := by omega
            have HC : Hid (ctQ ds d.levels d.params.length d.members.length d.ctors[j] = srcQ ds d.levels (d.params.length : Int) (d.members.length : Int) d.ctors[j].ty) := by
              unfold Hid ctQ
              rw [decide_eq_true q.1, decide_eq_true q.2]
              rfl
            clear q
            have hr_ := H.rules; simp only [Rules, and_true] at hr_; have hd_ := H.dif; simp only [Dif, Neq, and_true] at hd_; obtain ⟨ho_, hz_⟩ := H.old0
            go_wp2_with ((with_reducible refine atStore (t := 70) ?_); go_must (refine wpList_storeH (t := 70) rfl rfl (by go_simp <;> first | rfl | exact ⟨rfl, rfl⟩) (by go_simp <;> first | rfl | exact ⟨rfl, rfl⟩) (by exact Hp.norm (by (repeat (first | with_reducible exact H | with_reducible exact H0_ | with_reducible apply Hp.alloc | with_reducible apply Hp.allocMap | with_reducible apply Hp.drew | with_reducible apply Hp.drewN | with_reducible apply Hp.set)); (try any_goals (repeat (first | with_reducible exact Upd.head | with_reducible apply Upd.tail)))) (by ((try simp only [size_drew_, size_drewN_, World.size_alloc, World.size_setCell, List.set_cons_zero, List.set_cons_succ, List.nil_append, List.cons_append]) <;> rfl))) (by (repeat (first | with_reducible exact Upd.head | with_reducible apply Upd.tail))) (by exact aggCtor) (by rfl) (by simp [Value.oneCell']) ?_; clear H; intro w7 H; (try simp only [size_drew_, size_drewN_, World.size_alloc, World.size_setCell, List.set_cons_zero, List.set_cons_succ] at H); (try clear hr_ hd_ ho_ hz_); have hr_ := H.rules; simp only [Rules, and_true] at hr_; have hd_ := H.dif; simp only [Dif, Neq, and_true] at hd_; obtain ⟨ho_, hz_⟩ := H.old0))
            (try clear hr_ hd_ ho_ hz_)
            refine callsH (by (repeat (first | with_reducible exact H | with_reducible exact H0_ | with_reducible apply Hp.alloc | with_reducible apply Hp.allocMap | with_reducible apply Hp.drew | with_reducible apply Hp.drewN | with_reducible apply Hp.set)); (try any_goals (repeat (first | with_reducible exact Upd.head | with_reducible apply Upd.tail)))) ?_
            clear H; intro w9 H; (try simp only [size_drew_, size_drewN_, World.size_alloc, World.size_setCell, List.set_cons_zero, List.set_cons_succ] at H)
            refine (ref11Right_calls (t := d.ctors[j].ty) (HH.out.ext0 H.ext) rfl ⟨_, _, _, _, rfl, HTY.out.ext0 H.ext⟩).mono ?_
            rintro e w_ ⟨rfl, hx⟩
            replace H := H.call hx
            clear hx
            cases hq : srcQ ds d.levels (d.params.length : Int) (d.members.length : Int) d.ctors[j].ty
            · have HF : Hid (d.ctors.all (ctQ ds d.levels d.params.length d.members.length) = false) := Lib.hid (alls_not hlt (HC.out.trans hq))
              have HQ := Lib.hid hq
              clear hq
              go_wp2_with fail
              go_ret
              exact ⟨by rw [HR.out, HM.out, HF.out]; rfl, H.ext⟩
            · have HQ := Lib.hid hq
              clear hq
              go_wp2_with fail
              go_roundw
              case rel => exact ⟨j + 1, by omega, by first | go_num | rfl | simp, Lib.hid (alls_take hlt HS.out (HC.out.trans HQ.out)), (H.arr (by (repeat (first | with_reducible exact Arr.nil | refine Arr.cons (by (repeat (first | with_reducible exact Pick.head | with_reducible apply Pick.tail))) ?_)) <;> exact Arr.of_subl (by (repeat (first | with_reducible exact Subl.refl _ | with_reducible apply Subl.drop)))))⟩
              case measure => simp [intOf]; omega
          · have HF : Hid (d.ctors.all (ctQ ds d.levels d.params.length d.members.length) = false) := Lib.hid (alls_not hlt (by
              unfold ctQ
              rw [show (decide (0 ≤ d.ctors[j].member) && decide (d.ctors[j].member < d.members.length)) = false from by
                rw [Bool.eq_false_iff]
                intro h
                simp only [Bool.and_eq_true, decide_eq_true_eq] at h
                exact q h]
              rfl))
            by_cases q1 : d.ctors[j].member < 0
            · clear q
              have hr_ := H.rules; simp only [Rules, and_true] at hr_; have hd_ := H.dif; simp only [Dif, Neq, and_true] at hd_; obtain ⟨ho_, hz_⟩ := H.old0
              go_wp2_with ((with_reducible refine atStore (t := 70) ?_); go_must (refine wpList_storeH (t := 70) rfl rfl (by go_simp <;> first | rfl | exact ⟨rfl, rfl⟩) (by go_simp <;> first | rfl | exact ⟨rfl, rfl⟩) (by exact Hp.norm (by (repeat (first | with_reducible exact H | with_reducible exact H0_ | with_reducible apply Hp.alloc | with_reducible apply Hp.allocMap | with_reducible apply Hp.drew | with_reducible apply Hp.drewN | with_reducible apply Hp.set)); (try any_goals (repeat (first | with_reducible exact Upd.head | with_reducible apply Upd.tail)))) (by ((try simp only [size_drew_, size_drewN_, World.size_alloc, World.size_setCell, List.set_cons_zero, List.set_cons_succ, List.nil_append, List.cons_append]) <;> rfl))) (by (repeat (first | with_reducible exact Upd.head | with_reducible apply Upd.tail))) (by exact aggCtor) (by rfl) (by simp [Value.oneCell']) ?_; clear H; intro w7 H; (try simp only [size_drew_, size_drewN_, World.size_alloc, World.size_setCell, List.set_cons_zero, List.set_cons_succ] at H); (try clear hr_ hd_ ho_ hz_); have hr_ := H.rules; simp only [Rules, and_true] at hr_; have hd_ := H.dif; simp only [Dif, Neq, and_true] at hd_; obtain ⟨ho_, hz_⟩ := H.old0))
              (try clear hr_ hd_ ho_ hz_)
              go_ret
              exact ⟨by rw [HR.out, HM.out, HF.out]; rfl, H.ext⟩
            · have q2 : (d.members.length : Int) ≤ d.ctors[j].member := by omega
              clear q
              have hr_ := H.rules; simp only [Rules, and_true] at hr_; have hd_ := H.dif; simp only [Dif, Neq, and_true] at hd_; obtain ⟨ho_, hz_⟩ := H.old0
              go_wp2_with ((with_reducible refine atStore (t := 70) ?_); go_must (refine wpList_storeH (t := 70) rfl rfl (by go_simp <;> first | rfl | exact ⟨rfl, rfl⟩) (by go_simp <;> first | rfl | exact ⟨rfl, rfl⟩) (by exact Hp.norm (by (repeat (first | with_reducible exact H | with_reducible exact H0_ | with_reducible apply Hp.alloc | with_reducible apply Hp.allocMap | with_reducible apply Hp.drew | with_reducible apply Hp.drewN | with_reducible apply Hp.set)); (try any_goals (repeat (first | with_reducible exact Upd.head | with_reducible apply Upd.tail)))) (by ((try simp only [size_drew_, size_drewN_, World.size_alloc, World.size_setCell, List.set_cons_zero, List.set_cons_succ, List.nil_append, List.cons_append]) <;> rfl))) (by (repeat (first | with_reducible exact Upd.head | with_reducible apply Upd.tail))) (by exact aggCtor) (by rfl) (by simp [Value.oneCell']) ?_; clear H; intro w7 H; (try simp only [size_drew_, size_drewN_, World.size_alloc, World.size_setCell, List.set_cons_zero, List.set_cons_succ] at H); (try clear hr_ hd_ ho_ hz_); have hr_ := H.rules; simp only [Rules, and_true] at hr_; have hd_ := H.dif; simp only [Dif, Neq, and_true] at hd_; obtain ⟨ho_, hz_⟩ := H.old0))
              (try clear hr_ hd_ ho_ hz_)
              go_ret
              exact ⟨by rw [HR.out, HM.out, HF.out]; rfl, H.ext⟩
        · have e := HS.out
          rw [take_all hlt] at e
          have HC2 := Lib.hid e
          clear e HS
          have hr_ := H.rules; simp only [Rules, and_true] at hr_; have hd_ := H.dif; simp only [Dif, Neq, and_true] at hd_; obtain ⟨ho_, hz_⟩ := H.old0
          go_wp2_with fail
          (try clear hr_ hd_ ho_ hz_)
          refine (ref11bare_calls (t := d.ty) ⟨_, _, _, _, rfl, R1.out.ext0 H.ext⟩).mono ?_
          rintro e w_ ⟨rfl, hx⟩
          replace H := H.call hx
          clear hx
          cases hq : bareQ d.ty
          · have HQ := Lib.hid hq
            clear hq
            go_wp2_with fail
            go_ret
            exact ⟨by rw [HR.out, HM.out, HC2.out, HQ.out]; rfl, H.ext⟩
          · have HQ := Lib.hid hq
            clear hq
            have hr_ := H.rules; simp only [Rules, and_true] at hr_; have hd_ := H.dif; simp only [Dif, Neq, and_true] at hd_; obtain ⟨ho_, hz_⟩ := H.old0
            go_wp2_with fail
            (try clear hr_ hd_ ho_ hz_)
            refine (ref11bare_calls (t := d.body) ⟨_, _, _, _, rfl, R2.out.ext0 H.ext⟩).mono ?_
            rintro e w_ ⟨rfl, hx⟩
            replace H := H.call hx
            clear hx
            obtain ⟨q, hq⟩ : ∃ q, q = bareQ d.body := ⟨_, rfl⟩
            rw [← hq]
            have HQ2 := Lib.hid hq
            clear hq
            go_wp2_with fail
            go_ret
            exact ⟨by rw [HR.out, HM.out, HC2.out, HQ.out, ← HQ2.out]; rfl, H.ext⟩
end Go.Proofs.YteelplgdojjakaaDoor
