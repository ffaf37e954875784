/- SourceRows: its members. No statement of the seat is proved here. -/
import Derived.Test.YtgbokmphbimihaaDoorRows1
namespace Go.Proofs.YtgbokmphbimihaaDoor
set_option linter.unusedSimpArgs false
set_option linter.unusedVariables false
open Go.RowKit

set_option maxRecDepth 100000 in
set_option maxHeartbeats 8000000 in
/-- From the loop over members on. -/
theorem rowsB {w W : World} {S S1 : Nat → Prop} {ds : List Dc} {d : Dc} {A : Option Addr} {c g3 : Nat} {Aty Kty Abody Kbody Aparams Asort Amembers Actors : Option Addr} {cty kty cbody kbody cparams csort cmembers cctors : Nat} {x1 x2 x4 x5 x6 x7 x8 x9 x10 x11 x12 x13 x14 x15 x16 x17 x18 x19 x20 x21 x22 x23 x24 x25 x26 x27 x28 x29 x30 x31 x32 x33 x34 x35 x36 x37 x38 x39 x40 x41 x42 x43 x44 x45 x46 x47 x48 x49 x50 x51 x52 x53 x54 x55 x56 x57 x58 x59 x60 x61 x62 x63 x64 x65 x66 x67 x68 x69 x70 x71 x72 x73 x74 x75 x76 x77 x78 x79 x80 x81 x82 x83 x84 x85 x86 x87 x88 x89 x90 x91 x92 x93 x94 x95 x96 x97 x98 x99 x100 x101 x102 x103 x104 x105 x106 x107 x108 x109 x110 x111 x112 x113 x114 : Value} (hT : Tab W) (hx : Ext no w W) (h : RC W S (.l 37 16 (ds.map Dc.d)) [.slice A ds.length c]) (hd : RC W S1 d.d [.int .i64 d.kind, .int .i64 d.levels, .int .i64 d.ty.k, .int .i64 d.ty.n, .int .i64 d.ty.a, .slice Aty d.ty.ls.length cty, .slice Kty d.ty.ks.length kty, .int .i64 d.body.k, .int .i64 d.body.n, .int .i64 d.body.a, .slice Abody d.body.ls.length cbody, .slice Kbody d.body.ks.length kbody, .slice Aparams d.params.length cparams, .slice Asort d.sort.length csort, .slice Amembers d.members.length cmembers, .slice Actors d.ctors.length cctors])
    (hb : Blk W g3 37 [.int .i64 d.kind, .int .i64 d.levels, .int .i64 d.ty.k, .int .i64 d.ty.n, .int .i64 d.ty.a, .slice Aty d.ty.ls.length cty, .slice Kty d.ty.ks.length kty, .int .i64 d.body.k, .int .i64 d.body.n, .int .i64 d.body.a, .slice Abody d.body.ls.length cbody, .slice Kbody d.body.ks.length kbody, .slice Aparams d.params.length cparams, .slice Asort d.sort.length csort, .slice Amembers d.members.length cmembers, .slice Actors d.ctors.length cctors].toArray) (hq : declQ ds d = true) (hk : d.kind = 3) :
    (fromF 8 (Tryd.f6.body.getD .skip)).wp Tryd.prog (bodyPost Tryd.prog Tryd.f6 (PV w (.bool true))) { tmps := #[.slice A ds.length c, x1, x2, .pointer (some ⟨g3, 0, none⟩), x4, x5, x6, x7, x8, x9, x10, x11, x12, x13, x14, x15, x16, x17, x18, x19, x20, x21, x22, x23, x24, x25, x26, x27, x28, x29, x30, x31, x32, x33, x34, x35, x36, x37, x38, x39, x40, x41, x42, x43, x44, x45, x46, x47, x48, x49, x50, x51, x52, x53, x54, x55, x56, x57, x58, x59, x60, x61, x62, x63, x64, x65, x66, x67, x68, x69, x70, x71, x72, x73, x74, x75, x76, x77, x78, x79, x80, x81, x82, x83, x84, x85, x86, x87, x88, x89, x90, x91, x92, x93, x94, x95, x96, x97, x98, x99, x100, x101, x102, x103, x104, x105, x106, x107, x108, x109, x110, x111, x112, x113, x114], defers := [] } W := by
  have HD := Lib.hid hd
  have HQ := Lib.hid hq
  have HK := Lib.hid hk
  have HB := Lib.hid hb
  obtain ⟨_, _, _, _, _, _, _, _, _, _, _, _, _, _, _, _, he, _, _, r1, r2, hpa, hso, hmb, hct⟩ := RC.dc.1 hd
  simp only [List.cons.injEq, Value.slice.injEq, and_true, true_and] at he
  obtain ⟨⟨rfl, rfl⟩, ⟨rfl, rfl⟩, ⟨rfl, rfl⟩, ⟨rfl, rfl⟩, ⟨rfl, rfl⟩, ⟨rfl, rfl⟩, ⟨rfl, rfl⟩, rfl, rfl⟩ := he
  have HT := Lib.hid hT
  have HX := Lib.hid hx
  have HH := Lib.hid h
  have HPA := Lib.hid hpa
  have HSO := Lib.hid hso
  have HLW := Lib.hid (fun m hm => rows_member hq hk (m := m) hm)
  have hM2 := hmb.lenM
  have c1 : W.cell? ⟨g3, 1, none⟩ = some (.int .i64 d.levels) := hb.cells 1
  have c12 : W.cell? ⟨g3, 12, none⟩ = some (.slice Aparams d.params.length cparams) := hb.cells 12
  have c13 : W.cell? ⟨g3, 13, none⟩ = some (.slice Asort d.sort.length csort) := hb.cells 13
  have c14 : W.cell? ⟨g3, 14, none⟩ = some (.slice Amembers d.members.length cmembers) := hb.cells 14
  have lb := hb.lt
  clear hT hx h hd hb r1 r2 hpa hso hct hq hk
  conv => arg 2; whnf
  go_wp2_with fail
  go_loopw [6] (fun i wr => ∃ j : Nat, j ≤ d.members.length ∧ i = .int .i64 j ∧ Ext no W wr) (fun i _ => d.members.length - (intOf i).toNat)
  case atStart => exact ⟨0, Nat.zero_le _, rfl, Ext.refl _ _⟩
  case round =>
    obtain ⟨j, hj, rfl, H1⟩ := hrel
    have q1 := H1.keep c1
    have q12 := H1.keep c12
    have q13 := H1.keep c13
    have q14 := H1.keep c14
    have lbw : g3 < wr.heap.size := Nat.lt_of_lt_of_le lb H1.size
    by_cases hlt : j < d.members.length
    · obtain ⟨b, o, A1, a1, hA, hb, hS, hcd, p0⟩ := hmb.atMb hlt
      subst hA
      have HLAW := Lib.hid (show srcQ ds d.levels 0 0 (aboveT 4 d.params (aboveT 4 d.members[j].index (sortTm d.sort))) = rightQ (aboveT 4 d.params (aboveT 4 d.members[j].index (sortTm d.sort))) from HLW.out _ (List.getElem_mem hlt))
      obtain ⟨_, _, he, hix⟩ := RC.mb.1 hcd
      simp only [List.cons.injEq, Value.slice.injEq, and_true, true_and] at he
      obtain ⟨rfl, rfl⟩ := he
      have HIX := Lib.hid hix
      have HXW := Lib.hid H1
      replace p0 := H1.keep p0
      have hbw : b < wr.heap.size := Nat.lt_of_lt_of_le hb H1.size
      clear hcd hix hb hS H1
      generalize d.members[j] = mb at p0 HIX HLAW
      go_wp2_with fail
      have H9 := Hp.start no wr
      refine wp_region_H 15 [false, false, false, false, false, false, false, false, false, false, false, false, false, false, false] [] H9 .nil (by kernel_rfl) rfl rfl (fun H9_ hR_ => ?_)
      (try clear H0_); have H0_ := H9; clear H9; have H9 := H9_; clear H9_
      refine wpL_reads (is := [(0, ?v1_0), (1, ?v1_1), (2, ?v1_2), (3, ?v1_3), (4, ?v1_4), (5, ?v1_5), (6, ?v1_6), (7, ?v1_7), (8, ?v1_8), (9, ?v1_9)]) (by kernel_rfl) (Nat.le_of_ble_eq_true rfl) (by intro _ _ d_ _ _ h_; cases d_ <;> exact h_) (by kernel_rfl) hR_ (fun w_ hw_ => ?h1_) ?_
      case h1_ =>
        have ho_ := hw_.old0.1; have hz_ := hw_.old0.2; have hr_ := hw_.rules; clear hw_; simp only [Rules, and_true] at hr_; go_split_ands
        (repeat (first | with_reducible exact RdOps.nil | (refine RdOps.run rfl (by rfl) ?_ ?_; (focus (first | (go_simp; done) | (go_simp; with_reducible rfl))); simp only [List.getElem_toArray, List.getElem_cons_zero, List.getElem_cons_succ, Act.put, List.setIfInBounds_toArray, List.set_cons_zero, List.set_cons_succ]) | (refine RdOps.skip rfl (by rfl) ?_ ?_; (focus (with_reducible rfl)); simp only [List.getElem_toArray, List.getElem_cons_zero, List.getElem_cons_succ, Act.put, List.setIfInBounds_toArray, List.set_cons_zero, List.set_cons_succ])))
      simp only [rdMark, rdAct, List.map_cons, List.map_nil, List.length_cons, List.length_nil, Nat.reduceAdd, Nat.reduceSub, Nat.zero_add, List.getElem?_toArray, List.getElem?_cons_zero, List.getElem?_cons_succ, Option.bind_some, Act.put, List.setIfInBounds_toArray, List.set_cons_zero, List.set_cons_succ]
      refine wpL_many (is := [10, 13]) (by kernel_rfl) (by simp) ?_
      simp only [List.forall_mem_cons]
      refine ⟨?_, ?_, fun _ h => by cases h⟩
      · refine wpOp_do (i := 10) rfl (by rfl) (fun K_ hK_ => ?_)
        go_simp
        refine (teleSort (l := d.sort) (HSO.out.ext0 (HXW.out.seq H9.ext))).mono ?_
        rintro e w_ ⟨v, rfl, hto, hx⟩
        obtain ⟨E1, Ec, E2, Ek, rfl, H_⟩ := H9.resTm hx hto
        clear H9 hx hto
        have H9 := H_
        clear H_
        refine hK_ _ _ (fun _ => H9.sub (by simp)) (fun hR_ => ?_)
        replace hR_ := hR_ (by decide)
        refine wpL_many (is := [11, 13]) (by kernel_rfl) (by simp) ?_
        simp only [List.forall_mem_cons]
        refine ⟨?_, ?_, fun _ h => by cases h⟩
        · refine wpOp_do (i := 11) rfl (by rfl) (fun K_ hK_ => ?_)
          go_simp
          refine (pis_calls (ts := mb.index) (b := sortTm d.sort) (HT.out.ext (HXW.out.seq H9.ext)) (HIX.out.ext0 (HXW.out.seq H9.ext)) rfl ⟨_, _, _, _, rfl, H9.rd (by (repeat (first | with_reducible exact Pick.head | with_reducible apply Pick.tail)))⟩).mono ?_
          rintro e w_ ⟨v, rfl, hto, hx⟩
          obtain ⟨F1, Fc, F2, Fk, rfl, H_⟩ := H9.resTm hx hto
          clear H9 hx hto
          have H9 := H_
          clear H_
          refine hK_ _ _ (fun _ => H9.sub (by simp)) (fun hR_ => ?_)
          replace hR_ := hR_ (by decide)
          refine wpL_many (is := [12, 13]) (by kernel_rfl) (by simp) ?_
          simp only [List.forall_mem_cons]
          refine ⟨?_, ?_, fun _ h => by cases h⟩
          · refine wpOp_do (i := 12) rfl (by rfl) (fun K_ hK_ => ?_)
            go_simp
            refine (pis_calls (ts := d.params) (b := aboveT 4 mb.index (sortTm d.sort)) (HT.out.ext (HXW.out.seq H9.ext)) (HPA.out.ext0 (HXW.out.seq H9.ext)) rfl ⟨_, _, _, _, rfl, H9.rd (by (repeat (first | with_reducible exact Pick.head | with_reducible apply Pick.tail)))⟩).mono ?_
            rintro e w_ ⟨v, rfl, hto, hx⟩
            obtain ⟨G1, Gc, G2, Gk, rfl, H_⟩ := H9.resTm hx hto
            clear H9 hx hto
            have H9 := H_
            clear H_
            refine hK_ _ _ (fun _ => H9.sub (by simp)) (fun hR_ => ?_)
            replace hR_ := hR_ (by decide)
            refine wpL_do (i := 13) rfl (by kernel_rfl) (by rfl) (fun K_ hK_ => ?_)
            go_simp
            refine kontH (by (repeat (first | with_reducible exact H9 | with_reducible exact H0_ | with_reducible apply Hp.alloc | with_reducible apply Hp.allocMap | with_reducible apply Hp.drew | with_reducible apply Hp.drewN | with_reducible apply Hp.set)); (try any_goals (repeat (first | with_reducible exact Upd.head | with_reducible apply Upd.tail)))) ?_
            clear H9; intro wb_ H9; (try simp only [size_drew_, size_drewN_, World.size_alloc, World.size_setCell, List.set_cons_zero, List.set_cons_succ] at H9)
            refine hK_ _ _ (fun _ => H9.sub (by simp)) (fun hR_ => ?_)
            replace hR_ := hR_ (by decide)
            refine wpL_do (i := 14) rfl (by kernel_rfl) (by rfl) (fun K_ hK_ => ?_)
            refine wp_storeH rfl (by go_simp <;> first | rfl | exact ⟨rfl, rfl⟩) (by go_simp <;> first | rfl | exact ⟨rfl, rfl⟩) H9 (by (repeat (first | with_reducible exact Upd.head | with_reducible apply Upd.tail))) (by exact aggTerm) (by rfl) (by simp [Value.oneCell']) (fun w12 H_ => ?_)
            clear H9; have H9 := H_; clear H_
            refine hK_ _ _ (fun _ => H9.sub (by simp)) (fun hR_ => ?_)
            replace hR_ := hR_ (by decide)
            refine wpL_done (by kernel_rfl) ?_ _
            have hr_ := H9.rules; simp only [Rules, and_true] at hr_; have hd_ := H9.dif; simp only [Dif, Neq, and_true] at hd_; obtain ⟨ho_, hz_⟩ := H9.old0
            go_wp2_with fail
            (try clear hr_ hd_ ho_ hz_)
            refine callsH (by (repeat (first | with_reducible exact H9 | with_reducible exact H0_ | with_reducible apply Hp.alloc | with_reducible apply Hp.allocMap | with_reducible apply Hp.drew | with_reducible apply Hp.drewN | with_reducible apply Hp.set)); (try any_goals (repeat (first | with_reducible exact Upd.head | with_reducible apply Upd.tail)))) ?_
            clear H9; intro w13 H9; (try simp only [size_drew_, size_drewN_, World.size_alloc, World.size_setCell, List.set_cons_zero, List.set_cons_succ] at H9)
            obtain ⟨z, hz⟩ : ∃ z, z = rightQ (aboveT 4 d.params (aboveT 4 mb.index (sortTm d.sort))) := ⟨_, rfl⟩
            have hcall := srcRight_calls (n := d.levels) (sc := 0) (sf := 0) (t := aboveT 4 d.params (aboveT 4 mb.index (sortTm d.sort))) (HT.out.ext (HXW.out.seq H9.ext)) (HH.out.ext0 (HXW.out.seq H9.ext)) rfl ⟨_, _, _, _, rfl, H9.rd (by (repeat (first | with_reducible exact Pick.head | with_reducible apply Pick.tail)))⟩
            rw [HLAW.out, ← hz] at hcall
            have HZ := Lib.hid hz
            clear hz
            refine (hcall).mono ?_
            rintro e w_ ⟨rfl, hx⟩
            replace H9 := H9.call hx
            clear hx
            clear hcall
            cases z
            · have hr_ := H9.rules; simp only [Rules, and_true] at hr_; have hd_ := H9.dif; simp only [Dif, Neq, and_true] at hd_; obtain ⟨ho_, hz_⟩ := H9.old0
              go_wp2_with fail
              (try clear hr_ hd_ ho_ hz_)
              refine callsH (by (repeat (first | with_reducible exact H9 | with_reducible exact H0_ | with_reducible apply Hp.alloc | with_reducible apply Hp.allocMap | with_reducible apply Hp.drew | with_reducible apply Hp.drewN | with_reducible apply Hp.set)); (try any_goals (repeat (first | with_reducible exact Upd.head | with_reducible apply Upd.tail)))) ?_
              clear H9; intro w15 H9; (try simp only [size_drew_, size_drewN_, World.size_alloc, World.size_setCell, List.set_cons_zero, List.set_cons_succ] at H9)
              have hcall := tmRight_calls (t := aboveT 4 d.params (aboveT 4 mb.index (sortTm d.sort))) (HT.out.ext (HXW.out.seq H9.ext)) ⟨_, _, _, _, rfl, H9.rd (by (repeat (first | with_reducible exact Pick.head | with_reducible apply Pick.tail)))⟩
              rw [← HZ.out] at hcall
              refine (hcall).mono ?_
              rintro e w_ ⟨rfl, hx⟩
              replace H9 := H9.call hx
              clear hx
              clear hcall
              have HE := Lib.hid (HXW.out.seq H9.ext)
              clear H9 p0 HXW q1 q12 q13 q14
              go_wp2_with fail
              go_roundw
              case rel => first | exact ⟨j + 1, by omega, by first | go_num | rfl | simp, HE.out⟩ | ((repeat apply Exists.intro); refine ⟨⟨j + 1, by omega, by first | go_num | rfl | simp, HE.out⟩, ?_⟩; rfl)
              case measure => simp [intOf]; omega
            · have HE := Lib.hid (HXW.out.seq H9.ext)
              clear H9 p0 HXW q1 q12 q13 q14
              go_wp2_with fail
              go_roundw
              case rel => first | exact ⟨j + 1, by omega, by first | go_num | rfl | simp, HE.out⟩ | ((repeat apply Exists.intro); refine ⟨⟨j + 1, by omega, by first | go_num | rfl | simp, HE.out⟩, ?_⟩; rfl)
              case measure => simp [intOf]; omega
          · refine wpOp_do (i := 13) rfl (by rfl) (fun K_ hK_ => ?_)
            go_simp
            refine kontH (by (repeat (first | with_reducible exact H9 | with_reducible exact H0_ | with_reducible apply Hp.alloc | with_reducible apply Hp.allocMap | with_reducible apply Hp.drew | with_reducible apply Hp.drewN | with_reducible apply Hp.set)); (try any_goals (repeat (first | with_reducible exact Upd.head | with_reducible apply Upd.tail)))) ?_
            clear H9; intro wb_ H9; (try simp only [size_drew_, size_drewN_, World.size_alloc, World.size_setCell, List.set_cons_zero, List.set_cons_succ] at H9)
            refine hK_ _ _ (fun _ => H9.sub (by simp)) (fun hR_ => ?_)
            replace hR_ := hR_ (by decide)
            refine wpL_do (i := 12) rfl (by kernel_rfl) (by rfl) (fun K_ hK_ => ?_)
            go_simp
            refine (pis_calls (ts := d.params) (b := aboveT 4 mb.index (sortTm d.sort)) (HT.out.ext (HXW.out.seq H9.ext)) (HPA.out.ext0 (HXW.out.seq H9.ext)) rfl ⟨_, _, _, _, rfl, H9.rd (by (repeat (first | with_reducible exact Pick.head | with_reducible apply Pick.tail)))⟩).mono ?_
            rintro e w_ ⟨v, rfl, hto, hx⟩
            obtain ⟨G1, Gc, G2, Gk, rfl, H_⟩ := H9.resTm hx hto
            clear H9 hx hto
            have H9 := H_
            clear H_
            refine hK_ _ _ (fun _ => H9.sub (by simp)) (fun hR_ => ?_)
            replace hR_ := hR_ (by decide)
            refine wpL_do (i := 14) rfl (by kernel_rfl) (by rfl) (fun K_ hK_ => ?_)
            refine wp_storeH rfl (by go_simp <;> first | rfl | exact ⟨rfl, rfl⟩) (by go_simp <;> first | rfl | exact ⟨rfl, rfl⟩) H9 (by (repeat (first | with_reducible exact Upd.head | with_reducible apply Upd.tail))) (by exact aggTerm) (by rfl) (by simp [Value.oneCell']) (fun w12 H_ => ?_)
            clear H9; have H9 := H_; clear H_
            refine hK_ _ _ (fun _ => H9.sub (by simp)) (fun hR_ => ?_)
            replace hR_ := hR_ (by decide)
            refine wpL_done (by kernel_rfl) ?_ _
            have hr_ := H9.rules; simp only [Rules, and_true] at hr_; have hd_ := H9.dif; simp only [Dif, Neq, and_true] at hd_; obtain ⟨ho_, hz_⟩ := H9.old0
            go_wp2_with fail
            (try clear hr_ hd_ ho_ hz_)
            refine callsH (by (repeat (first | with_reducible exact H9 | with_reducible exact H0_ | with_reducible apply Hp.alloc | with_reducible apply Hp.allocMap | with_reducible apply Hp.drew | with_reducible apply Hp.drewN | with_reducible apply Hp.set)); (try any_goals (repeat (first | with_reducible exact Upd.head | with_reducible apply Upd.tail)))) ?_
            clear H9; intro w13 H9; (try simp only [size_drew_, size_drewN_, World.size_alloc, World.size_setCell, List.set_cons_zero, List.set_cons_succ] at H9)
            obtain ⟨z, hz⟩ : ∃ z, z = rightQ (aboveT 4 d.params (aboveT 4 mb.index (sortTm d.sort))) := ⟨_, rfl⟩
            have hcall := srcRight_calls (n := d.levels) (sc := 0) (sf := 0) (t := aboveT 4 d.params (aboveT 4 mb.index (sortTm d.sort))) (HT.out.ext (HXW.out.seq H9.ext)) (HH.out.ext0 (HXW.out.seq H9.ext)) rfl ⟨_, _, _, _, rfl, H9.rd (by (repeat (first | with_reducible exact Pick.head | with_reducible apply Pick.tail)))⟩
            rw [HLAW.out, ← hz] at hcall
            have HZ := Lib.hid hz
            clear hz
            refine (hcall).mono ?_
            rintro e w_ ⟨rfl, hx⟩
            replace H9 := H9.call hx
            clear hx
            clear hcall
            cases z
            · have hr_ := H9.rules; simp only [Rules, and_true] at hr_; have hd_ := H9.dif; simp only [Dif, Neq, and_true] at hd_; obtain ⟨ho_, hz_⟩ := H9.old0
              go_wp2_with fail
              (try clear hr_ hd_ ho_ hz_)
              refine callsH (by (repeat (first | with_reducible exact H9 | with_reducible exact H0_ | with_reducible apply Hp.alloc | with_reducible apply Hp.allocMap | with_reducible apply Hp.drew | with_reducible apply Hp.drewN | with_reducible apply Hp.set)); (try any_goals (repeat (first | with_reducible exact Upd.head | with_reducible apply Upd.tail)))) ?_
              clear H9; intro w15 H9; (try simp only [size_drew_, size_drewN_, World.size_alloc, World.size_setCell, List.set_cons_zero, List.set_cons_succ] at H9)
              have hcall := tmRight_calls (t := aboveT 4 d.params (aboveT 4 mb.index (sortTm d.sort))) (HT.out.ext (HXW.out.seq H9.ext)) ⟨_, _, _, _, rfl, H9.rd (by (repeat (first | with_reducible exact Pick.head | with_reducible apply Pick.tail)))⟩
              rw [← HZ.out] at hcall
              refine (hcall).mono ?_
              rintro e w_ ⟨rfl, hx⟩
              replace H9 := H9.call hx
              clear hx
              clear hcall
              have HE := Lib.hid (HXW.out.seq H9.ext)
              clear H9 p0 HXW q1 q12 q13 q14
              go_wp2_with fail
              go_roundw
              case rel => first | exact ⟨j + 1, by omega, by first | go_num | rfl | simp, HE.out⟩ | ((repeat apply Exists.intro); refine ⟨⟨j + 1, by omega, by first | go_num | rfl | simp, HE.out⟩, ?_⟩; rfl)
              case measure => simp [intOf]; omega
            · have HE := Lib.hid (HXW.out.seq H9.ext)
              clear H9 p0 HXW q1 q12 q13 q14
              go_wp2_with fail
              go_roundw
              case rel => first | exact ⟨j + 1, by omega, by first | go_num | rfl | simp, HE.out⟩ | ((repeat apply Exists.intro); refine ⟨⟨j + 1, by omega, by first | go_num | rfl | simp, HE.out⟩, ?_⟩; rfl)
              case measure => simp [intOf]; omega
        · refine wpOp_do (i := 13) rfl (by rfl) (fun K_ hK_ => ?_)
          go_simp
          refine kontH (by (repeat (first | with_reducible exact H9 | with_reducible exact H0_ | with_reducible apply Hp.alloc | with_reducible apply Hp.allocMap | with_reducible apply Hp.drew | with_reducible apply Hp.drewN | with_reducible apply Hp.set)); (try any_goals (repeat (first | with_reducible exact Upd.head | with_reducible apply Upd.tail)))) ?_
          clear H9; intro wb_ H9; (try simp only [size_drew_, size_drewN_, World.size_alloc, World.size_setCell, List.set_cons_zero, List.set_cons_succ] at H9)
          refine hK_ _ _ (fun _ => H9.sub (by simp)) (fun hR_ => ?_)
          replace hR_ := hR_ (by decide)
          refine wpL_do (i := 11) rfl (by kernel_rfl) (by rfl) (fun K_ hK_ => ?_)
          go_simp
          refine (pis_calls (ts := mb.index) (b := sortTm d.sort) (HT.out.ext (HXW.out.seq H9.ext)) (HIX.out.ext0 (HXW.out.seq H9.ext)) rfl ⟨_, _, _, _, rfl, H9.rd (by (repeat (first | with_reducible exact Pick.head | with_reducible apply Pick.tail)))⟩).mono ?_
          rintro e w_ ⟨v, rfl, hto, hx⟩
          obtain ⟨F1, Fc, F2, Fk, rfl, H_⟩ := H9.resTm hx hto
          clear H9 hx hto
          have H9 := H_
          clear H_
          refine hK_ _ _ (fun _ => H9.sub (by simp)) (fun hR_ => ?_)
          replace hR_ := hR_ (by decide)
          refine wpL_do (i := 12) rfl (by kernel_rfl) (by rfl) (fun K_ hK_ => ?_)
          go_simp
          refine (pis_calls (ts := d.params) (b := aboveT 4 mb.index (sortTm d.sort)) (HT.out.ext (HXW.out.seq H9.ext)) (HPA.out.ext0 (HXW.out.seq H9.ext)) rfl ⟨_, _, _, _, rfl, H9.rd (by (repeat (first | with_reducible exact Pick.head | with_reducible apply Pick.tail)))⟩).mono ?_
          rintro e w_ ⟨v, rfl, hto, hx⟩
          obtain ⟨G1, Gc, G2, Gk, rfl, H_⟩ := H9.resTm hx hto
          clear H9 hx hto
          have H9 := H_
          clear H_
          refine hK_ _ _ (fun _ => H9.sub (by simp)) (fun hR_ => ?_)
          replace hR_ := hR_ (by decide)
          refine wpL_do (i := 14) rfl (by kernel_rfl) (by rfl) (fun K_ hK_ => ?_)
          refine wp_storeH rfl (by go_simp <;> first | rfl | exact ⟨rfl, rfl⟩) (by go_simp <;> first | rfl | exact ⟨rfl, rfl⟩) H9 (by (repeat (first | with_reducible exact Upd.head | with_reducible apply Upd.tail))) (by exact aggTerm) (by rfl) (by simp [Value.oneCell']) (fun w12 H_ => ?_)
          clear H9; have H9 := H_; clear H_
          refine hK_ _ _ (fun _ => H9.sub (by simp)) (fun hR_ => ?_)
          replace hR_ := hR_ (by decide)
          refine wpL_done (by kernel_rfl) ?_ _
          have hr_ := H9.rules; simp only [Rules, and_true] at hr_; have hd_ := H9.dif; simp only [Dif, Neq, and_true] at hd_; obtain ⟨ho_, hz_⟩ := H9.old0
          go_wp2_with fail
          (try clear hr_ hd_ ho_ hz_)
          refine callsH (by (repeat (first | with_reducible exact H9 | with_reducible exact H0_ | with_reducible apply Hp.alloc | with_reducible apply Hp.allocMap | with_reducible apply Hp.drew | with_reducible apply Hp.drewN | with_reducible apply Hp.set)); (try any_goals (repeat (first | with_reducible exact Upd.head | with_reducible apply Upd.tail)))) ?_
          clear H9; intro w13 H9; (try simp only [size_drew_, size_drewN_, World.size_alloc, World.size_setCell, List.set_cons_zero, List.set_cons_succ] at H9)
          obtain ⟨z, hz⟩ : ∃ z, z = rightQ (aboveT 4 d.params (aboveT 4 mb.index (sortTm d.sort))) := ⟨_, rfl⟩
          have hcall := srcRight_calls (n := d.levels) (sc := 0) (sf := 0) (t := aboveT 4 d.params (aboveT 4 mb.index (sortTm d.sort))) (HT.out.ext (HXW.out.seq H9.ext)) (HH.out.ext0 (HXW.out.seq H9.ext)) rfl ⟨_, _, _, _, rfl, H9.rd (by (repeat (first | with_reducible exact Pick.head | with_reducible apply Pick.tail)))⟩
          rw [HLAW.out, ← hz] at hcall
          have HZ := Lib.hid hz
          clear hz
          refine (hcall).mono ?_
          rintro e w_ ⟨rfl, hx⟩
          replace H9 := H9.call hx
          clear hx
          clear hcall
          cases z
          · have hr_ := H9.rules; simp only [Rules, and_true] at hr_; have hd_ := H9.dif; simp only [Dif, Neq, and_true] at hd_; obtain ⟨ho_, hz_⟩ := H9.old0
            go_wp2_with fail
            (try clear hr_ hd_ ho_ hz_)
            refine callsH (by (repeat (first | with_reducible exact H9 | with_reducible exact H0_ | with_reducible apply Hp.alloc | with_reducible apply Hp.allocMap | with_reducible apply Hp.drew | with_reducible apply Hp.drewN | with_reducible apply Hp.set)); (try any_goals (repeat (first | with_reducible exact Upd.head | with_reducible apply Upd.tail)))) ?_
            clear H9; intro w15 H9; (try simp only [size_drew_, size_drewN_, World.size_alloc, World.size_setCell, List.set_cons_zero, List.set_cons_succ] at H9)
            have hcall := tmRight_calls (t := aboveT 4 d.params (aboveT 4 mb.index (sortTm d.sort))) (HT.out.ext (HXW.out.seq H9.ext)) ⟨_, _, _, _, rfl, H9.rd (by (repeat (first | with_reducible exact Pick.head | with_reducible apply Pick.tail)))⟩
            rw [← HZ.out] at hcall
            refine (hcall).mono ?_
            rintro e w_ ⟨rfl, hx⟩
            replace H9 := H9.call hx
            clear hx
            clear hcall
            have HE := Lib.hid (HXW.out.seq H9.ext)
            clear H9 p0 HXW q1 q12 q13 q14
            go_wp2_with fail
            go_roundw
            case rel => first | exact ⟨j + 1, by omega, by first | go_num | rfl | simp, HE.out⟩ | ((repeat apply Exists.intro); refine ⟨⟨j + 1, by omega, by first | go_num | rfl | simp, HE.out⟩, ?_⟩; rfl)
            case measure => simp [intOf]; omega
          · have HE := Lib.hid (HXW.out.seq H9.ext)
            clear H9 p0 HXW q1 q12 q13 q14
            go_wp2_with fail
            go_roundw
            case rel => first | exact ⟨j + 1, by omega, by first | go_num | rfl | simp, HE.out⟩ | ((repeat apply Exists.intro); refine ⟨⟨j + 1, by omega, by first | go_num | rfl | simp, HE.out⟩, ?_⟩; rfl)
            case measure => simp [intOf]; omega
      · refine wpOp_do (i := 13) rfl (by rfl) (fun K_ hK_ => ?_)
        go_simp
        refine kontH (by (repeat (first | with_reducible exact H9 | with_reducible exact H0_ | with_reducible apply Hp.alloc | with_reducible apply Hp.allocMap | with_reducible apply Hp.drew | with_reducible apply Hp.drewN | with_reducible apply Hp.set)); (try any_goals (repeat (first | with_reducible exact Upd.head | with_reducible apply Upd.tail)))) ?_
        clear H9; intro wb_ H9; (try simp only [size_drew_, size_drewN_, World.size_alloc, World.size_setCell, List.set_cons_zero, List.set_cons_succ] at H9)
        refine hK_ _ _ (fun _ => H9.sub (by simp)) (fun hR_ => ?_)
        replace hR_ := hR_ (by decide)
        refine wpL_do (i := 10) rfl (by kernel_rfl) (by rfl) (fun K_ hK_ => ?_)
        go_simp
        refine (teleSort (l := d.sort) (HSO.out.ext0 (HXW.out.seq H9.ext))).mono ?_
        rintro e w_ ⟨v, rfl, hto, hx⟩
        obtain ⟨E1, Ec, E2, Ek, rfl, H_⟩ := H9.resTm hx hto
        clear H9 hx hto
        have H9 := H_
        clear H_
        refine hK_ _ _ (fun _ => H9.sub (by simp)) (fun hR_ => ?_)
        replace hR_ := hR_ (by decide)
        refine wpL_do (i := 11) rfl (by kernel_rfl) (by rfl) (fun K_ hK_ => ?_)
        go_simp
        refine (pis_calls (ts := mb.index) (b := sortTm d.sort) (HT.out.ext (HXW.out.seq H9.ext)) (HIX.out.ext0 (HXW.out.seq H9.ext)) rfl ⟨_, _, _, _, rfl, H9.rd (by (repeat (first | with_reducible exact Pick.head | with_reducible apply Pick.tail)))⟩).mono ?_
        rintro e w_ ⟨v, rfl, hto, hx⟩
        obtain ⟨F1, Fc, F2, Fk, rfl, H_⟩ := H9.resTm hx hto
        clear H9 hx hto
        have H9 := H_
        clear H_
        refine hK_ _ _ (fun _ => H9.sub (by simp)) (fun hR_ => ?_)
        replace hR_ := hR_ (by decide)
        refine wpL_do (i := 12) rfl (by kernel_rfl) (by rfl) (fun K_ hK_ => ?_)
        go_simp
        refine (pis_calls (ts := d.params) (b := aboveT 4 mb.index (sortTm d.sort)) (HT.out.ext (HXW.out.seq H9.ext)) (HPA.out.ext0 (HXW.out.seq H9.ext)) rfl ⟨_, _, _, _, rfl, H9.rd (by (repeat (first | with_reducible exact Pick.head | with_reducible apply Pick.tail)))⟩).mono ?_
        rintro e w_ ⟨v, rfl, hto, hx⟩
        obtain ⟨G1, Gc, G2, Gk, rfl, H_⟩ := H9.resTm hx hto
        clear H9 hx hto
        have H9 := H_
        clear H_
        refine hK_ _ _ (fun _ => H9.sub (by simp)) (fun hR_ => ?_)
        replace hR_ := hR_ (by decide)
        refine wpL_do (i := 14) rfl (by kernel_rfl) (by rfl) (fun K_ hK_ => ?_)
        refine wp_storeH rfl (by go_simp <;> first | rfl | exact ⟨rfl, rfl⟩) (by go_simp <;> first | rfl | exact ⟨rfl, rfl⟩) H9 (by (repeat (first | with_reducible exact Upd.head | with_reducible apply Upd.tail))) (by exact aggTerm) (by rfl) (by simp [Value.oneCell']) (fun w12 H_ => ?_)
        clear H9; have H9 := H_; clear H_
        refine hK_ _ _ (fun _ => H9.sub (by simp)) (fun hR_ => ?_)
        replace hR_ := hR_ (by decide)
        refine wpL_done (by kernel_rfl) ?_ _
        have hr_ := H9.rules; simp only [Rules, and_true] at hr_; have hd_ := H9.dif; simp only [Dif, Neq, and_true] at hd_; obtain ⟨ho_, hz_⟩ := H9.old0
        go_wp2_with fail
        (try clear hr_ hd_ ho_ hz_)
        refine callsH (by (repeat (first | with_reducible exact H9 | with_reducible exact H0_ | with_reducible apply Hp.alloc | with_reducible apply Hp.allocMap | with_reducible apply Hp.drew | with_reducible apply Hp.drewN | with_reducible apply Hp.set)); (try any_goals (repeat (first | with_reducible exact Upd.head | with_reducible apply Upd.tail)))) ?_
        clear H9; intro w13 H9; (try simp only [size_drew_, size_drewN_, World.size_alloc, World.size_setCell, List.set_cons_zero, List.set_cons_succ] at H9)
        obtain ⟨z, hz⟩ : ∃ z, z = rightQ (aboveT 4 d.params (aboveT 4 mb.index (sortTm d.sort))) := ⟨_, rfl⟩
        have hcall := srcRight_calls (n := d.levels) (sc := 0) (sf := 0) (t := aboveT 4 d.params (aboveT 4 mb.index (sortTm d.sort))) (HT.out.ext (HXW.out.seq H9.ext)) (HH.out.ext0 (HXW.out.seq H9.ext)) rfl ⟨_, _, _, _, rfl, H9.rd (by (repeat (first | with_reducible exact Pick.head | with_reducible apply Pick.tail)))⟩
        rw [HLAW.out, ← hz] at hcall
        have HZ := Lib.hid hz
        clear hz
        refine (hcall).mono ?_
        rintro e w_ ⟨rfl, hx⟩
        replace H9 := H9.call hx
        clear hx
        clear hcall
        cases z
        · have hr_ := H9.rules; simp only [Rules, and_true] at hr_; have hd_ := H9.dif; simp only [Dif, Neq, and_true] at hd_; obtain ⟨ho_, hz_⟩ := H9.old0
          go_wp2_with fail
          (try clear hr_ hd_ ho_ hz_)
          refine callsH (by (repeat (first | with_reducible exact H9 | with_reducible exact H0_ | with_reducible apply Hp.alloc | with_reducible apply Hp.allocMap | with_reducible apply Hp.drew | with_reducible apply Hp.drewN | with_reducible apply Hp.set)); (try any_goals (repeat (first | with_reducible exact Upd.head | with_reducible apply Upd.tail)))) ?_
          clear H9; intro w15 H9; (try simp only [size_drew_, size_drewN_, World.size_alloc, World.size_setCell, List.set_cons_zero, List.set_cons_succ] at H9)
          have hcall := tmRight_calls (t := aboveT 4 d.params (aboveT 4 mb.index (sortTm d.sort))) (HT.out.ext (HXW.out.seq H9.ext)) ⟨_, _, _, _, rfl, H9.rd (by (repeat (first | with_reducible exact Pick.head | with_reducible apply Pick.tail)))⟩
          rw [← HZ.out] at hcall
          refine (hcall).mono ?_
          rintro e w_ ⟨rfl, hx⟩
          replace H9 := H9.call hx
          clear hx
          clear hcall
          have HE := Lib.hid (HXW.out.seq H9.ext)
          clear H9 p0 HXW q1 q12 q13 q14
          go_wp2_with fail
          go_roundw
          case rel => first | exact ⟨j + 1, by omega, by first | go_num | rfl | simp, HE.out⟩ | ((repeat apply Exists.intro); refine ⟨⟨j + 1, by omega, by first | go_num | rfl | simp, HE.out⟩, ?_⟩; rfl)
          case measure => simp [intOf]; omega
        · have HE := Lib.hid (HXW.out.seq H9.ext)
          clear H9 p0 HXW q1 q12 q13 q14
          go_wp2_with fail
          go_roundw
          case rel => first | exact ⟨j + 1, by omega, by first | go_num | rfl | simp, HE.out⟩ | ((repeat apply Exists.intro); refine ⟨⟨j + 1, by omega, by first | go_num | rfl | simp, HE.out⟩, ?_⟩; rfl)
          case measure => simp [intOf]; omega
    · repeat ((fail_if_success (with_reducible (first | show Code.wp _ (Code.seq (Code.region 14 _ _) _) _ _ _ | show Code.wp _ (Code.seq (Code.seq (Code.region 14 _ _) _) _) _ _ _))); go_step)
      exact rowsC (HT.out.ext H1) (HX.out.seq H1) (HH.out.ext0 H1) (HD.out.ext0 H1) (HB.out.ext0 H1) HQ.out HK.out
end Go.Proofs.YtgbokmphbimihaaDoor
