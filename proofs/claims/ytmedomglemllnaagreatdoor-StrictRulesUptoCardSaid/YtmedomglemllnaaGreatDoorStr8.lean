/- strict: what a block's members and constructors tell of a param: contract. No statement of the seat is proved here. -/
import Derived.Test.YtmedomglemllnaaGreatDoorStr7
namespace Go.Proofs.YtmedomglemllnaaGreatDoor
set_option linter.unusedSimpArgs false
set_option linter.unusedVariables false
open Go.RowKit

theorem aggMbS : AggT Tryz.prog 73 1 := ⟨_, Tryz.underlying73, rfl, by kernel_rfl⟩
theorem aggCtS : AggT Tryz.prog 148 6 := ⟨_, Tryz.underlying148, rfl, by kernel_rfl⟩
theorem all_dropS {α : Type} {p : α → Bool} {xs : List α} {j : Nat} (h : j < xs.length) : (xs.drop j).all p = (p xs[j] && (xs.drop (j + 1)).all p) := by
  rw [List.drop_eq_getElem_cons h, List.all_cons]
theorem Blk.cells5 {w : World} {g t : Nat} {a b c d e : Value} (h : Blk w g t [a, b, c, d, e].toArray) : Cells w [(⟨g, 0, none⟩, a), (⟨g, 1, none⟩, b), (⟨g, 2, none⟩, c), (⟨g, 3, none⟩, d), (⟨g, 4, none⟩, e)] :=
  ⟨h.cells 0, h.cells 1, h.cells 2, h.cells 3, h.cells 4, trivial⟩
set_option maxRecDepth 100000 in
set_option maxHeartbeats 16000000 in
theorem param1_calls {w : World} {g num c gd gb : Nat} {ds : List Dc} {d : Dc} {A0 : Option Addr} {es : List (Ky × Bool)} {v : Int} {fs fi : Value} {S1 : Nat → Prop} {Aty Kty Abody Kbody Aparams Asort Amembers Actors : Option Addr} {cty kty cbody kbody cparams csort cmembers cctors : Nat} (IHs : ∀ F, StrictAt ds num F) (ha : Ask w g ds num A0 c es (some v) fs fi) (hd : RC w S1 d.d [.int .i64 d.kind, .int .i64 d.levels, .int .i64 d.ty.k, .int .i64 d.ty.n, .int .i64 d.ty.a, .slice Aty d.ty.ls.length cty, .slice Kty d.ty.ks.length kty, .int .i64 d.body.k, .int .i64 d.body.n, .int .i64 d.body.a, .slice Abody d.body.ls.length cbody, .slice Kbody d.body.ks.length kbody, .slice Aparams d.params.length cparams, .slice Asort d.sort.length csort, .slice Amembers d.members.length cmembers, .slice Actors d.ctors.length cctors]) (hS1 : ¬ S1 g) (sm : SmDc d)
    (hc : Cells w [(⟨gd, 14, none⟩, .slice Amembers d.members.length cmembers), (⟨gd, 15, none⟩, .slice Actors d.ctors.length cctors), (⟨gb, 0, none⟩, fs), (⟨gb, 1, none⟩, fi), (⟨gb, 2, none⟩, .slice A0 num c), (⟨gb, 3, none⟩, .map (some g))]) :
    Calls Tryz.prog 212 #[.pointer (some ⟨gd, 0, none⟩), .pointer (some ⟨gb, 0, none⟩)] w (PLo w g ds num es ((d.members.all fun m => freeRow (some v) 0 m.index) && d.ctors.all (ctorP (ds.take num) (parT ds num) v))) := by
  obtain ⟨F1, x1, y1, rfl⟩ := ha.st.fn
  obtain ⟨F2, x2, y2, rfl⟩ := ha.is.fn
  obtain ⟨_, _, _, _, _, _, _, _, _, _, _, _, _, _, _, _, he, _, _, r1, r2, hpa, hso, hmb, hct⟩ := RC.dc.1 hd
  simp only [List.cons.injEq, Value.slice.injEq, and_true, true_and] at he
  obtain ⟨⟨rfl, rfl⟩, ⟨rfl, rfl⟩, ⟨rfl, rfl⟩, ⟨rfl, rfl⟩, ⟨rfl, rfl⟩, ⟨rfl, rfl⟩, ⟨rfl, rfl⟩, rfl, rfl⟩ := he
  have HA := Lib.hid ha
  have HMB := Lib.hid hmb
  have HCT := Lib.hid hct
  have HC := Lib.hid hc
  have hM := hmb.lenM
  have hM2 := hct.lenM
  have HSMD := Lib.hid sm
  obtain ⟨q, hq⟩ : ∃ q, q = ((d.members.all fun m => freeRow (some v) 0 m.index) && d.ctors.all (ctorP (ds.take num) (parT ds num) v)) := ⟨_, rfl⟩
  rw [← hq]
  have HQ := Lib.hid hq
  simp only [Cells_cons, Cells_nil, and_true] at hc
  obtain ⟨q0, q1, q2, q3, q4, q5⟩ := hc
  have m0 := cell_lt q0
  have m2 := cell_lt q2
  clear ha hd r1 r2 hpa hso hmb hct sm hq
  go_enter Tryz.func212, Tryz.ntmps212
  go_wp2_with fail
  go_loopw [14] (fun i wr => ∃ j : Nat, j ≤ d.members.length ∧ i = .int .i64 j ∧ Hid ((d.members.drop j).all (fun m => freeRow (some v) 0 m.index) = d.members.all fun m => freeRow (some v) 0 m.index) ∧ Ext no w wr) (fun i _ => d.members.length - (intOf i).toNat)
  case atStart => exact ⟨0, Nat.zero_le _, rfl, Lib.hid (by simp), Ext.refl _ _⟩
  case round =>
    clear q0 q1 q2 q3 q4 q5 m0 m2
    obtain ⟨j, hj, rfl, HS, hx⟩ := hrel
    have HX := Lib.hid hx
    have hc := HC.out.keep hx
    simp only [Cells_cons, Cells_nil, and_true] at hc
    obtain ⟨q0, q1, q2, q3, q4, q5⟩ := hc
    have m0 := cell_lt q0
    have m2 := cell_lt q2
    clear hx
    by_cases hlt : j < d.members.length
    · obtain ⟨b, o, A1, a1, hA_, hb_, hS_, hcd, p0⟩ := (HMB.out.ext0 HX.out).atMb hlt
      subst hA_
      have hsmm := HSMD.out.mb _ (List.getElem_mem hlt)
      have HE := Lib.hid (all_dropS (p := fun m : Mb => freeRow (some v) 0 m.index) hlt)
      obtain ⟨_, _, he, hix⟩ := RC.mb.1 hcd
      simp only [List.cons.injEq, Value.slice.injEq, and_true, true_and] at he
      obtain ⟨rfl, rfl⟩ := he
      generalize d.members[j] = mb at p0 hix hsmm HE
      obtain ⟨hl8, hs8⟩ := hsmm
      have hM3 := hix.lenM
      have HIX := Lib.hid hix
      have HSI := Lib.hid hs8
      clear hcd hix hS_ hs8
      obtain ⟨wm, hwm⟩ : ∃ wm, wm = wr := ⟨_, rfl⟩
      subst hwm
      have H := Hp.start no wm
      have hr_ := H.rules; simp only [Rules, and_true] at hr_; have hd_ := H.dif; simp only [Dif, Neq, and_true] at hd_; obtain ⟨ho_, hz_⟩ := H.old0
      go_wp2_with ((with_reducible refine atStore (t := 73) ?_); go_must (refine wpList_storeH (t := 73) rfl rfl (by go_simp <;> first | rfl | exact ⟨rfl, rfl⟩) (by go_simp <;> first | rfl | exact ⟨rfl, rfl⟩) (by exact Hp.norm (by (repeat (first | with_reducible exact H | with_reducible exact H0_ | with_reducible apply Hp.alloc | with_reducible apply Hp.allocMap | with_reducible apply Hp.drew | with_reducible apply Hp.drewN | with_reducible apply Hp.set)); (try any_goals (repeat (first | with_reducible exact Upd.head | with_reducible apply Upd.tail)))) (by ((try simp only [size_drew_, size_drewN_, World.size_alloc, World.size_setCell, List.set_cons_zero, List.set_cons_succ, List.nil_append, List.cons_append]) <;> rfl))) (by (repeat (first | with_reducible exact Upd.head | with_reducible apply Upd.tail))) (by exact aggMbS) (by rfl) (by simp [Value.oneCell']) ?_; clear H; intro w7 H; (try simp only [size_drew_, size_drewN_, World.size_alloc, World.size_setCell, List.set_cons_zero, List.set_cons_succ] at H); (try clear hr_ hd_ ho_ hz_); have hr_ := H.rules; simp only [Rules, and_true] at hr_; have hd_ := H.dif; simp only [Dif, Neq, and_true] at hd_; obtain ⟨ho_, hz_⟩ := H.old0))
      (try clear hr_ hd_ ho_ hz_)
      refine codeH (by (repeat (first | with_reducible exact H | with_reducible exact H0_ | with_reducible apply Hp.alloc | with_reducible apply Hp.allocMap | with_reducible apply Hp.drew | with_reducible apply Hp.drewN | with_reducible apply Hp.set)); (try any_goals (repeat (first | with_reducible exact Upd.head | with_reducible apply Upd.tail)))) ?_
      clear H; intro w8 H; (try simp only [size_drew_, size_drewN_, World.size_alloc, World.size_setCell, List.set_cons_zero, List.set_cons_succ] at H)
      have HY := Lib.hid H.ext
      clear H q0 q1 q2 q3 q4 q5 m0 m2 p0 hb_
      go_loopw [21] (fun i wr => ∃ k : Nat, k ≤ mb.index.length ∧ i = .int .i64 k ∧ Hid (freeRow (some v) k (mb.index.drop k) = freeRow (some v) 0 mb.index) ∧ Ext no wm wr) (fun i _ => mb.index.length - (intOf i).toNat)
      case atStart => exact ⟨0, Nat.zero_le _, rfl, Lib.hid (by simp), HY.out⟩
      case round =>
        obtain ⟨k, hk, rfl, HT, hx⟩ := hrel
        have HX2 := Lib.hid (HX.out.seq hx)
        have hc := HC.out.keep HX2.out
        simp only [Cells_cons, Cells_nil, and_true] at hc
        obtain ⟨q0, q1, q2, q3, q4, q5⟩ := hc
        have m0 := cell_lt q0
        have m2 := cell_lt q2
        by_cases hlk : k < mb.index.length
        · have hAr : ∃ b_ o, A1 = some ⟨b_, o, none⟩ := by
            obtain ⟨b_, o, _, _, _, _, h, _⟩ := HIX.out.atTm hlk
            exact ⟨b_, o, h⟩
          obtain ⟨b_, o, rfl⟩ := hAr
          obtain ⟨b2_, o2, B1, ca1, L1, ck1, hA_, hb, hS_, hd, p0, p1, p2, p3, p4⟩ := (HIX.out.ext0 hx).atTm hlk
          simp only [Option.some.injEq, Addr.mk.injEq, and_true] at hA_
          obtain ⟨rfl, rfl⟩ := hA_
          have HD := Lib.hid hd
          have HE2 := Lib.hid (freeRow_drop (v := some v) hlk)
          have HZJ := Lib.hid (HSI.out _ (List.getElem_mem hlk))
          have HXW := Lib.hid hx
          clear hd hS_ hx
          have H := Hp.start no wr
          have hr_ := H.rules; simp only [Rules, and_true] at hr_; have hd_ := H.dif; simp only [Dif, Neq, and_true] at hd_; obtain ⟨ho_, hz_⟩ := H.old0
          go_wp2_with ((with_reducible refine atStore (t := 26) ?_); go_must (refine wpList_storeH (t := 26) rfl rfl (by go_simp <;> first | rfl | exact ⟨rfl, rfl⟩) (by go_simp <;> first | rfl | exact ⟨rfl, rfl⟩) (by exact Hp.norm (by (repeat (first | with_reducible exact H | with_reducible exact H0_ | with_reducible apply Hp.alloc | with_reducible apply Hp.allocMap | with_reducible apply Hp.drew | with_reducible apply Hp.drewN | with_reducible apply Hp.set)); (try any_goals (repeat (first | with_reducible exact Upd.head | with_reducible apply Upd.tail)))) (by ((try simp only [size_drew_, size_drewN_, World.size_alloc, World.size_setCell, List.set_cons_zero, List.set_cons_succ, List.nil_append, List.cons_append]) <;> rfl))) (by (repeat (first | with_reducible exact Upd.head | with_reducible apply Upd.tail))) (by exact aggTerm) (by rfl) (by simp [Value.oneCell']) ?_; clear H; intro w7 H; (try simp only [size_drew_, size_drewN_, World.size_alloc, World.size_setCell, List.set_cons_zero, List.set_cons_succ] at H); (try clear hr_ hd_ ho_ hz_); have hr_ := H.rules; simp only [Rules, and_true] at hr_; have hd_ := H.dif; simp only [Dif, Neq, and_true] at hd_; obtain ⟨ho_, hz_⟩ := H.old0))
          (try clear hr_ hd_ ho_ hz_)
          refine callsH (by (repeat (first | with_reducible exact H | with_reducible exact H0_ | with_reducible apply Hp.alloc | with_reducible apply Hp.allocMap | with_reducible apply Hp.drew | with_reducible apply Hp.drewN | with_reducible apply Hp.set)); (try any_goals (repeat (first | with_reducible exact Upd.head | with_reducible apply Upd.tail)))) ?_
          clear H; intro w9 H; (try simp only [size_drew_, size_drewN_, World.size_alloc, World.size_setCell, List.set_cons_zero, List.set_cons_succ] at H)
          obtain ⟨S', hone⟩ := H.oneRdS (t := mb.index[k]) .head HD.out
          obtain ⟨z, hz⟩ : ∃ z, z = standsM (upM (some v) k) mb.index[k] := ⟨_, rfl⟩
          have hcall := mfree_calls (below := (k : Int)) (fi := .func F2 x2 y2) (HA.out.ext (HX2.out.seq H.ext)).tab (HA.out.ext (HX2.out.seq H.ext)).st hone (by intro t ht; obtain rfl := List.mem_singleton.1 ht; exact HZJ.out) (by omega) (by omega)
          rw [show ([mb.index[k]].all fun t => !standsM (upM (some v) (k : Int)) t) = !z by rw [hz]; simp] at hcall
          have HZ := Lib.hid hz
          clear hz hone
          refine hcall.mono ?_
          clear hcall
          rintro e w11 hm
          have hx := hm.2
          replace H := H.call hx
          clear hx
          cases z
          · obtain rfl := hm.yes rfl
            clear hm
            go_wp2_with fail
            go_roundw
            case rel => exact ⟨k + 1, by omega, by first | go_num | rfl | simp, Lib.hid (by rw [← HT.out, HE2.out, ← HZ.out]; rfl), HXW.out.seq H.ext⟩
            case measure => simp [intOf]; omega
          · obtain rfl := hm.no rfl
            clear hm
            go_wp2_with fail
            refine ⟨rfl, ?_, (Kn.start HA.out.mp).ext (HX2.out.seq H.ext)⟩
            rw [HQ.out, ← HS.out, HE.out, ← HT.out, HE2.out, ← HZ.out]
            rfl
        · go_wp2_with fail
          go_roundw
          case rel =>
            have hf : freeRow (some v) 0 mb.index = true := by
              rw [← HT.out, List.drop_eq_nil_of_le (by omega)]
              rfl
            refine ⟨j + 1, by omega, by first | go_num | rfl | simp, Lib.hid ?_, HX.out.seq hx⟩
            rw [← HS.out, HE.out, hf, Bool.true_and]
          case measure => simp [intOf]; omega
    · have hq2 : q = d.ctors.all (ctorP (ds.take num) (parT ds num) v) := by
        rw [HQ.out, ← HS.out, List.drop_eq_nil_of_le (by omega)]
        rfl
      have HQ2 := Lib.hid hq2
      obtain ⟨wm, hwm⟩ : ∃ wm, wm = wr := ⟨_, rfl⟩
      subst hwm
      have HA2 := Lib.hid (HA.out.ext HX.out)
      have HC2 := Lib.hid (HC.out.keep HX.out)
      have HCT2 := Lib.hid (HCT.out.ext0 HX.out)
      clear hq2
      go_wp2_with fail
      go_loopw [37] (fun i wr => ∃ j : Nat, j ≤ d.ctors.length ∧ i = .int .i64 j ∧ Hid ((d.ctors.drop j).all (ctorP (ds.take num) (parT ds num) v) = q) ∧ Hid (Kn wm g ds num es wr)) (fun i _ => d.ctors.length - (intOf i).toNat)
      case atStart => exact ⟨0, Nat.zero_le _, rfl, Lib.hid (by rw [HQ2.out]; rfl), Lib.hid (Kn.start HA2.out.mp)⟩
      case round =>
        clear q0 q1 q2 q3 q4 q5 m0 m2
        obtain ⟨j2, hj2, rfl, HS2, HKN⟩ := hrel
        obtain ⟨ex, hx, hm, hr⟩ := HKN.out
        have HAK := Lib.hid (HA2.out.turn hx hm hr HA2.out.hn)
        have HX1 := Lib.hid hx
        have HR := Lib.hid hr
        have hc := HC2.out.turn hx HA2.out.mp
        simp only [Cells_cons, Cells_nil, and_true] at hc
        obtain ⟨q0, q1, q2, q3, q4, q5⟩ := hc
        have m0 := cell_lt q0
        have m2 := cell_lt q2
        clear hx hm hr
        by_cases hlt2 : j2 < d.ctors.length
        · have hct2 := HCT2.out.turn HX1.out hS1
          obtain ⟨b, o, A1, a1, K1, k1, hA_, hb_, hS_, hcd, p0, p1, p2, p3, p4, p5⟩ := hct2.atCt hlt2
          subst hA_
          have hsm := HSMD.out.ct _ (List.getElem_mem hlt2)
          have HE := Lib.hid (all_dropS (p := ctorP (ds.take num) (parT ds num) v) hlt2)
          obtain ⟨_, _, _, _, he, _, hty⟩ := RC.ct.1 hcd
          simp only [List.cons.injEq, Value.slice.injEq, and_true, true_and] at he
          obtain ⟨⟨rfl, rfl⟩, rfl, rfl⟩ := he
          clear hct2 hcd hS_
          generalize d.ctors[j2] = ct at p0 p1 p2 p3 p4 p5 hty hsm HE
          have HTY := Lib.hid hty
          have HSM := Lib.hid hsm
          obtain ⟨N, hN⟩ : ∃ N, N = countT ct.ty := ⟨_, rfl⟩
          have hct9 : N ≤ 4000000 := by rw [hN]; exact Nat.le_trans (countT_size ct.ty) hsm
          have hct8 : countT ct.ty ≤ 4000000 := by rw [← hN]; exact hct9
          have ho : openN (N : Int) ct.ty = some (openAll ct.ty) := by
            unfold openN
            rw [if_neg (by omega), Int.toNat_natCast, hN]
            exact openAll_eq ct.ty
          have HO := Lib.hid ho
          have HN := Lib.hid hN
          clear ho hN hty hsm
          have H := Hp.start no wr
          have hr_ := H.rules; simp only [Rules, and_true] at hr_; have hd_ := H.dif; simp only [Dif, Neq, and_true] at hd_; obtain ⟨ho_, hz_⟩ := H.old0
          go_wp2_with ((with_reducible refine atStore (t := 148) ?_); go_must (refine wpList_storeH (t := 148) rfl rfl (by go_simp <;> first | rfl | exact ⟨rfl, rfl⟩) (by go_simp <;> first | rfl | exact ⟨rfl, rfl⟩) (by exact Hp.norm (by (repeat (first | with_reducible exact H | with_reducible exact H0_ | with_reducible apply Hp.alloc | with_reducible apply Hp.allocMap | with_reducible apply Hp.drew | with_reducible apply Hp.drewN | with_reducible apply Hp.set)); (try any_goals (repeat (first | with_reducible exact Upd.head | with_reducible apply Upd.tail)))) (by ((try simp only [size_drew_, size_drewN_, World.size_alloc, World.size_setCell, List.set_cons_zero, List.set_cons_succ, List.nil_append, List.cons_append]) <;> rfl))) (by (repeat (first | with_reducible exact Upd.head | with_reducible apply Upd.tail))) (by exact aggCtS) (by rfl) (by simp [Value.oneCell']) ?_; clear H; intro w7 H; (try simp only [size_drew_, size_drewN_, World.size_alloc, World.size_setCell, List.set_cons_zero, List.set_cons_succ] at H); (try clear hr_ hd_ ho_ hz_); have hr_ := H.rules; simp only [Rules, and_true] at hr_; have hd_ := H.dif; simp only [Dif, Neq, and_true] at hd_; obtain ⟨ho_, hz_⟩ := H.old0))
          (try clear hr_ hd_ ho_ hz_)
          refine regionH (by (repeat (first | with_reducible exact H | with_reducible exact H0_ | with_reducible apply Hp.alloc | with_reducible apply Hp.allocMap | with_reducible apply Hp.drew | with_reducible apply Hp.drewN | with_reducible apply Hp.set)); (try any_goals (repeat (first | with_reducible exact Upd.head | with_reducible apply Upd.tail)))) ?_
          clear H; intro w8 H; (try simp only [size_drew_, size_drewN_, World.size_alloc, World.size_setCell, List.set_cons_zero, List.set_cons_succ] at H)
          refine wp_region_H 14 [false, false, false, false, false, false, false, false, false, false, false, false, false, false] [] H (.cons (i := 0) rfl .nil) (by kernel_rfl) rfl rfl (fun H_ hR_ => ?_)
          (try clear H0_); have H0_ := H; clear H; have H := H_; clear H_
          refine wpL_reads (is := [(0, ?v1_0), (1, ?v1_1), (2, ?v1_2), (3, ?v1_3)]) (by kernel_rfl) (Nat.le_of_ble_eq_true rfl) (by intro _ _ d_ _ _ h_; cases d_ <;> exact h_) (by kernel_rfl) hR_ (fun w_ hw_ => ?h1_) ?_
          case h1_ =>
            have ho_ := hw_.old0.1; have hz_ := hw_.old0.2; have hr_ := hw_.rules; clear hw_; simp only [Rules, and_true] at hr_; go_split_ands
            (repeat (first | with_reducible exact RdOps.nil | (refine RdOps.run rfl (by rfl) ?_ ?_; (focus (first | (go_simp; done) | (go_simp; with_reducible rfl))); simp only [List.getElem_toArray, List.getElem_cons_zero, List.getElem_cons_succ, Act.put, List.setIfInBounds_toArray, List.set_cons_zero, List.set_cons_succ]) | (refine RdOps.skip rfl (by rfl) ?_ ?_; (focus (with_reducible rfl)); simp only [List.getElem_toArray, List.getElem_cons_zero, List.getElem_cons_succ, Act.put, List.setIfInBounds_toArray, List.set_cons_zero, List.set_cons_succ])))
          simp only [rdMark, rdAct, List.map_cons, List.map_nil, List.length_cons, List.length_nil, Nat.reduceAdd, Nat.reduceSub, Nat.zero_add, List.getElem?_toArray, List.getElem?_cons_zero, List.getElem?_cons_succ, Option.bind_some, Act.put, List.setIfInBounds_toArray, List.set_cons_zero, List.set_cons_succ]
          refine wpL_many (is := [4, 10]) (by kernel_rfl) (by simp) ?_
          simp only [List.forall_mem_cons]
          refine ⟨?_, ?_, fun _ h => by cases h⟩
          · refine wpOp_do (i := 4) rfl (by rfl) (fun K_ hK_ => ?_)
            go_simp
            have hcall := teleCount (t := ct.ty) ⟨_, _, _, _, rfl, HTY.out.ext0 H.ext⟩ (by omega)
            rw [← HN.out] at hcall
            refine (hcall).mono ?_
            rintro e w_ ⟨rfl, hx⟩
            replace H := H.call hx
            clear hx
            clear hcall
            refine hK_ _ _ (fun _ => H.sub (by simp)) (fun hR_ => ?_)
            replace hR_ := hR_ (by decide)
            refine wpL_many (is := [5, 10]) (by kernel_rfl) (by simp) ?_
            simp only [List.forall_mem_cons]
            refine ⟨?_, ?_, fun _ h => by cases h⟩
            · refine wpOp_do (i := 5) rfl (by rfl) (fun K_ hK_ => ?_)
              go_simp
              refine (teleOpen (t := ct.ty) (HAK.out.ext H.ext).tab ⟨_, _, _, _, rfl, HTY.out.ext0 H.ext⟩ (N : Int) (.inr (by omega)) (by unfold inI; omega)).mono ?_
              rintro e w_ ⟨A2, c2, B2, cb2, K2, kb2, ls, r, hlr, rfl, H2⟩
              rw [HO.out] at hlr ⊢
              simp only [Option.getD_some, Option.isSome_some] at hlr ⊢
              obtain ⟨e1, e2⟩ := Prod.mk.inj (Option.some.inj (congrArg some hlr))
              have HE1 := Lib.hid e1
              have HE2 := Lib.hid e2
              clear hlr e1 e2
              replace H := H.res2 H2
              clear H2
              refine hK_ _ _ (fun _ => H.sub (by simp)) (fun hR_ => ?_)
              replace hR_ := hR_ (by decide)
              refine wpL_reads (is := [(6, ?v2_0), (7, ?v2_1), (8, ?v2_2), (9, ?v2_3)]) (by kernel_rfl) (Nat.le_of_ble_eq_true rfl) (by intro _ _ d_ _ _ h_; cases d_ <;> exact h_) (by kernel_rfl) hR_ (fun w_ hw_ => ?h2_) ?_
              case h2_ =>
                have ho_ := hw_.old0.1; have hz_ := hw_.old0.2; have hr_ := hw_.rules; clear hw_; simp only [Rules, and_true] at hr_; go_split_ands
                (repeat (first | with_reducible exact RdOps.nil | (refine RdOps.run rfl (by rfl) ?_ ?_; (focus (first | (go_simp; done) | (go_simp; with_reducible rfl))); simp only [List.getElem_toArray, List.getElem_cons_zero, List.getElem_cons_succ, Act.put, List.setIfInBounds_toArray, List.set_cons_zero, List.set_cons_succ]) | (refine RdOps.skip rfl (by rfl) ?_ ?_; (focus (with_reducible rfl)); simp only [List.getElem_toArray, List.getElem_cons_zero, List.getElem_cons_succ, Act.put, List.setIfInBounds_toArray, List.set_cons_zero, List.set_cons_succ])))
              simp only [rdMark, rdAct, List.map_cons, List.map_nil, List.length_cons, List.length_nil, Nat.reduceAdd, Nat.reduceSub, Nat.zero_add, List.getElem?_toArray, List.getElem?_cons_zero, List.getElem?_cons_succ, Option.bind_some, Act.put, List.setIfInBounds_toArray, List.set_cons_zero, List.set_cons_succ]
              refine wpL_do (i := 10) rfl (by kernel_rfl) (by rfl) (fun K_ hK_ => ?_)
              go_simp
              refine kontH (by (repeat (first | with_reducible exact H | with_reducible exact H0_ | with_reducible apply Hp.alloc | with_reducible apply Hp.allocMap | with_reducible apply Hp.drew | with_reducible apply Hp.drewN | with_reducible apply Hp.set)); (try any_goals (repeat (first | with_reducible exact Upd.head | with_reducible apply Upd.tail)))) ?_
              clear H; intro wb_ H; (try simp only [size_drew_, size_drewN_, World.size_alloc, World.size_setCell, List.set_cons_zero, List.set_cons_succ] at H)
              refine hK_ _ _ (fun _ => H.sub (by simp)) (fun hR_ => ?_)
              replace hR_ := hR_ (by decide)
              refine wpL_reads (is := [(11, ?v3_0)]) (by kernel_rfl) (Nat.le_of_ble_eq_true rfl) (by intro _ _ d_ _ _ h_; cases d_ <;> exact h_) (by kernel_rfl) hR_ (fun w_ hw_ => ?h3_) ?_
              case h3_ =>
                have ho_ := hw_.old0.1; have hz_ := hw_.old0.2; have hr_ := hw_.rules; clear hw_; simp only [Rules, and_true] at hr_; go_split_ands
                (repeat (first | with_reducible exact RdOps.nil | (refine RdOps.run rfl (by rfl) ?_ ?_; (focus (first | (go_simp; done) | (go_simp; with_reducible rfl))); simp only [List.getElem_toArray, List.getElem_cons_zero, List.getElem_cons_succ, Act.put, List.setIfInBounds_toArray, List.set_cons_zero, List.set_cons_succ]) | (refine RdOps.skip rfl (by rfl) ?_ ?_; (focus (with_reducible rfl)); simp only [List.getElem_toArray, List.getElem_cons_zero, List.getElem_cons_succ, Act.put, List.setIfInBounds_toArray, List.set_cons_zero, List.set_cons_succ])))
              simp only [rdMark, rdAct, List.map_cons, List.map_nil, List.length_cons, List.length_nil, Nat.reduceAdd, Nat.reduceSub, Nat.zero_add, List.getElem?_toArray, List.getElem?_cons_zero, List.getElem?_cons_succ, Option.bind_some, Act.put, List.setIfInBounds_toArray, List.set_cons_zero, List.set_cons_succ]
              refine wpL_do (i := 12) rfl (by kernel_rfl) (by rfl) (fun K_ hK_ => ?_)
              refine wp_storeH rfl (by go_simp <;> first | rfl | exact ⟨rfl, rfl⟩) (by go_simp <;> first | rfl | exact ⟨rfl, rfl⟩) H (by (repeat (first | with_reducible exact Upd.head | with_reducible apply Upd.tail))) (by exact aggTerm) (by rfl) (by simp [Value.oneCell']) (fun w12 H_ => ?_)
              clear H; have H := H_; clear H_
              refine hK_ _ _ (fun _ => H.sub (by simp)) (fun hR_ => ?_)
              replace hR_ := hR_ (by decide)
              refine wpL_reads (is := [(13, ?v4_0)]) (by kernel_rfl) (Nat.le_of_ble_eq_true rfl) (by intro _ _ d_ _ _ h_; cases d_ <;> exact h_) (by kernel_rfl) hR_ (fun w_ hw_ => ?h4_) ?_
              case h4_ =>
                have ho_ := hw_.old0.1; have hz_ := hw_.old0.2; have hr_ := hw_.rules; clear hw_; simp only [Rules, and_true] at hr_; go_split_ands
                (repeat (first | with_reducible exact RdOps.nil | (refine RdOps.run rfl (by rfl) ?_ ?_; (focus (first | (go_simp; done) | (go_simp; with_reducible rfl))); simp only [List.getElem_toArray, List.getElem_cons_zero, List.getElem_cons_succ, Act.put, List.setIfInBounds_toArray, List.set_cons_zero, List.set_cons_succ]) | (refine RdOps.skip rfl (by rfl) ?_ ?_; (focus (with_reducible rfl)); simp only [List.getElem_toArray, List.getElem_cons_zero, List.getElem_cons_succ, Act.put, List.setIfInBounds_toArray, List.set_cons_zero, List.set_cons_succ])))
              simp only [rdMark, rdAct, List.map_cons, List.map_nil, List.length_cons, List.length_nil, Nat.reduceAdd, Nat.reduceSub, Nat.zero_add, List.getElem?_toArray, List.getElem?_cons_zero, List.getElem?_cons_succ, Option.bind_some, Act.put, List.setIfInBounds_toArray, List.set_cons_zero, List.set_cons_succ]
              refine wpL_done (by kernel_rfl) ?_ _
              have hr_ := H.rules; simp only [Rules, and_true] at hr_; have hd_ := H.dif; simp only [Dif, Neq, and_true] at hd_; obtain ⟨ho_, hz_⟩ := H.old0
              go_wp2_with fail
              (try clear hr_ hd_ ho_ hz_)
              refine callsH (by (repeat (first | with_reducible exact H | with_reducible exact H0_ | with_reducible apply Hp.alloc | with_reducible apply Hp.allocMap | with_reducible apply Hp.drew | with_reducible apply Hp.drewN | with_reducible apply Hp.set)); (try any_goals (repeat (first | with_reducible exact Upd.head | with_reducible apply Upd.tail)))) ?_
              clear H; intro w13 H; (try simp only [size_drew_, size_drewN_, World.size_alloc, World.size_setCell, List.set_cons_zero, List.set_cons_succ] at H)
              have h1 : ls = (openAll ct.ty).1 := HE1.out
              have h2 : r = (openAll ct.ty).2 := HE2.out
              have hsz2 := openAll_size ct.ty
              rw [← h1, ← h2] at hsz2
              have hsty := HSM.out
              have hl3 := length_sizes ls
              have hq8 : q = ((typesQ (ds.take num) (parT ds num) (some v) 0 ls && !standsM (upM (some v) ls.length) r) && (d.ctors.drop (j2 + 1)).all (ctorP (ds.take num) (parT ds num) v)) := by
                rw [← HS2.out, HE.out, ctorP, ← h1, ← h2, ← hsz2.2]
              have hll9 : ls.length ≤ 4000000 := by omega
              have hszr : sizeT r ≤ 4000000 := by omega
              obtain ⟨z, hz⟩ : ∃ z, z = typesQ (ds.take num) (parT ds num) (some v) 0 ls := ⟨_, rfl⟩
              rw [← hz] at hq8
              have hcall := types_calls IHs (HAK.out.ext H.ext) (H.rd (d := .l 26 5 (ls.map Tm.d)) (by (repeat (first | with_reducible exact Pick.head | with_reducible apply Pick.tail)))) (by have := HAK.out.lt; omega) (by omega)
              rw [← hz] at hcall
              have HQ8 := Lib.hid hq8
              clear hz hsz2 hsty hq8 h1 h2 hl3
              refine hcall.mono ?_
              clear hcall
              rintro e w14 hm
              have HK2 := Lib.hid (Kn.seq (HX1.out.also H.ext fun _ h => h.elim) HR.out hm.2)
              obtain ⟨_, hx, _, _⟩ := hm.2
              have hrr := (H.rd (d := r.d) (by (repeat (first | with_reducible exact Pick.head | with_reducible apply Pick.tail)))).turn hx (by have := HAK.out.lt; omega)
              have b9 := H.blk (t := 26) (cs := [.int .i64 r.k, .int .i64 r.n, .int .i64 r.a, .slice B2 r.ls.length cb2, .slice K2 r.ks.length kb2]) (by (repeat (first | with_reducible exact Pick.head | with_reducible apply Pick.tail)))
              have hc9 := (Blk.cells5 b9).turn hx (HAK.out.ext H.ext).mp
              cases z
              · obtain rfl := hm.no rfl
                clear hm
                go_wp2_with fail
                refine ⟨rfl, ?_, HK2.out.pre HX.out⟩
                rw [HQ8.out]
                rfl
              · obtain rfl := hm.yes rfl
                clear hm H hx b9
                obtain ⟨ex2, hx, hm, hr⟩ := HK2.out
                have HAK2 := Lib.hid (HA2.out.turn hx hm hr HA2.out.hn)
                have hc2 := HC2.out.turn hx HA2.out.mp
                have HRR := Lib.hid hrr
                simp only [Cells_cons, Cells_nil, and_true] at hc2 hc9
                obtain ⟨q0, q1, q2, q3, q4, q5⟩ := hc2
                obtain ⟨t0, t1, t2, t3, t4⟩ := hc9
                have m0 := cell_lt q0
                have m2 := cell_lt q2
                have m9 := cell_lt t0
                clear hx hm hr hrr p0 p1 p2 p3 p4 p5
                have H := Hp.start no w14
                have hr_ := H.rules; simp only [Rules, and_true] at hr_; have hd_ := H.dif; simp only [Dif, Neq, and_true] at hd_; obtain ⟨ho_, hz_⟩ := H.old0
                go_wp2_with fail
                (try clear hr_ hd_ ho_ hz_)
                refine callsH (by (repeat (first | with_reducible exact H | with_reducible exact H0_ | with_reducible apply Hp.alloc | with_reducible apply Hp.allocMap | with_reducible apply Hp.drew | with_reducible apply Hp.drewN | with_reducible apply Hp.set)); (try any_goals (repeat (first | with_reducible exact Upd.head | with_reducible apply Upd.tail)))) ?_
                clear H; intro w15 H; (try simp only [size_drew_, size_drewN_, World.size_alloc, World.size_setCell, List.set_cons_zero, List.set_cons_succ] at H)
                obtain ⟨S', hone⟩ := H.oneRdS (t := r) .head HRR.out
                obtain ⟨z3, hz3⟩ : ∃ z3, z3 = standsM (upM (some v) ls.length) r := ⟨_, rfl⟩
                have hcall := mfree_calls (below := (ls.length : Int)) (fi := .func F2 x2 y2) (HAK2.out.ext H.ext).tab (HAK2.out.ext H.ext).st hone (by intro t ht; obtain rfl := List.mem_singleton.1 ht; exact hszr) (by omega) (by omega)
                rw [show ([r].all fun t => !standsM (upM (some v) (ls.length : Int)) t) = !z3 by rw [hz3]; simp] at hcall
                have HZ3 := Lib.hid hz3
                clear hz3 hone
                refine hcall.mono ?_
                clear hcall
                rintro e w16 hm
                have hx := hm.2
                replace H := H.call hx
                clear hx
                cases z3
                · obtain rfl := hm.yes rfl
                  clear hm
                  go_wp2_with fail
                  go_roundw
                  case rel => exact ⟨j2 + 1, by omega, by first | go_num | rfl | simp, Lib.hid (by rw [HQ8.out, ← HZ3.out]; rfl), Lib.hid (HK2.out.ext H.ext)⟩
                  case measure => simp [intOf]; omega
                · obtain rfl := hm.no rfl
                  clear hm
                  go_wp2_with fail
                  refine ⟨rfl, ?_, (HK2.out.ext H.ext).pre HX.out⟩
                  rw [HQ8.out, ← HZ3.out]
                  rfl
            · refine wpOp_do (i := 10) rfl (by rfl) (fun K_ hK_ => ?_)
              go_simp
              refine kontH (by (repeat (first | with_reducible exact H | with_reducible exact H0_ | with_reducible apply Hp.alloc | with_reducible apply Hp.allocMap | with_reducible apply Hp.drew | with_reducible apply Hp.drewN | with_reducible apply Hp.set)); (try any_goals (repeat (first | with_reducible exact Upd.head | with_reducible apply Upd.tail)))) ?_
              clear H; intro wb_ H; (try simp only [size_drew_, size_drewN_, World.size_alloc, World.size_setCell, List.set_cons_zero, List.set_cons_succ] at H)
              refine hK_ _ _ (fun _ => H.sub (by simp)) (fun hR_ => ?_)
              replace hR_ := hR_ (by decide)
              refine wpL_do (i := 5) rfl (by kernel_rfl) (by rfl) (fun K_ hK_ => ?_)
              go_simp
              refine (teleOpen (t := ct.ty) (HAK.out.ext H.ext).tab ⟨_, _, _, _, rfl, HTY.out.ext0 H.ext⟩ (N : Int) (.inr (by omega)) (by unfold inI; omega)).mono ?_
              rintro e w_ ⟨A2, c2, B2, cb2, K2, kb2, ls, r, hlr, rfl, H2⟩
              rw [HO.out] at hlr ⊢
              simp only [Option.getD_some, Option.isSome_some] at hlr ⊢
              obtain ⟨e1, e2⟩ := Prod.mk.inj (Option.some.inj (congrArg some hlr))
              have HE1 := Lib.hid e1
              have HE2 := Lib.hid e2
              clear hlr e1 e2
              replace H := H.res2 H2
              clear H2
              refine hK_ _ _ (fun _ => H.sub (by simp)) (fun hR_ => ?_)
              replace hR_ := hR_ (by decide)
              refine wpL_reads (is := [(6, ?v5_0), (7, ?v5_1), (8, ?v5_2), (9, ?v5_3), (11, ?v5_4)]) (by kernel_rfl) (Nat.le_of_ble_eq_true rfl) (by intro _ _ d_ _ _ h_; cases d_ <;> exact h_) (by kernel_rfl) hR_ (fun w_ hw_ => ?h5_) ?_
              case h5_ =>
                have ho_ := hw_.old0.1; have hz_ := hw_.old0.2; have hr_ := hw_.rules; clear hw_; simp only [Rules, and_true] at hr_; go_split_ands
                (repeat (first | with_reducible exact RdOps.nil | (refine RdOps.run rfl (by rfl) ?_ ?_; (focus (first | (go_simp; done) | (go_simp; with_reducible rfl))); simp only [List.getElem_toArray, List.getElem_cons_zero, List.getElem_cons_succ, Act.put, List.setIfInBounds_toArray, List.set_cons_zero, List.set_cons_succ]) | (refine RdOps.skip rfl (by rfl) ?_ ?_; (focus (with_reducible rfl)); simp only [List.getElem_toArray, List.getElem_cons_zero, List.getElem_cons_succ, Act.put, List.setIfInBounds_toArray, List.set_cons_zero, List.set_cons_succ])))
              simp only [rdMark, rdAct, List.map_cons, List.map_nil, List.length_cons, List.length_nil, Nat.reduceAdd, Nat.reduceSub, Nat.zero_add, List.getElem?_toArray, List.getElem?_cons_zero, List.getElem?_cons_succ, Option.bind_some, Act.put, List.setIfInBounds_toArray, List.set_cons_zero, List.set_cons_succ]
              refine wpL_do (i := 12) rfl (by kernel_rfl) (by rfl) (fun K_ hK_ => ?_)
              refine wp_storeH rfl (by go_simp <;> first | rfl | exact ⟨rfl, rfl⟩) (by go_simp <;> first | rfl | exact ⟨rfl, rfl⟩) H (by (repeat (first | with_reducible exact Upd.head | with_reducible apply Upd.tail))) (by exact aggTerm) (by rfl) (by simp [Value.oneCell']) (fun w12 H_ => ?_)
              clear H; have H := H_; clear H_
              refine hK_ _ _ (fun _ => H.sub (by simp)) (fun hR_ => ?_)
              replace hR_ := hR_ (by decide)
              refine wpL_reads (is := [(13, ?v6_0)]) (by kernel_rfl) (Nat.le_of_ble_eq_true rfl) (by intro _ _ d_ _ _ h_; cases d_ <;> exact h_) (by kernel_rfl) hR_ (fun w_ hw_ => ?h6_) ?_
              case h6_ =>
                have ho_ := hw_.old0.1; have hz_ := hw_.old0.2; have hr_ := hw_.rules; clear hw_; simp only [Rules, and_true] at hr_; go_split_ands
                (repeat (first | with_reducible exact RdOps.nil | (refine RdOps.run rfl (by rfl) ?_ ?_; (focus (first | (go_simp; done) | (go_simp; with_reducible rfl))); simp only [List.getElem_toArray, List.getElem_cons_zero, List.getElem_cons_succ, Act.put, List.setIfInBounds_toArray, List.set_cons_zero, List.set_cons_succ]) | (refine RdOps.skip rfl (by rfl) ?_ ?_; (focus (with_reducible rfl)); simp only [List.getElem_toArray, List.getElem_cons_zero, List.getElem_cons_succ, Act.put, List.setIfInBounds_toArray, List.set_cons_zero, List.set_cons_succ])))
              simp only [rdMark, rdAct, List.map_cons, List.map_nil, List.length_cons, List.length_nil, Nat.reduceAdd, Nat.reduceSub, Nat.zero_add, List.getElem?_toArray, List.getElem?_cons_zero, List.getElem?_cons_succ, Option.bind_some, Act.put, List.setIfInBounds_toArray, List.set_cons_zero, List.set_cons_succ]
              refine wpL_done (by kernel_rfl) ?_ _
              have hr_ := H.rules; simp only [Rules, and_true] at hr_; have hd_ := H.dif; simp only [Dif, Neq, and_true] at hd_; obtain ⟨ho_, hz_⟩ := H.old0
              go_wp2_with fail
              (try clear hr_ hd_ ho_ hz_)
              refine callsH (by (repeat (first | with_reducible exact H | with_reducible exact H0_ | with_reducible apply Hp.alloc | with_reducible apply Hp.allocMap | with_reducible apply Hp.drew | with_reducible apply Hp.drewN | with_reducible apply Hp.set)); (try any_goals (repeat (first | with_reducible exact Upd.head | with_reducible apply Upd.tail)))) ?_
              clear H; intro w13 H; (try simp only [size_drew_, size_drewN_, World.size_alloc, World.size_setCell, List.set_cons_zero, List.set_cons_succ] at H)
              have h1 : ls = (openAll ct.ty).1 := HE1.out
              have h2 : r = (openAll ct.ty).2 := HE2.out
              have hsz2 := openAll_size ct.ty
              rw [← h1, ← h2] at hsz2
              have hsty := HSM.out
              have hl3 := length_sizes ls
              have hq8 : q = ((typesQ (ds.take num) (parT ds num) (some v) 0 ls && !standsM (upM (some v) ls.length) r) && (d.ctors.drop (j2 + 1)).all (ctorP (ds.take num) (parT ds num) v)) := by
                rw [← HS2.out, HE.out, ctorP, ← h1, ← h2, ← hsz2.2]
              have hll9 : ls.length ≤ 4000000 := by omega
              have hszr : sizeT r ≤ 4000000 := by omega
              obtain ⟨z, hz⟩ : ∃ z, z = typesQ (ds.take num) (parT ds num) (some v) 0 ls := ⟨_, rfl⟩
              rw [← hz] at hq8
              have hcall := types_calls IHs (HAK.out.ext H.ext) (H.rd (d := .l 26 5 (ls.map Tm.d)) (by (repeat (first | with_reducible exact Pick.head | with_reducible apply Pick.tail)))) (by have := HAK.out.lt; omega) (by omega)
              rw [← hz] at hcall
              have HQ8 := Lib.hid hq8
              clear hz hsz2 hsty hq8 h1 h2 hl3
              refine hcall.mono ?_
              clear hcall
              rintro e w14 hm
              have HK2 := Lib.hid (Kn.seq (HX1.out.also H.ext fun _ h => h.elim) HR.out hm.2)
              obtain ⟨_, hx, _, _⟩ := hm.2
              have hrr := (H.rd (d := r.d) (by (repeat (first | with_reducible exact Pick.head | with_reducible apply Pick.tail)))).turn hx (by have := HAK.out.lt; omega)
              have b9 := H.blk (t := 26) (cs := [.int .i64 r.k, .int .i64 r.n, .int .i64 r.a, .slice B2 r.ls.length cb2, .slice K2 r.ks.length kb2]) (by (repeat (first | with_reducible exact Pick.head | with_reducible apply Pick.tail)))
              have hc9 := (Blk.cells5 b9).turn hx (HAK.out.ext H.ext).mp
              cases z
              · obtain rfl := hm.no rfl
                clear hm
                go_wp2_with fail
                refine ⟨rfl, ?_, HK2.out.pre HX.out⟩
                rw [HQ8.out]
                rfl
              · obtain rfl := hm.yes rfl
                clear hm H hx b9
                obtain ⟨ex2, hx, hm, hr⟩ := HK2.out
                have HAK2 := Lib.hid (HA2.out.turn hx hm hr HA2.out.hn)
                have hc2 := HC2.out.turn hx HA2.out.mp
                have HRR := Lib.hid hrr
                simp only [Cells_cons, Cells_nil, and_true] at hc2 hc9
                obtain ⟨q0, q1, q2, q3, q4, q5⟩ := hc2
                obtain ⟨t0, t1, t2, t3, t4⟩ := hc9
                have m0 := cell_lt q0
                have m2 := cell_lt q2
                have m9 := cell_lt t0
                clear hx hm hr hrr p0 p1 p2 p3 p4 p5
                have H := Hp.start no w14
                have hr_ := H.rules; simp only [Rules, and_true] at hr_; have hd_ := H.dif; simp only [Dif, Neq, and_true] at hd_; obtain ⟨ho_, hz_⟩ := H.old0
                go_wp2_with fail
                (try clear hr_ hd_ ho_ hz_)
                refine callsH (by (repeat (first | with_reducible exact H | with_reducible exact H0_ | with_reducible apply Hp.alloc | with_reducible apply Hp.allocMap | with_reducible apply Hp.drew | with_reducible apply Hp.drewN | with_reducible apply Hp.set)); (try any_goals (repeat (first | with_reducible exact Upd.head | with_reducible apply Upd.tail)))) ?_
                clear H; intro w15 H; (try simp only [size_drew_, size_drewN_, World.size_alloc, World.size_setCell, List.set_cons_zero, List.set_cons_succ] at H)
                obtain ⟨S', hone⟩ := H.oneRdS (t := r) .head HRR.out
                obtain ⟨z3, hz3⟩ : ∃ z3, z3 = standsM (upM (some v) ls.length) r := ⟨_, rfl⟩
                have hcall := mfree_calls (below := (ls.length : Int)) (fi := .func F2 x2 y2) (HAK2.out.ext H.ext).tab (HAK2.out.ext H.ext).st hone (by intro t ht; obtain rfl := List.mem_singleton.1 ht; exact hszr) (by omega) (by omega)
                rw [show ([r].all fun t => !standsM (upM (some v) (ls.length : Int)) t) = !z3 by rw [hz3]; simp] at hcall
                have HZ3 := Lib.hid hz3
                clear hz3 hone
                refine hcall.mono ?_
                clear hcall
                rintro e w16 hm
                have hx := hm.2
                replace H := H.call hx
                clear hx
                cases z3
                · obtain rfl := hm.yes rfl
                  clear hm
                  go_wp2_with fail
                  go_roundw
                  case rel => exact ⟨j2 + 1, by omega, by first | go_num | rfl | simp, Lib.hid (by rw [HQ8.out, ← HZ3.out]; rfl), Lib.hid (HK2.out.ext H.ext)⟩
                  case measure => simp [intOf]; omega
                · obtain rfl := hm.no rfl
                  clear hm
                  go_wp2_with fail
                  refine ⟨rfl, ?_, (HK2.out.ext H.ext).pre HX.out⟩
                  rw [HQ8.out, ← HZ3.out]
                  rfl
          · refine wpOp_do (i := 10) rfl (by rfl) (fun K_ hK_ => ?_)
            go_simp
            refine kontH (by (repeat (first | with_reducible exact H | with_reducible exact H0_ | with_reducible apply Hp.alloc | with_reducible apply Hp.allocMap | with_reducible apply Hp.drew | with_reducible apply Hp.drewN | with_reducible apply Hp.set)); (try any_goals (repeat (first | with_reducible exact Upd.head | with_reducible apply Upd.tail)))) ?_
            clear H; intro wb_ H; (try simp only [size_drew_, size_drewN_, World.size_alloc, World.size_setCell, List.set_cons_zero, List.set_cons_succ] at H)
            refine hK_ _ _ (fun _ => H.sub (by simp)) (fun hR_ => ?_)
            replace hR_ := hR_ (by decide)
            refine wpL_do (i := 4) rfl (by kernel_rfl) (by rfl) (fun K_ hK_ => ?_)
            go_simp
            have hcall := teleCount (t := ct.ty) ⟨_, _, _, _, rfl, HTY.out.ext0 H.ext⟩ (by omega)
            rw [← HN.out] at hcall
            refine (hcall).mono ?_
            rintro e w_ ⟨rfl, hx⟩
            replace H := H.call hx
            clear hx
            clear hcall
            refine hK_ _ _ (fun _ => H.sub (by simp)) (fun hR_ => ?_)
            replace hR_ := hR_ (by decide)
            refine wpL_do (i := 5) rfl (by kernel_rfl) (by rfl) (fun K_ hK_ => ?_)
            go_simp
            refine (teleOpen (t := ct.ty) (HAK.out.ext H.ext).tab ⟨_, _, _, _, rfl, HTY.out.ext0 H.ext⟩ (N : Int) (.inr (by omega)) (by unfold inI; omega)).mono ?_
            rintro e w_ ⟨A2, c2, B2, cb2, K2, kb2, ls, r, hlr, rfl, H2⟩
            rw [HO.out] at hlr ⊢
            simp only [Option.getD_some, Option.isSome_some] at hlr ⊢
            obtain ⟨e1, e2⟩ := Prod.mk.inj (Option.some.inj (congrArg some hlr))
            have HE1 := Lib.hid e1
            have HE2 := Lib.hid e2
            clear hlr e1 e2
            replace H := H.res2 H2
            clear H2
            refine hK_ _ _ (fun _ => H.sub (by simp)) (fun hR_ => ?_)
            replace hR_ := hR_ (by decide)
            refine wpL_reads (is := [(6, ?v7_0), (7, ?v7_1), (8, ?v7_2), (9, ?v7_3), (11, ?v7_4)]) (by kernel_rfl) (Nat.le_of_ble_eq_true rfl) (by intro _ _ d_ _ _ h_; cases d_ <;> exact h_) (by kernel_rfl) hR_ (fun w_ hw_ => ?h7_) ?_
            case h7_ =>
              have ho_ := hw_.old0.1; have hz_ := hw_.old0.2; have hr_ := hw_.rules; clear hw_; simp only [Rules, and_true] at hr_; go_split_ands
              (repeat (first | with_reducible exact RdOps.nil | (refine RdOps.run rfl (by rfl) ?_ ?_; (focus (first | (go_simp; done) | (go_simp; with_reducible rfl))); simp only [List.getElem_toArray, List.getElem_cons_zero, List.getElem_cons_succ, Act.put, List.setIfInBounds_toArray, List.set_cons_zero, List.set_cons_succ]) | (refine RdOps.skip rfl (by rfl) ?_ ?_; (focus (with_reducible rfl)); simp only [List.getElem_toArray, List.getElem_cons_zero, List.getElem_cons_succ, Act.put, List.setIfInBounds_toArray, List.set_cons_zero, List.set_cons_succ])))
            simp only [rdMark, rdAct, List.map_cons, List.map_nil, List.length_cons, List.length_nil, Nat.reduceAdd, Nat.reduceSub, Nat.zero_add, List.getElem?_toArray, List.getElem?_cons_zero, List.getElem?_cons_succ, Option.bind_some, Act.put, List.setIfInBounds_toArray, List.set_cons_zero, List.set_cons_succ]
            refine wpL_do (i := 12) rfl (by kernel_rfl) (by rfl) (fun K_ hK_ => ?_)
            refine wp_storeH rfl (by go_simp <;> first | rfl | exact ⟨rfl, rfl⟩) (by go_simp <;> first | rfl | exact ⟨rfl, rfl⟩) H (by (repeat (first | with_reducible exact Upd.head | with_reducible apply Upd.tail))) (by exact aggTerm) (by rfl) (by simp [Value.oneCell']) (fun w12 H_ => ?_)
            clear H; have H := H_; clear H_
            refine hK_ _ _ (fun _ => H.sub (by simp)) (fun hR_ => ?_)
            replace hR_ := hR_ (by decide)
            refine wpL_reads (is := [(13, ?v8_0)]) (by kernel_rfl) (Nat.le_of_ble_eq_true rfl) (by intro _ _ d_ _ _ h_; cases d_ <;> exact h_) (by kernel_rfl) hR_ (fun w_ hw_ => ?h8_) ?_
            case h8_ =>
              have ho_ := hw_.old0.1; have hz_ := hw_.old0.2; have hr_ := hw_.rules; clear hw_; simp only [Rules, and_true] at hr_; go_split_ands
              (repeat (first | with_reducible exact RdOps.nil | (refine RdOps.run rfl (by rfl) ?_ ?_; (focus (first | (go_simp; done) | (go_simp; with_reducible rfl))); simp only [List.getElem_toArray, List.getElem_cons_zero, List.getElem_cons_succ, Act.put, List.setIfInBounds_toArray, List.set_cons_zero, List.set_cons_succ]) | (refine RdOps.skip rfl (by rfl) ?_ ?_; (focus (with_reducible rfl)); simp only [List.getElem_toArray, List.getElem_cons_zero, List.getElem_cons_succ, Act.put, List.setIfInBounds_toArray, List.set_cons_zero, List.set_cons_succ])))
            simp only [rdMark, rdAct, List.map_cons, List.map_nil, List.length_cons, List.length_nil, Nat.reduceAdd, Nat.reduceSub, Nat.zero_add, List.getElem?_toArray, List.getElem?_cons_zero, List.getElem?_cons_succ, Option.bind_some, Act.put, List.setIfInBounds_toArray, List.set_cons_zero, List.set_cons_succ]
            refine wpL_done (by kernel_rfl) ?_ _
            have hr_ := H.rules; simp only [Rules, and_true] at hr_; have hd_ := H.dif; simp only [Dif, Neq, and_true] at hd_; obtain ⟨ho_, hz_⟩ := H.old0
            go_wp2_with fail
            (try clear hr_ hd_ ho_ hz_)
            refine callsH (by (repeat (first | with_reducible exact H | with_reducible exact H0_ | with_reducible apply Hp.alloc | with_reducible apply Hp.allocMap | with_reducible apply Hp.drew | with_reducible apply Hp.drewN | with_reducible apply Hp.set)); (try any_goals (repeat (first | with_reducible exact Upd.head | with_reducible apply Upd.tail)))) ?_
            clear H; intro w13 H; (try simp only [size_drew_, size_drewN_, World.size_alloc, World.size_setCell, List.set_cons_zero, List.set_cons_succ] at H)
            have h1 : ls = (openAll ct.ty).1 := HE1.out
            have h2 : r = (openAll ct.ty).2 := HE2.out
            have hsz2 := openAll_size ct.ty
            rw [← h1, ← h2] at hsz2
            have hsty := HSM.out
            have hl3 := length_sizes ls
            have hq8 : q = ((typesQ (ds.take num) (parT ds num) (some v) 0 ls && !standsM (upM (some v) ls.length) r) && (d.ctors.drop (j2 + 1)).all (ctorP (ds.take num) (parT ds num) v)) := by
              rw [← HS2.out, HE.out, ctorP, ← h1, ← h2, ← hsz2.2]
            have hll9 : ls.length ≤ 4000000 := by omega
            have hszr : sizeT r ≤ 4000000 := by omega
            obtain ⟨z, hz⟩ : ∃ z, z = typesQ (ds.take num) (parT ds num) (some v) 0 ls := ⟨_, rfl⟩
            rw [← hz] at hq8
            have hcall := types_calls IHs (HAK.out.ext H.ext) (H.rd (d := .l 26 5 (ls.map Tm.d)) (by (repeat (first | with_reducible exact Pick.head | with_reducible apply Pick.tail)))) (by have := HAK.out.lt; omega) (by omega)
            rw [← hz] at hcall
            have HQ8 := Lib.hid hq8
            clear hz hsz2 hsty hq8 h1 h2 hl3
            refine hcall.mono ?_
            clear hcall
            rintro e w14 hm
            have HK2 := Lib.hid (Kn.seq (HX1.out.also H.ext fun _ h => h.elim) HR.out hm.2)
            obtain ⟨_, hx, _, _⟩ := hm.2
            have hrr := (H.rd (d := r.d) (by (repeat (first | with_reducible exact Pick.head | with_reducible apply Pick.tail)))).turn hx (by have := HAK.out.lt; omega)
            have b9 := H.blk (t := 26) (cs := [.int .i64 r.k, .int .i64 r.n, .int .i64 r.a, .slice B2 r.ls.length cb2, .slice K2 r.ks.length kb2]) (by (repeat (first | with_reducible exact Pick.head | with_reducible apply Pick.tail)))
            have hc9 := (Blk.cells5 b9).turn hx (HAK.out.ext H.ext).mp
            cases z
            · obtain rfl := hm.no rfl
              clear hm
              go_wp2_with fail
              refine ⟨rfl, ?_, HK2.out.pre HX.out⟩
              rw [HQ8.out]
              rfl
            · obtain rfl := hm.yes rfl
              clear hm H hx b9
              obtain ⟨ex2, hx, hm, hr⟩ := HK2.out
              have HAK2 := Lib.hid (HA2.out.turn hx hm hr HA2.out.hn)
              have hc2 := HC2.out.turn hx HA2.out.mp
              have HRR := Lib.hid hrr
              simp only [Cells_cons, Cells_nil, and_true] at hc2 hc9
              obtain ⟨q0, q1, q2, q3, q4, q5⟩ := hc2
              obtain ⟨t0, t1, t2, t3, t4⟩ := hc9
              have m0 := cell_lt q0
              have m2 := cell_lt q2
              have m9 := cell_lt t0
              clear hx hm hr hrr p0 p1 p2 p3 p4 p5
              have H := Hp.start no w14
              have hr_ := H.rules; simp only [Rules, and_true] at hr_; have hd_ := H.dif; simp only [Dif, Neq, and_true] at hd_; obtain ⟨ho_, hz_⟩ := H.old0
              go_wp2_with fail
              (try clear hr_ hd_ ho_ hz_)
              refine callsH (by (repeat (first | with_reducible exact H | with_reducible exact H0_ | with_reducible apply Hp.alloc | with_reducible apply Hp.allocMap | with_reducible apply Hp.drew | with_reducible apply Hp.drewN | with_reducible apply Hp.set)); (try any_goals (repeat (first | with_reducible exact Upd.head | with_reducible apply Upd.tail)))) ?_
              clear H; intro w15 H; (try simp only [size_drew_, size_drewN_, World.size_alloc, World.size_setCell, List.set_cons_zero, List.set_cons_succ] at H)
              obtain ⟨S', hone⟩ := H.oneRdS (t := r) .head HRR.out
              obtain ⟨z3, hz3⟩ : ∃ z3, z3 = standsM (upM (some v) ls.length) r := ⟨_, rfl⟩
              have hcall := mfree_calls (below := (ls.length : Int)) (fi := .func F2 x2 y2) (HAK2.out.ext H.ext).tab (HAK2.out.ext H.ext).st hone (by intro t ht; obtain rfl := List.mem_singleton.1 ht; exact hszr) (by omega) (by omega)
              rw [show ([r].all fun t => !standsM (upM (some v) (ls.length : Int)) t) = !z3 by rw [hz3]; simp] at hcall
              have HZ3 := Lib.hid hz3
              clear hz3 hone
              refine hcall.mono ?_
              clear hcall
              rintro e w16 hm
              have hx := hm.2
              replace H := H.call hx
              clear hx
              cases z3
              · obtain rfl := hm.yes rfl
                clear hm
                go_wp2_with fail
                go_roundw
                case rel => exact ⟨j2 + 1, by omega, by first | go_num | rfl | simp, Lib.hid (by rw [HQ8.out, ← HZ3.out]; rfl), Lib.hid (HK2.out.ext H.ext)⟩
                case measure => simp [intOf]; omega
              · obtain rfl := hm.no rfl
                clear hm
                go_wp2_with fail
                refine ⟨rfl, ?_, (HK2.out.ext H.ext).pre HX.out⟩
                rw [HQ8.out, ← HZ3.out]
                rfl
        · go_wp2_with fail
          go_end0
          refine ⟨?_, HKN.out.pre HX.out⟩
          rw [← HS2.out, List.drop_eq_nil_of_le (by omega)]
          rfl
end Go.Proofs.YtmedomglemllnaaGreatDoor
