/- strict: a type, from its arguments' types on. No statement of the seat is proved here. -/
import Derived.Test.YtmedomglemllnaaGreatDoorMgStr4
import Derived.Test.YtmedomglemllnaaGreatDoorMgSelf
namespace Go.Proofs.YtmedomglemllnaaGreatDoor
set_option linter.unusedSimpArgs false
set_option linter.unusedVariables false
open Go.RowKit

theorem Hp.oneRdS {w0 w : World} {l l' : List Ch} {g e : Nat} {t : Tm} {cs : List Value} {S : Nat → Prop} (H : Hp no w0 w l) (p : Pick l (.box g e cs) l') (h : RC w0 S t.d cs) : ∃ S', RC w S' (.l e 5 ([t].map Tm.d)) [.slice (some ⟨g, 0, none⟩) 1 1] :=
  ⟨_, (H.boxRowO p h (Tm.size_d t)).rowRd .head⟩
theorem sizesT_memS {ts : List Tm} {t : Tm} (h : t ∈ ts) : sizeT t ≤ sizesT ts := by
  induction ts with
  | nil => cases h
  | cons x ts ih =>
    rw [sizesT]
    rcases List.mem_cons.1 h with rfl | h
    · omega
    · have := ih h; omega
theorem getD_take {ds : List Dc} {n m : Nat} (h : m < n) : (ds.take n).getD m zDc = ds.getD m zDc := by
  rw [List.getD_eq_getElem?_getD, List.getD_eq_getElem?_getD, List.getElem?_take_of_lt h]
set_option maxRecDepth 100000 in
set_option maxHeartbeats 16000000 in
theorem strB {w W : World} {g n c F : Nat} {ds : List Dc} {A0 Ar B K : Option Addr} {es : List (Ky × Bool)} {mk : Mk} {fs fi : Value} {S S1 : Nat → Prop} {ls : List Tm} {r : Tm} {cr cb kb g3 g7 : Nat} {below : Int} {x0 x2 x4 x5 x8 x9 x10 x11 x12 x13 x14 x15 x16 x17 x18 x19 x20 x21 x22 x23 x24 x25 x26 x27 x28 x29 x30 x31 x32 x33 x34 x35 x36 x37 x38 x39 x40 x41 x42 x43 x44 x45 x46 x47 x48 x49 x50 x51 x52 x53 x54 x55 x56 x57 x58 x59 x60 x61 x62 x63 x64 x65 x66 x67 x68 x69 x70 x71 x72 x73 x74 x75 x76 x77 x78 x79 x80 x81 x82 x83 x84 x85 x86 x87 x88 x89 x90 x91 x92 x93 x94 x95 x96 x97 x98 x99 x100 x101 x102 x103 x104 x105 x106 x107 x108 x109 x110 x111 x112 x113 x114 x115 x116 x117 x118 x119 x120 x121 x122 x123 x124 x125 x126 x127 x128 x129 x130 x131 x132 x133 x134 x135 : Value}
    (IHs : StrictAt ds n F) (IHp : ∀ num, num < n → ParamOK ds num) (ha : Ask W g ds n A0 c es mk fs fi) (hw : Ext no w W) (hrow : RC W S (.l 26 5 (ls.map Tm.d)) [.slice Ar ls.length cr]) (hend : RC W S1 r.d [.int .i64 r.k, .int .i64 r.n, .int .i64 r.a, .slice B r.ls.length cb, .slice K r.ks.length kb])
    (hsl : ∀ x ∈ ls, sizeT x ≤ 4000000) (hsr2 : sizeT r ≤ 4000000) (hb : 0 ≤ below) (hb2 : below + ls.length + sizeT r ≤ 1000000000) (hsF : ∀ x ∈ (spineT r).2, sizeT x ≤ F)
    (hc : Cells W [(⟨g3, 0, none⟩, fs), (⟨g3, 1, none⟩, fi), (⟨g3, 2, none⟩, .slice A0 n c), (⟨g3, 3, none⟩, .map (some g)), (⟨g7, 0, none⟩, .int .i64 r.k), (⟨g7, 1, none⟩, .int .i64 r.n), (⟨g7, 2, none⟩, .int .i64 r.a), (⟨g7, 3, none⟩, .slice B r.ls.length cb), (⟨g7, 4, none⟩, .slice K r.ks.length kb)]) :
    (fromF 3 (Tryz.f208.body.getD .skip)).wp Tryz.prog (bodyPost Tryz.prog Tryz.f208 (PLo w g ds n es (if freeRow (upM mk below) 0 ls = false then false else endS (ds.take n) (parT ds n) (strictF (ds.take n) (parT ds n) F (upM mk (below + ls.length))) (upM mk (below + ls.length)) (spineT r)))) { tmps := #[x0, .int .i64 below, x2, .pointer (some ⟨g3, 0, none⟩), x4, x5, .slice Ar ls.length cr, .pointer (some ⟨g7, 0, none⟩), x8, x9, x10, x11, x12, x13, x14, x15, x16, x17, x18, x19, x20, x21, x22, x23, x24, x25, x26, x27, x28, x29, x30, x31, x32, x33, x34, x35, x36, x37, x38, x39, x40, x41, x42, x43, x44, x45, x46, x47, x48, x49, x50, x51, x52, x53, x54, x55, x56, x57, x58, x59, x60, x61, x62, x63, x64, x65, x66, x67, x68, x69, x70, x71, x72, x73, x74, x75, x76, x77, x78, x79, x80, x81, x82, x83, x84, x85, x86, x87, x88, x89, x90, x91, x92, x93, x94, x95, x96, x97, x98, x99, x100, x101, x102, x103, x104, x105, x106, x107, x108, x109, x110, x111, x112, x113, x114, x115, x116, x117, x118, x119, x120, x121, x122, x123, x124, x125, x126, x127, x128, x129, x130, x131, x132, x133, x134, x135], defers := [] } W := by
  obtain ⟨F1, y1, rfl, eg, hst⟩ := ha.st
  obtain ⟨F2, y2, rfl, eg2, his⟩ := ha.is
  have hM := hrow.lenM
  have hMn := ha.len
  obtain ⟨q, hq⟩ : ∃ q, q = (if freeRow (upM mk below) 0 ls = false then false else endS (ds.take n) (parT ds n) (strictF (ds.take n) (parT ds n) F (upM mk (below + ls.length))) (upM mk (below + ls.length)) (spineT r)) := ⟨_, rfl⟩
  rw [← hq]
  have HQ := Lib.hid hq
  have HA := Lib.hid ha
  have HMP := Lib.hid ha.mp
  have HST := Lib.hid hst
  have HIS := Lib.hid his
  have HW := Lib.hid hw
  have HROW := Lib.hid hrow
  have HEND := Lib.hid hend
  have HSL := Lib.hid hsl
  have HSR := Lib.hid hsr2
  have HSF := Lib.hid hsF
  have HC := Lib.hid hc
  have hb3 : below ≤ 1000000000 := by omega
  have HB2 := Lib.hid hb2
  simp only [Cells_cons, Cells_nil, and_true] at hc
  obtain ⟨q0, q1, q2, q3, q4, q5, q6, q7, q8⟩ := hc
  have m0 := cell_lt q0
  have m4 := cell_lt q4
  clear ha hrow hend hq hst his hw hsl hsr2 hsF hb2
  conv => arg 2; whnf
  go_wp2_with fail
  go_loopw [33] (fun i wr => ∃ j : Nat, j ≤ ls.length ∧ i = .int .i64 j ∧ Hid (freeRow (upM mk below) j (ls.drop j) = freeRow (upM mk below) 0 ls) ∧ Ext no W wr) (fun i _ => ls.length - (intOf i).toNat)
  case atStart => exact ⟨0, Nat.zero_le _, rfl, Lib.hid (by simp), Ext.refl _ _⟩
  case round =>
    clear q0 q1 q2 q3 q4 q5 q6 q7 q8 m0 m4
    obtain ⟨j, hj, rfl, HS, hx⟩ := hrel
    have HX := Lib.hid hx
    have hc := HC.out.keep hx
    simp only [Cells_cons, Cells_nil, and_true] at hc
    obtain ⟨q0, q1, q2, q3, q4, q5, q6, q7, q8⟩ := hc
    have m0 := cell_lt q0
    have m4 := cell_lt q4
    clear hx
    have H := Hp.start no wr
    by_cases hlt : j < ls.length
    · have hAr : ∃ b_ o, Ar = some ⟨b_, o, none⟩ := by
        obtain ⟨b_, o, _, _, _, _, h, _⟩ := HROW.out.atTm hlt
        exact ⟨b_, o, h⟩
      obtain ⟨b_, o, rfl⟩ := hAr
      obtain ⟨b2_, o2, B1, ca1, L1, ck1, hA_, hb_, hS_, hd, p0, p1, p2, p3, p4⟩ := (HROW.out.ext0 HX.out).atTm hlt
      simp only [Option.some.injEq, Addr.mk.injEq, and_true] at hA_
      obtain ⟨rfl, rfl⟩ := hA_
      have HD := Lib.hid hd
      have HE := Lib.hid (freeRow_drop (v := upM mk below) hlt)
      have HZJ := Lib.hid (HSL.out _ (List.getElem_mem hlt))
      clear hd hS_
      have hr_ := H.rules; simp only [Rules, and_true] at hr_; have hd_ := H.dif; simp only [Dif, Neq, and_true] at hd_; obtain ⟨ho_, hz_⟩ := H.old0
      go_wp2_with ((with_reducible refine atStore (t := 26) ?_); go_must (refine wpList_storeH (t := 26) rfl rfl (by go_simp <;> first | rfl | exact ⟨rfl, rfl⟩) (by go_simp <;> first | rfl | exact ⟨rfl, rfl⟩) (by exact Hp.norm (by (repeat (first | with_reducible exact H | with_reducible exact H0_ | with_reducible apply Hp.alloc | with_reducible apply Hp.allocMap | with_reducible apply Hp.drew | with_reducible apply Hp.drewN | with_reducible apply Hp.set)); (try any_goals (repeat (first | with_reducible exact Upd.head | with_reducible apply Upd.tail)))) (by ((try simp only [size_drew_, size_drewN_, World.size_alloc, World.size_setCell, List.set_cons_zero, List.set_cons_succ, List.nil_append, List.cons_append]) <;> rfl))) (by (repeat (first | with_reducible exact Upd.head | with_reducible apply Upd.tail))) (by exact aggTerm) (by rfl) (by simp [Value.oneCell']) ?_; clear H; intro w7 H; (try simp only [size_drew_, size_drewN_, World.size_alloc, World.size_setCell, List.set_cons_zero, List.set_cons_succ] at H); (try clear hr_ hd_ ho_ hz_); have hr_ := H.rules; simp only [Rules, and_true] at hr_; have hd_ := H.dif; simp only [Dif, Neq, and_true] at hd_; obtain ⟨ho_, hz_⟩ := H.old0))
      (try clear hr_ hd_ ho_ hz_)
      refine callsH (by (repeat (first | with_reducible exact H | with_reducible exact H0_ | with_reducible apply Hp.alloc | with_reducible apply Hp.allocMap | with_reducible apply Hp.drew | with_reducible apply Hp.drewN | with_reducible apply Hp.set)); (try any_goals (repeat (first | with_reducible exact Upd.head | with_reducible apply Upd.tail)))) ?_
      clear H; intro w9 H; (try simp only [size_drew_, size_drewN_, World.size_alloc, World.size_setCell, List.set_cons_zero, List.set_cons_succ] at H)
      obtain ⟨S', hone⟩ := H.oneRdS (t := ls[j]) .head HD.out
      obtain ⟨z, hz⟩ : ∃ z, z = standsM (upM (upM mk below) j) ls[j] := ⟨_, rfl⟩
      have hcall := mfree_calls (below := below + j) (fi := .func (.func F2) #[] y2) (HA.out.ext (HX.out.seq H.ext)).tab (HA.out.ext (HX.out.seq H.ext)).st hone (by intro t ht; obtain rfl := List.mem_singleton.1 ht; exact HZJ.out) (by omega) (by have := HB2.out; omega)
      rw [show ([ls[j]].all fun t => !standsM (upM mk (below + j)) t) = !z by rw [hz, upM_up]; simp] at hcall
      have HZ := Lib.hid hz
      clear hz hone
      refine hcall.mono ?_
      clear hcall
      rintro e w11 hm
      have hx := hm.2
      replace H := H.call hx
      clear hx
      cases z
      · obtain rfl := hm.yes rfl
        clear hm
        go_wp2_with fail
        go_roundw
        case rel => exact ⟨j + 1, by omega, by first | go_num | rfl | simp, Lib.hid (by rw [← HS.out, HE.out, ← HZ.out]; rfl), HX.out.seq H.ext⟩
        case measure => simp [intOf]; omega
      · obtain rfl := hm.no rfl
        clear hm
        go_wp2_with fail
        refine ⟨rfl, ?_, ((Kn.start HMP.out).ext (HX.out.seq H.ext)).pre HW.out⟩
        rw [HQ.out, ← HS.out, HE.out, ← HZ.out]
        rfl
    · have HF : Hid (freeRow (upM mk below) 0 ls = true) := by
        unfold Hid
        rw [← HS.out, List.drop_eq_nil_of_le (by omega)]
        rfl
      have hQ2 := HQ.out
      rw [if_neg (by rw [HF.out]; simp)] at hQ2
      have hsp := spineT_size r
      have hll := length_sizes (spineT r).2
      have hsx : ∀ x ∈ (spineT r).2, sizeT x ≤ sizesT (spineT r).2 := fun x hx => sizesT_memS hx
      obtain ⟨hd, hhd⟩ : ∃ hd, hd = (spineT r).1 := ⟨_, rfl⟩
      obtain ⟨l, hl⟩ : ∃ l, l = (spineT r).2 := ⟨_, rfl⟩
      have hsF2 := HSF.out
      rw [← hl] at hsp hll hsx hsF2
      rw [show spineT r = (hd, l) by rw [hhd, hl]] at hQ2
      obtain ⟨at', hat⟩ : ∃ at' : Int, at' = below + ls.length := ⟨_, rfl⟩
      rw [← hat] at hQ2
      have hr2 := HSR.out
      have hB := HB2.out
      have HQ2 := Lib.hid hQ2
      have HHD := Lib.hid hhd
      have HL := Lib.hid hl
      have HLL := Lib.hid (show l.length ≤ 4000000 by omega)
      have HLS := Lib.hid (show ∀ x ∈ l, sizeT x ≤ F ∧ sizeT x ≤ 4000000 ∧ at' + sizeT x ≤ 1000000000 from fun x hx => ⟨hsF2 x hx, by have := hsx x hx; omega, by have := hsx x hx; omega⟩)
      have ha0 : 0 ≤ at' := by omega
      have ha1 : at' ≤ 1000000000 := by omega
      have hat2 : below + (ls.length : Int) = at' := hat.symm
      clear hQ2 hhd hl hsp hll hsx hsF2 hr2 hB HF HS hat HQ HSF
      have hr_ := H.rules; simp only [Rules, and_true] at hr_; have hd_ := H.dif; simp only [Dif, Neq, and_true] at hd_; obtain ⟨ho_, hz_⟩ := H.old0
      go_wp2_with fail
      (try clear hr_ hd_ ho_ hz_)
      refine callsH (by (repeat (first | with_reducible exact H | with_reducible exact H0_ | with_reducible apply Hp.alloc | with_reducible apply Hp.allocMap | with_reducible apply Hp.drew | with_reducible apply Hp.drewN | with_reducible apply Hp.set)); (try any_goals (repeat (first | with_reducible exact Upd.head | with_reducible apply Upd.tail)))) ?_
      clear H; intro w8 H; (try simp only [size_drew_, size_drewN_, World.size_alloc, World.size_setCell, List.set_cons_zero, List.set_cons_succ] at H)
      refine (teleSpine (t := r) (HA.out.ext (HX.out.seq H.ext)).tab ⟨_, _, _, _, rfl, HEND.out.ext0 (HX.out.seq H.ext)⟩ (by rw [← HL.out]; exact Nat.le_trans HLL.out (by omega))).mono ?_
      rw [show spineT r = (hd, l) by rw [HHD.out, HL.out]]
      rintro e w9 ⟨B2, cb2, K2, kb2, A3, c3, rfl, H2⟩
      replace H := H.res2 H2
      clear H2
      dsimp only at H ⊢
      have hr_ := H.rules; simp only [Rules, and_true] at hr_; have hd_ := H.dif; simp only [Dif, Neq, and_true] at hd_; obtain ⟨ho_, hz_⟩ := H.old0
      go_wp2_with ((with_reducible refine atStore (t := 26) ?_); go_must (refine wpList_storeH (t := 26) rfl rfl (by go_simp <;> first | rfl | exact ⟨rfl, rfl⟩) (by go_simp <;> first | rfl | exact ⟨rfl, rfl⟩) (by exact Hp.norm (by (repeat (first | with_reducible exact H | with_reducible exact H0_ | with_reducible apply Hp.alloc | with_reducible apply Hp.allocMap | with_reducible apply Hp.drew | with_reducible apply Hp.drewN | with_reducible apply Hp.set)); (try any_goals (repeat (first | with_reducible exact Upd.head | with_reducible apply Upd.tail)))) (by ((try simp only [size_drew_, size_drewN_, World.size_alloc, World.size_setCell, List.set_cons_zero, List.set_cons_succ, List.nil_append, List.cons_append]) <;> rfl))) (by (repeat (first | with_reducible exact Upd.head | with_reducible apply Upd.tail))) (by exact aggTerm) (by rfl) (by simp [Value.oneCell']) ?_; clear H; intro w10 H; (try simp only [size_drew_, size_drewN_, World.size_alloc, World.size_setCell, List.set_cons_zero, List.set_cons_succ] at H); (try clear hr_ hd_ ho_ hz_); have hr_ := H.rules; simp only [Rules, and_true] at hr_; have hd_ := H.dif; simp only [Dif, Neq, and_true] at hd_; obtain ⟨ho_, hz_⟩ := H.old0))
      (try clear hr_ hd_ ho_ hz_)
      refine callsH (by (repeat (first | with_reducible exact H | with_reducible exact H0_ | with_reducible apply Hp.alloc | with_reducible apply Hp.allocMap | with_reducible apply Hp.drew | with_reducible apply Hp.drewN | with_reducible apply Hp.set)); (try any_goals (repeat (first | with_reducible exact Upd.head | with_reducible apply Upd.tail)))) ?_
      clear H; intro w11 H; (try simp only [size_drew_, size_drewN_, World.size_alloc, World.size_setCell, List.set_cons_zero, List.set_cons_succ] at H)
      obtain ⟨z, hz⟩ : ∃ z, z = isM (upM mk at') hd := ⟨_, rfl⟩
      have hcall := HIS.out _ ((HX.out.seq H.ext).noX) _ hd _ at' ⟨_, _, _, _, rfl, H.rd (by (repeat (first | with_reducible exact Pick.head | with_reducible apply Pick.tail)))⟩ ha0 ha1
      rw [← hz] at hcall
      have HZ := Lib.hid hz
      clear hz
      refine (hcall).mono ?_
      rintro e w_ ⟨rfl, hx⟩
      replace H := H.call hx
      clear hx
      clear hcall
      cases z
      · have hQ3 : q = (if hd.k = 8 ∧ 0 ≤ hd.n ∧ hd.n < (ds.take n).length then
            if ((ds.take n).getD hd.n.toNat zDc).kind = 3 ∧ ((ds.take n).getD hd.n.toNat zDc).params.length ≤ l.length then
              ((l.drop ((ds.take n).getD hd.n.toNat zDc).params.length).all fun x => !standsM (upM mk at') x) && argsS (strictF (ds.take n) (parT ds n) F (upM mk at')) (upM mk at') (parT ds n hd.n.toNat) 0 (l.take ((ds.take n).getD hd.n.toNat zDc).params.length)
            else false
          else false) := by rw [HQ2.out, endS, if_neg (by rw [← HZ.out]; simp)]
        have hnl : (ds.take n).length = n := by rw [List.length_take]; have := HA.out.hn; omega
        rw [hnl] at hQ3
        have HQ3 := Lib.hid hQ3
        have HNL := Lib.hid hnl
        clear hQ3 hnl HQ2 HZ
        have hr_ := H.rules; simp only [Rules, and_true] at hr_; have hd_ := H.dif; simp only [Dif, Neq, and_true] at hd_; obtain ⟨ho_, hz_⟩ := H.old0
        go_wp2_with fail
        (try clear hr_ hd_ ho_ hz_)
        refine callsH (by (repeat (first | with_reducible exact H | with_reducible exact H0_ | with_reducible apply Hp.alloc | with_reducible apply Hp.allocMap | with_reducible apply Hp.drew | with_reducible apply Hp.drewN | with_reducible apply Hp.set)); (try any_goals (repeat (first | with_reducible exact Upd.head | with_reducible apply Upd.tail)))) ?_
        clear H; intro w12 H; (try simp only [size_drew_, size_drewN_, World.size_alloc, World.size_setCell, List.set_cons_zero, List.set_cons_succ] at H)
        refine (tmust3 H (by (repeat (first | with_reducible exact Pick.head | with_reducible apply Pick.tail)))).mono ?_
        rintro e w13 hm
        have hx := hm.2
        have HMU := Lib.hid hm
        clear hm
        replace H := H.call hx
        clear hx
        by_cases hk3 : hd.k = 8 ∧ 0 ≤ hd.n ∧ hd.n < n
        · obtain rfl := HMU.out.yes (by simpa using hk3)
          have hQ4 := HQ3.out
          rw [if_pos hk3] at hQ4
          obtain ⟨m, hm⟩ : ∃ m : Nat, hd.n = m := ⟨hd.n.toNat, by omega⟩
          have hmn : m < n := by omega
          rw [hm] at H ⊢
          rw [hm, Int.toNat_natCast, getD_take hmn] at hQ4
          have HQ4 := Lib.hid hQ4
          have hmt : m < (ds.take n).length := by rw [HNL.out]; exact hmn
          have hdd : (ds.take n)[m] = ds.getD m zDc := by rw [← getD_take hmn, List.getD_eq_getElem?_getD, List.getElem?_eq_getElem hmt]; rfl
          obtain ⟨Sd, hdcs, hSd⟩ := HA.out.dcs
          obtain ⟨b_, o, Aty, cty, Kty, kty, Abody, cbody, Kbody, kbody, Aparams, cparams, Asort, csort, Amembers, cmembers, Actors, cctors, hA_, hbd, hS_, hdc, u0, u1, u2, u3, u4, u5, u6, u7, u8, u9, u10, u11, u12, u13, u14, u15⟩ := (hdcs.ext0 HX.out).atDc hmt
          rw [hdd] at hdc u0 u1 u2 u3 u4 u5 u6 u7 u8 u9 u10 u11 u12 u13 u14 u15
          subst hA_
          obtain ⟨d, hd_⟩ : ∃ d, d = ds.getD m zDc := ⟨_, rfl⟩
          rw [← hd_] at hdc u0 u1 u2 u3 u4 u5 u6 u7 u8 u9 u10 u11 u12 u13 u14 u15
          have HDC := Lib.hid hd_
          have hmM : (m : Int) ≤ 4294967296 := by omega
          clear hQ4 hk3 HMU HQ3 hdd hdcs hSd hdc hS_ hd_ hm hmt
          have hr_ := H.rules; simp only [Rules, and_true] at hr_; have hd_ := H.dif; simp only [Dif, Neq, and_true] at hd_; obtain ⟨ho_, hz_⟩ := H.old0
          go_wp2_with ((with_reducible refine atStore (t := 51) ?_); go_must (refine wpList_storeH (t := 51) rfl rfl (by go_simp <;> first | rfl | exact ⟨rfl, rfl⟩) (by go_simp <;> first | rfl | exact ⟨rfl, rfl⟩) (by exact Hp.norm (by (repeat (first | with_reducible exact H | with_reducible exact H0_ | with_reducible apply Hp.alloc | with_reducible apply Hp.allocMap | with_reducible apply Hp.drew | with_reducible apply Hp.drewN | with_reducible apply Hp.set)); (try any_goals (repeat (first | with_reducible exact Upd.head | with_reducible apply Upd.tail)))) (by ((try simp only [size_drew_, size_drewN_, World.size_alloc, World.size_setCell, List.set_cons_zero, List.set_cons_succ, List.nil_append, List.cons_append]) <;> rfl))) (by (repeat (first | with_reducible exact Upd.head | with_reducible apply Upd.tail))) (by exact aggDecl) (by rfl) (by simp [Value.oneCell']) ?_; clear H; intro w14 H; (try simp only [size_drew_, size_drewN_, World.size_alloc, World.size_setCell, List.set_cons_zero, List.set_cons_succ] at H); (try clear hr_ hd_ ho_ hz_); have hr_ := H.rules; simp only [Rules, and_true] at hr_; have hd_ := H.dif; simp only [Dif, Neq, and_true] at hd_; obtain ⟨ho_, hz_⟩ := H.old0))
          (try clear hr_ hd_ ho_ hz_)
          refine callsH (by (repeat (first | with_reducible exact H | with_reducible exact H0_ | with_reducible apply Hp.alloc | with_reducible apply Hp.allocMap | with_reducible apply Hp.drew | with_reducible apply Hp.drewN | with_reducible apply Hp.set)); (try any_goals (repeat (first | with_reducible exact Upd.head | with_reducible apply Upd.tail)))) ?_
          clear H; intro w15 H; (try simp only [size_drew_, size_drewN_, World.size_alloc, World.size_setCell, List.set_cons_zero, List.set_cons_succ] at H)
          refine (tmust2 H (by (repeat (first | with_reducible exact Pick.head | with_reducible apply Pick.tail)))).mono ?_
          rintro e w16 hm
          have hx := hm.2
          have HMU := Lib.hid hm
          clear hm
          replace H := H.call hx
          clear hx
          by_cases hk4 : d.kind = 3 ∧ d.params.length ≤ l.length
          · obtain rfl := HMU.out.yes (by simpa using hk4)
            have hQ5 := HQ4.out
            rw [← HDC.out, if_pos hk4] at hQ5
            obtain ⟨hk5, hp⟩ := hk4
            obtain ⟨P, hP⟩ : ∃ P, P = d.params.length := ⟨_, rfl⟩
            rw [← hP] at hp hQ5 H
            obtain ⟨l2, hl2⟩ : ∃ l2, l2 = l.drop P := ⟨_, rfl⟩
            have hll2 : l2.length = l.length - P := by rw [hl2]; simp
            rw [← hl2] at hQ5
            have hc3 : l.length ≤ c3 := ((H.rd (d := .l 26 5 (l.map Tm.d)) (cs := [.slice A3 l.length c3]) (by (repeat (first | with_reducible exact Pick.head | with_reducible apply Pick.tail)))).lenM).2
            have hsuf : ∀ W, (Instr.sliceAt 22 (.slice A3 l.length c3) (some (.int .i64 (P : Int))) none none).run Tryz.prog W = .ok (.slice (sufAd A3 c3 P 5) l2.length (c3 - P)) W := fun W => by rw [hll2]; exact runSufTm A3 hp hc3 W
            have HQ5 := Lib.hid hQ5
            have HL2 := Lib.hid hl2
            have HLL2 := Lib.hid hll2
            have HK5 := Lib.hid hk5
            have HPP := Lib.hid hP
            have HP := Lib.hid hp
            have hPM : P ≤ 4000000 := Nat.le_trans hp HLL.out
            clear hQ5 hl2 hll2 hk5 hP HMU HQ4 hp
            have hr_ := H.rules; simp only [Rules, and_true] at hr_; have hd_ := H.dif; simp only [Dif, Neq, and_true] at hd_; obtain ⟨ho_, hz_⟩ := H.old0
            go_wp2_with fail
            (try clear hr_ hd_ ho_ hz_)
            refine regionH (by (repeat (first | with_reducible exact H | with_reducible exact H0_ | with_reducible apply Hp.alloc | with_reducible apply Hp.allocMap | with_reducible apply Hp.drew | with_reducible apply Hp.drewN | with_reducible apply Hp.set)); (try any_goals (repeat (first | with_reducible exact Upd.head | with_reducible apply Upd.tail)))) ?_
            clear H; intro w17 H; (try simp only [size_drew_, size_drewN_, World.size_alloc, World.size_setCell, List.set_cons_zero, List.set_cons_succ] at H)
            refine wp_region_H 9 [false, false, false, false, false, false, false, false, false] [] H (.cons (i := 1) rfl .nil) (by kernel_rfl) rfl rfl (fun H_ hR_ => ?_)
            (try clear H0_); have H0_ := H; clear H; have H := H_; clear H_
            refine wpL_reads (is := [(0, ?v1_0), (1, ?v1_1), (2, ?v1_2), (3, ?v1_3), (4, ?v1_4), (5, ?v1_5), (6, ?v1_6), (7, ?v1_7)]) (by kernel_rfl) (Nat.le_of_ble_eq_true rfl) (by intro _ _ d_ _ _ h_; cases d_ <;> exact h_) (by kernel_rfl) hR_ (fun w_ hw_ => ?h1_) ?_
            case h1_ =>
              have ho_ := hw_.old0.1; have hz_ := hw_.old0.2; have hr_ := hw_.rules; clear hw_; simp only [Rules, and_true] at hr_; go_split_ands
              (repeat (first | with_reducible exact RdOps.nil | (refine RdOps.run rfl (by rfl) ?_ ?_; (focus (first | (go_simp; done) | (go_simp; with_reducible rfl))); simp only [List.getElem_toArray, List.getElem_cons_zero, List.getElem_cons_succ, Act.put, List.setIfInBounds_toArray, List.set_cons_zero, List.set_cons_succ]) | (refine RdOps.skip rfl (by rfl) ?_ ?_; (focus (with_reducible rfl)); simp only [List.getElem_toArray, List.getElem_cons_zero, List.getElem_cons_succ, Act.put, List.setIfInBounds_toArray, List.set_cons_zero, List.set_cons_succ])))
            simp only [rdMark, rdAct, List.map_cons, List.map_nil, List.length_cons, List.length_nil, Nat.reduceAdd, Nat.reduceSub, Nat.zero_add, List.getElem?_toArray, List.getElem?_cons_zero, List.getElem?_cons_succ, Option.bind_some, Act.put, List.setIfInBounds_toArray, List.set_cons_zero, List.set_cons_succ]
            refine wpL_do (i := 8) rfl (by kernel_rfl) (by rfl) (fun K_ hK_ => ?_)
            go_simp
            have hrc := (H.rd (d := .l 26 5 (l.map Tm.d)) (cs := [.slice A3 l.length c3]) (by (repeat (first | with_reducible exact Pick.head | with_reducible apply Pick.tail)))).sufS HP.out
            rw [← List.map_drop, ← HL2.out, ← HLL2.out] at hrc
            obtain ⟨z2, hz2⟩ : ∃ z2, z2 = l2.all (fun x => !standsM (upM mk at') x) := ⟨_, rfl⟩
            have hcall := mfree_calls (below := at') (fi := .func (.func F2) #[] y2) (HA.out.ext (HX.out.seq H.ext)).tab (HA.out.ext (HX.out.seq H.ext)).st hrc (fun x hx => (HLS.out x (by rw [HL2.out] at hx; exact List.mem_of_mem_drop hx)).2.1) ha0 ha1
            rw [← hz2] at hcall
            have HZ2 := Lib.hid hz2
            clear hz2 hrc
            refine hcall.mono ?_
            clear hcall
            rintro e w18 hm
            have hx := hm.2
            replace H := H.call hx
            clear hx
            have HQ6 := Lib.hid (show q = (z2 && argsS (strictF (ds.take n) (parT ds n) F (upM mk at')) (upM mk at') (parT ds n m) 0 (l.take P)) by rw [HQ5.out, HZ2.out])
            cases z2
            · obtain rfl := hm.no rfl
              clear hm
              exact ⟨rfl, by rw [HQ6.out]; rfl, ((Kn.start HMP.out).ext (HX.out.seq H.ext)).pre HW.out⟩
            · obtain rfl := hm.yes rfl
              clear hm
              refine hK_ _ _ (fun _ => H.sub (by simp)) (fun _ => ?_)
              refine wpL_done (by kernel_rfl) ?_ _
              repeat ((fail_if_success (with_reducible (first | show Code.wp _ (Code.seq (Code.region 16 _ _) _) _ _ _ | show Code.wp _ (Code.seq (Code.seq (Code.region 16 _ _) _) _) _ _ _))); go_step)
              have hq7 := HQ6.out
              rw [Bool.true_and] at hq7
              rw [hq7, HPP.out, HDC.out]
              have HE := HX.out.seq H.ext
              have b11 := H.blk (g := w9.heap.size) (t := 26) (by (repeat (first | with_reducible exact Pick.head | with_reducible apply Pick.tail)))
              have b11 := b11.cells 1
              have b13 := H.blk (g := w13.heap.size) (t := 51) (by (repeat (first | with_reducible exact Pick.head | with_reducible apply Pick.tail)))
              have b13 := b13.cells 12
              refine strC (Ap := Aparams) (cp := cparams) IHs (IHp m hmn) hmn (HA.out.ext HE) (HW.out.seq HE) (H.rd (d := .l 26 5 (l.map Tm.d)) (by (repeat (first | with_reducible exact Pick.head | with_reducible apply Pick.tail)))) ?_ HLS.out ha0 ha1 (by rw [← HDC.out]; exact HK5.out) (by rw [← HDC.out, ← HPP.out]; exact HP.out) ?_
              · have := HA.out.lt; have := HX.out.size; omega
              · rw [← HDC.out, ← HPP.out]
                simp only [Cells_cons, Cells_nil, and_true]
                exact ⟨H.ext.keep q0, H.ext.keep q1, H.ext.keep q2, H.ext.keep q3, b11, b13⟩
          · obtain rfl := HMU.out.no (by simpa using hk4)
            have hQ5 := HQ4.out
            rw [← HDC.out, if_neg hk4] at hQ5
            clear HMU HQ4 hk4 HDC
            go_wp2_with fail
            exact ⟨rfl, by first | rfl | (rw [hQ5]; rfl), ((Kn.start HMP.out).ext (HX.out.seq H.ext)).pre HW.out⟩
        · obtain rfl := HMU.out.no (by simpa using hk3)
          have hQ4 := HQ3.out
          rw [if_neg hk3] at hQ4
          clear HMU HQ3 hk3
          go_wp2_with fail
          exact ⟨rfl, by first | rfl | (rw [hQ4]; rfl), ((Kn.start HMP.out).ext (HX.out.seq H.ext)).pre HW.out⟩
      · have hr_ := H.rules; simp only [Rules, and_true] at hr_; have hd_ := H.dif; simp only [Dif, Neq, and_true] at hd_; obtain ⟨ho_, hz_⟩ := H.old0
        go_wp2_with fail
        (try clear hr_ hd_ ho_ hz_)
        refine callsH (by (repeat (first | with_reducible exact H | with_reducible exact H0_ | with_reducible apply Hp.alloc | with_reducible apply Hp.allocMap | with_reducible apply Hp.drew | with_reducible apply Hp.drewN | with_reducible apply Hp.set)); (try any_goals (repeat (first | with_reducible exact Upd.head | with_reducible apply Upd.tail)))) ?_
        clear H; intro w12 H; (try simp only [size_drew_, size_drewN_, World.size_alloc, World.size_setCell, List.set_cons_zero, List.set_cons_succ] at H)
        obtain ⟨z2, hz2⟩ : ∃ z2, z2 = l.all (fun x => !standsM (upM mk at') x) := ⟨_, rfl⟩
        have hcall := mfree_calls (below := at') (fi := .func (.func F2) #[] y2) (HA.out.ext (HX.out.seq H.ext)).tab (HA.out.ext (HX.out.seq H.ext)).st (H.rd (d := .l 26 5 (l.map Tm.d)) (by (repeat (first | with_reducible exact Pick.head | with_reducible apply Pick.tail)))) (fun x hx => (HLS.out x hx).2.1) ha0 ha1
        rw [← hz2] at hcall
        have HZ2 := Lib.hid hz2
        clear hz2
        refine hcall.mono ?_
        clear hcall
        rintro e w13 hm
        have hx := hm.2
        replace H := H.call hx
        clear hx
        have hq3 : q = z2 := by rw [HQ2.out, endS, if_pos HZ.out.symm, HZ2.out]
        cases z2
        · obtain rfl := hm.no rfl
          clear hm
          go_wp2_with fail
          exact ⟨rfl, by first | rfl | (rw [hq3]; rfl), ((Kn.start HMP.out).ext (HX.out.seq H.ext)).pre HW.out⟩
        · obtain rfl := hm.yes rfl
          clear hm
          go_wp2_with fail
          go_end0
          exact ⟨by first | rfl | (rw [hq3]; rfl), ((Kn.start HMP.out).ext (HX.out.seq H.ext)).pre HW.out⟩
end Go.Proofs.YtmedomglemllnaaGreatDoor
