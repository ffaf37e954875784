/- law 18: high, great: contracts. No statement of the seat is proved here. -/
import Derived.Test.YtmedomglemllnaaGreatDoorMgL18f
namespace Go.Proofs.YtmedomglemllnaaGreatDoor
set_option linter.unusedSimpArgs false
set_option linter.unusedVariables false
open Go.RowKit

theorem Hp.boxRowN {w0 w : World} {l l' : List Ch} {g e z n : Nat} {ds : List D} {cs : List Value} {S : Nat → Prop} (H : Hp no w0 w l) (p : Pick l (.box g e cs) l') (h : RCs w0 S ds cs) (hz : ∀ d ∈ ds, d.size = z) (hn : ds.length = n) (hM : n ≤ 1000) : Hp no w0 w (.row e z ds (.slice (some ⟨g, 0, none⟩) n n) :: l') := by
  subst hn
  have hl := RCs.len _ _ h
  rw [D.sizes_eq hz] at hl
  have H1 := H.boxraw (z := z) (n := ds.length) p (by omega) (by unfold maxLen; omega)
  refine Hp.turn1 (ds' := [_]) H1 .head fun L hL => ?_
  obtain ⟨rfl, hown⟩ := hL
  have hg : w0.heap.size ≤ g := (hown.lt g (by simp [Value.ownBlock])).1
  unfold Chs
  refine ⟨_, [], by simp, ⟨rfl, ⟨by unfold M; omega, hz, cs, hown, ?_⟩⟩, by unfold Chs; rfl⟩
  refine RCs.frame H.ext.size (fun k hk hS => ⟨⟨hk, no_not⟩, fun e => ?_⟩) (fun k hk _ => H.ext.block k hk no_not) _ _ h
  simp only [Value.ownBlock, Option.some.injEq] at e
  omega
def PAny18 (w : World) (e : Ending) (w' : World) : Prop := ∃ q : Bool, e = .returned (.bool q) ∧ Ext no w w'
set_option maxRecDepth 100000 in
set_option maxHeartbeats 8000000 in
theorem hiC {w W : World} {us : List Tm} {A0 : Option Addr} {c0 : Nat} {S : Nat → Prop} {x0 x1 x2 x4 x5 x6 x7 x8 x9 x10 x11 x12 x13 x14 x15 x16 x17 x18 x19 x20 x21 x22 x23 x24 x25 x26 x27 x28 x29 x30 x31 x32 x33 x34 x35 x36 x37 x38 x39 x40 x41 x42 x43 x44 x45 x46 x47 x48 x49 x50 x51 x52 x53 x54 x55 x56 x57 x58 x59 x60 x61 x62 x63 x64 x65 : Value} (hx : Ext no w W) (h : RC W S (.l 26 5 (us.map Tm.d)) [.slice A0 us.length c0]) :
    (fromF 10 (Tryz.f123.body.getD .skip)).wp Tryz.prog (bodyPost Tryz.prog Tryz.f123 (PAny18 w)) { tmps := #[x0, x1, x2, .slice A0 us.length c0, x4, x5, x6, x7, x8, x9, x10, x11, x12, x13, x14, x15, x16, x17, x18, x19, x20, x21, x22, x23, x24, x25, x26, x27, x28, x29, x30, x31, x32, x33, x34, x35, x36, x37, x38, x39, x40, x41, x42, x43, x44, x45, x46, x47, x48, x49, x50, x51, x52, x53, x54, x55, x56, x57, x58, x59, x60, x61, x62, x63, x64, x65], defers := [] } W := by
  have HX := Lib.hid hx
  have HH := Lib.hid h
  have hM := h.lenM
  clear hx h
  conv => arg 2; whnf
  go_wp2_with fail
  go_loopw [6] (fun i wr => ∃ j : Nat, j ≤ us.length ∧ i = .int .i64 (j : Int) ∧ Ext no W wr) (fun i _ => us.length - (intOf i).toNat)
  case atStart => exact ⟨0, Nat.zero_le _, rfl, Ext.refl _ _⟩
  case round =>
    obtain ⟨j, hj, rfl, hx⟩ := hrel
    have HX2 := Lib.hid hx
    by_cases hlt : j < us.length
    · obtain ⟨b_, o, B1, ca1, L1, ck1, rfl, hb, hS_, hd, p0, p1, p2, p3, p4⟩ := (HH.out.ext0 hx).atTm hlt
      have HD := Lib.hid hd
      clear hd hS_ hx
      go_wp2_with fail
      refine (deep18_calls us[j] _ _ _ 60 ⟨_, _, _, _, rfl, HD.out⟩).mono ?_
      rintro e w3 ⟨z, rfl, hx⟩
      by_cases hz : 60 < z
      · go_wp2_with fail
        go_ret
        exact ⟨_, rfl, HX.out.seq (HX2.out.seq hx)⟩
      · go_wp2_with fail
        go_roundw
        case rel => exact ⟨j + 1, by omega, by first | go_num | rfl | simp, HX2.out.seq hx⟩
        case measure => first | (simp [intOf]; done) | (simp [intOf]; omega)
    · go_wp2_with fail
      go_ret
      exact ⟨_, rfl, HX.out.seq hx⟩
set_option maxRecDepth 100000 in
set_option maxHeartbeats 8000000 in
theorem hiB {w W : World} {us : List Tm} {v : Value} {g1 : Nat} {d : Dc} {S : Nat → Prop} {Aty Kty Abody Kbody Aparams Asort Amembers Actors : Option Addr} {cty kty cbody kbody cparams csort cmembers cctors : Nat} {x0 x2 x4 x5 x6 x7 x8 x9 x10 x11 x12 x13 x14 x15 x16 x17 x18 x19 x20 x21 x22 x23 x24 x25 x26 x27 x28 x29 x30 x31 x32 x33 x34 x35 x36 x37 x38 x39 x40 x41 x42 x43 x44 x45 x46 x47 x48 x49 x50 x51 x52 x53 x54 x55 x56 x57 x58 x59 x60 x61 x62 x63 x64 x65 : Value} (hul : us.length ≤ 2004000002) (hct : RC w S (.l 148 6 (d.ctors.map Ct.d)) [.slice Actors d.ctors.length cctors]) (H : Hp no w W [.row 26 5 (us.map Tm.d) v, .box g1 51 [.int .i64 d.kind, .int .i64 d.levels, .int .i64 d.ty.k, .int .i64 d.ty.n, .int .i64 d.ty.a, .slice Aty d.ty.ls.length cty, .slice Kty d.ty.ks.length kty, .int .i64 d.body.k, .int .i64 d.body.n, .int .i64 d.body.a, .slice Abody d.body.ls.length cbody, .slice Kbody d.body.ks.length kbody, .slice Aparams d.params.length cparams, .slice Asort d.sort.length csort, .slice Amembers d.members.length cmembers, .slice Actors d.ctors.length cctors]]) :
    (fromF 6 (Tryz.f123.body.getD .skip)).wp Tryz.prog (bodyPost Tryz.prog Tryz.f123 (PAny18 w)) { tmps := #[x0, .pointer (some ⟨g1, 0, none⟩), x2, v, x4, x5, x6, x7, x8, x9, x10, x11, x12, x13, x14, x15, x16, x17, x18, x19, x20, x21, x22, x23, x24, x25, x26, x27, x28, x29, x30, x31, x32, x33, x34, x35, x36, x37, x38, x39, x40, x41, x42, x43, x44, x45, x46, x47, x48, x49, x50, x51, x52, x53, x54, x55, x56, x57, x58, x59, x60, x61, x62, x63, x64, x65], defers := [] } W := by
  have HCT := Lib.hid hct
  have HUL := Lib.hid hul
  have hM3 := hct.lenM
  clear hct hul
  conv => arg 2; whnf
  go_wp2_with fail
  go_loopw [3, 5] (fun out i wr => ∃ (j : Nat) (us : List Tm), j ≤ d.ctors.length ∧ j ≤ 500 ∧ i = .int .i64 (j : Int) ∧ Hid (us.length ≤ 2004000002 + j) ∧ Hp no w wr [.row 26 5 (us.map Tm.d) out, .box g1 51 [.int .i64 d.kind, .int .i64 d.levels, .int .i64 d.ty.k, .int .i64 d.ty.n, .int .i64 d.ty.a, .slice Aty d.ty.ls.length cty, .slice Kty d.ty.ks.length kty, .int .i64 d.body.k, .int .i64 d.body.n, .int .i64 d.body.a, .slice Abody d.body.ls.length cbody, .slice Kbody d.body.ks.length kbody, .slice Aparams d.params.length cparams, .slice Asort d.sort.length csort, .slice Amembers d.members.length cmembers, .slice Actors d.ctors.length cctors]]) (fun _ i _ => d.ctors.length - (intOf i).toNat)
  case atStart => exact ⟨0, us, Nat.zero_le _, by omega, rfl, Lib.hid HUL.out, H⟩
  case round =>
    clear H
    obtain ⟨j, us, hj, hj5, rfl, HU2, H⟩ := hrel
    by_cases hlt : j < d.ctors.length ∧ j < 500
    · obtain ⟨h1, h2⟩ := hlt
      obtain ⟨b, o, A1, a1, K1, k1, rfl, hb_, hS_, hcd, p0, p1, p2, p3, p4, p5⟩ := HCT.out.atCt h1
      obtain ⟨_, _, _, _, he, _, hty⟩ := RC.ct.1 hcd
      simp only [List.cons.injEq, Value.slice.injEq, and_true, true_and] at he
      obtain ⟨⟨rfl, rfl⟩, rfl, rfl⟩ := he
      generalize d.ctors[j] = ct at p0 p1 p2 p3 p4 p5 hty
      have HTY := Lib.hid hty
      clear hcd hty hS_
      have hr_ := H.rules; simp only [Rules, and_true] at hr_; have hd_ := H.dif; simp only [Dif, Neq, and_true] at hd_; obtain ⟨ho_, hz_⟩ := H.old0
      go_wp2_with (at_builtin; go_must (refine listH (by (repeat (first | with_reducible exact H | with_reducible exact H0_ | with_reducible apply Hp.alloc | with_reducible apply Hp.allocMap | with_reducible apply Hp.drew | with_reducible apply Hp.drewN | with_reducible apply Hp.set)); (try any_goals (repeat (first | with_reducible exact Upd.head | with_reducible apply Upd.tail)))) ?_; clear H; intro w2 H; (try simp only [size_drew_, size_drewN_, World.size_alloc, World.size_setCell, List.set_cons_zero, List.set_cons_succ] at H); refine wpList_pushR rfl (.tmp 45) (.tmp 52) 22 rfl stTerms rfl rfl H .head .head (HTY.out.oldP H.ext) (Tm.size_d _) ?_ ?_; (focus (have := HU2.out; simp [M]; omega)); clear H; intro v3 w3 H; (try clear hr_ hd_ ho_ hz_)))
      (try clear hr_ hd_ ho_ hz_)
      go_roundw
      case rel => exact ⟨j + 1, us ++ [ct.ty], by omega, by omega, by first | go_num | rfl | simp, Lib.hid (by have := HU2.out; simp; omega), by rw [List.map_append]; exact H⟩
      case measure => first | (simp [intOf]; done) | (simp [intOf]; omega)
    · have hlt2 : (¬ j < d.ctors.length) ∨ (j < d.ctors.length ∧ ¬ j < 500) := by omega
      have hrd := H.rowRd (by (repeat (first | with_reducible exact Pick.head | with_reducible apply Pick.tail)))
      obtain ⟨A6, c6, rfl, _, _, _⟩ := hrd.slice
      rw [List.length_map] at hrd
      have HRD := Lib.hid hrd
      clear hrd
      rw [List.length_map] at H
      rcases hlt2 with h1 | ⟨h1, h2⟩
      · have hr_ := H.rules; simp only [Rules, and_true] at hr_; have hd_ := H.dif; simp only [Dif, Neq, and_true] at hd_; obtain ⟨ho_, hz_⟩ := H.old0
        repeat ((fail_if_success (with_reducible (first | show Code.wp _ (Code.seq (Code.region 10 _ _) _) _ _ _ | show Code.wp _ (Code.seq (Code.seq (Code.region 10 _ _) _) _) _ _ _))); go_step)
        exact hiC H.ext HRD.out
      · have hr_ := H.rules; simp only [Rules, and_true] at hr_; have hd_ := H.dif; simp only [Dif, Neq, and_true] at hd_; obtain ⟨ho_, hz_⟩ := H.old0
        repeat ((fail_if_success (with_reducible (first | show Code.wp _ (Code.seq (Code.region 10 _ _) _) _ _ _ | show Code.wp _ (Code.seq (Code.seq (Code.region 10 _ _) _) _) _ _ _))); go_step)
        exact hiC H.ext HRD.out
set_option maxRecDepth 100000 in
set_option maxHeartbeats 8000000 in
theorem high18_calls {w : World} {S : Nat → Prop} {d : Dc} {cs : List Value} (hd : RC w S d.d cs) (hp : d.params.length ≤ 4000000) (hm : ∀ m ∈ d.members, m.index.length ≤ 4000000) : Calls Tryz.prog 123 #[.agg cs.toArray] w (PAny18 w) := by
  obtain ⟨Aty, cty, Kty, kty, Abody, cbody, Kbody, kbody, Aparams, cparams, Asort, csort, Amembers, cmembers, Actors, cctors, rfl, i0, i1, hty, hbd, hpa, hso, hmb, hct⟩ := RC.dc.1 hd
  have HTY := Lib.hid hty
  have HBD := Lib.hid hbd
  have HPA := Lib.hid hpa
  have HMB := Lib.hid hmb
  have HCT := Lib.hid hct
  have HP := Lib.hid hp
  have HM := Lib.hid hm
  have hM1 := hpa.lenM
  have hM2 := hmb.lenM
  have hM3 := hct.lenM
  clear hd hty hbd hpa hso hmb hct hp hm i0 i1
  go_enter Tryz.func123, Tryz.ntmps123
  have H := Hp.start no w
  go_wp2_with (at_builtin; go_must (refine listH (by (repeat (first | with_reducible exact H | with_reducible exact H0_ | with_reducible apply Hp.alloc | with_reducible apply Hp.allocMap | with_reducible apply Hp.drew | with_reducible apply Hp.drewN | with_reducible apply Hp.set)); (try any_goals (repeat (first | with_reducible exact Upd.head | with_reducible apply Upd.tail)))) ?_; clear H; intro w2 H; (try simp only [size_drew_, size_drewN_, World.size_alloc, World.size_setCell, List.set_cons_zero, List.set_cons_succ] at H); replace H := H.boxRowN (z := 5) (n := 2) (ds := [d.ty, d.body].map Tm.d) .head (RCs.two HTY.out HBD.out) (by simp [Tm.size_d]) rfl (by omega); refine wpList_pushRs rfl (.tmp 11) (.tmp 13) 22 rfl stTerms rfl rfl H .head (HPA.out.oldP H.ext) ?_ ?_; (focus (have := HP.out; simp [M]; omega)); clear H; intro v3 w3 H))
  (try clear hr_ hd_ ho_ hz_)
  refine codeH (by (repeat (first | with_reducible exact H | with_reducible exact H0_ | with_reducible apply Hp.alloc | with_reducible apply Hp.allocMap | with_reducible apply Hp.drew | with_reducible apply Hp.drewN | with_reducible apply Hp.set)); (try any_goals (repeat (first | with_reducible exact Upd.head | with_reducible apply Upd.tail)))) ?_
  clear H; intro w4 H; (try simp only [size_drew_, size_drewN_, World.size_alloc, World.size_setCell, List.set_cons_zero, List.set_cons_succ] at H)
  go_loopw [3, 4] (fun out i wr => ∃ (j : Nat) (us : List Tm), j ≤ d.members.length ∧ j ≤ 500 ∧ i = .int .i64 (j : Int) ∧ us.length ≤ 4000002 + j * 4000000 ∧ Hp no w wr [.row 26 5 (us.map Tm.d) out, .box w.heap.size 51 [.int .i64 d.kind, .int .i64 d.levels, .int .i64 d.ty.k, .int .i64 d.ty.n, .int .i64 d.ty.a, .slice Aty d.ty.ls.length cty, .slice Kty d.ty.ks.length kty, .int .i64 d.body.k, .int .i64 d.body.n, .int .i64 d.body.a, .slice Abody d.body.ls.length cbody, .slice Kbody d.body.ks.length kbody, .slice Aparams d.params.length cparams, .slice Asort d.sort.length csort, .slice Amembers d.members.length cmembers, .slice Actors d.ctors.length cctors]]) (fun _ i _ => d.members.length - (intOf i).toNat)
  case atStart => exact ⟨0, [d.ty, d.body] ++ d.params, Nat.zero_le _, by omega, rfl, by have := HP.out; simp; omega, by rw [List.map_append]; exact H⟩
  case round =>
    clear H
    obtain ⟨j, us, hj, hj5, rfl, hul, H⟩ := hrel
    have more : j < d.members.length ∧ j < 500 ∨ ¬ (j < d.members.length ∧ j < 500) := by omega
    by_cases hlt : j < d.members.length ∧ j < 500
    · obtain ⟨h1, h2⟩ := hlt
      obtain ⟨b, o, A1, a1, rfl, hb_, hS_, hcd, p0⟩ := HMB.out.atMb h1
      have hmi := HM.out _ (List.getElem_mem h1)
      obtain ⟨_, _, he, hix⟩ := RC.mb.1 hcd
      simp only [List.cons.injEq, Value.slice.injEq, and_true, true_and] at he
      obtain ⟨rfl, rfl⟩ := he
      generalize d.members[j] = mb at p0 hix hmi
      have HIX := Lib.hid hix
      have HMI := Lib.hid hmi
      have HUL := Lib.hid hul
      clear hcd hix hS_ hmi hul
      have hr_ := H.rules; simp only [Rules, and_true] at hr_; have hd_ := H.dif; simp only [Dif, Neq, and_true] at hd_; obtain ⟨ho_, hz_⟩ := H.old0
      go_wp2_with (at_builtin; go_must (refine wpList_pushRs rfl (.tmp 26) (.tmp 32) 22 rfl stTerms rfl rfl H .head (HIX.out.oldP H.ext) ?_ ?_; (focus (have := HUL.out; have := HMI.out; simp [M]; omega)); clear H; intro v3 w3 H; (try clear hr_ hd_ ho_ hz_)))
      (try clear hr_ hd_ ho_ hz_)
      go_roundw
      case rel => exact ⟨j + 1, us ++ mb.index, by omega, by omega, by first | go_num | rfl | simp, by have := HUL.out; have := HMI.out; simp; omega, by rw [List.map_append]; exact (H.arr (by (repeat (first | with_reducible exact Arr.nil | refine Arr.cons (by (repeat (first | with_reducible exact Pick.head | with_reducible apply Pick.tail))) ?_)) <;> exact Arr.of_subl (by (repeat (first | with_reducible exact Subl.refl _ | with_reducible apply Subl.drop)))))⟩
      case measure => first | (simp [intOf]; done) | (simp [intOf]; omega)
    · have hlt2 : (¬ j < d.members.length) ∨ (j < d.members.length ∧ ¬ j < 500) := by omega
      have hul2 : us.length ≤ 2004000002 := by omega
      rcases hlt2 with h1 | ⟨h1, h2⟩
      · have hr_ := H.rules; simp only [Rules, and_true] at hr_; have hd_ := H.dif; simp only [Dif, Neq, and_true] at hd_; obtain ⟨ho_, hz_⟩ := H.old0
        repeat ((fail_if_success (with_reducible (first | show Code.wp _ (Code.seq (Code.region 6 _ _) _) _ _ _ | show Code.wp _ (Code.seq (Code.seq (Code.region 6 _ _) _) _) _ _ _))); go_step)
        exact hiB hul2 HCT.out H
      · have hr_ := H.rules; simp only [Rules, and_true] at hr_; have hd_ := H.dif; simp only [Dif, Neq, and_true] at hd_; obtain ⟨ho_, hz_⟩ := H.old0
        repeat ((fail_if_success (with_reducible (first | show Code.wp _ (Code.seq (Code.region 6 _ _) _) _ _ _ | show Code.wp _ (Code.seq (Code.seq (Code.region 6 _ _) _) _) _ _ _))); go_step)
        exact hiB hul2 HCT.out H
set_option maxRecDepth 100000 in
set_option maxHeartbeats 8000000 in
theorem great18_calls {w : World} {S : Nat → Prop} {ds : List Dc} {A0 : Option Addr} {c : Nat} (h : RC w S (.l 51 16 (ds.map Dc.d)) [.slice A0 ds.length c]) (hp : ∀ d ∈ ds, d.params.length ≤ 4000000 ∧ ∀ m ∈ d.members, m.index.length ≤ 4000000) :
    Calls Tryz.prog 38 #[.slice A0 ds.length c] w (PAny18 w) := by
  have hM := h.lenM
  have HH := Lib.hid h
  have HP := Lib.hid hp
  clear h hp
  go_enter Tryz.func38, Tryz.ntmps38
  go_wp2_with fail
  go_loopw [3] (fun i wr => ∃ j : Nat, j ≤ ds.length ∧ i = .int .i64 (j : Int) ∧ Ext no w wr) (fun i _ => ds.length - (intOf i).toNat)
  case atStart => exact ⟨0, Nat.zero_le _, rfl, Ext.refl _ _⟩
  case round =>
    obtain ⟨j, hj, rfl, hx⟩ := hrel
    have HX := Lib.hid hx
    by_cases hlt : j < ds.length
    · by_cases h9 : j ≤ 9
      · have h9i : (j : Int) ≤ 9 := by omega
        obtain ⟨b_, o, Aty, cty, Kty, kty, Abody, cbody, Kbody, kbody, Aparams, cparams, Asort, csort, Amembers, cmembers, Actors, cctors, rfl, hbd, hS_, hdc, u0, u1, u2, u3, u4, u5, u6, u7, u8, u9, u10, u11, u12, u13, u14, u15⟩ := (HH.out.ext0 hx).atDc hlt
        have hpp := HP.out _ (List.getElem_mem hlt)
        generalize ds[j] = d at hdc u0 u1 u2 u3 u4 u5 u6 u7 u8 u9 u10 u11 u12 u13 u14 u15 hpp
        have HD := Lib.hid hdc
        have HPP := Lib.hid hpp
        have hp4 := hpp.1
        clear hdc hS_ hx hpp
        by_cases hq : d.params.length ≤ 500
        · have hqi : ¬ ((500 : Int) < (d.params.length : Int)) := by omega
          go_wp2_with fail
          refine (high18_calls HD.out HPP.out.1 HPP.out.2).mono ?_
          rintro e w3 ⟨z, rfl, hx⟩
          cases z
          · go_wp2_with fail
            go_roundw
            case rel => exact ⟨j + 1, by omega, by first | go_num | rfl | simp, HX.out.seq hx⟩
            case measure => first | (simp [intOf]; done) | (simp [intOf]; omega)
          · go_wp2_with fail
            go_ret
            exact ⟨_, rfl, HX.out.seq hx⟩
        · have hqi : (500 : Int) < (d.params.length : Int) := by omega
          go_wp2_with fail
          go_ret
          exact ⟨_, rfl, HX.out⟩
      · have h9i : ¬ (j : Int) ≤ 9 := by omega
        have hl9 : (9 : Int) < (ds.length : Int) := by omega
        go_wp2_with fail
        go_ret
        exact ⟨_, rfl, HX.out⟩
    · by_cases hl : (9 : Int) < (ds.length : Int)
      · go_wp2_with fail
        go_ret
        exact ⟨_, rfl, HX.out⟩
      · go_wp2_with fail
        have hcall := declsOf_calls (HH.out.ext0 HX.out) 500
        obtain ⟨N, hN⟩ : ∃ N, N = cntS (declF 500) 500 ds 0 := ⟨_, rfl⟩
        rw [← hN] at hcall
        refine hcall.mono ?_
        rintro e w3 ⟨rfl, hx⟩
        clear hcall hN
        go_wp2_with fail
        go_ret
        exact ⟨_, rfl, HX.out.seq hx⟩
end Go.Proofs.YtmedomglemllnaaGreatDoor
