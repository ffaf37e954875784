/- StrictRules: from the reading of rules on. No statement of the seat is proved here. -/
import Derived.Test.YtmedomglemllnaaGreatDoorSr2
import Derived.Test.YtmedomglemllnaaGreatDoorMgSrc3
namespace Go.Proofs.YtmedomglemllnaaGreatDoor
set_option linter.unusedSimpArgs false
set_option linter.unusedVariables false
open Go.RowKit

set_option maxRecDepth 100000 in
set_option maxHeartbeats 16000000 in
theorem srB {w W : World} {S S1 S3 : Nat → Prop} {ds wd : List Dc} {d : Dc} {A0 Aw : Option Addr} {c cw gd : Nat} {Aty Kty Abody Kbody Aparams Asort Amembers Actors : Option Addr} {cty kty cbody kbody cparams csort cmembers cctors : Nat} {num ai : Int} {x1 x2 x5 x6 x8 x9 x10 x12 x13 x14 x15 x16 x17 x18 x19 x20 x21 x22 x23 x24 x25 x26 x27 x28 x29 x30 x31 x32 x33 x34 x35 x36 x37 x38 x39 x40 x41 x42 x43 x44 x45 x46 x47 x48 x49 x50 x51 x52 x53 x54 x55 x56 x57 x58 x59 x60 x61 x62 x63 x64 x65 x66 x67 x68 x69 x70 x71 x72 x73 x74 x75 x76 x77 : Value}
    (hT : Tab w) (hx : Ext no w W) (hds : RC w S (.l 51 16 (ds.map Dc.d)) [.slice A0 ds.length c]) (hwd : RC W S3 (.l 51 16 (wd.map Dc.d)) [.slice Aw wd.length cw]) (hd : RC w S1 d.d [.int .i64 d.kind, .int .i64 d.levels, .int .i64 d.ty.k, .int .i64 d.ty.n, .int .i64 d.ty.a, .slice Aty d.ty.ls.length cty, .slice Kty d.ty.ks.length kty, .int .i64 d.body.k, .int .i64 d.body.n, .int .i64 d.body.a, .slice Abody d.body.ls.length cbody, .slice Kbody d.body.ks.length kbody, .slice Aparams d.params.length cparams, .slice Asort d.sort.length csort, .slice Amembers d.members.length cmembers, .slice Actors d.ctors.length cctors]) (hbd : Blk W gd 51 [.int .i64 d.kind, .int .i64 d.levels, .int .i64 d.ty.k, .int .i64 d.ty.n, .int .i64 d.ty.a, .slice Aty d.ty.ls.length cty, .slice Kty d.ty.ks.length kty, .int .i64 d.body.k, .int .i64 d.body.n, .int .i64 d.body.a, .slice Abody d.body.ls.length cbody, .slice Kbody d.body.ks.length kbody, .slice Aparams d.params.length cparams, .slice Asort d.sort.length csort, .slice Amembers d.members.length cmembers, .slice Actors d.ctors.length cctors].toArray) (sm : ∀ x ∈ wd, SmDc x) (smd : SmDc d) (hwl : Wide ds wd d) :
    (fromF 6 (Tryz.f8.body.getD .skip)).wp Tryz.prog (bodyPost Tryz.prog Tryz.f8 (PV w (.bool true))) { tmps := #[.slice A0 ds.length c, x1, x2, .int .i64 num, .int .i64 ai, x5, x6, .pointer (some ⟨gd, 0, none⟩), x8, x9, x10, .slice Aw wd.length cw, x12, x13, x14, x15, x16, x17, x18, x19, x20, x21, x22, x23, x24, x25, x26, x27, x28, x29, x30, x31, x32, x33, x34, x35, x36, x37, x38, x39, x40, x41, x42, x43, x44, x45, x46, x47, x48, x49, x50, x51, x52, x53, x54, x55, x56, x57, x58, x59, x60, x61, x62, x63, x64, x65, x66, x67, x68, x69, x70, x71, x72, x73, x74, x75, x76, x77], defers := [] } W := by
  have HT0 := Lib.hid hT
  have HH0 := Lib.hid hds
  have HD0 := Lib.hid hd
  have HT := Lib.hid (hT.ext hx)
  have HX := Lib.hid hx
  have HH := Lib.hid (hds.ext0 hx)
  have HD := Lib.hid (hd.ext0 hx)
  have HW := Lib.hid hwd
  have HBD := Lib.hid hbd
  have HSM := Lib.hid sm
  have HSMD := Lib.hid smd
  have HWL := Lib.hid hwl
  obtain ⟨u0, u1, u2, u3, u4, u5, u6, u7, u8, u9, u10, u11, u12, u13, u14, u15⟩ := hbd.cells16
  have lb := hbd.lt
  clear hT hx hds hwd hd hbd sm smd hwl
  conv => arg 2; whnf
  have H := Hp.start no W
  have hr_ := H.rules; simp only [Rules, and_true] at hr_; have hd_ := H.dif; simp only [Dif, Neq, and_true] at hd_; obtain ⟨ho_, hz_⟩ := H.old0
  go_wp2_with fail
  (try clear hr_ hd_ ho_ hz_)
  refine callsH (by (repeat (first | with_reducible exact H | with_reducible exact H0_ | with_reducible apply Hp.alloc | with_reducible apply Hp.allocMap | with_reducible apply Hp.drew | with_reducible apply Hp.drewN | with_reducible apply Hp.set)); (try any_goals (repeat (first | with_reducible exact Upd.head | with_reducible apply Upd.tail)))) ?_
  clear H; intro w2 H; (try simp only [size_drew_, size_drewN_, World.size_alloc, World.size_setCell, List.set_cons_zero, List.set_cons_succ] at H)
  have hcall := rules_calls (HT.out.ext H.ext) (HD.out.ext0 H.ext) HSMD.out.ct
  cases hR : rulesQ d with
  | error k =>
    rw [hR] at hcall
    clear hR
    refine hcall.mono ?_
    clear hcall
    rintro e w3 ⟨rfl, hx, hk⟩
    replace H := H.call hx
    clear hx
    have e0 : (k == 0) = false := by simpa using hk
    clear hk
    have hr_ := H.rules; simp only [Rules, and_true] at hr_; have hd_ := H.dif; simp only [Dif, Neq, and_true] at hd_; obtain ⟨ho_, hz_⟩ := H.old0
    (try dsimp only)
    repeat ((fail_if_success (with_reducible (first | show Code.wp _ (Code.seq (Code.region 9 _ _) _) _ _ _ | show Code.wp _ (Code.seq (Code.seq (Code.region 9 _ _) _) _) _ _ _))); (first | go_guarded | go_step))
    exact srC HT0.out (HX.out.seq H.ext) HH0.out (HW.out.ext0 H.ext) HD0.out (HBD.out.ext0 H.ext) HSM.out HSMD.out HWL.out
  | ok us =>
    have h1 : Hid (positiveV ds d = true) := Lib.hid (positive_rules hR)
    have h2 : Hid (positiveV [] d = true) := Lib.hid (positive_rules hR)
    rw [hR] at hcall
    clear hR
    refine hcall.mono ?_
    clear hcall
    rintro e w3 ⟨A9, c9, rfl, H2⟩
    replace H := H.call H2.ext
    clear H2
    have hr_ := H.rules; simp only [Rules, and_true] at hr_; have hd_ := H.dif; simp only [Dif, Neq, and_true] at hd_; obtain ⟨ho_, hz_⟩ := H.old0
    go_wp2_with fail
    (try clear hr_ hd_ ho_ hz_)
    refine callsH (by (repeat (first | with_reducible exact H | with_reducible exact H0_ | with_reducible apply Hp.alloc | with_reducible apply Hp.allocMap | with_reducible apply Hp.drew | with_reducible apply Hp.drewN | with_reducible apply Hp.set)); (try any_goals (repeat (first | with_reducible exact Upd.head | with_reducible apply Upd.tail)))) ?_
    clear H; intro w4 H; (try simp only [size_drew_, size_drewN_, World.size_alloc, World.size_setCell, List.set_cons_zero, List.set_cons_succ] at H)
    have hcall := positive_calls (HT.out.ext H.ext) (HH.out.ext0 H.ext) (HD.out.ext0 H.ext) (fun x hx => HSM.out x (HWL.out.sub x hx)) HSMD.out
    rw [h1.out] at hcall
    refine (hcall).mono ?_
    rintro e w_ ⟨rfl, hx⟩
    replace H := H.call hx
    clear hx
    clear hcall
    have hr_ := H.rules; simp only [Rules, and_true] at hr_; have hd_ := H.dif; simp only [Dif, Neq, and_true] at hd_; obtain ⟨ho_, hz_⟩ := H.old0
    go_wp2_with fail
    (try clear hr_ hd_ ho_ hz_)
    refine callsH (by (repeat (first | with_reducible exact H | with_reducible exact H0_ | with_reducible apply Hp.alloc | with_reducible apply Hp.allocMap | with_reducible apply Hp.drew | with_reducible apply Hp.drewN | with_reducible apply Hp.set)); (try any_goals (repeat (first | with_reducible exact Upd.head | with_reducible apply Upd.tail)))) ?_
    clear H; intro w5 H; (try simp only [size_drew_, size_drewN_, World.size_alloc, World.size_setCell, List.set_cons_zero, List.set_cons_succ] at H)
    have hcall := positive_calls (S := fun _ => True) (ds := []) (HT.out.ext H.ext) RC.nil (HD.out.ext0 H.ext) (by intro x hx; cases hx) HSMD.out
    rw [h2.out] at hcall
    refine (hcall).mono ?_
    rintro e w_ ⟨rfl, hx⟩
    replace H := H.call hx
    clear hx
    clear hcall
    have hr_ := H.rules; simp only [Rules, and_true] at hr_; have hd_ := H.dif; simp only [Dif, Neq, and_true] at hd_; obtain ⟨ho_, hz_⟩ := H.old0
    (try dsimp only)
    repeat ((fail_if_success (with_reducible (first | show Code.wp _ (Code.seq (Code.region 9 _ _) _) _ _ _ | show Code.wp _ (Code.seq (Code.seq (Code.region 9 _ _) _) _) _ _ _))); (first | go_guarded | go_step))
    exact srC HT0.out (HX.out.seq H.ext) HH0.out (HW.out.ext0 H.ext) HD0.out (HBD.out.ext0 H.ext) HSM.out HSMD.out HWL.out
end Go.Proofs.YtmedomglemllnaaGreatDoor
