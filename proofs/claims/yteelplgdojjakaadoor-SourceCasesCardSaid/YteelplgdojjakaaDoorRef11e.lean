/- Reference 11: block, Decl: contracts. No statement of the seat is proved here. -/
import Derived.Deep.DeepCutAuto
import Derived.Test.YteelplgdojjakaaDoorRef11d
namespace Go.Proofs.YteelplgdojjakaaDoor
set_option linter.unusedSimpArgs false
set_option linter.unusedVariables false
open Go.RowKit

set_option maxRecDepth 100000 in
set_option maxHeartbeats 8000000 in
theorem ref11block_calls {w : World} {S S1 : Nat → Prop} {ds : List Dc} {d : Dc} {cs : List Value} {A : Option Addr} {k c : Nat} (h : RC w S (.l 42 16 (ds.map Dc.d)) [.slice A k c]) (hk : k = ds.length) (hd : RC w S1 d.d cs) :
    Calls Tryd.prog 85 #[.slice A k c, .agg cs.toArray] w (PV w (.bool (blockR ds d))) := by
  subst hk
  have HD := Lib.hid hd
  obtain ⟨Aty, cty, Kty, kty, Abody, cbody, Kbody, kbody, Aparams, cparams, Asort, csort, Amembers, cmembers, Actors, cctors, rfl, i1, i2, r1, r2, r3, r4, r5, r6⟩ := RC.dc.1 hd
  have hM3 := r3.lenM.1
  have hM5 := r5.lenM.1
  have hM6 := r6.lenM.1
  have HH := Lib.hid h
  have R3 := Lib.hid r3
  have R4 := Lib.hid r4
  clear h hd r1 r2 r3 r4 r5 r6 i1 i2
  go_enter Tryd.func85, Tryd.ntmps85
  have H := Hp.start no w
  by_cases c1 : d.params.length ≤ 6
  case neg =>
    have c2 : 6 < d.params.length := by omega
    have HB : Hid (blockR ds d = false) := by unfold Hid blockR; rw [decide_eq_false (show ¬ (d.params.length : Int) ≤ 6 by omega)]; rfl
    go_wp2_with fail
    go_ret
    exact ⟨by rw [HB.out]; rfl, (Ext.refl _ _).alloc _⟩
  have c1d : decide (6 < d.params.length) = false := decide_eq_false (by omega)
  have C1 := Lib.hid (decide_eq_true (show (d.params.length : Int) ≤ 6 by omega))
  clear c1
  go_wp2_with fail
  any_goals (exfalso; have o1 := of_decide_eq_true C1.out; omega)
  refine callsH (by (repeat (first | with_reducible exact H | with_reducible exact H0_ | with_reducible apply Hp.alloc | with_reducible apply Hp.allocMap | with_reducible apply Hp.drew | with_reducible apply Hp.drewN | with_reducible apply Hp.set)); (try any_goals (repeat (first | with_reducible exact Upd.head | with_reducible apply Upd.tail)))) ?_
  clear H; intro w1 H; (try simp only [size_drew_, size_drewN_, World.size_alloc, World.size_setCell, List.set_cons_zero, List.set_cons_succ] at H)
  refine (ref11row_calls (ts := d.params) (HH.out.ext0 H.ext) (R3.out.ext0 H.ext) rfl).mono ?_
  rintro e w_ ⟨rfl, hx⟩
  replace H := H.call hx
  clear hx
  cases hq : rowQ ds d.levels 0 0 0 d.params
  · have HQ := Lib.hid hq
    clear hq
    have HB : Hid (blockR ds d = false) := by unfold Hid blockR; rw [HQ.out]; simp
    have hr_ := H.rules; simp only [Rules, and_true] at hr_; have hd_ := H.dif; simp only [Dif, Neq, and_true] at hd_; obtain ⟨ho_, hz_⟩ := H.old0
    go_wp2_with fail
    (try clear hr_ hd_ ho_ hz_)
    go_ret
    exact ⟨by rw [HB.out]; rfl, H.ext⟩
  have HQ := Lib.hid hq
  clear hq
  have hr_ := H.rules; simp only [Rules, and_true] at hr_; have hd_ := H.dif; simp only [Dif, Neq, and_true] at hd_; obtain ⟨ho_, hz_⟩ := H.old0
  go_wp2_with fail
  (try clear hr_ hd_ ho_ hz_)
  refine (ref01Right (x := d.sort) (n := d.levels) (R4.out.ext0 H.ext)).mono ?_
  rintro e w_ ⟨rfl, hx⟩
  replace H := H.call hx
  clear hx
  cases hq : lvRight d.levels d.sort
  · have HQ2 := Lib.hid hq
    clear hq
    have HB : Hid (blockR ds d = false) := by unfold Hid blockR; rw [HQ2.out]; simp
    have hr_ := H.rules; simp only [Rules, and_true] at hr_; have hd_ := H.dif; simp only [Dif, Neq, and_true] at hd_; obtain ⟨ho_, hz_⟩ := H.old0
    go_wp2_with fail
    (try clear hr_ hd_ ho_ hz_)
    go_ret
    exact ⟨by rw [HB.out]; rfl, H.ext⟩
  have HQ2 := Lib.hid hq
  clear hq
  by_cases m1 : 1 ≤ d.members.length
  case neg =>
    have e1 : d.members.length < 1 := by omega
    have E1 := Lib.hid (decide_eq_false (show ¬ (1 : Int) ≤ (d.members.length : Int) by omega))
    have HB : Hid (blockR ds d = false) := by unfold Hid blockR; rw [E1.out]; simp
    have hr_ := H.rules; simp only [Rules, and_true] at hr_; have hd_ := H.dif; simp only [Dif, Neq, and_true] at hd_; obtain ⟨ho_, hz_⟩ := H.old0
    go_wp2_with fail
    (try clear hr_ hd_ ho_ hz_)
    go_ret
    exact ⟨by rw [HB.out]; rfl, H.ext⟩
  by_cases m2 : d.members.length ≤ 8
  case neg =>
    have e1 : decide (d.members.length < 1) = false := decide_eq_false (by omega)
    have e2 : 8 < d.members.length := by omega
    have E1 := Lib.hid (decide_eq_false (show ¬ (d.members.length : Int) ≤ 8 by omega))
    have HB : Hid (blockR ds d = false) := by unfold Hid blockR; rw [E1.out]; simp
    have hr_ := H.rules; simp only [Rules, and_true] at hr_; have hd_ := H.dif; simp only [Dif, Neq, and_true] at hd_; obtain ⟨ho_, hz_⟩ := H.old0
    go_wp2_with fail
    (try clear hr_ hd_ ho_ hz_)
    go_ret
    exact ⟨by rw [HB.out]; rfl, H.ext⟩
  by_cases m3 : d.ctors.length ≤ 16
  case neg =>
    have e1 : decide (d.members.length < 1) = false := decide_eq_false (by omega)
    have e2 : decide (8 < d.members.length) = false := decide_eq_false (by omega)
    have e3 : 16 < d.ctors.length := by omega
    have E1 := Lib.hid (decide_eq_false (show ¬ (d.ctors.length : Int) ≤ 16 by omega))
    have HB : Hid (blockR ds d = false) := by unfold Hid blockR; rw [E1.out]; simp
    have hr_ := H.rules; simp only [Rules, and_true] at hr_; have hd_ := H.dif; simp only [Dif, Neq, and_true] at hd_; obtain ⟨ho_, hz_⟩ := H.old0
    go_wp2_with fail
    (try clear hr_ hd_ ho_ hz_)
    go_ret
    exact ⟨by rw [HB.out]; rfl, H.ext⟩
  have e1 : decide (d.members.length < 1) = false := decide_eq_false (by omega)
  have e2 : decide (8 < d.members.length) = false := decide_eq_false (by omega)
  have e3 : decide (16 < d.ctors.length) = false := decide_eq_false (by omega)
  have E1 := Lib.hid (decide_eq_true (show (1 : Int) ≤ (d.members.length : Int) by omega))
  have E2 := Lib.hid (decide_eq_true (show (d.members.length : Int) ≤ 8 by omega))
  have E3 := Lib.hid (decide_eq_true (show (d.ctors.length : Int) ≤ 16 by omega))
  clear m1 m2 m3
  have hr_ := H.rules; simp only [Rules, and_true] at hr_; have hd_ := H.dif; simp only [Dif, Neq, and_true] at hd_; obtain ⟨ho_, hz_⟩ := H.old0
  go_upto_region 4 with fail
  (try clear hr_ hd_ ho_ hz_)
  any_goals (exfalso; have o1 := of_decide_eq_true C1.out; have o2 := of_decide_eq_true E1.out; have o3 := of_decide_eq_true E2.out; have o4 := of_decide_eq_true E3.out; omega)
  exact rblock4 (R := blockR ds d) HH.out HD.out (by unfold blockR; rw [C1.out, HQ.out, HQ2.out, E1.out, E2.out, E3.out]; rfl) (by assumption) (by assumption) (H.arr (by (repeat (first | with_reducible exact Arr.nil | refine Arr.cons (by (repeat (first | with_reducible exact Pick.head | with_reducible apply Pick.tail))) ?_)) <;> exact Arr.of_subl (by (repeat (first | with_reducible exact Subl.refl _ | with_reducible apply Subl.drop)))))
set_option maxRecDepth 100000 in
set_option maxHeartbeats 8000000 in
theorem ref11Decl_calls {w : World} {S S1 : Nat → Prop} {ds : List Dc} {d : Dc} {cs : List Value} {A : Option Addr} {k c : Nat} (h : RC w S (.l 42 16 (ds.map Dc.d)) [.slice A k c]) (hk : k = ds.length) (hd : RC w S1 d.d cs) :
    Calls Tryd.prog 41 #[.slice A k c, .agg cs.toArray] w (PV w (.bool (declQ ds d))) := by
  subst hk
  rw [decl_eq]
  have HD := Lib.hid hd
  obtain ⟨Aty, cty, Kty, kty, Abody, cbody, Kbody, kbody, Aparams, cparams, Asort, csort, Amembers, cmembers, Actors, cctors, rfl, i1, i2, r1, r2, r3, r4, r5, r6⟩ := RC.dc.1 hd
  have hM3 := r3.lenM.1
  have hM4 := r4.lenM.1
  have hM5 := r5.lenM.1
  have hM6 := r6.lenM.1
  obtain ⟨s1, hs1⟩ : ∃ s1 : Int, s1 = (d.params.length : Int) + d.sort.length := ⟨_, rfl⟩
  obtain ⟨s2, hs2⟩ : ∃ s2 : Int, s2 = s1 + d.members.length := ⟨_, rfl⟩
  obtain ⟨s3, hs3⟩ : ∃ s3 : Int, s3 = s2 + d.ctors.length := ⟨_, rfl⟩
  have hw1 : IntKind.i64.wrap ((d.params.length : Int) + d.sort.length) = s1 := by rw [IntKind.wrap_i64]; omega
  have hw2 : IntKind.i64.wrap (s1 + d.members.length) = s2 := by rw [IntKind.wrap_i64]; omega
  have hw3 : IntKind.i64.wrap (s2 + d.ctors.length) = s3 := by rw [IntKind.wrap_i64]; omega
  have HS : Hid (noneQ d = decide (s3 = 0)) := by
    unfold Hid noneQ
    rw [decide_eq_decide]
    omega
  have hs0 : Hid (0 ≤ s3) := by unfold Hid; omega
  have HH := Lib.hid h
  have R1 := Lib.hid r1
  have R2 := Lib.hid r2
  obtain ⟨R, hR⟩ : ∃ R, R = declR ds d := ⟨_, rfl⟩
  rw [← hR]
  have HR := Lib.hid hR
  clear h hd r1 r2 r3 r4 r5 r6 i1 i2 hs1 hs2 hs3 hM3 hM4 hM5 hM6 hR
  go_enter Tryd.func41, Tryd.ntmps41
  have H := Hp.start no w
  go_upto_region 1 with fail
  refine codeH (by (repeat (first | with_reducible exact H | with_reducible exact H0_ | with_reducible apply Hp.alloc | with_reducible apply Hp.allocMap | with_reducible apply Hp.drew | with_reducible apply Hp.drewN | with_reducible apply Hp.set)); (try any_goals (repeat (first | with_reducible exact Upd.head | with_reducible apply Upd.tail)))) ?_
  clear H; intro w1 H; (try simp only [size_drew_, size_drewN_, World.size_alloc, World.size_setCell, List.set_cons_zero, List.set_cons_succ] at H)
  by_cases l1 : d.levels < 0
  · have L := Lib.hid (decide_eq_false (show ¬ (0 ≤ d.levels ∧ d.levels ≤ 7) by omega))
    have HB : Hid (declR ds d = false) := by unfold Hid declR; rw [L.out]; rfl
    have hr_ := H.rules; simp only [Rules, and_true] at hr_; have hd_ := H.dif; simp only [Dif, Neq, and_true] at hd_; obtain ⟨ho_, hz_⟩ := H.old0
    go_wp2_with fail
    (try clear hr_ hd_ ho_ hz_)
    go_ret
    exact ⟨by rw [HR.out, HB.out]; rfl, H.ext⟩
  by_cases l2 : 7 < d.levels
  · have l1d : decide (d.levels < 0) = false := decide_eq_false l1
    have L := Lib.hid (decide_eq_false (show ¬ (0 ≤ d.levels ∧ d.levels ≤ 7) by omega))
    clear l1
    have HB : Hid (declR ds d = false) := by unfold Hid declR; rw [L.out]; rfl
    have hr_ := H.rules; simp only [Rules, and_true] at hr_; have hd_ := H.dif; simp only [Dif, Neq, and_true] at hd_; obtain ⟨ho_, hz_⟩ := H.old0
    go_wp2_with fail
    (try clear hr_ hd_ ho_ hz_)
    go_ret
    exact ⟨by rw [HR.out, HB.out]; rfl, H.ext⟩
  have l1d : decide (d.levels < 0) = false := decide_eq_false l1
  have l2d : decide (7 < d.levels) = false := decide_eq_false l2
  have L := Lib.hid (decide_eq_true (show (0 ≤ d.levels ∧ d.levels ≤ 7) by omega))
  clear l1 l2
  by_cases k3 : d.kind = 3
  · have hE : declR ds d = blockR ds d := by unfold declR; rw [L.out, if_pos k3]; rfl
    have HE := Lib.hid hE
    have gk : (d.kind == 3) = true := by simpa using k3
    clear hE k3
    have hr_ := H.rules; simp only [Rules, and_true] at hr_; have hd_ := H.dif; simp only [Dif, Neq, and_true] at hd_; obtain ⟨ho_, hz_⟩ := H.old0
    go_wp2_with fail
    (try clear hr_ hd_ ho_ hz_)
    refine (ref11block_calls (HH.out.ext0 H.ext) rfl (HD.out.ext0 H.ext)).mono ?_
    rintro e w_ ⟨rfl, hx⟩
    replace H := H.call hx
    clear hx
    obtain ⟨q, hq⟩ : ∃ q, q = blockR ds d := ⟨_, rfl⟩
    rw [← hq]
    have HQ := Lib.hid hq
    clear hq
    go_wp2_with fail
    go_ret
    exact ⟨by rw [HR.out, HE.out, ← HQ.out]; rfl, H.ext⟩
  have gk : (d.kind == 3) = false := by simpa using k3
  have HK := Lib.hid k3
  clear k3
  by_cases s0 : 0 < s3
  · have E := Lib.hid (HS.out.trans (decide_eq_false (show ¬ s3 = 0 by omega)))
    have HB : Hid (declR ds d = false) := by unfold Hid declR; rw [L.out, if_neg HK.out, E.out]; rfl
    have hr_ := H.rules; simp only [Rules, and_true] at hr_; have hd_ := H.dif; simp only [Dif, Neq, and_true] at hd_; obtain ⟨ho_, hz_⟩ := H.old0
    go_wp2_with fail
    (try clear hr_ hd_ ho_ hz_)
    go_ret
    exact ⟨by rw [HR.out, HB.out]; rfl, H.ext⟩
  have s0d : decide (0 < s3) = false := decide_eq_false s0
  have E := Lib.hid (HS.out.trans (decide_eq_true (show s3 = 0 by have := hs0.out; omega)))
  clear s0 HS hs0
  have hr_ := H.rules; simp only [Rules, and_true] at hr_; have hd_ := H.dif; simp only [Dif, Neq, and_true] at hd_; obtain ⟨ho_, hz_⟩ := H.old0
  go_wp2_with fail
  (try clear hr_ hd_ ho_ hz_)
  refine (ref11Right_calls (t := d.ty) (HH.out.ext0 H.ext) rfl ⟨_, _, _, _, rfl, R1.out.ext0 H.ext⟩).mono ?_
  rintro e w_ ⟨rfl, hx⟩
  replace H := H.call hx
  clear hx
  cases hq : srcQ ds d.levels 0 0 d.ty
  · have HQ := Lib.hid hq
    clear hq
    have HB : Hid (declR ds d = false) := by unfold Hid declR; rw [L.out, if_neg HK.out, E.out, HQ.out]; rfl
    have hr_ := H.rules; simp only [Rules, and_true] at hr_; have hd_ := H.dif; simp only [Dif, Neq, and_true] at hd_; obtain ⟨ho_, hz_⟩ := H.old0
    go_wp2_with fail
    (try clear hr_ hd_ ho_ hz_)
    go_ret
    exact ⟨by rw [HR.out, HB.out]; rfl, H.ext⟩
  have HQ := Lib.hid hq
  clear hq
  by_cases k1 : d.kind = 1
  · have hE : declR ds d = bareQ d.body := by unfold declR; rw [L.out, if_neg HK.out, E.out, HQ.out, if_pos k1]; rfl
    have HE := Lib.hid hE
    have gk1 : (d.kind == 1) = true := by simpa using k1
    clear hE k1
    have hr_ := H.rules; simp only [Rules, and_true] at hr_; have hd_ := H.dif; simp only [Dif, Neq, and_true] at hd_; obtain ⟨ho_, hz_⟩ := H.old0
    go_wp2_with fail
    (try clear hr_ hd_ ho_ hz_)
    refine (ref11bare_calls (t := d.body) ⟨_, _, _, _, rfl, R2.out.ext0 H.ext⟩).mono ?_
    rintro e w_ ⟨rfl, hx⟩
    replace H := H.call hx
    clear hx
    obtain ⟨q, hq⟩ : ∃ q, q = bareQ d.body := ⟨_, rfl⟩
    rw [← hq]
    have HQ2 := Lib.hid hq
    clear hq
    go_wp2_with fail
    go_ret
    exact ⟨by rw [HR.out, HE.out, ← HQ2.out]; rfl, H.ext⟩
  have hE : declR ds d = (decide (d.kind = 2) && srcQ ds d.levels 0 0 d.body) := by unfold declR; rw [L.out, if_neg HK.out, E.out, HQ.out, if_neg k1]; rfl
  have HE := Lib.hid hE
  have gk1 : (d.kind == 1) = false := by simpa using k1
  clear hE k1
  by_cases k2 : d.kind = 2
  case neg =>
    have gk2 : (d.kind == 2) = false := by simpa using k2
    have HB : Hid (declR ds d = false) := by unfold Hid; rw [HE.out, decide_eq_false k2]; rfl
    clear k2
    have hr_ := H.rules; simp only [Rules, and_true] at hr_; have hd_ := H.dif; simp only [Dif, Neq, and_true] at hd_; obtain ⟨ho_, hz_⟩ := H.old0
    go_wp2_with fail
    (try clear hr_ hd_ ho_ hz_)
    go_ret
    exact ⟨by rw [HR.out, HB.out]; rfl, H.ext⟩
  have gk2 : (d.kind == 2) = true := by simpa using k2
  have HK2 := Lib.hid (decide_eq_true k2)
  clear k2
  have hr_ := H.rules; simp only [Rules, and_true] at hr_; have hd_ := H.dif; simp only [Dif, Neq, and_true] at hd_; obtain ⟨ho_, hz_⟩ := H.old0
  go_wp2_with fail
  (try clear hr_ hd_ ho_ hz_)
  refine (ref11Right_calls (t := d.body) (HH.out.ext0 H.ext) rfl ⟨_, _, _, _, rfl, R2.out.ext0 H.ext⟩).mono ?_
  rintro e w_ ⟨rfl, hx⟩
  replace H := H.call hx
  clear hx
  obtain ⟨q, hq⟩ : ∃ q, q = srcQ ds d.levels 0 0 d.body := ⟨_, rfl⟩
  rw [← hq]
  have HQ2 := Lib.hid hq
  clear hq
  go_wp2_with fail
  go_ret
  exact ⟨by rw [HR.out, HE.out, HK2.out, ← HQ2.out]; rfl, H.ext⟩
end Go.Proofs.YteelplgdojjakaaDoor
