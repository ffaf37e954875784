/- Reference 11: block, Decl: contracts. No statement of the seat is proved here. -/
import Derived.Deep.DeepCutAuto
import Derived.Test.YteelplgdojjakaaGreatDoorMgRef11d
import Derived.Test.YteelplgdojjakaaGreatDoorMgAwake11b
namespace Go.Proofs.YteelplgdojjakaaGreatDoor
set_option linter.unusedSimpArgs false
set_option linter.unusedVariables false
open Go.RowKit

set_option maxRecDepth 100000 in
set_option maxHeartbeats 8000000 in
theorem ref11block_calls {w : World} {S S1 : Nat → Prop} {ds : List Dc} {d : Dc} {cs : List Value} {A : Option Addr} {k c : Nat} (h : RC w S (.l 42 16 (ds.map Dc.d)) [.slice A k c]) (hk : k = ds.length) (hd : RC w S1 d.d cs) :
    Calls Tryz.prog 131 #[.slice A k c, .agg cs.toArray] w (PV w (.bool (blockR ds d))) := by
  subst hk
  have HD := Lib.hid hd
  obtain ⟨Aty, cty, Kty, kty, Abody, cbody, Kbody, kbody, Aparams, cparams, Asort, csort, Amembers, cmembers, Actors, cctors, rfl, i1, i2, r1, r2, r3, r4, r5, r6⟩ := RC.dc.1 hd
  have hM3 := r3.lenM.1
  have hM5 := r5.lenM.1
  have hM6 := r6.lenM.1
  have HH := Lib.hid h
  have R3 := Lib.hid r3
  have R4 := Lib.hid r4
  clear h hd r1 r2 r3 r4 r5 r6 i1 i2
  go_enter Tryz.func131, Tryz.ntmps131
  have H := Hp.start no w
  by_cases c1 : d.params.length ≤ 6
  case neg =>
    have c2 : 6 < d.params.length := by omega
    have HB : Hid (blockR ds d = false) := by unfold Hid blockR; rw [decide_eq_false (show ¬ (d.params.length : Int) ≤ 6 by omega)]; rfl
    go_wp2_with fail
    go_ret
    exact ⟨by rw [HB.out]; rfl, (Ext.refl _ _).alloc _⟩
  have c1d : decide (6 < d.params.length) = false := decide_eq_false (by omega)
  have C1 := Lib.hid (decide_eq_true (show (d.params.length : Int) ≤ 6 by omega))
  clear c1
  go_wp2_with fail
  any_goals (exfalso; have o1 := of_decide_eq_true C1.out; omega)
  refine callsH (by (repeat (first | with_reducible exact H | with_reducible exact H0_ | with_reducible apply Hp.alloc | with_reducible apply Hp.allocMap | with_reducible apply Hp.drew | with_reducible apply Hp.drewN | with_reducible apply Hp.set)); (try any_goals (repeat (first | with_reducible exact Upd.head | with_reducible apply Upd.tail)))) ?_
  clear H; intro w1 H; (try simp only [size_drew_, size_drewN_, World.size_alloc, World.size_setCell, List.set_cons_zero, List.set_cons_succ] at H)
  refine (ref11row_calls (ts := d.params) (HH.out.ext0 H.ext) (R3.out.ext0 H.ext) rfl).mono ?_
  rintro e w_ ⟨rfl, hx⟩
  replace H := H.call hx
  clear hx
  cases hq : rowQ ds d.levels 0 0 0 d.params
  · have HQ := Lib.hid hq
    clear hq
    have HB : Hid (blockR ds d = false) := by unfold Hid blockR; rw [HQ.out]; simp
    have hr_ := H.rules; simp only [Rules, and_true] at hr_; have hd_ := H.dif; simp only [Dif, Neq, and_true] at hd_; obtain ⟨ho_, hz_⟩ := H.old0
    go_wp2_with fail
    (try clear hr_ hd_ ho_ hz_)
    go_ret
    exact ⟨by rw [HB.out]; rfl, H.ext⟩
  have HQ := Lib.hid hq
  clear hq
  have hr_ := H.rules; simp only [Rules, and_true] at hr_; have hd_ := H.dif; simp only [Dif, Neq, and_true] at hd_; obtain ⟨ho_, hz_⟩ := H.old0
  go_wp2_with fail
  (try clear hr_ hd_ ho_ hz_)
  refine (ref01Right (x := d.sort) (n := d.levels) (R4.out.ext0 H.ext)).mono ?_
  rintro e w_ ⟨rfl, hx⟩
  replace H := H.call hx
  clear hx
  cases hq : lvRight d.levels d.sort
  · have HQ2 := Lib.hid hq
    clear hq
    have HB : Hid (blockR ds d = false) := by unfold Hid blockR; rw [HQ2.out]; simp
    have hr_ := H.rules; simp only [Rules, and_true] at hr_; have hd_ := H.dif; simp only [Dif, Neq, and_true] at hd_; obtain ⟨ho_, hz_⟩ := H.old0
    go_wp2_with fail
    (try clear hr_ hd_ ho_ hz_)
    go_ret
    exact ⟨by rw [HB.out]; rfl, H.ext⟩
  have HQ2 := Lib.hid hq
  clear hq
  by_cases m1 : 1 ≤ d.members.length
  case neg =>
    have e1 : d.members.length < 1 := by omega
    have E1 := Lib.hid (decide_eq_false (show ¬ (1 : Int) ≤ (d.members.length : Int) by omega))
    have HB : Hid (blockR ds d = false) := by unfold Hid blockR; rw [E1.out]; simp
    have hr_ := H.rules; simp only [Rules, and_true] at hr_; have hd_ := H.dif; simp only [Dif, Neq, and_true] at hd_; obtain ⟨ho_, hz_⟩ := H.old0
    go_wp2_with fail
    (try clear hr_ hd_ ho_ hz_)
    go_ret
    exact ⟨by rw [HB.out]; rfl, H.ext⟩
  by_cases m2 : d.members.length ≤ 8
  case neg =>
    have e1 : decide (d.members.length < 1) = false := decide_eq_false (by omega)
    have e2 : 8 < d.members.length := by omega
    have E1 := Lib.hid (decide_eq_false (show ¬ (d.members.length : Int) ≤ 8 by omega))
    have HB : Hid (blockR ds d = false) := by unfold Hid blockR; rw [E1.out]; simp
    have hr_ := H.rules; simp only [Rules, and_true] at hr_; have hd_ := H.dif; simp only [Dif, Neq, and_true] at hd_; obtain ⟨ho_, hz_⟩ := H.old0
    go_wp2_with fail
    (try clear hr_ hd_ ho_ hz_)
    go_ret
    exact ⟨by rw [HB.out]; rfl, H.ext⟩
  by_cases m3 : d.ctors.length ≤ 16
  case neg =>
    have e1 : decide (d.members.length < 1) = false := decide_eq_false (by omega)
    have e2 : decide (8 < d.members.length) = false := decide_eq_false (by omega)
    have e3 : 16 < d.ctors.length := by omega
    have E1 := Lib.hid (decide_eq_false (show ¬ (d.ctors.length : Int) ≤ 16 by omega))
    have HB : Hid (blockR ds d = false) := by unfold Hid blockR; rw [E1.out]; simp
    have hr_ := H.rules; simp only [Rules, and_true] at hr_; have hd_ := H.dif; simp only [Dif, Neq, and_true] at hd_; obtain ⟨ho_, hz_⟩ := H.old0
    go_wp2_with fail
    (try clear hr_ hd_ ho_ hz_)
    go_ret
    exact ⟨by rw [HB.out]; rfl, H.ext⟩
  have e1 : decide (d.members.length < 1) = false := decide_eq_false (by omega)
  have e2 : decide (8 < d.members.length) = false := decide_eq_false (by omega)
  have e3 : decide (16 < d.ctors.length) = false := decide_eq_false (by omega)
  have E1 := Lib.hid (decide_eq_true (show (1 : Int) ≤ (d.members.length : Int) by omega))
  have E2 := Lib.hid (decide_eq_true (show (d.members.length : Int) ≤ 8 by omega))
  have E3 := Lib.hid (decide_eq_true (show (d.ctors.length : Int) ≤ 16 by omega))
  clear m1 m2 m3
  have hr_ := H.rules; simp only [Rules, and_true] at hr_; have hd_ := H.dif; simp only [Dif, Neq, and_true] at hd_; obtain ⟨ho_, hz_⟩ := H.old0
  go_upto_region 4 with fail
  (try clear hr_ hd_ ho_ hz_)
  any_goals (exfalso; have o1 := of_decide_eq_true C1.out; have o2 := of_decide_eq_true E1.out; have o3 := of_decide_eq_true E2.out; have o4 := of_decide_eq_true E3.out; omega)
  exact rblock4 (R := blockR ds d) HH.out HD.out (by unfold blockR; rw [C1.out, HQ.out, HQ2.out, E1.out, E2.out, E3.out]; rfl) (by assumption) (by assumption) (H.arr (by (repeat (first | with_reducible exact Arr.nil | refine Arr.cons (by (repeat (first | with_reducible exact Pick.head | with_reducible apply Pick.tail))) ?_)) <;> exact Arr.of_subl (by (repeat (first | with_reducible exact Subl.refl _ | with_reducible apply Subl.drop)))))
set_option maxRecDepth 100000 in
set_option maxHeartbeats 8000000 in
theorem ref11Decl_calls {w : World} {S S1 : Nat → Prop} {ds : List Dc} {d : Dc} {cs : List Value} {A : Option Addr} {k c : Nat} (h : RC w S (.l 42 16 (ds.map Dc.d)) [.slice A k c]) (hk : k = ds.length) (hd : RC w S1 d.d cs) :
    Calls Tryz.prog 58 #[.slice A k c, .agg cs.toArray] w (PV w (.bool (declQ ds d))) := by
  subst hk
  rw [decl_eq]
  have HD := Lib.hid hd
  obtain ⟨Aty, cty, Kty, kty, Abody, cbody, Kbody, kbody, Aparams, cparams, Asort, csort, Amembers, cmembers, Actors, cctors, rfl, i1, i2, r1, r2, r3, r4, r5, r6⟩ := RC.dc.1 hd
  have hM3 := r3.lenM.1
  have hM4 := r4.lenM.1
  have hM5 := r5.lenM.1
  have hM6 := r6.lenM.1
  obtain ⟨s1, hs1⟩ : ∃ s1 : Int, s1 = (d.params.length : Int) + d.sort.length := ⟨_, rfl⟩
  obtain ⟨s2, hs2⟩ : ∃ s2 : Int, s2 = s1 + d.members.length := ⟨_, rfl⟩
  obtain ⟨s3, hs3⟩ : ∃ s3 : Int, s3 = s2 + d.ctors.length := ⟨_, rfl⟩
  have hw1 : IntKind.i64.wrap ((d.params.length : Int) + d.sort.length) = s1 := by rw [IntKind.wrap_i64]; omega
  have hw2 : IntKind.i64.wrap (s1 + d.members.length) = s2 := by rw [IntKind.wrap_i64]; omega
  have hw3 : IntKind.i64.wrap (s2 + d.ctors.length) = s3 := by rw [IntKind.wrap_i64]; omega
  have HS : Hid (noneQ d = decide (s3 = 0)) := by
    unfold Hid noneQ
    rw [decide_eq_decide]
    omega
  have hs0 : Hid (0 ≤ s3) := by unfold Hid; omega
  have HH := Lib.hid h
  have R1 := Lib.hid r1
  have R2 := Lib.hid r2
  obtain ⟨R, hR⟩ : ∃ R, R = declR ds d := ⟨_, rfl⟩
  rw [← hR]
  have HR := Lib.hid hR
  clear h hd r1 r2 r3 r4 r5 r6 i1 i2 hs1 hs2 hs3 hM3 hM4 hM5 hM6 hR
  go_enter Tryz.func58, Tryz.ntmps58
  have H := Hp.start no w
  go_upto_region 1 with fail
  refine codeH (by (repeat (first | with_reducible exact H | with_reducible exact H0_ | with_reducible apply Hp.alloc | with_reducible apply Hp.allocMap | with_reducible apply Hp.drew | with_reducible apply Hp.drewN | with_reducible apply Hp.set)); (try any_goals (repeat (first | with_reducible exact Upd.head | with_reducible apply Upd.tail)))) ?_
  clear H; intro w1 H; (try simp only [size_drew_, size_drewN_, World.size_alloc, World.size_setCell, List.set_cons_zero, List.set_cons_succ] at H)
  by_cases l1 : d.levels < 0
  · have L := Lib.hid (decide_eq_false (show ¬ (0 ≤ d.levels ∧ d.levels ≤ 7) by omega))
    have HB : Hid (declR ds d = false) := by unfold Hid declR; rw [L.out]; rfl
    have hr_ := H.rules; simp only [Rules, and_true] at hr_; have hd_ := H.dif; simp only [Dif, Neq, and_true] at hd_; obtain ⟨ho_, hz_⟩ := H.old0
    go_wp2_with fail
    (try clear hr_ hd_ ho_ hz_)
    go_ret
    exact ⟨by rw [HR.out, HB.out]; rfl, H.ext⟩
  by_cases l2 : 7 < d.levels
  · have l1d : decide (d.levels < 0) = false := decide_eq_false l1
    have L := Lib.hid (decide_eq_false (show ¬ (0 ≤ d.levels ∧ d.levels ≤ 7) by omega))
    clear l1
    have HB : Hid (declR ds d = false) := by unfold Hid declR; rw [L.out]; rfl
    have hr_ := H.rules; simp only [Rules, and_true] at hr_; have hd_ := H.dif; simp only [Dif, Neq, and_true] at hd_; obtain ⟨ho_, hz_⟩ := H.old0
    go_wp2_with fail
    (try clear hr_ hd_ ho_ hz_)
    go_ret
    exact ⟨by rw [HR.out, HB.out]; rfl, H.ext⟩
  have l1d : decide (d.levels < 0) = false := decide_eq_false l1
  have l2d : decide (7 < d.levels) = false := decide_eq_false l2
  have L := Lib.hid (decide_eq_true (show (0 ≤ d.levels ∧ d.levels ≤ 7) by omega))
  clear l1 l2
  by_cases k3 : d.kind = 3
  · have hE : declR ds d = blockR ds d := by unfold declR; rw [L.out, if_pos k3]; rfl
    have HE := Lib.hid hE
    have gk : (d.kind == 3) = true := by simpa using k3
    clear hE k3
    have hr_ := H.rules; simp only [Rules, and_true] at hr_; have hd_ := H.dif; simp only [Dif, Neq, and_true] at hd_; obtain ⟨ho_, hz_⟩ := H.old0
    go_wp2_with fail
    (try clear hr_ hd_ ho_ hz_)
    refine (ref11block_calls (HH.out.ext0 H.ext) rfl (HD.out.ext0 H.ext)).mono ?_
    rintro e w_ ⟨rfl, hx⟩
    replace H := H.call hx
    clear hx
    obtain ⟨q, hq⟩ : ∃ q, q = blockR ds d := ⟨_, rfl⟩
    rw [← hq]
    have HQ := Lib.hid hq
    clear hq
    go_wp2_with fail
    go_ret
    exact ⟨by rw [HR.out, HE.out, ← HQ.out]; rfl, H.ext⟩
  have gk : (d.kind == 3) = false := by simpa using k3
  have HK := Lib.hid k3
  clear k3
  by_cases s0 : 0 < s3
  · have E := Lib.hid (HS.out.trans (decide_eq_false (show ¬ s3 = 0 by omega)))
    have HB : Hid (declR ds d = false) := by unfold Hid declR; rw [L.out, if_neg HK.out, E.out]; rfl
    have hr_ := H.rules; simp only [Rules, and_true] at hr_; have hd_ := H.dif; simp only [Dif, Neq, and_true] at hd_; obtain ⟨ho_, hz_⟩ := H.old0
    go_wp2_with fail
    (try clear hr_ hd_ ho_ hz_)
    go_ret
    exact ⟨by rw [HR.out, HB.out]; rfl, H.ext⟩
  have s0d : decide (0 < s3) = false := decide_eq_false s0
  have E := Lib.hid (HS.out.trans (decide_eq_true (show s3 = 0 by have := hs0.out; omega)))
  clear s0 HS hs0
  have hr_ := H.rules; simp only [Rules, and_true] at hr_; have hd_ := H.dif; simp only [Dif, Neq, and_true] at hd_; obtain ⟨ho_, hz_⟩ := H.old0
  go_wp2_with fail
  (try clear hr_ hd_ ho_ hz_)
  refine (ref11Right_calls (t := d.ty) (HH.out.ext0 H.ext) rfl ⟨_, _, _, _, rfl, R1.out.ext0 H.ext⟩).mono ?_
  rintro e w_ ⟨rfl, hx⟩
  replace H := H.call hx
  clear hx
  cases hq : srcQ ds d.levels 0 0 d.ty
  · have HQ := Lib.hid hq
    clear hq
    have HB : Hid (declR ds d = false) := by unfold Hid declR; rw [L.out, if_neg HK.out, E.out, HQ.out]; rfl
    have hr_ := H.rules; simp only [Rules, and_true] at hr_; have hd_ := H.dif; simp only [Dif, Neq, and_true] at hd_; obtain ⟨ho_, hz_⟩ := H.old0
    go_wp2_with fail
    (try clear hr_ hd_ ho_ hz_)
    go_ret
    exact ⟨by rw [HR.out, HB.out]; rfl, H.ext⟩
  have HQ := Lib.hid hq
  clear hq
  by_cases k1 : d.kind = 1
  · have hE : declR ds d = bareQ d.body := by unfold declR; rw [L.out, if_neg HK.out, E.out, HQ.out, if_pos k1]; rfl
    have HE := Lib.hid hE
    have gk1 : (d.kind == 1) = true := by simpa using k1
    clear hE k1
    have hr_ := H.rules; simp only [Rules, and_true] at hr_; have hd_ := H.dif; simp only [Dif, Neq, and_true] at hd_; obtain ⟨ho_, hz_⟩ := H.old0
    go_wp2_with fail
    (try clear hr_ hd_ ho_ hz_)
    refine (ref11bare_calls (t := d.body) ⟨_, _, _, _, rfl, R2.out.ext0 H.ext⟩).mono ?_
    rintro e w_ ⟨rfl, hx⟩
    replace H := H.call hx
    clear hx
    obtain ⟨q, hq⟩ : ∃ q, q = bareQ d.body := ⟨_, rfl⟩
    rw [← hq]
    have HQ2 := Lib.hid hq
    clear hq
    go_wp2_with fail
    go_ret
    exact ⟨by rw [HR.out, HE.out, ← HQ2.out]; rfl, H.ext⟩
  have hE : declR ds d = (decide (d.kind = 2) && srcQ ds d.levels 0 0 d.body) := by unfold declR; rw [L.out, if_neg HK.out, E.out, HQ.out, if_neg k1]; rfl
  have HE := Lib.hid hE
  have gk1 : (d.kind == 1) = false := by simpa using k1
  clear hE k1
  by_cases k2 : d.kind = 2
  case neg =>
    have gk2 : (d.kind == 2) = false := by simpa using k2
    have HB : Hid (declR ds d = false) := by unfold Hid; rw [HE.out, decide_eq_false k2]; rfl
    clear k2
    have hr_ := H.rules; simp only [Rules, and_true] at hr_; have hd_ := H.dif; simp only [Dif, Neq, and_true] at hd_; obtain ⟨ho_, hz_⟩ := H.old0
    go_wp2_with fail
    (try clear hr_ hd_ ho_ hz_)
    go_ret
    exact ⟨by rw [HR.out, HB.out]; rfl, H.ext⟩
  have gk2 : (d.kind == 2) = true := by simpa using k2
  have HK2 := Lib.hid (decide_eq_true k2)
  clear k2
  have hr_ := H.rules; simp only [Rules, and_true] at hr_; have hd_ := H.dif; simp only [Dif, Neq, and_true] at hd_; obtain ⟨ho_, hz_⟩ := H.old0
  go_wp2_with fail
  (try clear hr_ hd_ ho_ hz_)
  refine (ref11Right_calls (t := d.body) (HH.out.ext0 H.ext) rfl ⟨_, _, _, _, rfl, R2.out.ext0 H.ext⟩).mono ?_
  rintro e w_ ⟨rfl, hx⟩
  replace H := H.call hx
  clear hx
  obtain ⟨q, hq⟩ : ∃ q, q = srcQ ds d.levels 0 0 d.body := ⟨_, rfl⟩
  rw [← hq]
  have HQ2 := Lib.hid hq
  clear hq
  go_wp2_with fail
  go_ret
  exact ⟨by rw [HR.out, HE.out, HK2.out, ← HQ2.out]; rfl, H.ext⟩
end Go.Proofs.YteelplgdojjakaaGreatDoor
/- The kit's structs that are lent: contracts. No statement of the seat is proved here. -/
namespace Go.Proofs.YteelplgdojjakaaGreatDoor
set_option linter.unusedSimpArgs false
set_option linter.unusedVariables false
open Go.RowKit

section
variable {mk : Nat → List D} {w : World} {S : Nat → Prop}
theorem KC.lv {x : Lv} {v : Value} (h : KC mk w S (.l 149 2 (x.map ptD)) [v]) : KC mk w S (lvD x) [v] := by unfold lvD KC; exact KCs.single h
theorem KCs.cons {d : D} {ds : List D} {c1 c2 : List Value} (h : KC mk w S d c1) (k : KCs mk w S ds c2) : KCs mk w S (d :: ds) (c1 ++ c2) := by unfold KCs; exact ⟨c1, c2, rfl, h, k⟩
theorem KC.num {n : Int} (h : inI n) : KC mk w S (.i n) [.int .i64 n] := by unfold KC; exact ⟨rfl, h⟩
theorem KC.tm {k n a : Int} {ls : List Lv} {ks : List Tm} {v4 v5 : Value} (i1 : inI k) (i2 : inI n) (i3 : inI a) (h4 : KC mk w S (.l 38 1 (ls.map lvD)) [v4]) (h5 : KC mk w S (.l 35 5 (ks.map Tm.d)) [v5]) :
    KC mk w S (Tm.mk k n a ls ks).d [.int .i64 k, .int .i64 n, .int .i64 a, v4, v5] := by
  unfold Tm.d KC
  rw [Tm.ds_eq]
  exact KCs.cons (KC.num i1) (KCs.cons (KC.num i2) (KCs.cons (KC.num i3) (KCs.cons h4 (KCs.cons h5 KCs.nil))))
theorem KC.mb {x : Mb} {v : Value} (h : KC mk w S (.l 35 5 (x.index.map Tm.d)) [v]) : KC mk w S x.d [v] := by unfold Mb.d KC; exact KCs.single h
theorem KC.ct {x : Ct} {cs : List Value} (h0 : inI x.member) (h : KC mk w S x.ty.d cs) : KC mk w S x.d (.int .i64 x.member :: cs) := by
  unfold Ct.d KC
  have := KCs.cons (KC.num (mk := mk) (w := w) (S := S) h0) (KCs.single h)
  simpa using this
theorem KC.tmE {t : Tm} {cs : List Value} (h : KC mk w S t.d cs) : ∃ A ca K ck, cs = [.int .i64 t.k, .int .i64 t.n, .int .i64 t.a, .slice A t.ls.length ca, .slice K t.ks.length ck] := by
  obtain ⟨A, ca, K, ck, he, _⟩ := RC.tm.1 h.rc
  exact ⟨A, ca, K, ck, he⟩
end
/-- Parts are numbers alone. -/
theorem flatK {w w' : World} {S S' : Nat → Prop} : ∀ {ds : List D} {cs : List Value}, (∀ d ∈ ds, ∃ x, d = ptD x) → RCs w S ds cs → RCs w' S' ds cs
  | [], cs, _, h => by unfold RCs at h ⊢; exact h
  | d :: ds, cs, hd, h => by
    unfold RCs at h ⊢
    obtain ⟨c1, c2, rfl, h1, h2⟩ := h
    obtain ⟨x, rfl⟩ := hd d (by simp)
    exact ⟨c1, c2, rfl, RC.pt.2 (RC.pt.1 h1), flatK (fun d h => hd d (by simp [h])) h2⟩
theorem pts_kept {mk : Nat → List D} {w w' : World} {S S' : Nat → Prop} : ∀ {xs : List (Int × Int)} {cs : List Value}, RCs w S (xs.map ptD) cs → KCs mk w' S' (xs.map ptD) cs
  | [], cs, h => by simp only [List.map_nil] at h ⊢; unfold RCs at h; unfold KCs; exact h
  | x :: xs, cs, h => by
    simp only [List.map_cons] at h ⊢
    unfold RCs at h
    obtain ⟨c1, c2, rfl, h1, h2⟩ := h
    obtain ⟨rfl, i1, i2⟩ := RC.pt.1 h1
    refine KCs.cons ?_ (pts_kept h2)
    unfold ptD KC
    exact KCs.cons (KC.num i1) (KCs.cons (KC.num i2) KCs.nil)
section
variable {X : Nat → Prop} {w0 w w1 : World} {l l' l1 l2 l3 : List Ch}
variable {P : Program} {ops : Array Oper} {rest : List Oper} {o : Oper} {a : Act} {Q : Exit → Act → World → Prop}
/-- 'out = append(out, xs...)', out a row whose cells are known. -/
theorem wp_pushKs {K : Act → World → Prop} (s x : Operand) (t : TypeId) (ho : o.op = .call { callee := .builtin .append, args := #[s, x], argTypes := #[t, t] }) {e z : Nat} (hT : SlT P t e z)
    {n m c : Nat} {es : List Value} {out : Value} {A : Option Addr} {ds : List D} {S : Nat → Prop} (hs : a.eval s = out) (hx : a.eval x = .slice A m c) (H : Hp X w0 w l) (p1 : Pick l (.raw e z n out es) l2)
    (hnew : RC w S (.l e z ds) [.slice A m c]) (hM : n + m ≤ 5000000000)
    (h : ∀ v' w' cs, RCs w S ds cs → Hp X w0 w' (.raw e z (n + m) v' (es ++ cs) :: l2) → K (a.put o.dst v') w') : o.wp P a w K Q := by
  cases A with
  | none =>
    have hnr := hnew.nilrow
    obtain ⟨rfl, hds⟩ : m = 0 ∧ ds = [] := by
      obtain ⟨A', c', h1, _⟩ := hnew.slice
      obtain ⟨h2, h3⟩ := hnr
      simp_all
    subst hds
    obtain ⟨L, hL, hn⟩ := (H.pick p1).own
    simp only [Chs] at hL
    obtain ⟨L1, L2, rfl, ⟨rfl, h1⟩, _⟩ := hL
    obtain ⟨ht, i, zv, hi, _⟩ := hT
    have hrun := run_push_none (P := P) (w := w) t o.type e i ht hi h1 c
    have hfin := h out w [] (by unfold RCs; rfl) (by rw [List.append_nil]; exact H.pick p1)
    unfold Oper.wp execOp
    simp only [ho, resolve, invoke, builtin, Sem.run_bind, Sem.run_pure, Result.andThen_ok, List.map_toArray, List.map_cons, List.map_nil, hs, hx, hrun]
    exact hfin
  | some ad =>
    obtain ⟨cs, hcs, hcell, hm, hz⟩ := hnew.row
    have hlen : cs.length = m * z := by rw [RCs.len _ _ hcs, D.sizes_eq hz, hm]
    obtain ⟨L, hL, hn⟩ := (H.pick p1).own
    simp only [Chs] at hL
    obtain ⟨_, L3, rfl, ⟨rfl, h1⟩, h3⟩ := hL
    have hB : ∀ k, out.ownBlock = some k → w0.heap.size ≤ k := fun k hk => (h1.lt k (by simp [hk])).1
    obtain ⟨ht, i, zv, hi, hzv, hsz, hzs, hz0, hby⟩ := hT
    have hb : (n + m) * i.bytes ≤ 140737488355328 := by
      have : (n + m) * i.bytes ≤ 5000000000 * 1024 := Nat.mul_le_mul hM hby
      omega
    obtain ⟨v', w', hrun, r1, r2, _, r4⟩ := run_append_own_at (P := P) w w0.heap.size t o.type e i zv z i.bytes ht hi hzv hsz rfl hzs hz0 out n es h1 ad m c cs hlen
      hcell (RCs.one _ _ hcs) (by unfold maxLen; omega) hb H.ext.size
    have hfin := h v' w' cs hcs ⟨H.ext.grown r2 (fun k hk => .inr (hB k hk)), v'.ownBlock.toList ++ L3, by
      unfold Chs
      refine ⟨_, L3, rfl, ⟨rfl, r1⟩, h3.frame H.ext.size r2.size (fun k hk hx => r2.block k (Nat.lt_of_lt_of_le hk H.ext.size) (fun e => ?_)) (fun k hk => r2.block k (h3.lt k hk).2 (fun e => ?_))⟩
      · have := hB k e.symm; omega
      · exact (List.nodup_append.1 hn).2.2 k (by simp [← e]) k (by simp [hk]) rfl, by
      have n2 := (List.nodup_append.1 hn).2.1
      refine List.nodup_append.2 ⟨by cases v'.ownBlock <;> simp, n2, fun x hx y hy e => ?_⟩
      subst e
      rcases r4 with r4 | r4
      · rw [r4] at hx
        exact (List.nodup_append.1 hn).2.2 x hx x (by simp [hy]) rfl
      · have hx' : x = w.heap.size := by rw [r4] at hx; simpa using hx
        have := (h3.lt x hy).2
        omega⟩
    unfold Oper.wp execOp
    simp only [ho, resolve, invoke, builtin, Sem.run_bind, Sem.run_pure, Result.andThen_ok, List.map_toArray, List.map_cons, List.map_nil, hs, hx, hrun]
    exact hfin
theorem wpList_pushKs (hgd : o.guard = none) (s x : Operand) (t : TypeId) (ho : o.op = .call { callee := .builtin .append, args := #[s, x], argTypes := #[t, t] }) {e z : Nat} (hT : SlT P t e z)
    {n m c : Nat} {es : List Value} {out : Value} {A : Option Addr} {ds : List D} {S : Nat → Prop} (hs : a.eval s = out) (hx : a.eval x = .slice A m c) (H : Hp X w0 w l) (p1 : Pick l (.raw e z n out es) l2)
    (hnew : RC w S (.l e z ds) [.slice A m c]) (hM : n + m ≤ 5000000000)
    (h : ∀ v' w' cs, RCs w S ds cs → Hp X w0 w' (.raw e z (n + m) v' (es ++ cs) :: l2) → wpList P ops Q rest (a.put o.dst v') w') : wpList P ops Q (o :: rest) a w :=
  wpList_plain hgd fun _ hK => wp_pushKs s x t ho hT hs hx H p1 hnew hM fun v' w' cs h0 h1 => hK _ _ (h v' w' cs h0 h1)
end
set_option maxRecDepth 100000 in
set_option maxHeartbeats 4000000 in
theorem lentParts {w : World} {S : Nat → Prop} {xs : List (Int × Int)} {A : Option Addr} {n c : Nat} (h : RC w S (.l 149 2 (xs.map ptD)) [.slice A n c]) (hn : n = xs.length) :
    Calls Tryz.prog 173 #[.slice A n c] w (PKr w 149 2 (xs.map ptD)) := by
  subst hn
  have hM := h.lenM.1
  have HH := Lib.hid h
  obtain ⟨N, hN⟩ : ∃ N : Nat, N = xs.length + 12 := ⟨_, rfl⟩
  obtain ⟨cl, hcl, hmk⟩ := make_row (P := Tryz.prog) stParts N (by omega)
  have hw : IntKind.i64.wrap ((xs.length : Int) + 12) = (N : Int) := by rw [IntKind.wrap_i64]; omega
  have HCL := Lib.hid hcl
  have HN := Lib.hid hN
  clear h hcl hN
  go_enter Tryz.func173, Tryz.ntmps173
  have H := Hp.start no w
  go_wp2_with (at_builtin; go_must (refine listH (by (repeat (first | with_reducible exact H | with_reducible exact H0_ | with_reducible apply Hp.alloc | with_reducible apply Hp.allocMap | with_reducible apply Hp.drew | with_reducible apply Hp.drewN | with_reducible apply Hp.set)); (try any_goals (repeat (first | with_reducible exact Upd.head | with_reducible apply Upd.tail)))) ?_; clear H; intro w1 H; (try simp only [size_drew_, size_drewN_, World.size_alloc, World.size_setCell, List.set_cons_zero, List.set_cons_succ] at H); refine wpList_pushKs rfl (.tmp 9) (.tmp 10) 36 rfl stParts (by go_simp <;> first | rfl | exact ⟨rfl, rfl⟩) (by go_simp <;> first | rfl | exact ⟨rfl, rfl⟩) (H.made .head HCL.out (by have := HN.out; unfold maxLen; omega)) .head (HH.out.ext0 H.ext) (by omega) ?_; clear H; intro v1 w2 es hes H))
  have HE := Lib.hid hes
  clear hes hmk
  simp only [Nat.zero_add, List.nil_append] at H
  go_loopw [3, 4] (fun out i wr => ∃ (q : Nat) (v : Value) (ms : List Value), q ≤ 12 ∧ i = .int .i64 q ∧ out = v ∧ Hid (RCs wr (fun k => w.heap.size ≤ k) (((List.range 12).map fun i => ptD (mkPt i)).take q) ms) ∧ Hp no w wr [.raw 149 2 (xs.length + q) v (es ++ ms)]) (fun _ i _ => 12 - (intOf i).toNat)
  case atStart => exact ⟨0, _, [], by omega, rfl, rfl, Lib.hid (by simp only [List.take_zero]; unfold RCs; rfl), by rw [List.append_nil]; exact H⟩
  case round =>
    clear H
    obtain ⟨q, v, ms, hq, rfl, rfl, HR, H⟩ := hrel
    by_cases hlt : q < 12
    · go_wp2_with fail
      refine (markPart_calls (i := q) hlt).mono ?_
      rintro e w3 ⟨cs2, rfl, hk, hx⟩
      have HL2 := Lib.hid ((RC.len _ _ hk).trans (show _ = 2 from rfl))
      have ONE := Lib.hid (RC.one _ _ hk)
      have hl2_ := HL2.out
      have hf2_ := fold_cells hl2_
      have HK := Lib.hid hk
      replace H := H.call hx
      clear hx hk
      go_wp2_with (at_builtin; go_must (refine wpList_pushK rfl (.tmp 16) (.tmp 19) 36 rfl stParts (by go_simp <;> first | rfl | exact ⟨rfl, rfl⟩) (by go_simp <;> first | rfl | exact ⟨rfl, rfl⟩) (by exact Hp.norm (by (repeat (first | with_reducible exact H | with_reducible exact H0_ | with_reducible apply Hp.alloc | with_reducible apply Hp.allocMap | with_reducible apply Hp.drew | with_reducible apply Hp.drewN | with_reducible apply Hp.set)); (try any_goals (repeat (first | with_reducible exact Upd.head | with_reducible apply Upd.tail)))) (by ((try simp only [size_drew_, size_drewN_, World.size_alloc, World.size_setCell, List.set_cons_zero, List.set_cons_succ, List.nil_append, List.cons_append]) <;> rfl))) (by (repeat (first | with_reducible exact Pick.head | with_reducible apply Pick.tail))) (by (repeat (first | with_reducible exact Pick.head | with_reducible apply Pick.tail))) HL2.out ONE.out ?_ ?_; (focus omega); clear H; intro v5 w5 H))
      go_roundw
      case rel =>
        have H8 : Hp no w _ [.raw 149 2 (xs.length + q + 1) v5 (es ++ ms ++ cs2)] := (H.arr (by (repeat (first | with_reducible exact Arr.nil | refine Arr.cons (by (repeat (first | with_reducible exact Pick.head | with_reducible apply Pick.tail))) ?_)) <;> exact Arr.of_subl (by (repeat (first | with_reducible exact Subl.refl _ | with_reducible apply Subl.drop)))))
        rw [List.append_assoc] at H8
        refine ⟨q + 1, v5, ms ++ cs2, by omega, by first | go_num | rfl | simp, rfl, Lib.hid ?_, H8⟩
        have h1 : RCs w5 (fun k => w.heap.size ≤ k) (((List.range 12).map fun i => ptD (mkPt i)).take q) ms := flatK (fun d hd => by
          have := List.mem_of_mem_take hd
          obtain ⟨i, _, rfl⟩ := List.mem_map.1 this
          exact ⟨_, rfl⟩) HR.out
        have h2 : RC w5 (fun k => w.heap.size ≤ k) (ptD (mkPt q)) cs2 := RC.pt.2 (RC.pt.1 HK.out)
        rw [mk_take hlt]
        exact h1.append (RCs.single h2)
      case measure => simp [intOf]; omega
    · obtain rfl : q = 12 := by omega
      obtain ⟨A5, c5, rfl, hc1, hc2, _⟩ := H.rawLen' (by (repeat (first | with_reducible exact Pick.head | with_reducible apply Pick.tail)))
      have hR := HR.out
      rw [mk_all _ hlt] at hR
      have HR2 := Lib.hid hR
      clear hR HR
      have hn5 : xs.length ≤ c5 := by omega
      go_wp2_with fail
      go_ret
      obtain ⟨_, _, _, hkk⟩ := KC.of (mk := mkD) (S := fun k => w.heap.size ≤ k) (ds := xs.map ptD) (es := es) (ms := ms) (A := A5) (c := c5) H (by (repeat (first | with_reducible exact Pick.head | with_reducible apply Pick.tail))) (by rw [List.length_map]) (pts_size xs) (by rw [List.length_map]; unfold M; exact hM) (pts_kept HE.out) (by rw [mkD_pt]; simp) (fun d hd => by rw [mkD_pt] at hd; obtain ⟨i, _, rfl⟩ := List.mem_map.1 hd; rfl) (by rw [mkD_pt]; exact HR2.out) (fun b h => h)
      exact ⟨A5, c5, by rw [List.length_map]; rfl, by rw [List.length_map]; exact hkk, H.ext⟩
def LentT (t : Tm) : Prop := ∀ (w : World) (S : Nat → Prop) (cs : List Value), RC w S t.d cs → Calls Tryz.prog 29 #[.agg cs.toArray] w (PKd w t.d)
set_option maxRecDepth 100000 in
set_option maxHeartbeats 4000000 in
theorem lentLevel (x : Lv) (w : World) (S : Nat → Prop) (cs : List Value) (h : RC w S (lvD x) cs) : Calls Tryz.prog 100 #[.agg cs.toArray] w (PKd w (lvD x)) := by
  obtain ⟨A, c, rfl, hp⟩ := RC.lv.1 h
  have HP := Lib.hid hp
  clear h hp
  go_enter Tryz.func100, Tryz.ntmps100
  go_wp2_with fail
  have H := Hp.start no w
  refine callsH (by (repeat (first | with_reducible exact H | with_reducible exact H0_ | with_reducible apply Hp.alloc | with_reducible apply Hp.allocMap | with_reducible apply Hp.drew | with_reducible apply Hp.drewN | with_reducible apply Hp.set)); (try any_goals (repeat (first | with_reducible exact Upd.head | with_reducible apply Upd.tail)))) ?_
  clear H; intro w1 H; (try simp only [size_drew_, size_drewN_, World.size_alloc, World.size_setCell, List.set_cons_zero, List.set_cons_succ] at H)
  refine (lentParts (HP.out.ext0 H.ext) rfl).mono ?_
  rintro e w2 ⟨A4, c4, rfl, hk, hx⟩
  simp only [List.length_map] at hk ⊢
  obtain ⟨G1, H2⟩ := H.resK hx hk
  clear H hx hk
  have H := H2
  clear H2
  have hr_ := H.rules; simp only [Rules, and_true] at hr_; have hd_ := H.dif; simp only [Dif, Neq, and_true] at hd_; obtain ⟨ho_, hz_⟩ := H.old0
  go_wp2_with ((with_reducible refine atStore (t := 38) ?_); go_must (refine wpList_storeH (t := 38) rfl rfl (by go_simp <;> first | rfl | exact ⟨rfl, rfl⟩) (by go_simp <;> first | rfl | exact ⟨rfl, rfl⟩) (by exact Hp.norm (by (repeat (first | with_reducible exact H | with_reducible exact H0_ | with_reducible apply Hp.alloc | with_reducible apply Hp.allocMap | with_reducible apply Hp.drew | with_reducible apply Hp.drewN | with_reducible apply Hp.set)); (try any_goals (repeat (first | with_reducible exact Upd.head | with_reducible apply Upd.tail)))) (by ((try simp only [size_drew_, size_drewN_, World.size_alloc, World.size_setCell, List.set_cons_zero, List.set_cons_succ, List.nil_append, List.cons_append]) <;> rfl))) (by (repeat (first | with_reducible exact Upd.head | with_reducible apply Upd.tail))) (by exact aggLevel) (by rfl) (by simp [Value.oneCell']) ?_; clear H; intro w7 H; (try simp only [size_drew_, size_drewN_, World.size_alloc, World.size_setCell, List.set_cons_zero, List.set_cons_succ] at H); (try clear hr_ hd_ ho_ hz_); have hr_ := H.rules; simp only [Rules, and_true] at hr_; have hd_ := H.dif; simp only [Dif, Neq, and_true] at hd_; obtain ⟨ho_, hz_⟩ := H.old0))
  (try clear hr_ hd_ ho_ hz_)
  have k1 := H.gh (p := fun w' => KC mkD w' (fun k => w.heap.size ≤ k) (.l 149 2 (x.map ptD)) [.slice A4 x.length c4]) (by (repeat (first | with_reducible exact Pick.head | with_reducible apply Pick.tail)))
  refine bodyPost_ret (v := .agg #[.slice A4 x.length c4]) (Res.one Tryz.results100 (H.resBox (g := w.heap.size + 1) (by (repeat (first | with_reducible exact Pick.head | with_reducible apply Pick.tail))) aggLevel rfl rfl)) rfl ⟨_, rfl, KC.lv k1, H.ext⟩
set_option maxRecDepth 100000 in
set_option maxHeartbeats 4000000 in
theorem lentTerm : ∀ t : Tm, LentT t := by
  intro t
  induction t using Tm.ind_ with
  | h k n a ls ks ih =>
  intro w S cs h
  obtain ⟨A0, ca, K0, ck, rfl, i1, i2, i3, hls, hks⟩ := RC.tm.1 h
  simp only [Tm.ls_mk, Tm.ks_mk, Tm.k_mk, Tm.n_mk, Tm.a_mk] at hls hks i1 i2 i3 ⊢
  have HLS := Lib.hid hls
  have HKS := Lib.hid hks
  have HI := Lib.hid ih
  have I := Lib.hid (And.intro i1 (And.intro i2 i3))
  clear h hls hks ih i1 i2 i3
  go_enter Tryz.func29, Tryz.ntmps29
  go_wp2_with fail
  have H := Hp.start no w
  refine callsH (by (repeat (first | with_reducible exact H | with_reducible exact H0_ | with_reducible apply Hp.alloc | with_reducible apply Hp.allocMap | with_reducible apply Hp.drew | with_reducible apply Hp.drewN | with_reducible apply Hp.set)); (try any_goals (repeat (first | with_reducible exact Upd.head | with_reducible apply Upd.tail)))) ?_
  clear H; intro w1 H; (try simp only [size_drew_, size_drewN_, World.size_alloc, World.size_setCell, List.set_cons_zero, List.set_cons_succ] at H)
  refine (lentLevels_ (fun x _ => lentLevel x) (HLS.out.ext0 H.ext) rfl).mono ?_
  rintro e w2 ⟨A4, c4, rfl, hk, hx⟩
  simp only [List.length_map] at hk ⊢
  obtain ⟨G1, H2⟩ := H.resK hx hk
  clear H hx hk
  have H := H2
  clear H2
  have hr_ := H.rules; simp only [Rules, and_true] at hr_; have hd_ := H.dif; simp only [Dif, Neq, and_true] at hd_; obtain ⟨ho_, hz_⟩ := H.old0
  go_wp2_with fail
  clear hr_ hd_ ho_ hz_
  refine callsH (by (repeat (first | with_reducible exact H | with_reducible exact H0_ | with_reducible apply Hp.alloc | with_reducible apply Hp.allocMap | with_reducible apply Hp.drew | with_reducible apply Hp.drewN | with_reducible apply Hp.set)); (try any_goals (repeat (first | with_reducible exact Upd.head | with_reducible apply Upd.tail)))) ?_
  clear H; intro w3 H; (try simp only [size_drew_, size_drewN_, World.size_alloc, World.size_setCell, List.set_cons_zero, List.set_cons_succ] at H)
  refine (lentTerms_ HI.out (HKS.out.ext0 H.ext) rfl).mono ?_
  rintro e w4 ⟨A5, c5, rfl, hk, hx⟩
  simp only [List.length_map] at hk ⊢
  obtain ⟨G2, H2⟩ := H.resK hx hk
  clear H hx hk
  have H := H2
  clear H2
  have hr_ := H.rules; simp only [Rules, and_true] at hr_; have hd_ := H.dif; simp only [Dif, Neq, and_true] at hd_; obtain ⟨ho_, hz_⟩ := H.old0
  go_wp2_with ((with_reducible refine atStore (t := 35) ?_); go_must (refine wpList_storeH (t := 35) rfl rfl (by go_simp <;> first | rfl | exact ⟨rfl, rfl⟩) (by go_simp <;> first | rfl | exact ⟨rfl, rfl⟩) (by exact Hp.norm (by (repeat (first | with_reducible exact H | with_reducible exact H0_ | with_reducible apply Hp.alloc | with_reducible apply Hp.allocMap | with_reducible apply Hp.drew | with_reducible apply Hp.drewN | with_reducible apply Hp.set)); (try any_goals (repeat (first | with_reducible exact Upd.head | with_reducible apply Upd.tail)))) (by ((try simp only [size_drew_, size_drewN_, World.size_alloc, World.size_setCell, List.set_cons_zero, List.set_cons_succ, List.nil_append, List.cons_append]) <;> rfl))) (by (repeat (first | with_reducible exact Upd.head | with_reducible apply Upd.tail))) (by exact aggTerm) (by rfl) (by simp [Value.oneCell']) ?_; clear H; intro w7 H; (try simp only [size_drew_, size_drewN_, World.size_alloc, World.size_setCell, List.set_cons_zero, List.set_cons_succ] at H); (try clear hr_ hd_ ho_ hz_); have hr_ := H.rules; simp only [Rules, and_true] at hr_; have hd_ := H.dif; simp only [Dif, Neq, and_true] at hd_; obtain ⟨ho_, hz_⟩ := H.old0))
  (try clear hr_ hd_ ho_ hz_)
  have k1 := H.gh (p := fun w' => KC mkD w' (fun k => w.heap.size ≤ k) (.l 38 1 (ls.map lvD)) [.slice A4 ls.length c4]) (by (repeat (first | with_reducible exact Pick.head | with_reducible apply Pick.tail)))
  have k2 := H.gh (p := fun w' => KC mkD w' (fun k => w.heap.size ≤ k) (.l 35 5 (ks.map Tm.d)) [.slice A5 ks.length c5]) (by (repeat (first | with_reducible exact Pick.head | with_reducible apply Pick.tail)))
  refine bodyPost_ret (v := .agg #[.int .i64 k, .int .i64 n, .int .i64 a, .slice A4 ls.length c4, .slice A5 ks.length c5]) (Res.one Tryz.results29 (H.resBox (g := w.heap.size + 1) (by (repeat (first | with_reducible exact Pick.head | with_reducible apply Pick.tail))) aggTerm rfl rfl)) rfl ⟨_, rfl, KC.tm I.out.1 I.out.2.1 I.out.2.2 k1 k2, H.ext⟩
set_option maxRecDepth 100000 in
set_option maxHeartbeats 4000000 in
theorem lentMember (x : Mb) (w : World) (S : Nat → Prop) (cs : List Value) (h : RC w S x.d cs) : Calls Tryz.prog 174 #[.agg cs.toArray] w (PKd w x.d) := by
  obtain ⟨A, c, rfl, hp⟩ := RC.mb.1 h
  have HP := Lib.hid hp
  clear h hp
  go_enter Tryz.func174, Tryz.ntmps174
  go_wp2_with fail
  have H := Hp.start no w
  refine callsH (by (repeat (first | with_reducible exact H | with_reducible exact H0_ | with_reducible apply Hp.alloc | with_reducible apply Hp.allocMap | with_reducible apply Hp.drew | with_reducible apply Hp.drewN | with_reducible apply Hp.set)); (try any_goals (repeat (first | with_reducible exact Upd.head | with_reducible apply Upd.tail)))) ?_
  clear H; intro w1 H; (try simp only [size_drew_, size_drewN_, World.size_alloc, World.size_setCell, List.set_cons_zero, List.set_cons_succ] at H)
  refine (lentTerms_ (fun t _ => lentTerm t) (HP.out.ext0 H.ext) rfl).mono ?_
  rintro e w2 ⟨A4, c4, rfl, hk, hx⟩
  simp only [List.length_map] at hk ⊢
  obtain ⟨G1, H2⟩ := H.resK hx hk
  clear H hx hk
  have H := H2
  clear H2
  have hr_ := H.rules; simp only [Rules, and_true] at hr_; have hd_ := H.dif; simp only [Dif, Neq, and_true] at hd_; obtain ⟨ho_, hz_⟩ := H.old0
  go_wp2_with ((with_reducible refine atStore (t := 151) ?_); go_must (refine wpList_storeH (t := 151) rfl rfl (by go_simp <;> first | rfl | exact ⟨rfl, rfl⟩) (by go_simp <;> first | rfl | exact ⟨rfl, rfl⟩) (by exact Hp.norm (by (repeat (first | with_reducible exact H | with_reducible exact H0_ | with_reducible apply Hp.alloc | with_reducible apply Hp.allocMap | with_reducible apply Hp.drew | with_reducible apply Hp.drewN | with_reducible apply Hp.set)); (try any_goals (repeat (first | with_reducible exact Upd.head | with_reducible apply Upd.tail)))) (by ((try simp only [size_drew_, size_drewN_, World.size_alloc, World.size_setCell, List.set_cons_zero, List.set_cons_succ, List.nil_append, List.cons_append]) <;> rfl))) (by (repeat (first | with_reducible exact Upd.head | with_reducible apply Upd.tail))) (by exact aggMemberK) (by rfl) (by simp [Value.oneCell']) ?_; clear H; intro w7 H; (try simp only [size_drew_, size_drewN_, World.size_alloc, World.size_setCell, List.set_cons_zero, List.set_cons_succ] at H); (try clear hr_ hd_ ho_ hz_); have hr_ := H.rules; simp only [Rules, and_true] at hr_; have hd_ := H.dif; simp only [Dif, Neq, and_true] at hd_; obtain ⟨ho_, hz_⟩ := H.old0))
  (try clear hr_ hd_ ho_ hz_)
  have k1 := H.gh (p := fun w' => KC mkD w' (fun k => w.heap.size ≤ k) (.l 35 5 (x.index.map Tm.d)) [.slice A4 x.index.length c4]) (by (repeat (first | with_reducible exact Pick.head | with_reducible apply Pick.tail)))
  refine bodyPost_ret (v := .agg #[.slice A4 x.index.length c4]) (Res.one Tryz.results174 (H.resBox (g := w.heap.size + 1) (by (repeat (first | with_reducible exact Pick.head | with_reducible apply Pick.tail))) aggMemberK rfl rfl)) rfl ⟨_, rfl, KC.mb k1, H.ext⟩
set_option maxRecDepth 100000 in
set_option maxHeartbeats 4000000 in
theorem lentCtor (x : Ct) (w : World) (S : Nat → Prop) (cs : List Value) (h : RC w S x.d cs) : Calls Tryz.prog 176 #[.agg cs.toArray] w (PKd w x.d) := by
  obtain ⟨A, ca, K, ck, rfl, i0, hp⟩ := RC.ct.1 h
  have HP := Lib.hid hp
  have I := Lib.hid i0
  clear h hp i0
  go_enter Tryz.func176, Tryz.ntmps176
  go_wp2_with fail
  have H := Hp.start no w
  refine callsH (by (repeat (first | with_reducible exact H | with_reducible exact H0_ | with_reducible apply Hp.alloc | with_reducible apply Hp.allocMap | with_reducible apply Hp.drew | with_reducible apply Hp.drewN | with_reducible apply Hp.set)); (try any_goals (repeat (first | with_reducible exact Upd.head | with_reducible apply Upd.tail)))) ?_
  clear H; intro w1 H; (try simp only [size_drew_, size_drewN_, World.size_alloc, World.size_setCell, List.set_cons_zero, List.set_cons_succ] at H)
  refine (lentTerm x.ty _ _ _ (HP.out.ext0 H.ext)).mono ?_
  rintro e w2 ⟨cs2, rfl, hk, hx⟩
  obtain ⟨A4, ca4, K4, ck4, rfl⟩ := hk.tmE
  obtain ⟨G1, H2⟩ := H.resK hx hk
  clear H hx hk
  have H := H2
  clear H2
  have hr_ := H.rules; simp only [Rules, and_true] at hr_; have hd_ := H.dif; simp only [Dif, Neq, and_true] at hd_; obtain ⟨ho_, hz_⟩ := H.old0
  go_wp2_with ((with_reducible refine atStore (t := 153) ?_); go_must (refine wpList_storeH (t := 153) rfl rfl (by go_simp <;> first | rfl | exact ⟨rfl, rfl⟩) (by go_simp <;> first | rfl | exact ⟨rfl, rfl⟩) (by exact Hp.norm (by (repeat (first | with_reducible exact H | with_reducible exact H0_ | with_reducible apply Hp.alloc | with_reducible apply Hp.allocMap | with_reducible apply Hp.drew | with_reducible apply Hp.drewN | with_reducible apply Hp.set)); (try any_goals (repeat (first | with_reducible exact Upd.head | with_reducible apply Upd.tail)))) (by ((try simp only [size_drew_, size_drewN_, World.size_alloc, World.size_setCell, List.set_cons_zero, List.set_cons_succ, List.nil_append, List.cons_append]) <;> rfl))) (by (repeat (first | with_reducible exact Upd.head | with_reducible apply Upd.tail))) (by exact aggCtorK) (by rfl) (by simp [Value.oneCell']) ?_; clear H; intro w7 H; (try simp only [size_drew_, size_drewN_, World.size_alloc, World.size_setCell, List.set_cons_zero, List.set_cons_succ] at H); (try clear hr_ hd_ ho_ hz_); have hr_ := H.rules; simp only [Rules, and_true] at hr_; have hd_ := H.dif; simp only [Dif, Neq, and_true] at hd_; obtain ⟨ho_, hz_⟩ := H.old0))
  (try clear hr_ hd_ ho_ hz_)
  have k1 := H.gh (p := fun w' => KC mkD w' (fun k => w.heap.size ≤ k) x.ty.d [.int .i64 x.ty.k, .int .i64 x.ty.n, .int .i64 x.ty.a, .slice A4 x.ty.ls.length ca4, .slice K4 x.ty.ks.length ck4]) (by (repeat (first | with_reducible exact Pick.head | with_reducible apply Pick.tail)))
  refine bodyPost_ret (v := .agg #[.int .i64 x.member, .int .i64 x.ty.k, .int .i64 x.ty.n, .int .i64 x.ty.a, .slice A4 x.ty.ls.length ca4, .slice K4 x.ty.ks.length ck4]) (Res.one Tryz.results176 (H.resBox (g := w.heap.size + 1) (by (repeat (first | with_reducible exact Pick.head | with_reducible apply Pick.tail))) aggCtorK rfl rfl)) rfl ⟨_, rfl, KC.ct I.out k1, H.ext⟩
end Go.Proofs.YteelplgdojjakaaGreatDoor
