/- The kit's structs that are lent: what looks whether they have stayed: contracts. No statement of the seat is proved here. -/
import Derived.Test.YteelplgdojjakaaGreatDoorKept4T
import Derived.Test.YteelplgdojjakaaGreatDoorKept4M
import Derived.Test.YteelplgdojjakaaGreatDoorKept4C
import Derived.Test.YteelplgdojjakaaGreatDoorKept6
namespace Go.Proofs.YteelplgdojjakaaGreatDoor
set_option linter.unusedSimpArgs false
set_option linter.unusedVariables false
open Go.RowKit

section
variable {mk : Nat → List D} {w : World} {S : Nat → Prop}
theorem KCs.uncons {d : D} {ds : List D} {cs : List Value} (h : KCs mk w S (d :: ds) cs) : ∃ c1 c2, cs = c1 ++ c2 ∧ KC mk w S d c1 ∧ KCs mk w S ds c2 := by
  unfold KCs at h
  exact h
theorem KC.unnum {n : Int} {cs : List Value} (h : KC mk w S (.i n) cs) : cs = [.int .i64 n] := by unfold KC at h; exact h.1
theorem KC.oneV {e z : Nat} {ds : List D} {cs : List Value} (h : KC mk w S (.l e z ds) cs) : ∃ A c, cs = [.slice A ds.length c] := by
  have hl := h.len
  simp only [D.size] at hl
  match cs, hl with
  | [v], _ =>
    obtain ⟨b, c, rfl, _⟩ := h.row
    exact ⟨_, _, rfl⟩
theorem KCs.unnil {cs : List Value} (h : KCs mk w S [] cs) : cs = [] := by unfold KCs at h; exact h
theorem KC.untm {k n a : Int} {ls : List Lv} {ks : List Tm} {cs : List Value} (h : KC mk w S (Tm.mk k n a ls ks).d cs) :
    ∃ A ca K ck, cs = [.int .i64 k, .int .i64 n, .int .i64 a, .slice A ls.length ca, .slice K ks.length ck] ∧ KC mk w S (.l 38 1 (ls.map lvD)) [.slice A ls.length ca] ∧ KC mk w S (.l 35 5 (ks.map Tm.d)) [.slice K ks.length ck] := by
  unfold Tm.d KC at h
  rw [Tm.ds_eq] at h
  obtain ⟨_, _, e1_, h1, t1⟩ := h.uncons
  subst e1_
  obtain ⟨_, _, e2_, h2, t2⟩ := t1.uncons
  subst e2_
  obtain ⟨_, _, e3_, h3, t3⟩ := t2.uncons
  subst e3_
  obtain ⟨_, _, e4_, h4, t4⟩ := t3.uncons
  subst e4_
  obtain ⟨_, _, e5_, h5, t5⟩ := t4.uncons
  subst e5_
  obtain rfl := h1.unnum
  obtain rfl := h2.unnum
  obtain rfl := h3.unnum
  obtain ⟨A, ca, rfl⟩ := h4.oneV
  obtain ⟨K, ck, rfl⟩ := h5.oneV
  obtain rfl := t5.unnil
  simp only [List.length_map] at h4 h5
  exact ⟨A, ca, K, ck, by simp, h4, h5⟩
theorem KC.unmb {x : Mb} {cs : List Value} (h : KC mk w S x.d cs) : ∃ A c, cs = [.slice A x.index.length c] ∧ KC mk w S (.l 35 5 (x.index.map Tm.d)) [.slice A x.index.length c] := by
  unfold Mb.d KC at h
  obtain ⟨_, _, e1_, h1, t1⟩ := h.uncons
  subst e1_
  obtain ⟨A, ca, rfl⟩ := h1.oneV
  obtain rfl := t1.unnil
  simp only [List.length_map] at h1
  exact ⟨A, ca, by simp, h1⟩
theorem KC.unct {x : Ct} {cs : List Value} (h : KC mk w S x.d cs) : ∃ A ca K ck, cs = [.int .i64 x.member, .int .i64 x.ty.k, .int .i64 x.ty.n, .int .i64 x.ty.a, .slice A x.ty.ls.length ca, .slice K x.ty.ks.length ck] ∧
    KC mk w S x.ty.d [.int .i64 x.ty.k, .int .i64 x.ty.n, .int .i64 x.ty.a, .slice A x.ty.ls.length ca, .slice K x.ty.ks.length ck] := by
  unfold Ct.d KC at h
  obtain ⟨_, _, e1_, h1, t1⟩ := h.uncons
  subst e1_
  obtain ⟨_, _, e2_, h2, t2⟩ := t1.uncons
  subst e2_
  obtain rfl := h1.unnum
  obtain ⟨A, ca, K, ck, rfl⟩ := h2.tmE
  obtain rfl := t2.unnil
  exact ⟨A, ca, K, ck, by simp, h2⟩
theorem KC.undc {x : Dc} {cs : List Value} (h : KC mk w S x.d cs) : ∃ Aty cty Kty kty Abody cbody Kbody kbody Aparams cparams Asort csort Amembers cmembers Actors cctors, cs = [.int .i64 x.kind, .int .i64 x.levels, .int .i64 x.ty.k, .int .i64 x.ty.n, .int .i64 x.ty.a, .slice Aty x.ty.ls.length cty, .slice Kty x.ty.ks.length kty, .int .i64 x.body.k, .int .i64 x.body.n, .int .i64 x.body.a, .slice Abody x.body.ls.length cbody, .slice Kbody x.body.ks.length kbody, .slice Aparams x.params.length cparams, .slice Asort x.sort.length csort, .slice Amembers x.members.length cmembers, .slice Actors x.ctors.length cctors] ∧ KC mk w S x.ty.d [.int .i64 x.ty.k, .int .i64 x.ty.n, .int .i64 x.ty.a, .slice Aty x.ty.ls.length cty, .slice Kty x.ty.ks.length kty] ∧ KC mk w S x.body.d [.int .i64 x.body.k, .int .i64 x.body.n, .int .i64 x.body.a, .slice Abody x.body.ls.length cbody, .slice Kbody x.body.ks.length kbody] ∧
    KC mk w S (.l 35 5 (x.params.map Tm.d)) [.slice Aparams x.params.length cparams] ∧ KC mk w S (lvD x.sort) [.slice Asort x.sort.length csort] ∧ KC mk w S (.l 151 1 (x.members.map Mb.d)) [.slice Amembers x.members.length cmembers] ∧ KC mk w S (.l 153 6 (x.ctors.map Ct.d)) [.slice Actors x.ctors.length cctors] := by
  unfold Dc.d KC at h
  obtain ⟨_, _, e1_, h1, t1⟩ := h.uncons
  subst e1_
  obtain ⟨_, _, e2_, h2, t2⟩ := t1.uncons
  subst e2_
  obtain ⟨_, _, e3_, h3, t3⟩ := t2.uncons
  subst e3_
  obtain ⟨_, _, e4_, h4, t4⟩ := t3.uncons
  subst e4_
  obtain ⟨_, _, e5_, h5, t5⟩ := t4.uncons
  subst e5_
  obtain ⟨_, _, e6_, h6, t6⟩ := t5.uncons
  subst e6_
  obtain ⟨_, _, e7_, h7, t7⟩ := t6.uncons
  subst e7_
  obtain ⟨_, _, e8_, h8, t8⟩ := t7.uncons
  subst e8_
  obtain rfl := h1.unnum
  obtain rfl := h2.unnum
  obtain ⟨_, _, _, _, rfl⟩ := h3.tmE
  obtain ⟨_, _, _, _, rfl⟩ := h4.tmE
  obtain ⟨_, _, rfl⟩ := h5.oneV
  obtain ⟨_, _, rfl, _⟩ := h6.unlv
  obtain ⟨_, _, rfl⟩ := h7.oneV
  obtain ⟨_, _, rfl⟩ := h8.oneV
  obtain rfl := t8.unnil
  simp only [List.length_map] at h5 h7 h8
  exact ⟨_, _, _, _, _, _, _, _, _, _, _, _, _, _, _, _, by simp, h3, h4, h5, h6, h7, h8⟩
theorem KC.extK {w' : World} {d : D} {cs : List Value} (h : KC mk w S d cs) (hx : Ext no w w') : KC mk w' S d cs := KC.frame hx.size (fun _ _ h => h) (fun k h1 _ => hx.block k h1 no_not) _ _ h
end
def KeptT (t : Tm) : Prop := ∀ (w : World) (S S' : Nat → Prop) (cs cs' : List Value), KC mkD w S t.d cs → RC w S' t.d cs' → Calls Tryz.prog 36 #[.agg cs.toArray, .agg cs'.toArray] w (PV w (.bool true))
set_option maxRecDepth 100000 in
set_option maxHeartbeats 4000000 in
theorem keptTerm : ∀ t : Tm, KeptT t := by
  intro t
  induction t using Tm.ind_ with
  | h k n a ls ks ih =>
  intro w S S' cs cs' h g
  obtain ⟨A, ca, K, ck, rfl, h1, h2⟩ := h.untm
  obtain ⟨A', ca', K', ck', rfl, _, _, _, g1, g2⟩ := RC.tm.1 g
  simp only [Tm.ls_mk, Tm.ks_mk, Tm.k_mk, Tm.n_mk, Tm.a_mk] at g g1 g2 ⊢
  have HI := Lib.hid ih
  have H0 := Lib.hid h
  have H1 := Lib.hid h1
  have H2 := Lib.hid h2
  have G0 := Lib.hid g
  have G1 := Lib.hid g1
  have G2 := Lib.hid g2
  clear ih h h1 h2 g g1 g2
  go_enter Tryz.func36, Tryz.ntmps36
  go_wp2_with fail
  have H := Hp.start no w
  refine callsH (by (repeat (first | with_reducible exact H | with_reducible exact H0_ | with_reducible apply Hp.alloc | with_reducible apply Hp.allocMap | with_reducible apply Hp.drew | with_reducible apply Hp.drewN | with_reducible apply Hp.set)); (try any_goals (repeat (first | with_reducible exact Upd.head | with_reducible apply Upd.tail)))) ?_
  clear H; intro w1 H; (try simp only [size_drew_, size_drewN_, World.size_alloc, World.size_setCell, List.set_cons_zero, List.set_cons_succ] at H)
  refine (sameTmK (.mk k n a ls ks) _ _ _ _ _ (H0.out.rc.ext0 H.ext) (G0.out.ext0 H.ext)).mono ?_
  rintro e w_ ⟨rfl, hx⟩
  replace H := H.call hx
  clear hx
  have hr_ := H.rules; simp only [Rules, and_true] at hr_; have hd_ := H.dif; simp only [Dif, Neq, and_true] at hd_; obtain ⟨ho_, hz_⟩ := H.old0
  go_wp2_with fail
  (try clear hr_ hd_ ho_ hz_)
  refine (keptLevels_ (fun x _ => keptLevel x) (fun q => sameLvK _) (H1.out.extK H.ext) (G1.out.ext0 H.ext) rfl).mono ?_
  rintro e w_ ⟨rfl, hx⟩
  replace H := H.call hx
  clear hx
  have hr_ := H.rules; simp only [Rules, and_true] at hr_; have hd_ := H.dif; simp only [Dif, Neq, and_true] at hd_; obtain ⟨ho_, hz_⟩ := H.old0
  go_wp2_with fail
  (try clear hr_ hd_ ho_ hz_)
  refine (keptTerms_ HI.out (fun q => sameTmK _) (H2.out.extK H.ext) (G2.out.ext0 H.ext) rfl).mono ?_
  rintro e w_ ⟨rfl, hx⟩
  replace H := H.call hx
  clear hx
  go_wp2_with fail
  go_ret
  exact ⟨rfl, H.ext⟩
theorem keptTerms {w : World} {S S' : Nat → Prop} {xs : List Tm} {A B : Option Addr} {n c cb : Nat} (hk : KC mkD w S (.l 35 5 (xs.map Tm.d)) [.slice A n c]) (h : RC w S' (.l 35 5 (xs.map Tm.d)) [.slice B n cb]) (hn : n = xs.length) :
    Calls Tryz.prog 25 #[.slice A n c, .slice B n cb] w (PV w (.bool true)) := keptTerms_ (fun x _ => keptTerm x) (fun q => sameTmK _) hk h hn
set_option maxRecDepth 100000 in
set_option maxHeartbeats 4000000 in
theorem keptMember (x : Mb) (w : World) (S S' : Nat → Prop) (cs cs' : List Value) (h : KC mkD w S x.d cs) (g : RC w S' x.d cs') : Calls Tryz.prog 184 #[.agg cs.toArray, .agg cs'.toArray] w (PV w (.bool true)) := by
  obtain ⟨A, ca, rfl, h1⟩ := h.unmb
  obtain ⟨A', ca', rfl, g1⟩ := RC.mb.1 g
  have H0 := Lib.hid h
  have H1 := Lib.hid h1
  have G0 := Lib.hid g
  have G1 := Lib.hid g1
  clear h h1 g g1
  go_enter Tryz.func184, Tryz.ntmps184
  go_wp2_with fail
  have H := Hp.start no w
  refine callsH (by (repeat (first | with_reducible exact H | with_reducible exact H0_ | with_reducible apply Hp.alloc | with_reducible apply Hp.allocMap | with_reducible apply Hp.drew | with_reducible apply Hp.drewN | with_reducible apply Hp.set)); (try any_goals (repeat (first | with_reducible exact Upd.head | with_reducible apply Upd.tail)))) ?_
  clear H; intro w1 H; (try simp only [size_drew_, size_drewN_, World.size_alloc, World.size_setCell, List.set_cons_zero, List.set_cons_succ] at H)
  refine (sameMbK x _ _ _ _ _ (H0.out.rc.ext0 H.ext) (G0.out.ext0 H.ext)).mono ?_
  rintro e w_ ⟨rfl, hx⟩
  replace H := H.call hx
  clear hx
  have hr_ := H.rules; simp only [Rules, and_true] at hr_; have hd_ := H.dif; simp only [Dif, Neq, and_true] at hd_; obtain ⟨ho_, hz_⟩ := H.old0
  go_wp2_with fail
  (try clear hr_ hd_ ho_ hz_)
  refine (keptTerms (H1.out.extK H.ext) (G1.out.ext0 H.ext) rfl).mono ?_
  rintro e w_ ⟨rfl, hx⟩
  replace H := H.call hx
  clear hx
  go_wp2_with fail
  go_ret
  exact ⟨rfl, H.ext⟩
set_option maxRecDepth 100000 in
set_option maxHeartbeats 4000000 in
theorem keptCtor (x : Ct) (w : World) (S S' : Nat → Prop) (cs cs' : List Value) (h : KC mkD w S x.d cs) (g : RC w S' x.d cs') : Calls Tryz.prog 185 #[.agg cs.toArray, .agg cs'.toArray] w (PV w (.bool true)) := by
  obtain ⟨A, ca, K, ck, rfl, h1⟩ := h.unct
  obtain ⟨A', ca', K', ck', rfl, _, g1⟩ := RC.ct.1 g
  have H0 := Lib.hid h
  have H1 := Lib.hid h1
  have G0 := Lib.hid g
  have G1 := Lib.hid g1
  clear h h1 g g1
  go_enter Tryz.func185, Tryz.ntmps185
  go_wp2_with fail
  have H := Hp.start no w
  refine callsH (by (repeat (first | with_reducible exact H | with_reducible exact H0_ | with_reducible apply Hp.alloc | with_reducible apply Hp.allocMap | with_reducible apply Hp.drew | with_reducible apply Hp.drewN | with_reducible apply Hp.set)); (try any_goals (repeat (first | with_reducible exact Upd.head | with_reducible apply Upd.tail)))) ?_
  clear H; intro w1 H; (try simp only [size_drew_, size_drewN_, World.size_alloc, World.size_setCell, List.set_cons_zero, List.set_cons_succ] at H)
  refine (sameCtK x _ _ _ _ _ (H0.out.rc.ext0 H.ext) (G0.out.ext0 H.ext)).mono ?_
  rintro e w_ ⟨rfl, hx⟩
  replace H := H.call hx
  clear hx
  have hr_ := H.rules; simp only [Rules, and_true] at hr_; have hd_ := H.dif; simp only [Dif, Neq, and_true] at hd_; obtain ⟨ho_, hz_⟩ := H.old0
  go_wp2_with fail
  (try clear hr_ hd_ ho_ hz_)
  refine (keptTerm x.ty _ _ _ _ _ (H1.out.extK H.ext) (G1.out.ext0 H.ext)).mono ?_
  rintro e w_ ⟨rfl, hx⟩
  replace H := H.call hx
  clear hx
  go_wp2_with fail
  go_ret
  exact ⟨rfl, H.ext⟩
set_option maxRecDepth 100000 in
set_option maxHeartbeats 8000000 in
theorem keptDecl (x : Dc) (w : World) (S S' : Nat → Prop) (cs cs' : List Value) (h : KC mkD w S x.d cs) (g : RC w S' x.d cs') : Calls Tryz.prog 48 #[.agg cs.toArray, .agg cs'.toArray] w (PV w (.bool true)) := by
  obtain ⟨Aty, cty, Kty, kty, Abody, cbody, Kbody, kbody, Aparams, cparams, Asort, csort, Amembers, cmembers, Actors, cctors, rfl, h1, h2, h3, h4, h5, h6⟩ := h.undc
  obtain ⟨pAty, pcty, pKty, pkty, pAbody, pcbody, pKbody, pkbody, pAparams, pcparams, pAsort, pcsort, pAmembers, pcmembers, pActors, pcctors, rfl, _, _, k1, k2, k3, k4, k5, k6⟩ := RC.dc.1 g
  have H0 := Lib.hid h
  have G0 := Lib.hid g
  have H1 := Lib.hid h1
  have H2 := Lib.hid h2
  have H3 := Lib.hid h3
  have H4 := Lib.hid h4
  have H5 := Lib.hid h5
  have H6 := Lib.hid h6
  have K1 := Lib.hid k1
  have K2 := Lib.hid k2
  have K3 := Lib.hid k3
  have K4 := Lib.hid k4
  have K5 := Lib.hid k5
  have K6 := Lib.hid k6
  clear h g h1 h2 h3 h4 h5 h6 k1 k2 k3 k4 k5 k6
  go_enter Tryz.func48, Tryz.ntmps48
  go_wp2_with fail
  have H := Hp.start no w
  refine callsH (by (repeat (first | with_reducible exact H | with_reducible exact H0_ | with_reducible apply Hp.alloc | with_reducible apply Hp.allocMap | with_reducible apply Hp.drew | with_reducible apply Hp.drewN | with_reducible apply Hp.set)); (try any_goals (repeat (first | with_reducible exact Upd.head | with_reducible apply Upd.tail)))) ?_
  clear H; intro w1 H; (try simp only [size_drew_, size_drewN_, World.size_alloc, World.size_setCell, List.set_cons_zero, List.set_cons_succ] at H)
  refine (sameDcK x _ _ _ _ _ (H0.out.rc.ext0 H.ext) (G0.out.ext0 H.ext)).mono ?_
  rintro e w_ ⟨rfl, hx⟩
  replace H := H.call hx
  clear hx
  have hr_ := H.rules; simp only [Rules, and_true] at hr_; have hd_ := H.dif; simp only [Dif, Neq, and_true] at hd_; obtain ⟨ho_, hz_⟩ := H.old0
  go_wp2_with fail
  (try clear hr_ hd_ ho_ hz_)
  refine (keptTerm x.ty _ _ _ _ _ (H1.out.extK H.ext) (K1.out.ext0 H.ext)).mono ?_
  rintro e w_ ⟨rfl, hx⟩
  replace H := H.call hx
  clear hx
  have hr_ := H.rules; simp only [Rules, and_true] at hr_; have hd_ := H.dif; simp only [Dif, Neq, and_true] at hd_; obtain ⟨ho_, hz_⟩ := H.old0
  go_wp2_with fail
  (try clear hr_ hd_ ho_ hz_)
  refine (keptTerm x.body _ _ _ _ _ (H2.out.extK H.ext) (K2.out.ext0 H.ext)).mono ?_
  rintro e w_ ⟨rfl, hx⟩
  replace H := H.call hx
  clear hx
  have hr_ := H.rules; simp only [Rules, and_true] at hr_; have hd_ := H.dif; simp only [Dif, Neq, and_true] at hd_; obtain ⟨ho_, hz_⟩ := H.old0
  go_wp2_with fail
  (try clear hr_ hd_ ho_ hz_)
  refine (keptTerms (H3.out.extK H.ext) (K3.out.ext0 H.ext) rfl).mono ?_
  rintro e w_ ⟨rfl, hx⟩
  replace H := H.call hx
  clear hx
  have hr_ := H.rules; simp only [Rules, and_true] at hr_; have hd_ := H.dif; simp only [Dif, Neq, and_true] at hd_; obtain ⟨ho_, hz_⟩ := H.old0
  go_wp2_with fail
  (try clear hr_ hd_ ho_ hz_)
  refine (keptLevel x.sort _ _ _ _ _ (H4.out.extK H.ext) (RC.lv.2 ⟨_, _, rfl, K4.out.ext0 H.ext⟩)).mono ?_
  rintro e w_ ⟨rfl, hx⟩
  replace H := H.call hx
  clear hx
  have hr_ := H.rules; simp only [Rules, and_true] at hr_; have hd_ := H.dif; simp only [Dif, Neq, and_true] at hd_; obtain ⟨ho_, hz_⟩ := H.old0
  go_wp2_with fail
  (try clear hr_ hd_ ho_ hz_)
  refine (keptMembers_ (fun x _ => keptMember x) (fun q => sameMbK _) (H5.out.extK H.ext) (K5.out.ext0 H.ext) rfl).mono ?_
  rintro e w_ ⟨rfl, hx⟩
  replace H := H.call hx
  clear hx
  have hr_ := H.rules; simp only [Rules, and_true] at hr_; have hd_ := H.dif; simp only [Dif, Neq, and_true] at hd_; obtain ⟨ho_, hz_⟩ := H.old0
  go_wp2_with fail
  (try clear hr_ hd_ ho_ hz_)
  refine (keptCtors_ (fun x _ => keptCtor x) (fun q => sameCtK _) (H6.out.extK H.ext) (K6.out.ext0 H.ext) rfl).mono ?_
  rintro e w_ ⟨rfl, hx⟩
  replace H := H.call hx
  clear hx
  go_wp2_with fail
  go_ret
  exact ⟨rfl, H.ext⟩
end Go.Proofs.YteelplgdojjakaaGreatDoor
