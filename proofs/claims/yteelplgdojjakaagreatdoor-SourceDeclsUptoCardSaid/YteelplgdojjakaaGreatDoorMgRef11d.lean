/- Reference 11: right, its loops: contract. No statement of the seat is proved here. -/
import Derived.Test.YteelplgdojjakaaGreatDoorFst
import Derived.Test.YteelplgdojjakaaGreatDoorRef11b
import Derived.Test.YteelplgdojjakaaGreatDoorMgRef2
import Derived.Test.YteelplgdojjakaaGreatDoorMgSrcBlock
import Derived.Deep.DeepCutAuto
namespace Go.Proofs.YteelplgdojjakaaGreatDoor
set_option linter.unusedSimpArgs false
set_option linter.unusedVariables false
open Go.RowKit

def R11OK (t : Tm) : Prop := ∀ (w : World) (S S1 : Nat → Prop) (ds : List Dc) (v : Value) (A : Option Addr) (c : Nat) (n sc sf dep : Int), RC w S (.l 42 16 (ds.map Dc.d)) [.slice A ds.length c] → TV w S1 t v → TmNN t →
  Calls Tryz.prog 121 #[.slice A ds.length c, .int .i64 n, .int .i64 sc, .int .i64 sf, v, .int .i64 dep] w (PV w (.bool (allR ds n sc sf dep t)))
theorem allsR_drop {ds : List Dc} {n sc sf k dep : Int} {ks : List Tm} {j : Nat} (h : j < ks.length) : allsR ds n sc sf k dep j (ks.drop j) = (allR ds n sc sf (downI k (j : Int) dep) ks[j] && allsR ds n sc sf k dep (j + 1) (ks.drop (j + 1))) := by
  rw [List.drop_eq_getElem_cons h, allsR]
set_option maxRecDepth 100000 in
set_option maxHeartbeats 8000000 in
theorem right3 {w W : World} {S S1 : Nat → Prop} {ds : List Dc} {k m a : Int} {ls : List Lv} {ks : List Tm} {A A0 K0 : Option Addr} {c ca ck gt : Nat} {n sc sf dep : Int} {x4 x6 x7 x8 x9 x11 x12 x13 x14 x15 x16 x17 x18 x19 x20 x21 x22 x23 x24 x25 x26 x27 x28 x29 x30 x31 x32 x33 x34 x35 x36 x37 x38 x39 x40 x41 x42 x43 x44 x45 x46 x47 x48 x49 x50 x51 x52 x53 x54 x55 x56 x57 x58 x59 x60 x61 x62 x63 x64 x65 x66 x67 x68 x69 x70 x71 x72 x73 x74 x75 x76 x77 x78 x79 x80 : Value} (IH : Hid (∀ t ∈ ks, R11OK t))
    (h : RC w S (.l 42 16 (ds.map Dc.d)) [.slice A ds.length c]) (hls : RC w S1 (.l 38 1 (ls.map lvD)) [.slice A0 ls.length ca]) (hks : RC w S1 (.l 35 5 (ks.map Tm.d)) [.slice K0 ks.length ck]) (hnn : ∀ t ∈ ks, TmNN t) {R : Bool} (hR : R = (lvsQ n ls && allsR ds n sc sf k dep 0 ks)) {K K1 : Act → World → Prop}
    (hK1 : ∀ a w', (sndC (fromN 3 (Tryz.f121.body.getD .skip))).wp Tryz.prog (bodyPost Tryz.prog Tryz.f121 (PV w (.bool R))) a w' → K1 a w')
    (hK : ∀ a w', (sndC (fstC (fromN 3 (Tryz.f121.body.getD .skip)))).wp Tryz.prog (Exit.then K1 (bodyPost Tryz.prog Tryz.f121 (PV w (.bool R)))) a w' → K a w')
    (H : Hp no w W [.box gt 35 [.int .i64 k, .int .i64 m, .int .i64 a, .slice A0 ls.length ca, .slice K0 ks.length ck]]) :
    (fstC (fstC (fromN 3 (Tryz.f121.body.getD .skip)))).wp Tryz.prog (Exit.then K (Exit.then K1 (bodyPost Tryz.prog Tryz.f121 (PV w (.bool R))))) { tmps := #[.slice A ds.length c, .int .i64 n, .int .i64 sc, .int .i64 sf, x4, .int .i64 dep, x6, x7, x8, x9, .pointer (some ⟨gt, 0, none⟩), x11, x12, x13, x14, x15, x16, x17, x18, x19, x20, x21, x22, x23, x24, x25, x26, x27, x28, x29, x30, x31, x32, x33, x34, x35, x36, x37, x38, x39, x40, x41, x42, x43, x44, x45, x46, x47, x48, x49, x50, x51, x52, x53, x54, x55, x56, x57, x58, x59, x60, x61, x62, x63, x64, x65, x66, x67, x68, x69, x70, x71, x72, x73, x74, x75, x76, x77, x78, x79, x80], defers := [] } W := by
  have hM := hks.lenM
  have hM2 := hls.lenM
  have HH := Lib.hid h
  have HN := Lib.hid hnn
  have HR := Lib.hid hR
  clear h hnn hR
  conv => arg 2; whnf
  conv at hK1 => intro a w; arg 1; arg 2; whnf
  conv at hK => intro a w; arg 1; arg 2; whnf
  have hr_ := H.rules; simp only [Rules, and_true] at hr_; have hd_ := H.dif; simp only [Dif, Neq, and_true] at hd_; obtain ⟨ho_, hz_⟩ := H.old0
  go_wp2_with fail
  clear hr_ hd_ ho_ hz_
  go_loopw [13] (fun i wr => ∃ j : Nat, j ≤ ls.length ∧ i = .int .i64 j ∧ Hid ((ls.take j).any (fun x => !lvRight n x) = false) ∧ Hp no w wr [.box gt 35 [.int .i64 k, .int .i64 m, .int .i64 a, .slice A0 ls.length ca, .slice K0 ks.length ck]]) (fun i _ => ls.length - (intOf i).toNat)
  case atStart => exact ⟨0, Nat.zero_le _, rfl, Lib.hid (by simp), H⟩
  case round =>
    clear H
    obtain ⟨j, hj, rfl, HA, H⟩ := hrel
    by_cases hlt : j < ls.length
    · obtain ⟨b, o, A1, c1, rfl, hb, hS, hd, p0⟩ := hls.atLv hlt
      have HD := Lib.hid hd
      clear hd
      have hr_ := H.rules; simp only [Rules, and_true] at hr_; have hd_ := H.dif; simp only [Dif, Neq, and_true] at hd_; obtain ⟨ho_, hz_⟩ := H.old0
      go_wp2_with fail
      clear hr_ hd_ ho_ hz_
      refine callsH (by (repeat (first | with_reducible exact H | with_reducible exact H0_ | with_reducible apply Hp.alloc | with_reducible apply Hp.allocMap | with_reducible apply Hp.drew | with_reducible apply Hp.drewN | with_reducible apply Hp.set)); (try any_goals (repeat (first | with_reducible exact Upd.head | with_reducible apply Upd.tail)))) ?_
      clear H; intro w2 H; (try simp only [size_drew_, size_drewN_, World.size_alloc, World.size_setCell, List.set_cons_zero, List.set_cons_succ] at H)
      refine (ref01Right (n := n) (HD.out.ext0 H.ext)).mono ?_
      rintro e w_ ⟨rfl, hx⟩
      replace H := H.call hx
      clear hx
      cases hq : lvRight n ls[j]
      · have HL : Hid (lvsQ n ls = false) := by
          unfold Hid lvsQ
          rw [any_at hlt (by rw [hq]; rfl)]
          rfl
        clear hq
        go_wp2_with fail
        go_ret
        exact ⟨by rw [HR.out, HL.out]; rfl, H.ext⟩
      · have HQ2 := Lib.hid hq
        clear hq
        go_wp2_with fail
        go_roundw
        case rel => exact ⟨j + 1, by omega, by first | go_num | rfl | simp, Lib.hid (any_take hlt HA.out (by rw [HQ2.out]; rfl)), H⟩
        case measure => simp [intOf]; omega
    · have HL : Hid (lvsQ n ls = true) := by
        unfold Hid lvsQ
        have h1 := HA.out
        rw [take_all hlt] at h1
        rw [h1]
        rfl
      clear HA
      have hr_ := H.rules; simp only [Rules, and_true] at hr_; have hd_ := H.dif; simp only [Dif, Neq, and_true] at hd_; obtain ⟨ho_, hz_⟩ := H.old0
      go_wp2_with fail
      clear hr_ hd_ ho_ hz_
      go_loopw [14] (fun i wr => ∃ j : Nat, j ≤ ks.length ∧ i = .int .i64 j ∧ Hid (allsR ds n sc sf k dep j (ks.drop j) = allsR ds n sc sf k dep 0 ks) ∧ Hp no w wr [.box gt 35 [.int .i64 k, .int .i64 m, .int .i64 a, .slice A0 ls.length ca, .slice K0 ks.length ck]]) (fun i _ => ks.length - (intOf i).toNat)
      case atStart => exact ⟨0, Nat.zero_le _, rfl, Lib.hid (by simp), H⟩
      case round =>
        clear H
        obtain ⟨j, hj, rfl, HS, H⟩ := hrel
        by_cases hlt : j < ks.length
        · obtain ⟨b, o, A1, ca1, K1, ck1, rfl, hb, hS, hd, p0, p1, p2, p3, p4⟩ := hks.atTm hlt
          have HD := Lib.hid hd
          have HE := Lib.hid (allsR_drop (ds := ds) (n := n) (sc := sc) (sf := sf) (k := k) (dep := dep) hlt)
          clear hd
          have hr_ := H.rules; simp only [Rules, and_true] at hr_; have hd_ := H.dif; simp only [Dif, Neq, and_true] at hd_; obtain ⟨ho_, hz_⟩ := H.old0
          go_wp2_with fail
          (try clear hr_ hd_ ho_ hz_)
          refine callsH (by (repeat (first | with_reducible exact H | with_reducible exact H0_ | with_reducible apply Hp.alloc | with_reducible apply Hp.allocMap | with_reducible apply Hp.drew | with_reducible apply Hp.drewN | with_reducible apply Hp.set)); (try any_goals (repeat (first | with_reducible exact Upd.head | with_reducible apply Upd.tail)))) ?_
          clear H; intro w9 H; (try simp only [size_drew_, size_drewN_, World.size_alloc, World.size_setCell, List.set_cons_zero, List.set_cons_succ] at H)
          refine (refBinds k (j : Int)).mono ?_
          rintro e w_ ⟨rfl, hx⟩
          replace H := H.call hx
          clear hx
          cases hbd : binds k (j : Int)
          · have hdn : downI k (j : Int) dep = dep := by unfold downI; rw [hbd]; rfl
            have hr_ := H.rules; simp only [Rules, and_true] at hr_; have hd_ := H.dif; simp only [Dif, Neq, and_true] at hd_; obtain ⟨ho_, hz_⟩ := H.old0
            go_wp2_with fail
            clear hr_ hd_ ho_ hz_
            have HDN := Lib.hid hdn
            clear hdn hbd
            refine callsH (by (repeat (first | with_reducible exact H | with_reducible exact H0_ | with_reducible apply Hp.alloc | with_reducible apply Hp.allocMap | with_reducible apply Hp.drew | with_reducible apply Hp.drewN | with_reducible apply Hp.set)); (try any_goals (repeat (first | with_reducible exact Upd.head | with_reducible apply Upd.tail)))) ?_
            clear H; intro w10 H; (try simp only [size_drew_, size_drewN_, World.size_alloc, World.size_setCell, List.set_cons_zero, List.set_cons_succ] at H)
            have he2 := HE.out
            have hcall := IH.out ks[j] (List.getElem_mem hlt) w10 _ _ ds _ A c n sc sf (downI k (j : Int) dep) (HH.out.ext0 H.ext) ⟨_, _, _, _, rfl, HD.out.ext0 H.ext⟩ (HN.out _ (List.getElem_mem hlt))
            rw [HDN.out] at hcall he2
            clear HE
            have HE := Lib.hid he2
            clear he2
            refine hcall.mono ?_
            clear hcall
            rintro e w_ ⟨rfl, hx⟩
            replace H := H.call hx
            clear hx
            cases hq : allR ds n sc sf (dep) ks[j]
            · have HQ := Lib.hid hq
              clear hq
              have HF : Hid (allsR ds n sc sf k dep 0 ks = false) := by unfold Hid; rw [← HS.out, HE.out, HQ.out]; rfl
              go_wp2_with fail
              go_ret
              exact ⟨by rw [HR.out, HL.out, HF.out]; rfl, H.ext⟩
            · have HQ := Lib.hid hq
              clear hq
              go_wp2_with fail
              go_roundw
              case rel => exact ⟨j + 1, by omega, by first | go_num | rfl | simp, Lib.hid (by rw [← HS.out, HE.out, HQ.out]; rfl), (H.arr (by (repeat (first | with_reducible exact Arr.nil | refine Arr.cons (by (repeat (first | with_reducible exact Pick.head | with_reducible apply Pick.tail))) ?_)) <;> exact Arr.of_subl (by (repeat (first | with_reducible exact Subl.refl _ | with_reducible apply Subl.drop)))))⟩
              case measure => simp [intOf]; omega
          · have hdn : downI k (j : Int) dep = wrap64 (dep + 1) := by unfold downI; rw [hbd]; rfl
            have hr_ := H.rules; simp only [Rules, and_true] at hr_; have hd_ := H.dif; simp only [Dif, Neq, and_true] at hd_; obtain ⟨ho_, hz_⟩ := H.old0
            go_wp2_with fail
            clear hr_ hd_ ho_ hz_
            have HDN := Lib.hid hdn
            clear hdn hbd
            refine callsH (by (repeat (first | with_reducible exact H | with_reducible exact H0_ | with_reducible apply Hp.alloc | with_reducible apply Hp.allocMap | with_reducible apply Hp.drew | with_reducible apply Hp.drewN | with_reducible apply Hp.set)); (try any_goals (repeat (first | with_reducible exact Upd.head | with_reducible apply Upd.tail)))) ?_
            clear H; intro w10 H; (try simp only [size_drew_, size_drewN_, World.size_alloc, World.size_setCell, List.set_cons_zero, List.set_cons_succ] at H)
            have he2 := HE.out
            have hcall := IH.out ks[j] (List.getElem_mem hlt) w10 _ _ ds _ A c n sc sf (downI k (j : Int) dep) (HH.out.ext0 H.ext) ⟨_, _, _, _, rfl, HD.out.ext0 H.ext⟩ (HN.out _ (List.getElem_mem hlt))
            rw [HDN.out] at hcall he2
            clear HE
            have HE := Lib.hid he2
            clear he2
            refine hcall.mono ?_
            clear hcall
            rintro e w_ ⟨rfl, hx⟩
            replace H := H.call hx
            clear hx
            cases hq : allR ds n sc sf (wrap64 (dep + 1)) ks[j]
            · have HQ := Lib.hid hq
              clear hq
              have HF : Hid (allsR ds n sc sf k dep 0 ks = false) := by unfold Hid; rw [← HS.out, HE.out, HQ.out]; rfl
              go_wp2_with fail
              go_ret
              exact ⟨by rw [HR.out, HL.out, HF.out]; rfl, H.ext⟩
            · have HQ := Lib.hid hq
              clear hq
              go_wp2_with fail
              go_roundw
              case rel => exact ⟨j + 1, by omega, by first | go_num | rfl | simp, Lib.hid (by rw [← HS.out, HE.out, HQ.out]; rfl), (H.arr (by (repeat (first | with_reducible exact Arr.nil | refine Arr.cons (by (repeat (first | with_reducible exact Pick.head | with_reducible apply Pick.tail))) ?_)) <;> exact Arr.of_subl (by (repeat (first | with_reducible exact Subl.refl _ | with_reducible apply Subl.drop)))))⟩
              case measure => simp [intOf]; omega
        · have hr_ := H.rules; simp only [Rules, and_true] at hr_; have hd_ := H.dif; simp only [Dif, Neq, and_true] at hd_; obtain ⟨ho_, hz_⟩ := H.old0
          have HF : Hid (allsR ds n sc sf k dep 0 ks = true) := by unfold Hid; rw [← HS.out, List.drop_eq_nil_of_le (by omega), allsR]
          go_wp2_with fail
          go_ret
          exact ⟨by rw [HR.out, HL.out, HF.out]; rfl, H.ext⟩
end Go.Proofs.YteelplgdojjakaaGreatDoor
/- Reference 11: right, Right, row: contracts. No statement of the seat is proved here. -/
namespace Go.Proofs.YteelplgdojjakaaGreatDoor
set_option linter.unusedSimpArgs false
set_option linter.unusedVariables false
open Go.RowKit

set_option maxRecDepth 100000 in
set_option maxHeartbeats 8000000 in
theorem ref11right_calls : ∀ t : Tm, R11OK t := by
  intro t
  induction t using Tm.ind_ with
  | h k m a ls ks ih =>
  rintro w S S1 ds v A c n sc sf dep h ⟨A0, ca, K0, ck, rfl, hrc⟩ hnn
  obtain ⟨_, _, _, _, he, _, _, _, hls, hks⟩ := RC.tm.1 hrc
  simp only [Tm.ls_mk, Tm.ks_mk, Tm.k_mk, Tm.n_mk, Tm.a_mk, List.cons.injEq, Value.slice.injEq, and_true, true_and] at he hls hks hrc ⊢
  obtain ⟨⟨rfl, rfl⟩, rfl, rfl⟩ := he
  cases hnn with
  | mk h0 hk =>
  have HV := Lib.hid hrc
  have IH := Lib.hid ih
  have HH := Lib.hid h
  have HLS := Lib.hid hls
  have HKS := Lib.hid hks
  have H0 := Lib.hid h0
  have HNN := Lib.hid hk
  clear hrc ih h hls hks h0 hk
  go_enter Tryz.func121, Tryz.ntmps121
  go_wp2_with fail
  have H := Hp.start no w
  refine callsH (by (repeat (first | with_reducible exact H | with_reducible exact H0_ | with_reducible apply Hp.alloc | with_reducible apply Hp.allocMap | with_reducible apply Hp.drew | with_reducible apply Hp.drewN | with_reducible apply Hp.set)); (try any_goals (repeat (first | with_reducible exact Upd.head | with_reducible apply Upd.tail)))) ?_
  clear H; intro w1 H; (try simp only [size_drew_, size_drewN_, World.size_alloc, World.size_setCell, List.set_cons_zero, List.set_cons_succ] at H)
  refine (named_calls (t := .mk k m a ls ks) (HH.out.ext0 H.ext) ⟨A0, ca, K0, ck, rfl, HV.out.ext0 H.ext⟩ H0.out).mono ?_
  rintro e w_ ⟨rfl, hx⟩
  replace H := H.call hx
  clear hx
  cases hq : askR ds sf (.mk k m a ls ks)
  · have HE : Hid (allR ds n sc sf dep (.mk k m a ls ks) = false) := by unfold Hid; rw [allR, hq]; rfl
    clear hq
    go_wp2_with fail
    go_ret
    exact ⟨by rw [HE.out]; rfl, H.ext⟩
  have HQ := Lib.hid hq
  clear hq
  by_cases k1 : k = 1
  · have gk : (k == 1) = true := by simpa using k1
    by_cases d1 : dep ≤ m
    · obtain ⟨x, hx⟩ : ∃ x, x = wrap64 (m - dep) := ⟨_, rfl⟩
      have hw : IntKind.i64.wrap (m - dep) = x := by rw [hx, IntKind.wrap_i64]; unfold wrap64; rfl
      have HX := Lib.hid hx
      clear hx
      by_cases d2 : sc ≤ x
      · have HE : Hid (allR ds n sc sf dep (.mk k m a ls ks) = false) := by unfold Hid; rw [allR, HQ.out, ← HX.out]; simp [k1, d1, d2]
        have hr_ := H.rules; simp only [Rules, and_true] at hr_; have hd_ := H.dif; simp only [Dif, Neq, and_true] at hd_; obtain ⟨ho_, hz_⟩ := H.old0
        go_wp2_with fail
        go_ret
        exact ⟨by rw [HE.out]; rfl, H.ext⟩
      ·
        have HE : Hid (allR ds n sc sf dep (.mk k m a ls ks) = (lvsQ n ls && allsR ds n sc sf k dep 0 ks)) := by unfold Hid; rw [allR, HQ.out]; simp [k1, d1, ← HX.out, d2]
        have hr_ := H.rules; simp only [Rules, and_true] at hr_; have hd_ := H.dif; simp only [Dif, Neq, and_true] at hd_; obtain ⟨ho_, hz_⟩ := H.old0
        go_upto_region 3 with fail
        (try clear hr_ hd_ ho_ hz_)
        exact right3 IH HH.out HLS.out HKS.out HNN.out HE.out (by assumption) (by assumption) H
    ·
      have HE : Hid (allR ds n sc sf dep (.mk k m a ls ks) = (lvsQ n ls && allsR ds n sc sf k dep 0 ks)) := by unfold Hid; rw [allR, HQ.out]; simp [k1, d1]
      have hr_ := H.rules; simp only [Rules, and_true] at hr_; have hd_ := H.dif; simp only [Dif, Neq, and_true] at hd_; obtain ⟨ho_, hz_⟩ := H.old0
      go_upto_region 3 with fail
      (try clear hr_ hd_ ho_ hz_)
      exact right3 IH HH.out HLS.out HKS.out HNN.out HE.out (by assumption) (by assumption) H
  · have gk : (k == 1) = false := by simpa using k1
    have HE : Hid (allR ds n sc sf dep (.mk k m a ls ks) = (lvsQ n ls && allsR ds n sc sf k dep 0 ks)) := by unfold Hid; rw [allR, HQ.out]; simp [k1]
    have hr_ := H.rules; simp only [Rules, and_true] at hr_; have hd_ := H.dif; simp only [Dif, Neq, and_true] at hd_; obtain ⟨ho_, hz_⟩ := H.old0
    go_upto_region 3 with fail
    (try clear hr_ hd_ ho_ hz_)
    exact right3 IH HH.out HLS.out HKS.out HNN.out HE.out (by assumption) (by assumption) H
set_option maxRecDepth 100000 in
set_option maxHeartbeats 4000000 in
theorem ref11Right_calls {w : World} {S S1 : Nat → Prop} {ds : List Dc} {t : Tm} {v : Value} {A : Option Addr} {k c : Nat} {n sf sc : Int} (h : RC w S (.l 42 16 (ds.map Dc.d)) [.slice A k c]) (hk : k = ds.length) (ht : TV w S1 t v) :
    Calls Tryz.prog 55 #[.slice A k c, .int .i64 n, .int .i64 sc, .int .i64 sf, v] w (PV w (.bool (srcQ ds n sc sf t))) := by
  subst hk
  rw [src_eq]
  obtain ⟨A0, ca, K0, ck, rfl, hrc⟩ := ht
  have HV := Lib.hid hrc
  have HH := Lib.hid h
  clear hrc h
  go_enter Tryz.func55, Tryz.ntmps55
  go_wp2_with fail
  have H := Hp.start no w
  refine callsH (by (repeat (first | with_reducible exact H | with_reducible exact H0_ | with_reducible apply Hp.alloc | with_reducible apply Hp.allocMap | with_reducible apply Hp.drew | with_reducible apply Hp.drewN | with_reducible apply Hp.set)); (try any_goals (repeat (first | with_reducible exact Upd.head | with_reducible apply Upd.tail)))) ?_
  clear H; intro w1 H; (try simp only [size_drew_, size_drewN_, World.size_alloc, World.size_setCell, List.set_cons_zero, List.set_cons_succ] at H)
  refine (ref02Right_calls ⟨A0, ca, K0, ck, rfl, HV.out.ext0 H.ext⟩).mono ?_
  rintro e w_ ⟨rfl, hx⟩
  replace H := H.call hx
  clear hx
  cases hq : decide (0 < refT 1 t)
  · have HE : Hid (srcR ds n sc sf t = false) := by unfold Hid srcR; rw [hq]; rfl
    clear hq
    go_wp2_with fail
    go_ret
    exact ⟨by rw [HE.out]; rfl, H.ext⟩
  · have HE : Hid (srcR ds n sc sf t = allR ds n sc sf 0 t) := by unfold Hid srcR; rw [hq]; rfl
    have HN := Lib.hid (ok_nn t 1 (rightQ_ok (by rw [← rightQ_ref]; exact hq)))
    clear hq
    have hr_ := H.rules; simp only [Rules, and_true] at hr_; have hd_ := H.dif; simp only [Dif, Neq, and_true] at hd_; obtain ⟨ho_, hz_⟩ := H.old0
    go_wp2_with fail
    clear hr_ hd_ ho_ hz_
    refine callsH (by (repeat (first | with_reducible exact H | with_reducible exact H0_ | with_reducible apply Hp.alloc | with_reducible apply Hp.allocMap | with_reducible apply Hp.drew | with_reducible apply Hp.drewN | with_reducible apply Hp.set)); (try any_goals (repeat (first | with_reducible exact Upd.head | with_reducible apply Upd.tail)))) ?_
    clear H; intro w2 H; (try simp only [size_drew_, size_drewN_, World.size_alloc, World.size_setCell, List.set_cons_zero, List.set_cons_succ] at H)
    refine (ref11right_calls t _ _ _ ds _ A c n sc sf 0 (HH.out.ext0 H.ext) ⟨A0, ca, K0, ck, rfl, HV.out.ext0 H.ext⟩ HN.out).mono ?_
    rintro e w_ ⟨rfl, hx⟩
    replace H := H.call hx
    clear hx
    obtain ⟨q, hq⟩ : ∃ q, q = allR ds n sc sf 0 t := ⟨_, rfl⟩
    rw [← hq]
    have HQQ := Lib.hid hq
    clear hq
    go_wp2_with fail
    go_ret
    exact ⟨by rw [HE.out, ← HQQ.out]; rfl, H.ext⟩
set_option maxRecDepth 100000 in
set_option maxHeartbeats 4000000 in
theorem ref11row_calls {w : World} {S S1 : Nat → Prop} {ds : List Dc} {ts : List Tm} {A B : Option Addr} {c k cb : Nat} {n sc : Int} (h : RC w S (.l 42 16 (ds.map Dc.d)) [.slice A ds.length c]) (hb : RC w S1 (.l 35 5 (ts.map Tm.d)) [.slice B k cb]) (hk : k = ts.length) :
    Calls Tryz.prog 204 #[.slice A ds.length c, .int .i64 n, .int .i64 sc, .slice B k cb] w (PV w (.bool (rowQ ds n sc 0 0 ts))) := by
  subst hk
  have hM := hb.lenM
  have HH := Lib.hid h
  clear h
  go_enter Tryz.func204, Tryz.ntmps204
  go_wp2_with fail
  have H := Hp.start no w
  go_loopw [9] (fun i wr => ∃ j : Nat, j ≤ ts.length ∧ i = .int .i64 j ∧ Hid (rowQ ds n sc 0 j (ts.drop j) = rowQ ds n sc 0 0 ts) ∧ Hp no w wr []) (fun i _ => ts.length - (intOf i).toNat)
  case atStart => exact ⟨0, Nat.zero_le _, rfl, Lib.hid (by simp), H⟩
  case round =>
    clear H
    obtain ⟨j, hj, rfl, HS, H⟩ := hrel
    by_cases hlt : j < ts.length
    · obtain ⟨b, o, A1, ca1, K1, ck1, rfl, hb1, hS, hd, p0, p1, p2, p3, p4⟩ := hb.atTm hlt
      have HD := Lib.hid hd
      have HE := Lib.hid (rowQ_drop (ds := ds) (n := n) (sc := sc) (sf := 0) hlt)
      clear hd
      have hr_ := H.rules; simp only [Rules, and_true] at hr_; have hd_ := H.dif; simp only [Dif, Neq, and_true] at hd_; obtain ⟨ho_, hz_⟩ := H.old0
      go_wp2_with fail
      (try clear hr_ hd_ ho_ hz_)
      refine callsH (by (repeat (first | with_reducible exact H | with_reducible exact H0_ | with_reducible apply Hp.alloc | with_reducible apply Hp.allocMap | with_reducible apply Hp.drew | with_reducible apply Hp.drewN | with_reducible apply Hp.set)); (try any_goals (repeat (first | with_reducible exact Upd.head | with_reducible apply Upd.tail)))) ?_
      clear H; intro w9 H; (try simp only [size_drew_, size_drewN_, World.size_alloc, World.size_setCell, List.set_cons_zero, List.set_cons_succ] at H)
      refine (ref11Right_calls (t := ts[j]) (HH.out.ext0 H.ext) rfl ⟨_, _, _, _, rfl, HD.out.ext0 H.ext⟩).mono ?_
      rintro e w_ ⟨rfl, hx⟩
      replace H := H.call hx
      clear hx
      cases hq : srcQ ds n (wrap64 (sc + (j : Int))) 0 ts[j]
      · have HF : Hid (rowQ ds n sc 0 0 ts = false) := by unfold Hid; rw [← HS.out, HE.out, hq]; rfl
        have HQ := Lib.hid hq
        clear hq
        go_wp2_with fail
        go_ret
        exact ⟨by rw [HF.out]; rfl, H.ext⟩
      · have HQ := Lib.hid hq
        clear hq
        go_wp2_with fail
        go_roundw
        case rel => exact ⟨j + 1, by omega, by first | go_num | rfl | simp, Lib.hid (by rw [← HS.out, HE.out, HQ.out]; rfl), (H.arr (by (repeat (first | with_reducible exact Arr.nil | refine Arr.cons (by (repeat (first | with_reducible exact Pick.head | with_reducible apply Pick.tail))) ?_)) <;> exact Arr.of_subl (by (repeat (first | with_reducible exact Subl.refl _ | with_reducible apply Subl.drop)))))⟩
        case measure => simp [intOf]; omega
    · have HF : Hid (rowQ ds n sc 0 0 ts = true) := by unfold Hid; rw [← HS.out, List.drop_eq_nil_of_le (by omega), rowQ]
      go_wp2_with fail
      go_ret
      exact ⟨by rw [HF.out]; rfl, H.ext⟩
end Go.Proofs.YteelplgdojjakaaGreatDoor
/- Reference 11: bare, block: contracts. No statement of the seat is proved here. -/
namespace Go.Proofs.YteelplgdojjakaaGreatDoor
set_option linter.unusedSimpArgs false
set_option linter.unusedVariables false
open Go.RowKit

set_option maxRecDepth 100000 in
set_option maxHeartbeats 2000000 in
theorem ref11bare_calls {w : World} {S : Nat → Prop} {t : Tm} {v : Value} (h : TV w S t v) : Calls Tryz.prog 132 #[v] w (PV w (.bool (bareQ t))) := by
  obtain ⟨A0, ca, K0, ck, rfl, hrc⟩ := h
  clear hrc
  go_enter Tryz.func132, Tryz.ntmps132
  by_cases h1 : t.k = 0
  · by_cases h2 : t.n = 0
    · by_cases h3 : t.a = 0
      · by_cases h4 : t.ls.length = 0
        · by_cases h5 : t.ks.length = 0
          · have HB : Hid (bareQ t = true) := by unfold Hid bareQ; rw [decide_eq_true h1, decide_eq_true h2, decide_eq_true h3, decide_eq_true (by omega)]; rfl
            go_wp2_with fail
            go_ret
            exact ⟨by rw [HB.out]; rfl, (Ext.refl _ _).alloc _⟩
          · have HB : Hid (bareQ t = false) := by unfold Hid bareQ; rw [decide_eq_false (show ¬ t.ls.length + t.ks.length = 0 by omega)]; simp
            have e5 : ((t.ks.length : Int) == 0) = false := by rw [beq_eq_false_iff_ne]; omega
            go_wp2_with fail
            go_ret
            exact ⟨by rw [HB.out]; rfl, (Ext.refl _ _).alloc _⟩
        · have HB : Hid (bareQ t = false) := by unfold Hid bareQ; rw [decide_eq_false (show ¬ t.ls.length + t.ks.length = 0 by omega)]; simp
          have e4 : ((t.ls.length : Int) == 0) = false := by rw [beq_eq_false_iff_ne]; omega
          go_wp2_with fail
          go_ret
          exact ⟨by rw [HB.out]; rfl, (Ext.refl _ _).alloc _⟩
      · have HB : Hid (bareQ t = false) := by unfold Hid bareQ; simp [h3]
        go_wp2_with fail
        go_ret
        exact ⟨by rw [HB.out]; rfl, (Ext.refl _ _).alloc _⟩
    · have HB : Hid (bareQ t = false) := by unfold Hid bareQ; simp [h2]
      go_wp2_with fail
      go_ret
      exact ⟨by rw [HB.out]; rfl, (Ext.refl _ _).alloc _⟩
  · have HB : Hid (bareQ t = false) := by unfold Hid bareQ; simp [h1]
    go_wp2_with fail
    go_ret
    exact ⟨by rw [HB.out]; rfl, (Ext.refl _ _).alloc _⟩
abbrev dC (d : Dc) (Aty Kty Abody Kbody Aparams Asort Amembers Actors : Option Addr) (cty kty cbody kbody cparams csort cmembers cctors : Nat) : List Value := [.int .i64 d.kind, .int .i64 d.levels, .int .i64 d.ty.k, .int .i64 d.ty.n, .int .i64 d.ty.a, .slice Aty d.ty.ls.length cty, .slice Kty d.ty.ks.length kty, .int .i64 d.body.k, .int .i64 d.body.n, .int .i64 d.body.a, .slice Abody d.body.ls.length cbody, .slice Kbody d.body.ks.length kbody, .slice Aparams d.params.length cparams, .slice Asort d.sort.length csort, .slice Amembers d.members.length cmembers, .slice Actors d.ctors.length cctors]
set_option maxRecDepth 100000 in
set_option maxHeartbeats 8000000 in
/-- The members, the constructors, the rest. -/
theorem rblock4 {w W : World} {S S1 : Nat → Prop} {ds : List Dc} {d : Dc} {A : Option Addr} {c gD : Nat} {Aty Kty Abody Kbody Aparams Asort Amembers Actors : Option Addr} {cty kty cbody kbody cparams csort cmembers cctors : Nat} {x1 x2 x4 x6 x7 x8 x9 x10 x11 x12 x13 x14 x15 x16 x17 x18 x19 x20 x21 x22 x23 x24 x25 x26 x27 x28 x29 x30 x31 x32 x33 x34 x35 x36 x37 x38 x39 x40 x41 x42 x43 x44 x45 x46 x47 x48 x49 x50 x51 x52 x53 x54 x55 x56 x57 x58 x59 x60 x61 x62 x63 x64 x65 x66 x67 x68 x69 x70 x71 x72 x73 x74 x75 x76 x77 x78 x79 x80 x81 x82 x83 x84 x85 x86 x87 x88 x89 x90 x91 x92 x93 x94 x95 x96 x97 x98 x99 x100 x101 x102 x103 x104 x105 x106 x107 x108 x109 x110 x111 x112 x113 x114 x115 x116 x117 x118 x119 x120 x121 : Value} (h : RC w S (.l 42 16 (ds.map Dc.d)) [.slice A ds.length c]) (hd : RC w S1 d.d (dC d Aty Kty Abody Kbody Aparams Asort Amembers Actors cty kty cbody kbody cparams csort cmembers cctors))
    {R : Bool} (hR : R = ((d.members.all (mbQ ds d.levels d.params.length)) && ((d.ctors.all (ctQ ds d.levels d.params.length d.members.length)) && (bareQ d.ty && bareQ d.body)))) {K K1 : Act → World → Prop}
    (hK1 : ∀ a w', (sndC (fromN 4 (Tryz.f131.body.getD .skip))).wp Tryz.prog (bodyPost Tryz.prog Tryz.f131 (PV w (.bool R))) a w' → K1 a w')
    (hK : ∀ a w', (sndC (fstC (fromN 4 (Tryz.f131.body.getD .skip)))).wp Tryz.prog (Exit.then K1 (bodyPost Tryz.prog Tryz.f131 (PV w (.bool R)))) a w' → K a w')
    (H : Hp no w W [.box gD 42 (dC d Aty Kty Abody Kbody Aparams Asort Amembers Actors cty kty cbody kbody cparams csort cmembers cctors)]) :
    (fstC (fstC (fromN 4 (Tryz.f131.body.getD .skip)))).wp Tryz.prog (Exit.then K (Exit.then K1 (bodyPost Tryz.prog Tryz.f131 (PV w (.bool R))))) { tmps := #[.slice A ds.length c, x1, x2, .pointer (some ⟨gD, 0, none⟩), x4, .int .i64 d.params.length, x6, x7, x8, x9, x10, x11, x12, x13, x14, x15, x16, x17, x18, x19, x20, x21, x22, x23, x24, x25, x26, x27, x28, x29, x30, x31, x32, x33, x34, x35, x36, x37, x38, x39, x40, x41, x42, x43, x44, x45, x46, x47, x48, x49, x50, x51, x52, x53, x54, x55, x56, x57, x58, x59, x60, x61, x62, x63, x64, x65, x66, x67, x68, x69, x70, x71, x72, x73, x74, x75, x76, x77, x78, x79, x80, x81, x82, x83, x84, x85, x86, x87, x88, x89, x90, x91, x92, x93, x94, x95, x96, x97, x98, x99, x100, x101, x102, x103, x104, x105, x106, x107, x108, x109, x110, x111, x112, x113, x114, x115, x116, x117, x118, x119, x120, x121], defers := [] } W := by
  obtain ⟨xAty, xcty, xKty, xkty, xAbody, xcbody, xKbody, xkbody, xAparams, xcparams, xAsort, xcsort, xAmembers, xcmembers, xActors, xcctors, he, i1, i2, r1, r2, r3, r4, r5, r6⟩ := RC.dc.1 hd
  simp only [dC, List.cons.injEq, Value.slice.injEq, and_true, true_and] at he
  obtain ⟨⟨rfl, rfl⟩, ⟨rfl, rfl⟩, ⟨rfl, rfl⟩, ⟨rfl, rfl⟩, ⟨rfl, rfl⟩, ⟨rfl, rfl⟩, ⟨rfl, rfl⟩, rfl, rfl⟩ := he
  have hM5 := r5.lenM.1
  have hM6 := r6.lenM.1
  have HH := Lib.hid h
  have HR := Lib.hid hR
  have R1 := Lib.hid r1
  have R2 := Lib.hid r2
  clear h hR hd r1 r2 r3 r4 i1 i2
  conv => arg 2; whnf
  conv at hK1 => intro a w; arg 1; arg 2; whnf
  conv at hK => intro a w; arg 1; arg 2; whnf
  have hr_ := H.rules; simp only [Rules, and_true] at hr_; have hd_ := H.dif; simp only [Dif, Neq, and_true] at hd_; obtain ⟨ho_, hz_⟩ := H.old0
  go_wp2_with fail
  (try clear hr_ hd_ ho_ hz_)
  go_loopw [6] (fun i wr => ∃ j : Nat, j ≤ d.members.length ∧ i = .int .i64 j ∧ Hid ((d.members.take j).all (mbQ ds d.levels d.params.length) = true) ∧ Hp no w wr [.box gD 42 (dC d Aty Kty Abody Kbody Aparams Asort Amembers Actors cty kty cbody kbody cparams csort cmembers cctors)]) (fun i _ => d.members.length - (intOf i).toNat)
  case atStart => exact ⟨0, Nat.zero_le _, rfl, Lib.hid (by simp), (H.arr (by (repeat (first | with_reducible exact Arr.nil | refine Arr.cons (by (repeat (first | with_reducible exact Pick.head | with_reducible apply Pick.tail))) ?_)) <;> exact Arr.of_subl (by (repeat (first | with_reducible exact Subl.refl _ | with_reducible apply Subl.drop)))))⟩
  case round =>
    clear H
    obtain ⟨j, hj, rfl, HS, H⟩ := hrel
    by_cases hlt : j < d.members.length
    · obtain ⟨b, o, A1, ca1, rfl, hb1, hS, hdm, p0⟩ := r5.atMb hlt
      have HIX : Hid (RC w S1 (.l 35 5 (d.members[j].index.map Tm.d)) [.slice A1 d.members[j].index.length ca1]) := by
        obtain ⟨A2, ca2, he, h2⟩ := RC.mb.1 hdm
        simp only [List.cons.injEq, Value.slice.injEq, and_true, true_and] at he
        obtain ⟨rfl, rfl⟩ := he
        exact Lib.hid h2
      clear hdm
      by_cases q : (d.members[j].index.length : Int) ≤ 6
      · have HC : Hid (mbQ ds d.levels d.params.length d.members[j] = rowQ ds d.levels (d.params.length : Int) 0 0 d.members[j].index) := by
          unfold Hid mbQ
          rw [decide_eq_true q]
          rfl
        have q' : decide ((6 : Int) < (d.members[j].index.length : Int)) = false := decide_eq_false (by omega)
        have q2 : decide (6 < d.members[j].index.length) = false := decide_eq_false (by omega)
        clear q
        have hr_ := H.rules; simp only [Rules, and_true] at hr_; have hd_ := H.dif; simp only [Dif, Neq, and_true] at hd_; obtain ⟨ho_, hz_⟩ := H.old0
        go_wp2_with fail
        (try clear hr_ hd_ ho_ hz_)
        refine regionH (by (repeat (first | with_reducible exact H | with_reducible exact H0_ | with_reducible apply Hp.alloc | with_reducible apply Hp.allocMap | with_reducible apply Hp.drew | with_reducible apply Hp.drewN | with_reducible apply Hp.set)); (try any_goals (repeat (first | with_reducible exact Upd.head | with_reducible apply Upd.tail)))) ?_
        clear H; intro w2 H; (try simp only [size_drew_, size_drewN_, World.size_alloc, World.size_setCell, List.set_cons_zero, List.set_cons_succ] at H)
        refine wp_region_H 22 [false, false, false, false, false, false, false, false, false, false, false, false, false, false, false, false, false, false, false, false, false, false] [] H (.cons (i := 0) rfl .nil) (by kernel_rfl) rfl rfl (fun H_ hR_ => ?_)
        (try clear H0_); have H0_ := H; clear H; have H := H_; clear H_
        refine wpL_reads (is := [(0, ?v1_0), (1, ?v1_1), (2, ?v1_2), (3, ?v1_3), (4, ?v1_4), (5, ?v1_5), (6, ?v1_6), (7, ?v1_7), (8, ?v1_8), (9, ?v1_9), (10, ?v1_10), (11, ?v1_11), (12, ?v1_12), (13, ?v1_13), (14, ?v1_14), (15, ?v1_15), (16, ?v1_16), (17, ?v1_17), (18, ?v1_18)]) (by kernel_rfl) (Nat.le_of_ble_eq_true rfl) (by intro _ _ d_ _ _ h_; cases d_ <;> exact h_) (by kernel_rfl) hR_ (fun w_ hw_ => ?h1_) ?_
        case h1_ =>
          have ho_ := hw_.old0.1; have hz_ := hw_.old0.2; have hr_ := hw_.rules; clear hw_; simp only [Rules, and_true] at hr_; go_split_ands
          (repeat (first | with_reducible exact RdOps.nil | (refine RdOps.run rfl (by rfl) ?_ ?_; (focus (first | (go_simp; done) | (go_simp; with_reducible rfl))); simp only [List.getElem_toArray, List.getElem_cons_zero, List.getElem_cons_succ, Act.put, List.setIfInBounds_toArray, List.set_cons_zero, List.set_cons_succ]) | (refine RdOps.skip rfl (by rfl) ?_ ?_; (focus (with_reducible rfl)); simp only [List.getElem_toArray, List.getElem_cons_zero, List.getElem_cons_succ, Act.put, List.setIfInBounds_toArray, List.set_cons_zero, List.set_cons_succ])))
        simp only [rdMark, rdAct, List.map_cons, List.map_nil, List.length_cons, List.length_nil, Nat.reduceAdd, Nat.reduceSub, Nat.zero_add, List.getElem?_toArray, List.getElem?_cons_zero, List.getElem?_cons_succ, Option.bind_some, Act.put, List.setIfInBounds_toArray, List.set_cons_zero, List.set_cons_succ]
        refine wpL_do (i := 19) rfl (by kernel_rfl) (by rfl) (fun K_ hK_ => ?_)
        go_simp
        refine (ref11row_calls (ts := d.members[j].index) (HH.out.ext0 H.ext) (HIX.out.ext0 H.ext) rfl).mono ?_
        rintro e w_ ⟨rfl, hx⟩
        replace H := H.call hx
        clear hx
        cases hq : rowQ ds d.levels (d.params.length : Int) 0 0 d.members[j].index
        · have HF : Hid (d.members.all (mbQ ds d.levels d.params.length) = false) := Lib.hid (alls_not hlt (HC.out.trans hq))
          have HQ := Lib.hid hq
          clear hq
          refine hK_ _ _ (fun _ => H.sub (by simp)) (fun hR_ => ?_)
          replace hR_ := hR_ (by decide)
          refine wpL_reads (is := [(20, ?v2_0), (21, ?v2_1)]) (by kernel_rfl) (Nat.le_of_ble_eq_true rfl) (by intro _ _ d_ _ _ h_; cases d_ <;> exact h_) (by kernel_rfl) hR_ (fun w_ hw_ => ?h2_) ?_
          case h2_ =>
            have ho_ := hw_.old0.1; have hz_ := hw_.old0.2; have hr_ := hw_.rules; clear hw_; simp only [Rules, and_true] at hr_; go_split_ands
            (repeat (first | with_reducible exact RdOps.nil | (refine RdOps.run rfl (by rfl) ?_ ?_; (focus (first | (go_simp; done) | (go_simp; with_reducible rfl))); simp only [List.getElem_toArray, List.getElem_cons_zero, List.getElem_cons_succ, Act.put, List.setIfInBounds_toArray, List.set_cons_zero, List.set_cons_succ]) | (refine RdOps.skip rfl (by rfl) ?_ ?_; (focus (with_reducible rfl)); simp only [List.getElem_toArray, List.getElem_cons_zero, List.getElem_cons_succ, Act.put, List.setIfInBounds_toArray, List.set_cons_zero, List.set_cons_succ])))
          simp only [rdMark, rdAct, List.map_cons, List.map_nil, List.length_cons, List.length_nil, Nat.reduceAdd, Nat.reduceSub, Nat.zero_add, List.getElem?_toArray, List.getElem?_cons_zero, List.getElem?_cons_succ, Option.bind_some, Act.put, List.setIfInBounds_toArray, List.set_cons_zero, List.set_cons_succ]
          refine wpL_done (by kernel_rfl) ?_ _
          go_wp2_with fail
          go_ret
          exact ⟨by rw [HR.out, HF.out]; rfl, H.ext⟩
        · have HQ := Lib.hid hq
          clear hq
          refine hK_ _ _ (fun _ => H.sub (by simp)) (fun hR_ => ?_)
          replace hR_ := hR_ (by decide)
          refine wpL_reads (is := [(20, ?v3_0), (21, ?v3_1)]) (by kernel_rfl) (Nat.le_of_ble_eq_true rfl) (by intro _ _ d_ _ _ h_; cases d_ <;> exact h_) (by kernel_rfl) hR_ (fun w_ hw_ => ?h3_) ?_
          case h3_ =>
            have ho_ := hw_.old0.1; have hz_ := hw_.old0.2; have hr_ := hw_.rules; clear hw_; simp only [Rules, and_true] at hr_; go_split_ands
            (repeat (first | with_reducible exact RdOps.nil | (refine RdOps.run rfl (by rfl) ?_ ?_; (focus (first | (go_simp; done) | (go_simp; with_reducible rfl))); simp only [List.getElem_toArray, List.getElem_cons_zero, List.getElem_cons_succ, Act.put, List.setIfInBounds_toArray, List.set_cons_zero, List.set_cons_succ]) | (refine RdOps.skip rfl (by rfl) ?_ ?_; (focus (with_reducible rfl)); simp only [List.getElem_toArray, List.getElem_cons_zero, List.getElem_cons_succ, Act.put, List.setIfInBounds_toArray, List.set_cons_zero, List.set_cons_succ])))
          simp only [rdMark, rdAct, List.map_cons, List.map_nil, List.length_cons, List.length_nil, Nat.reduceAdd, Nat.reduceSub, Nat.zero_add, List.getElem?_toArray, List.getElem?_cons_zero, List.getElem?_cons_succ, Option.bind_some, Act.put, List.setIfInBounds_toArray, List.set_cons_zero, List.set_cons_succ]
          refine wpL_done (by kernel_rfl) ?_ _
          go_wp2_with fail
          go_roundw
          case rel => exact ⟨j + 1, by omega, by first | go_num | rfl | simp, Lib.hid (alls_take hlt HS.out (HC.out.trans HQ.out)), (H.arr (by (repeat (first | with_reducible exact Arr.nil | refine Arr.cons (by (repeat (first | with_reducible exact Pick.head | with_reducible apply Pick.tail))) ?_)) <;> exact Arr.of_subl (by (repeat (first | with_reducible exact Subl.refl _ | with_reducible apply Subl.drop)))))⟩
          case measure => simp [intOf]; omega
      · have HF : Hid (d.members.all (mbQ ds d.levels d.params.length) = false) := Lib.hid (alls_not hlt (by unfold mbQ; rw [decide_eq_false q]; rfl))
        have q' : decide ((6 : Int) < (d.members[j].index.length : Int)) = true := decide_eq_true (by omega)
        have q2 : decide (6 < d.members[j].index.length) = true := decide_eq_true (by omega)
        clear q
        have hr_ := H.rules; simp only [Rules, and_true] at hr_; have hd_ := H.dif; simp only [Dif, Neq, and_true] at hd_; obtain ⟨ho_, hz_⟩ := H.old0
        go_wp2_with fail
        (try clear hr_ hd_ ho_ hz_)
        refine regionH (by (repeat (first | with_reducible exact H | with_reducible exact H0_ | with_reducible apply Hp.alloc | with_reducible apply Hp.allocMap | with_reducible apply Hp.drew | with_reducible apply Hp.drewN | with_reducible apply Hp.set)); (try any_goals (repeat (first | with_reducible exact Upd.head | with_reducible apply Upd.tail)))) ?_
        clear H; intro w2 H; (try simp only [size_drew_, size_drewN_, World.size_alloc, World.size_setCell, List.set_cons_zero, List.set_cons_succ] at H)
        refine wp_region_H 22 [false, false, false, false, false, false, false, false, false, false, false, false, false, false, false, false, false, false, false, false, false, false] [] H (.cons (i := 0) rfl .nil) (by kernel_rfl) rfl rfl (fun H_ hR_ => ?_)
        (try clear H0_); have H0_ := H; clear H; have H := H_; clear H_
        refine wpL_reads (is := [(0, ?v4_0), (1, ?v4_1), (2, ?v4_2), (3, ?v4_3), (4, ?v4_4), (5, ?v4_5), (6, ?v4_6), (7, ?v4_7), (8, ?v4_8), (9, ?v4_9), (10, ?v4_10), (11, ?v4_11), (12, ?v4_12), (13, ?v4_13), (14, ?v4_14), (15, ?v4_15), (16, ?v4_16), (17, ?v4_17), (18, ?v4_18), (19, ?v4_19), (20, ?v4_20), (21, ?v4_21)]) (by kernel_rfl) (Nat.le_of_ble_eq_true rfl) (by intro _ _ d_ _ _ h_; cases d_ <;> exact h_) (by kernel_rfl) hR_ (fun w_ hw_ => ?h4_) ?_
        case h4_ =>
          have ho_ := hw_.old0.1; have hz_ := hw_.old0.2; have hr_ := hw_.rules; clear hw_; simp only [Rules, and_true] at hr_; go_split_ands
          (repeat (first | with_reducible exact RdOps.nil | (refine RdOps.run rfl (by rfl) ?_ ?_; (focus (first | (go_simp; done) | (go_simp; with_reducible rfl))); simp only [List.getElem_toArray, List.getElem_cons_zero, List.getElem_cons_succ, Act.put, List.setIfInBounds_toArray, List.set_cons_zero, List.set_cons_succ]) | (refine RdOps.skip rfl (by rfl) ?_ ?_; (focus (with_reducible rfl)); simp only [List.getElem_toArray, List.getElem_cons_zero, List.getElem_cons_succ, Act.put, List.setIfInBounds_toArray, List.set_cons_zero, List.set_cons_succ])))
        simp only [rdMark, rdAct, List.map_cons, List.map_nil, List.length_cons, List.length_nil, Nat.reduceAdd, Nat.reduceSub, Nat.zero_add, List.getElem?_toArray, List.getElem?_cons_zero, List.getElem?_cons_succ, Option.bind_some, Act.put, List.setIfInBounds_toArray, List.set_cons_zero, List.set_cons_succ]
        refine wpL_done (by kernel_rfl) ?_ _
        go_wp2_with fail
        go_ret
        exact ⟨by rw [HR.out, HF.out]; rfl, H.ext⟩
    · have e := HS.out
      rw [take_all hlt] at e
      have HM := Lib.hid e
      clear e HS
      have hr_ := H.rules; simp only [Rules, and_true] at hr_; have hd_ := H.dif; simp only [Dif, Neq, and_true] at hd_; obtain ⟨ho_, hz_⟩ := H.old0
      go_wp2_with fail
      (try clear hr_ hd_ ho_ hz_)
      go_loopw [7] (fun i wr => ∃ j : Nat, j ≤ d.ctors.length ∧ i = .int .i64 j ∧ Hid ((d.ctors.take j).all (ctQ ds d.levels d.params.length d.members.length) = true) ∧ Hp no w wr [.box gD 42 (dC d Aty Kty Abody Kbody Aparams Asort Amembers Actors cty kty cbody kbody cparams csort cmembers cctors)]) (fun i _ => d.ctors.length - (intOf i).toNat)
      case atStart => exact ⟨0, Nat.zero_le _, rfl, Lib.hid (by simp), (H.arr (by (repeat (first | with_reducible exact Arr.nil | refine Arr.cons (by (repeat (first | with_reducible exact Pick.head | with_reducible apply Pick.tail))) ?_)) <;> exact Arr.of_subl (by (repeat (first | with_reducible exact Subl.refl _ | with_reducible apply Subl.drop)))))⟩
      case round =>
        clear H
        obtain ⟨j, hj, rfl, HS, H⟩ := hrel
        by_cases hlt : j < d.ctors.length
        · obtain ⟨b, o, A1, ca1, K1, ck1, rfl, hb1, hS, hdc, p0, p1, p2, p3, p4, p5⟩ := r6.atCt hlt
          have HTY : Hid (RC w S1 d.ctors[j].ty.d [.int .i64 d.ctors[j].ty.k, .int .i64 d.ctors[j].ty.n, .int .i64 d.ctors[j].ty.a, .slice A1 d.ctors[j].ty.ls.length ca1, .slice K1 d.ctors[j].ty.ks.length ck1]) := by
            obtain ⟨A2, ca2, K2, ck2, he, _, h2⟩ := RC.ct.1 hdc
            simp only [List.cons.injEq, Value.slice.injEq, and_true, true_and] at he
            obtain ⟨⟨rfl, rfl⟩, rfl, rfl⟩ := he
            exact Lib.hid h2
          clear hdc
          by_cases q : 0 ≤ d.ctors[j].member ∧ d.ctors[j].member < d.members.length
          · have q1 : ¬ d.ctors[j].member < 0 := by omega
            have q2 : ¬ (d.members.length : Int) ≤ d.ctors[j].member := by omega
            have HC : Hid (ctQ ds d.levels d.params.length d.members.length d.ctors[j] = srcQ ds d.levels (d.params.length : Int) (d.members.length : Int) d.ctors[j].ty) := by
              unfold Hid ctQ
              rw [decide_eq_true q.1, decide_eq_true q.2]
              rfl
            clear q
            have hr_ := H.rules; simp only [Rules, and_true] at hr_; have hd_ := H.dif; simp only [Dif, Neq, and_true] at hd_; obtain ⟨ho_, hz_⟩ := H.old0
            go_wp2_with ((with_reducible refine atStore (t := 153) ?_); go_must (refine wpList_storeH (t := 153) rfl rfl (by go_simp <;> first | rfl | exact ⟨rfl, rfl⟩) (by go_simp <;> first | rfl | exact ⟨rfl, rfl⟩) (by exact Hp.norm (by (repeat (first | with_reducible exact H | with_reducible exact H0_ | with_reducible apply Hp.alloc | with_reducible apply Hp.allocMap | with_reducible apply Hp.drew | with_reducible apply Hp.drewN | with_reducible apply Hp.set)); (try any_goals (repeat (first | with_reducible exact Upd.head | with_reducible apply Upd.tail)))) (by ((try simp only [size_drew_, size_drewN_, World.size_alloc, World.size_setCell, List.set_cons_zero, List.set_cons_succ, List.nil_append, List.cons_append]) <;> rfl))) (by (repeat (first | with_reducible exact Upd.head | with_reducible apply Upd.tail))) (by exact aggCtor) (by rfl) (by simp [Value.oneCell']) ?_; clear H; intro w7 H; (try simp only [size_drew_, size_drewN_, World.size_alloc, World.size_setCell, List.set_cons_zero, List.set_cons_succ] at H); (try clear hr_ hd_ ho_ hz_); have hr_ := H.rules; simp only [Rules, and_true] at hr_; have hd_ := H.dif; simp only [Dif, Neq, and_true] at hd_; obtain ⟨ho_, hz_⟩ := H.old0))
            (try clear hr_ hd_ ho_ hz_)
            refine callsH (by (repeat (first | with_reducible exact H | with_reducible exact H0_ | with_reducible apply Hp.alloc | with_reducible apply Hp.allocMap | with_reducible apply Hp.drew | with_reducible apply Hp.drewN | with_reducible apply Hp.set)); (try any_goals (repeat (first | with_reducible exact Upd.head | with_reducible apply Upd.tail)))) ?_
            clear H; intro w9 H; (try simp only [size_drew_, size_drewN_, World.size_alloc, World.size_setCell, List.set_cons_zero, List.set_cons_succ] at H)
            refine (ref11Right_calls (t := d.ctors[j].ty) (HH.out.ext0 H.ext) rfl ⟨_, _, _, _, rfl, HTY.out.ext0 H.ext⟩).mono ?_
            rintro e w_ ⟨rfl, hx⟩
            replace H := H.call hx
            clear hx
            cases hq : srcQ ds d.levels (d.params.length : Int) (d.members.length : Int) d.ctors[j].ty
            · have HF : Hid (d.ctors.all (ctQ ds d.levels d.params.length d.members.length) = false) := Lib.hid (alls_not hlt (HC.out.trans hq))
              have HQ := Lib.hid hq
              clear hq
              go_wp2_with fail
              go_ret
              exact ⟨by rw [HR.out, HM.out, HF.out]; rfl, H.ext⟩
            · have HQ := Lib.hid hq
              clear hq
              go_wp2_with fail
              go_roundw
              case rel => exact ⟨j + 1, by omega, by first | go_num | rfl | simp, Lib.hid (alls_take hlt HS.out (HC.out.trans HQ.out)), (H.arr (by (repeat (first | with_reducible exact Arr.nil | refine Arr.cons (by (repeat (first | with_reducible exact Pick.head | with_reducible apply Pick.tail))) ?_)) <;> exact Arr.of_subl (by (repeat (first | with_reducible exact Subl.refl _ | with_reducible apply Subl.drop)))))⟩
              case measure => simp [intOf]; omega
          · have HF : Hid (d.ctors.all (ctQ ds d.levels d.params.length d.members.length) = false) := Lib.hid (alls_not hlt (by
              unfold ctQ
              rw [show (decide (0 ≤ d.ctors[j].member) && decide (d.ctors[j].member < d.members.length)) = false from by
                rw [Bool.eq_false_iff]
                intro h
                simp only [Bool.and_eq_true, decide_eq_true_eq] at h
                exact q h]
              rfl))
            by_cases q1 : d.ctors[j].member < 0
            · clear q
              have hr_ := H.rules; simp only [Rules, and_true] at hr_; have hd_ := H.dif; simp only [Dif, Neq, and_true] at hd_; obtain ⟨ho_, hz_⟩ := H.old0
              go_wp2_with ((with_reducible refine atStore (t := 153) ?_); go_must (refine wpList_storeH (t := 153) rfl rfl (by go_simp <;> first | rfl | exact ⟨rfl, rfl⟩) (by go_simp <;> first | rfl | exact ⟨rfl, rfl⟩) (by exact Hp.norm (by (repeat (first | with_reducible exact H | with_reducible exact H0_ | with_reducible apply Hp.alloc | with_reducible apply Hp.allocMap | with_reducible apply Hp.drew | with_reducible apply Hp.drewN | with_reducible apply Hp.set)); (try any_goals (repeat (first | with_reducible exact Upd.head | with_reducible apply Upd.tail)))) (by ((try simp only [size_drew_, size_drewN_, World.size_alloc, World.size_setCell, List.set_cons_zero, List.set_cons_succ, List.nil_append, List.cons_append]) <;> rfl))) (by (repeat (first | with_reducible exact Upd.head | with_reducible apply Upd.tail))) (by exact aggCtor) (by rfl) (by simp [Value.oneCell']) ?_; clear H; intro w7 H; (try simp only [size_drew_, size_drewN_, World.size_alloc, World.size_setCell, List.set_cons_zero, List.set_cons_succ] at H); (try clear hr_ hd_ ho_ hz_); have hr_ := H.rules; simp only [Rules, and_true] at hr_; have hd_ := H.dif; simp only [Dif, Neq, and_true] at hd_; obtain ⟨ho_, hz_⟩ := H.old0))
              (try clear hr_ hd_ ho_ hz_)
              go_ret
              exact ⟨by rw [HR.out, HM.out, HF.out]; rfl, H.ext⟩
            · have q2 : (d.members.length : Int) ≤ d.ctors[j].member := by omega
              clear q
              have hr_ := H.rules; simp only [Rules, and_true] at hr_; have hd_ := H.dif; simp only [Dif, Neq, and_true] at hd_; obtain ⟨ho_, hz_⟩ := H.old0
              go_wp2_with ((with_reducible refine atStore (t := 153) ?_); go_must (refine wpList_storeH (t := 153) rfl rfl (by go_simp <;> first | rfl | exact ⟨rfl, rfl⟩) (by go_simp <;> first | rfl | exact ⟨rfl, rfl⟩) (by exact Hp.norm (by (repeat (first | with_reducible exact H | with_reducible exact H0_ | with_reducible apply Hp.alloc | with_reducible apply Hp.allocMap | with_reducible apply Hp.drew | with_reducible apply Hp.drewN | with_reducible apply Hp.set)); (try any_goals (repeat (first | with_reducible exact Upd.head | with_reducible apply Upd.tail)))) (by ((try simp only [size_drew_, size_drewN_, World.size_alloc, World.size_setCell, List.set_cons_zero, List.set_cons_succ, List.nil_append, List.cons_append]) <;> rfl))) (by (repeat (first | with_reducible exact Upd.head | with_reducible apply Upd.tail))) (by exact aggCtor) (by rfl) (by simp [Value.oneCell']) ?_; clear H; intro w7 H; (try simp only [size_drew_, size_drewN_, World.size_alloc, World.size_setCell, List.set_cons_zero, List.set_cons_succ] at H); (try clear hr_ hd_ ho_ hz_); have hr_ := H.rules; simp only [Rules, and_true] at hr_; have hd_ := H.dif; simp only [Dif, Neq, and_true] at hd_; obtain ⟨ho_, hz_⟩ := H.old0))
              (try clear hr_ hd_ ho_ hz_)
              go_ret
              exact ⟨by rw [HR.out, HM.out, HF.out]; rfl, H.ext⟩
        · have e := HS.out
          rw [take_all hlt] at e
          have HC2 := Lib.hid e
          clear e HS
          have hr_ := H.rules; simp only [Rules, and_true] at hr_; have hd_ := H.dif; simp only [Dif, Neq, and_true] at hd_; obtain ⟨ho_, hz_⟩ := H.old0
          go_wp2_with fail
          (try clear hr_ hd_ ho_ hz_)
          refine (ref11bare_calls (t := d.ty) ⟨_, _, _, _, rfl, R1.out.ext0 H.ext⟩).mono ?_
          rintro e w_ ⟨rfl, hx⟩
          replace H := H.call hx
          clear hx
          cases hq : bareQ d.ty
          · have HQ := Lib.hid hq
            clear hq
            go_wp2_with fail
            go_ret
            exact ⟨by rw [HR.out, HM.out, HC2.out, HQ.out]; rfl, H.ext⟩
          · have HQ := Lib.hid hq
            clear hq
            have hr_ := H.rules; simp only [Rules, and_true] at hr_; have hd_ := H.dif; simp only [Dif, Neq, and_true] at hd_; obtain ⟨ho_, hz_⟩ := H.old0
            go_wp2_with fail
            (try clear hr_ hd_ ho_ hz_)
            refine (ref11bare_calls (t := d.body) ⟨_, _, _, _, rfl, R2.out.ext0 H.ext⟩).mono ?_
            rintro e w_ ⟨rfl, hx⟩
            replace H := H.call hx
            clear hx
            obtain ⟨q, hq⟩ : ∃ q, q = bareQ d.body := ⟨_, rfl⟩
            rw [← hq]
            have HQ2 := Lib.hid hq
            clear hq
            go_wp2_with fail
            go_ret
            exact ⟨by rw [HR.out, HM.out, HC2.out, HQ.out, ← HQ2.out]; rfl, H.ext⟩
end Go.Proofs.YteelplgdojjakaaGreatDoor
