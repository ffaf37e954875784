/- Reference 11: right, its loops: contract. No statement of the seat is proved here. -/
import Derived.Test.YteelplgdojjakaaGreatDoorFst
import Derived.Test.YteelplgdojjakaaGreatDoorRef11b
import Derived.Test.YteelplgdojjakaaGreatDoorMgRef2
import Derived.Test.YteelplgdojjakaaGreatDoorMgSrcBlock
import Derived.Deep.DeepCutAuto
import Derived.Test.YteelplgdojjakaaGreatDoorMgAwake11b
namespace Go.Proofs.YteelplgdojjakaaGreatDoor
set_option linter.unusedSimpArgs false
set_option linter.unusedVariables false
open Go.RowKit

def R11OK (t : Tm) : Prop := ∀ (w : World) (S S1 : Nat → Prop) (ds : List Dc) (v : Value) (A : Option Addr) (c : Nat) (n sc sf dep : Int), RC w S (.l 42 16 (ds.map Dc.d)) [.slice A ds.length c] → TV w S1 t v → TmNN t →
  Calls Tryz.prog 121 #[.slice A ds.length c, .int .i64 n, .int .i64 sc, .int .i64 sf, v, .int .i64 dep] w (PV w (.bool (allR ds n sc sf dep t)))
theorem allsR_drop {ds : List Dc} {n sc sf k dep : Int} {ks : List Tm} {j : Nat} (h : j < ks.length) : allsR ds n sc sf k dep j (ks.drop j) = (allR ds n sc sf (downI k (j : Int) dep) ks[j] && allsR ds n sc sf k dep (j + 1) (ks.drop (j + 1))) := by
  rw [List.drop_eq_getElem_cons h, allsR]
set_option maxRecDepth 100000 in
set_option maxHeartbeats 8000000 in
theorem right3 {w W : World} {S S1 : Nat → Prop} {ds : List Dc} {k m a : Int} {ls : List Lv} {ks : List Tm} {A A0 K0 : Option Addr} {c ca ck gt : Nat} {n sc sf dep : Int} {x4 x6 x7 x8 x9 x11 x12 x13 x14 x15 x16 x17 x18 x19 x20 x21 x22 x23 x24 x25 x26 x27 x28 x29 x30 x31 x32 x33 x34 x35 x36 x37 x38 x39 x40 x41 x42 x43 x44 x45 x46 x47 x48 x49 x50 x51 x52 x53 x54 x55 x56 x57 x58 x59 x60 x61 x62 x63 x64 x65 x66 x67 x68 x69 x70 x71 x72 x73 x74 x75 x76 x77 x78 x79 x80 : Value} (IH : Hid (∀ t ∈ ks, R11OK t))
    (h : RC w S (.l 42 16 (ds.map Dc.d)) [.slice A ds.length c]) (hls : RC w S1 (.l 38 1 (ls.map lvD)) [.slice A0 ls.length ca]) (hks : RC w S1 (.l 35 5 (ks.map Tm.d)) [.slice K0 ks.length ck]) (hnn : ∀ t ∈ ks, TmNN t) {R : Bool} (hR : R = (lvsQ n ls && allsR ds n sc sf k dep 0 ks)) {K K1 : Act → World → Prop}
    (hK1 : ∀ a w', (sndC (fromN 3 (Tryz.f121.body.getD .skip))).wp Tryz.prog (bodyPost Tryz.prog Tryz.f121 (PV w (.bool R))) a w' → K1 a w')
    (hK : ∀ a w', (sndC (fstC (fromN 3 (Tryz.f121.body.getD .skip)))).wp Tryz.prog (Exit.then K1 (bodyPost Tryz.prog Tryz.f121 (PV w (.bool R)))) a w' → K a w')
    (H : Hp no w W [.box gt 35 [.int .i64 k, .int .i64 m, .int .i64 a, .slice A0 ls.length ca, .slice K0 ks.length ck]]) :
    (fstC (fstC (fromN 3 (Tryz.f121.body.getD .skip)))).wp Tryz.prog (Exit.then K (Exit.then K1 (bodyPost Tryz.prog Tryz.f121 (PV w (.bool R))))) { tmps := #[.slice A ds.length c, .int .i64 n, .int .i64 sc, .int .i64 sf, x4, .int .i64 dep, x6, x7, x8, x9, .pointer (some ⟨gt, 0, none⟩), x11, x12, x13, x14, x15, x16, x17, x18, x19, x20, x21, x22, x23, x24, x25, x26, x27, x28, x29, x30, x31, x32, x33, x34, x35, x36, x37, x38, x39, x40, x41, x42, x43, x44, x45, x46, x47, x48, x49, x50, x51, x52, x53, x54, x55, x56, x57, x58, x59, x60, x61, x62, x63, x64, x65, x66, x67, x68, x69, x70, x71, x72, x73, x74, x75, x76, x77, x78, x79, x80], defers := [] } W := by
  have hM := hks.lenM
  have hM2 := hls.lenM
  have HH := Lib.hid h
  have HN := Lib.hid hnn
  have HR := Lib.hid hR
  clear h hnn hR
  conv => arg 2; whnf
  conv at hK1 => intro a w; arg 1; arg 2; whnf
  conv at hK => intro a w; arg 1; arg 2; whnf
  have hr_ := H.rules; simp only [Rules, and_true] at hr_; have hd_ := H.dif; simp only [Dif, Neq, and_true] at hd_; obtain ⟨ho_, hz_⟩ := H.old0
  go_wp2_with fail
  clear hr_ hd_ ho_ hz_
  go_loopw [13] (fun i wr => ∃ j : Nat, j ≤ ls.length ∧ i = .int .i64 j ∧ Hid ((ls.take j).any (fun x => !lvRight n x) = false) ∧ Hp no w wr [.box gt 35 [.int .i64 k, .int .i64 m, .int .i64 a, .slice A0 ls.length ca, .slice K0 ks.length ck]]) (fun i _ => ls.length - (intOf i).toNat)
  case atStart => exact ⟨0, Nat.zero_le _, rfl, Lib.hid (by simp), H⟩
  case round =>
    clear H
    obtain ⟨j, hj, rfl, HA, H⟩ := hrel
    by_cases hlt : j < ls.length
    · obtain ⟨b, o, A1, c1, rfl, hb, hS, hd, p0⟩ := hls.atLv hlt
      have HD := Lib.hid hd
      clear hd
      have hr_ := H.rules; simp only [Rules, and_true] at hr_; have hd_ := H.dif; simp only [Dif, Neq, and_true] at hd_; obtain ⟨ho_, hz_⟩ := H.old0
      go_wp2_with fail
      clear hr_ hd_ ho_ hz_
      refine callsH (by (repeat (first | with_reducible exact H | with_reducible exact H0_ | with_reducible apply Hp.alloc | with_reducible apply Hp.allocMap | with_reducible apply Hp.drew | with_reducible apply Hp.drewN | with_reducible apply Hp.set)); (try any_goals (repeat (first | with_reducible exact Upd.head | with_reducible apply Upd.tail)))) ?_
      clear H; intro w2 H; (try simp only [size_drew_, size_drewN_, World.size_alloc, World.size_setCell, List.set_cons_zero, List.set_cons_succ] at H)
      refine (ref01Right (n := n) (HD.out.ext0 H.ext)).mono ?_
      rintro e w_ ⟨rfl, hx⟩
      replace H := H.call hx
      clear hx
      cases hq : lvRight n ls[j]
      · have HL : Hid (lvsQ n ls = false) := by
          unfold Hid lvsQ
          rw [any_at hlt (by rw [hq]; rfl)]
          rfl
        clear hq
        go_wp2_with fail
        go_ret
        exact ⟨by rw [HR.out, HL.out]; rfl, H.ext⟩
      · have HQ2 := Lib.hid hq
        clear hq
        go_wp2_with fail
        go_roundw
        case rel => exact ⟨j + 1, by omega, by first | go_num | rfl | simp, Lib.hid (any_take hlt HA.out (by rw [HQ2.out]; rfl)), H⟩
        case measure => simp [intOf]; omega
    · have HL : Hid (lvsQ n ls = true) := by
        unfold Hid lvsQ
        have h1 := HA.out
        rw [take_all hlt] at h1
        rw [h1]
        rfl
      clear HA
      have hr_ := H.rules; simp only [Rules, and_true] at hr_; have hd_ := H.dif; simp only [Dif, Neq, and_true] at hd_; obtain ⟨ho_, hz_⟩ := H.old0
      go_wp2_with fail
      clear hr_ hd_ ho_ hz_
      go_loopw [14] (fun i wr => ∃ j : Nat, j ≤ ks.length ∧ i = .int .i64 j ∧ Hid (allsR ds n sc sf k dep j (ks.drop j) = allsR ds n sc sf k dep 0 ks) ∧ Hp no w wr [.box gt 35 [.int .i64 k, .int .i64 m, .int .i64 a, .slice A0 ls.length ca, .slice K0 ks.length ck]]) (fun i _ => ks.length - (intOf i).toNat)
      case atStart => exact ⟨0, Nat.zero_le _, rfl, Lib.hid (by simp), H⟩
      case round =>
        clear H
        obtain ⟨j, hj, rfl, HS, H⟩ := hrel
        by_cases hlt : j < ks.length
        · obtain ⟨b, o, A1, ca1, K1, ck1, rfl, hb, hS, hd, p0, p1, p2, p3, p4⟩ := hks.atTm hlt
          have HD := Lib.hid hd
          have HE := Lib.hid (allsR_drop (ds := ds) (n := n) (sc := sc) (sf := sf) (k := k) (dep := dep) hlt)
          clear hd
          have hr_ := H.rules; simp only [Rules, and_true] at hr_; have hd_ := H.dif; simp only [Dif, Neq, and_true] at hd_; obtain ⟨ho_, hz_⟩ := H.old0
          go_wp2_with fail
          (try clear hr_ hd_ ho_ hz_)
          refine callsH (by (repeat (first | with_reducible exact H | with_reducible exact H0_ | with_reducible apply Hp.alloc | with_reducible apply Hp.allocMap | with_reducible apply Hp.drew | with_reducible apply Hp.drewN | with_reducible apply Hp.set)); (try any_goals (repeat (first | with_reducible exact Upd.head | with_reducible apply Upd.tail)))) ?_
          clear H; intro w9 H; (try simp only [size_drew_, size_drewN_, World.size_alloc, World.size_setCell, List.set_cons_zero, List.set_cons_succ] at H)
          refine (refBinds k (j : Int)).mono ?_
          rintro e w_ ⟨rfl, hx⟩
          replace H := H.call hx
          clear hx
          cases hbd : binds k (j : Int)
          · have hdn : downI k (j : Int) dep = dep := by unfold downI; rw [hbd]; rfl
            have hr_ := H.rules; simp only [Rules, and_true] at hr_; have hd_ := H.dif; simp only [Dif, Neq, and_true] at hd_; obtain ⟨ho_, hz_⟩ := H.old0
            go_wp2_with fail
            clear hr_ hd_ ho_ hz_
            have HDN := Lib.hid hdn
            clear hdn hbd
            refine callsH (by (repeat (first | with_reducible exact H | with_reducible exact H0_ | with_reducible apply Hp.alloc | with_reducible apply Hp.allocMap | with_reducible apply Hp.drew | with_reducible apply Hp.drewN | with_reducible apply Hp.set)); (try any_goals (repeat (first | with_reducible exact Upd.head | with_reducible apply Upd.tail)))) ?_
            clear H; intro w10 H; (try simp only [size_drew_, size_drewN_, World.size_alloc, World.size_setCell, List.set_cons_zero, List.set_cons_succ] at H)
            have he2 := HE.out
            have hcall := IH.out ks[j] (List.getElem_mem hlt) w10 _ _ ds _ A c n sc sf (downI k (j : Int) dep) (HH.out.ext0 H.ext) ⟨_, _, _, _, rfl, HD.out.ext0 H.ext⟩ (HN.out _ (List.getElem_mem hlt))
            rw [HDN.out] at hcall he2
            clear HE
            have HE := Lib.hid he2
            clear he2
            refine hcall.mono ?_
            clear hcall
            rintro e w_ ⟨rfl, hx⟩
            replace H := H.call hx
            clear hx
            cases hq : allR ds n sc sf (dep) ks[j]
            · have HQ := Lib.hid hq
              clear hq
              have HF : Hid (allsR ds n sc sf k dep 0 ks = false) := by unfold Hid; rw [← HS.out, HE.out, HQ.out]; rfl
              go_wp2_with fail
              go_ret
              exact ⟨by rw [HR.out, HL.out, HF.out]; rfl, H.ext⟩
            · have HQ := Lib.hid hq
              clear hq
              go_wp2_with fail
              go_roundw
              case rel => exact ⟨j + 1, by omega, by first | go_num | rfl | simp, Lib.hid (by rw [← HS.out, HE.out, HQ.out]; rfl), (H.arr (by (repeat (first | with_reducible exact Arr.nil | refine Arr.cons (by (repeat (first | with_reducible exact Pick.head | with_reducible apply Pick.tail))) ?_)) <;> exact Arr.of_subl (by (repeat (first | with_reducible exact Subl.refl _ | with_reducible apply Subl.drop)))))⟩
              case measure => simp [intOf]; omega
          · have hdn : downI k (j : Int) dep = wrap64 (dep + 1) := by unfold downI; rw [hbd]; rfl
            have hr_ := H.rules; simp only [Rules, and_true] at hr_; have hd_ := H.dif; simp only [Dif, Neq, and_true] at hd_; obtain ⟨ho_, hz_⟩ := H.old0
            go_wp2_with fail
            clear hr_ hd_ ho_ hz_
            have HDN := Lib.hid hdn
            clear hdn hbd
            refine callsH (by (repeat (first | with_reducible exact H | with_reducible exact H0_ | with_reducible apply Hp.alloc | with_reducible apply Hp.allocMap | with_reducible apply Hp.drew | with_reducible apply Hp.drewN | with_reducible apply Hp.set)); (try any_goals (repeat (first | with_reducible exact Upd.head | with_reducible apply Upd.tail)))) ?_
            clear H; intro w10 H; (try simp only [size_drew_, size_drewN_, World.size_alloc, World.size_setCell, List.set_cons_zero, List.set_cons_succ] at H)
            have he2 := HE.out
            have hcall := IH.out ks[j] (List.getElem_mem hlt) w10 _ _ ds _ A c n sc sf (downI k (j : Int) dep) (HH.out.ext0 H.ext) ⟨_, _, _, _, rfl, HD.out.ext0 H.ext⟩ (HN.out _ (List.getElem_mem hlt))
            rw [HDN.out] at hcall he2
            clear HE
            have HE := Lib.hid he2
            clear he2
            refine hcall.mono ?_
            clear hcall
            rintro e w_ ⟨rfl, hx⟩
            replace H := H.call hx
            clear hx
            cases hq : allR ds n sc sf (wrap64 (dep + 1)) ks[j]
            · have HQ := Lib.hid hq
              clear hq
              have HF : Hid (allsR ds n sc sf k dep 0 ks = false) := by unfold Hid; rw [← HS.out, HE.out, HQ.out]; rfl
              go_wp2_with fail
              go_ret
              exact ⟨by rw [HR.out, HL.out, HF.out]; rfl, H.ext⟩
            · have HQ := Lib.hid hq
              clear hq
              go_wp2_with fail
              go_roundw
              case rel => exact ⟨j + 1, by omega, by first | go_num | rfl | simp, Lib.hid (by rw [← HS.out, HE.out, HQ.out]; rfl), (H.arr (by (repeat (first | with_reducible exact Arr.nil | refine Arr.cons (by (repeat (first | with_reducible exact Pick.head | with_reducible apply Pick.tail))) ?_)) <;> exact Arr.of_subl (by (repeat (first | with_reducible exact Subl.refl _ | with_reducible apply Subl.drop)))))⟩
              case measure => simp [intOf]; omega
        · have hr_ := H.rules; simp only [Rules, and_true] at hr_; have hd_ := H.dif; simp only [Dif, Neq, and_true] at hd_; obtain ⟨ho_, hz_⟩ := H.old0
          have HF : Hid (allsR ds n sc sf k dep 0 ks = true) := by unfold Hid; rw [← HS.out, List.drop_eq_nil_of_le (by omega), allsR]
          go_wp2_with fail
          go_ret
          exact ⟨by rw [HR.out, HL.out, HF.out]; rfl, H.ext⟩
end Go.Proofs.YteelplgdojjakaaGreatDoor
/- Reference 11: right, Right, row: contracts. No statement of the seat is proved here. -/
namespace Go.Proofs.YteelplgdojjakaaGreatDoor
set_option linter.unusedSimpArgs false
set_option linter.unusedVariables false
open Go.RowKit

set_option maxRecDepth 100000 in
set_option maxHeartbeats 8000000 in
theorem ref11right_calls : ∀ t : Tm, R11OK t := by
  intro t
  induction t using Tm.ind_ with
  | h k m a ls ks ih =>
  rintro w S S1 ds v A c n sc sf dep h ⟨A0, ca, K0, ck, rfl, hrc⟩ hnn
  obtain ⟨_, _, _, _, he, _, _, _, hls, hks⟩ := RC.tm.1 hrc
  simp only [Tm.ls_mk, Tm.ks_mk, Tm.k_mk, Tm.n_mk, Tm.a_mk, List.cons.injEq, Value.slice.injEq, and_true, true_and] at he hls hks hrc ⊢
  obtain ⟨⟨rfl, rfl⟩, rfl, rfl⟩ := he
  cases hnn with
  | mk h0 hk =>
  have HV := Lib.hid hrc
  have IH := Lib.hid ih
  have HH := Lib.hid h
  have HLS := Lib.hid hls
  have HKS := Lib.hid hks
  have H0 := Lib.hid h0
  have HNN := Lib.hid hk
  clear hrc ih h hls hks h0 hk
  go_enter Tryz.func121, Tryz.ntmps121
  go_wp2_with fail
  have H := Hp.start no w
  refine callsH (by (repeat (first | with_reducible exact H | with_reducible exact H0_ | with_reducible apply Hp.alloc | with_reducible apply Hp.allocMap | with_reducible apply Hp.drew | with_reducible apply Hp.drewN | with_reducible apply Hp.set)); (try any_goals (repeat (first | with_reducible exact Upd.head | with_reducible apply Upd.tail)))) ?_
  clear H; intro w1 H; (try simp only [size_drew_, size_drewN_, World.size_alloc, World.size_setCell, List.set_cons_zero, List.set_cons_succ] at H)
  refine (named_calls (t := .mk k m a ls ks) (HH.out.ext0 H.ext) ⟨A0, ca, K0, ck, rfl, HV.out.ext0 H.ext⟩ H0.out).mono ?_
  rintro e w_ ⟨rfl, hx⟩
  replace H := H.call hx
  clear hx
  cases hq : askR ds sf (.mk k m a ls ks)
  · have HE : Hid (allR ds n sc sf dep (.mk k m a ls ks) = false) := by unfold Hid; rw [allR, hq]; rfl
    clear hq
    go_wp2_with fail
    go_ret
    exact ⟨by rw [HE.out]; rfl, H.ext⟩
  have HQ := Lib.hid hq
  clear hq
  by_cases k1 : k = 1
  · have gk : (k == 1) = true := by simpa using k1
    by_cases d1 : dep ≤ m
    · obtain ⟨x, hx⟩ : ∃ x, x = wrap64 (m - dep) := ⟨_, rfl⟩
      have hw : IntKind.i64.wrap (m - dep) = x := by rw [hx, IntKind.wrap_i64]; unfold wrap64; rfl
      have HX := Lib.hid hx
      clear hx
      by_cases d2 : sc ≤ x
      · have HE : Hid (allR ds n sc sf dep (.mk k m a ls ks) = false) := by unfold Hid; rw [allR, HQ.out, ← HX.out]; simp [k1, d1, d2]
        have hr_ := H.rules; simp only [Rules, and_true] at hr_; have hd_ := H.dif; simp only [Dif, Neq, and_true] at hd_; obtain ⟨ho_, hz_⟩ := H.old0
        go_wp2_with fail
        go_ret
        exact ⟨by rw [HE.out]; rfl, H.ext⟩
      ·
        have HE : Hid (allR ds n sc sf dep (.mk k m a ls ks) = (lvsQ n ls && allsR ds n sc sf k dep 0 ks)) := by unfold Hid; rw [allR, HQ.out]; simp [k1, d1, ← HX.out, d2]
        have hr_ := H.rules; simp only [Rules, and_true] at hr_; have hd_ := H.dif; simp only [Dif, Neq, and_true] at hd_; obtain ⟨ho_, hz_⟩ := H.old0
        go_upto_region 3 with fail
        (try clear hr_ hd_ ho_ hz_)
        exact right3 IH HH.out HLS.out HKS.out HNN.out HE.out (by assumption) (by assumption) H
    ·
      have HE : Hid (allR ds n sc sf dep (.mk k m a ls ks) = (lvsQ n ls && allsR ds n sc sf k dep 0 ks)) := by unfold Hid; rw [allR, HQ.out]; simp [k1, d1]
      have hr_ := H.rules; simp only [Rules, and_true] at hr_; have hd_ := H.dif; simp only [Dif, Neq, and_true] at hd_; obtain ⟨ho_, hz_⟩ := H.old0
      go_upto_region 3 with fail
      (try clear hr_ hd_ ho_ hz_)
      exact right3 IH HH.out HLS.out HKS.out HNN.out HE.out (by assumption) (by assumption) H
  · have gk : (k == 1) = false := by simpa using k1
    have HE : Hid (allR ds n sc sf dep (.mk k m a ls ks) = (lvsQ n ls && allsR ds n sc sf k dep 0 ks)) := by unfold Hid; rw [allR, HQ.out]; simp [k1]
    have hr_ := H.rules; simp only [Rules, and_true] at hr_; have hd_ := H.dif; simp only [Dif, Neq, and_true] at hd_; obtain ⟨ho_, hz_⟩ := H.old0
    go_upto_region 3 with fail
    (try clear hr_ hd_ ho_ hz_)
    exact right3 IH HH.out HLS.out HKS.out HNN.out HE.out (by assumption) (by assumption) H
set_option maxRecDepth 100000 in
set_option maxHeartbeats 4000000 in
theorem ref11Right_calls {w : World} {S S1 : Nat → Prop} {ds : List Dc} {t : Tm} {v : Value} {A : Option Addr} {k c : Nat} {n sf sc : Int} (h : RC w S (.l 42 16 (ds.map Dc.d)) [.slice A k c]) (hk : k = ds.length) (ht : TV w S1 t v) :
    Calls Tryz.prog 55 #[.slice A k c, .int .i64 n, .int .i64 sc, .int .i64 sf, v] w (PV w (.bool (srcQ ds n sc sf t))) := by
  subst hk
  rw [src_eq]
  obtain ⟨A0, ca, K0, ck, rfl, hrc⟩ := ht
  have HV := Lib.hid hrc
  have HH := Lib.hid h
  clear hrc h
  go_enter Tryz.func55, Tryz.ntmps55
  go_wp2_with fail
  have H := Hp.start no w
  refine callsH (by (repeat (first | with_reducible exact H | with_reducible exact H0_ | with_reducible apply Hp.alloc | with_reducible apply Hp.allocMap | with_reducible apply Hp.drew | with_reducible apply Hp.drewN | with_reducible apply Hp.set)); (try any_goals (repeat (first | with_reducible exact Upd.head | with_reducible apply Upd.tail)))) ?_
  clear H; intro w1 H; (try simp only [size_drew_, size_drewN_, World.size_alloc, World.size_setCell, List.set_cons_zero, List.set_cons_succ] at H)
  refine (ref02Right_calls ⟨A0, ca, K0, ck, rfl, HV.out.ext0 H.ext⟩).mono ?_
  rintro e w_ ⟨rfl, hx⟩
  replace H := H.call hx
  clear hx
  cases hq : decide (0 < refT 1 t)
  · have HE : Hid (srcR ds n sc sf t = false) := by unfold Hid srcR; rw [hq]; rfl
    clear hq
    go_wp2_with fail
    go_ret
    exact ⟨by rw [HE.out]; rfl, H.ext⟩
  · have HE : Hid (srcR ds n sc sf t = allR ds n sc sf 0 t) := by unfold Hid srcR; rw [hq]; rfl
    have HN := Lib.hid (ok_nn t 1 (rightQ_ok (by rw [← rightQ_ref]; exact hq)))
    clear hq
    have hr_ := H.rules; simp only [Rules, and_true] at hr_; have hd_ := H.dif; simp only [Dif, Neq, and_true] at hd_; obtain ⟨ho_, hz_⟩ := H.old0
    go_wp2_with fail
    clear hr_ hd_ ho_ hz_
    refine callsH (by (repeat (first | with_reducible exact H | with_reducible exact H0_ | with_reducible apply Hp.alloc | with_reducible apply Hp.allocMap | with_reducible apply Hp.drew | with_reducible apply Hp.drewN | with_reducible apply Hp.set)); (try any_goals (repeat (first | with_reducible exact Upd.head | with_reducible apply Upd.tail)))) ?_
    clear H; intro w2 H; (try simp only [size_drew_, size_drewN_, World.size_alloc, World.size_setCell, List.set_cons_zero, List.set_cons_succ] at H)
    refine (ref11right_calls t _ _ _ ds _ A c n sc sf 0 (HH.out.ext0 H.ext) ⟨A0, ca, K0, ck, rfl, HV.out.ext0 H.ext⟩ HN.out).mono ?_
    rintro e w_ ⟨rfl, hx⟩
    replace H := H.call hx
    clear hx
    obtain ⟨q, hq⟩ : ∃ q, q = allR ds n sc sf 0 t := ⟨_, rfl⟩
    rw [← hq]
    have HQQ := Lib.hid hq
    clear hq
    go_wp2_with fail
    go_ret
    exact ⟨by rw [HE.out, ← HQQ.out]; rfl, H.ext⟩
set_option maxRecDepth 100000 in
set_option maxHeartbeats 4000000 in
theorem ref11row_calls {w : World} {S S1 : Nat → Prop} {ds : List Dc} {ts : List Tm} {A B : Option Addr} {c k cb : Nat} {n sc : Int} (h : RC w S (.l 42 16 (ds.map Dc.d)) [.slice A ds.length c]) (hb : RC w S1 (.l 35 5 (ts.map Tm.d)) [.slice B k cb]) (hk : k = ts.length) :
    Calls Tryz.prog 204 #[.slice A ds.length c, .int .i64 n, .int .i64 sc, .slice B k cb] w (PV w (.bool (rowQ ds n sc 0 0 ts))) := by
  subst hk
  have hM := hb.lenM
  have HH := Lib.hid h
  clear h
  go_enter Tryz.func204, Tryz.ntmps204
  go_wp2_with fail
  have H := Hp.start no w
  go_loopw [9] (fun i wr => ∃ j : Nat, j ≤ ts.length ∧ i = .int .i64 j ∧ Hid (rowQ ds n sc 0 j (ts.drop j) = rowQ ds n sc 0 0 ts) ∧ Hp no w wr []) (fun i _ => ts.length - (intOf i).toNat)
  case atStart => exact ⟨0, Nat.zero_le _, rfl, Lib.hid (by simp), H⟩
  case round =>
    clear H
    obtain ⟨j, hj, rfl, HS, H⟩ := hrel
    by_cases hlt : j < ts.length
    · obtain ⟨b, o, A1, ca1, K1, ck1, rfl, hb1, hS, hd, p0, p1, p2, p3, p4⟩ := hb.atTm hlt
      have HD := Lib.hid hd
      have HE := Lib.hid (rowQ_drop (ds := ds) (n := n) (sc := sc) (sf := 0) hlt)
      clear hd
      have hr_ := H.rules; simp only [Rules, and_true] at hr_; have hd_ := H.dif; simp only [Dif, Neq, and_true] at hd_; obtain ⟨ho_, hz_⟩ := H.old0
      go_wp2_with fail
      (try clear hr_ hd_ ho_ hz_)
      refine callsH (by (repeat (first | with_reducible exact H | with_reducible exact H0_ | with_reducible apply Hp.alloc | with_reducible apply Hp.allocMap | with_reducible apply Hp.drew | with_reducible apply Hp.drewN | with_reducible apply Hp.set)); (try any_goals (repeat (first | with_reducible exact Upd.head | with_reducible apply Upd.tail)))) ?_
      clear H; intro w9 H; (try simp only [size_drew_, size_drewN_, World.size_alloc, World.size_setCell, List.set_cons_zero, List.set_cons_succ] at H)
      refine (ref11Right_calls (t := ts[j]) (HH.out.ext0 H.ext) rfl ⟨_, _, _, _, rfl, HD.out.ext0 H.ext⟩).mono ?_
      rintro e w_ ⟨rfl, hx⟩
      replace H := H.call hx
      clear hx
      cases hq : srcQ ds n (wrap64 (sc + (j : Int))) 0 ts[j]
      · have HF : Hid (rowQ ds n sc 0 0 ts = false) := by unfold Hid; rw [← HS.out, HE.out, hq]; rfl
        have HQ := Lib.hid hq
        clear hq
        go_wp2_with fail
        go_ret
        exact ⟨by rw [HF.out]; rfl, H.ext⟩
      · have HQ := Lib.hid hq
        clear hq
        go_wp2_with fail
        go_roundw
        case rel => exact ⟨j + 1, by omega, by first | go_num | rfl | simp, Lib.hid (by rw [← HS.out, HE.out, HQ.out]; rfl), (H.arr (by (repeat (first | with_reducible exact Arr.nil | refine Arr.cons (by (repeat (first | with_reducible exact Pick.head | with_reducible apply Pick.tail))) ?_)) <;> exact Arr.of_subl (by (repeat (first | with_reducible exact Subl.refl _ | with_reducible apply Subl.drop)))))⟩
        case measure => simp [intOf]; omega
    · have HF : Hid (rowQ ds n sc 0 0 ts = true) := by unfold Hid; rw [← HS.out, List.drop_eq_nil_of_le (by omega), rowQ]
      go_wp2_with fail
      go_ret
      exact ⟨by rw [HF.out]; rfl, H.ext⟩
end Go.Proofs.YteelplgdojjakaaGreatDoor
/- The kit's structs that are lent: contracts. No statement of the seat is proved here. -/
namespace Go.Proofs.YteelplgdojjakaaGreatDoor
set_option linter.unusedSimpArgs false
set_option linter.unusedVariables false
open Go.RowKit

section
variable {mk : Nat → List D} {w : World} {S : Nat → Prop}
theorem KC.lv {x : Lv} {v : Value} (h : KC mk w S (.l 149 2 (x.map ptD)) [v]) : KC mk w S (lvD x) [v] := by unfold lvD KC; exact KCs.single h
theorem KCs.cons {d : D} {ds : List D} {c1 c2 : List Value} (h : KC mk w S d c1) (k : KCs mk w S ds c2) : KCs mk w S (d :: ds) (c1 ++ c2) := by unfold KCs; exact ⟨c1, c2, rfl, h, k⟩
theorem KC.num {n : Int} (h : inI n) : KC mk w S (.i n) [.int .i64 n] := by unfold KC; exact ⟨rfl, h⟩
theorem KC.tm {k n a : Int} {ls : List Lv} {ks : List Tm} {v4 v5 : Value} (i1 : inI k) (i2 : inI n) (i3 : inI a) (h4 : KC mk w S (.l 38 1 (ls.map lvD)) [v4]) (h5 : KC mk w S (.l 35 5 (ks.map Tm.d)) [v5]) :
    KC mk w S (Tm.mk k n a ls ks).d [.int .i64 k, .int .i64 n, .int .i64 a, v4, v5] := by
  unfold Tm.d KC
  rw [Tm.ds_eq]
  exact KCs.cons (KC.num i1) (KCs.cons (KC.num i2) (KCs.cons (KC.num i3) (KCs.cons h4 (KCs.cons h5 KCs.nil))))
theorem KC.mb {x : Mb} {v : Value} (h : KC mk w S (.l 35 5 (x.index.map Tm.d)) [v]) : KC mk w S x.d [v] := by unfold Mb.d KC; exact KCs.single h
theorem KC.ct {x : Ct} {cs : List Value} (h0 : inI x.member) (h : KC mk w S x.ty.d cs) : KC mk w S x.d (.int .i64 x.member :: cs) := by
  unfold Ct.d KC
  have := KCs.cons (KC.num (mk := mk) (w := w) (S := S) h0) (KCs.single h)
  simpa using this
theorem KC.tmE {t : Tm} {cs : List Value} (h : KC mk w S t.d cs) : ∃ A ca K ck, cs = [.int .i64 t.k, .int .i64 t.n, .int .i64 t.a, .slice A t.ls.length ca, .slice K t.ks.length ck] := by
  obtain ⟨A, ca, K, ck, he, _⟩ := RC.tm.1 h.rc
  exact ⟨A, ca, K, ck, he⟩
end
/-- Parts are numbers alone. -/
theorem flatK {w w' : World} {S S' : Nat → Prop} : ∀ {ds : List D} {cs : List Value}, (∀ d ∈ ds, ∃ x, d = ptD x) → RCs w S ds cs → RCs w' S' ds cs
  | [], cs, _, h => by unfold RCs at h ⊢; exact h
  | d :: ds, cs, hd, h => by
    unfold RCs at h ⊢
    obtain ⟨c1, c2, rfl, h1, h2⟩ := h
    obtain ⟨x, rfl⟩ := hd d (by simp)
    exact ⟨c1, c2, rfl, RC.pt.2 (RC.pt.1 h1), flatK (fun d h => hd d (by simp [h])) h2⟩
theorem pts_kept {mk : Nat → List D} {w w' : World} {S S' : Nat → Prop} : ∀ {xs : List (Int × Int)} {cs : List Value}, RCs w S (xs.map ptD) cs → KCs mk w' S' (xs.map ptD) cs
  | [], cs, h => by simp only [List.map_nil] at h ⊢; unfold RCs at h; unfold KCs; exact h
  | x :: xs, cs, h => by
    simp only [List.map_cons] at h ⊢
    unfold RCs at h
    obtain ⟨c1, c2, rfl, h1, h2⟩ := h
    obtain ⟨rfl, i1, i2⟩ := RC.pt.1 h1
    refine KCs.cons ?_ (pts_kept h2)
    unfold ptD KC
    exact KCs.cons (KC.num i1) (KCs.cons (KC.num i2) KCs.nil)
section
variable {X : Nat → Prop} {w0 w w1 : World} {l l' l1 l2 l3 : List Ch}
variable {P : Program} {ops : Array Oper} {rest : List Oper} {o : Oper} {a : Act} {Q : Exit → Act → World → Prop}
/-- 'out = append(out, xs...)', out a row whose cells are known. -/
theorem wp_pushKs {K : Act → World → Prop} (s x : Operand) (t : TypeId) (ho : o.op = .call { callee := .builtin .append, args := #[s, x], argTypes := #[t, t] }) {e z : Nat} (hT : SlT P t e z)
    {n m c : Nat} {es : List Value} {out : Value} {A : Option Addr} {ds : List D} {S : Nat → Prop} (hs : a.eval s = out) (hx : a.eval x = .slice A m c) (H : Hp X w0 w l) (p1 : Pick l (.raw e z n out es) l2)
    (hnew : RC w S (.l e z ds) [.slice A m c]) (hM : n + m ≤ 5000000000)
    (h : ∀ v' w' cs, RCs w S ds cs → Hp X w0 w' (.raw e z (n + m) v' (es ++ cs) :: l2) → K (a.put o.dst v') w') : o.wp P a w K Q := by
  cases A with
  | none =>
    have hnr := hnew.nilrow
    obtain ⟨rfl, hds⟩ : m = 0 ∧ ds = [] := by
      obtain ⟨A', c', h1, _⟩ := hnew.slice
      obtain ⟨h2, h3⟩ := hnr
      simp_all
    subst hds
    obtain ⟨L, hL, hn⟩ := (H.pick p1).own
    simp only [Chs] at hL
    obtain ⟨L1, L2, rfl, ⟨rfl, h1⟩, _⟩ := hL
    obtain ⟨ht, i, zv, hi, _⟩ := hT
    have hrun := run_push_none (P := P) (w := w) t o.type e i ht hi h1 c
    have hfin := h out w [] (by unfold RCs; rfl) (by rw [List.append_nil]; exact H.pick p1)
    unfold Oper.wp execOp
    simp only [ho, resolve, invoke, builtin, Sem.run_bind, Sem.run_pure, Result.andThen_ok, List.map_toArray, List.map_cons, List.map_nil, hs, hx, hrun]
    exact hfin
  | some ad =>
    obtain ⟨cs, hcs, hcell, hm, hz⟩ := hnew.row
    have hlen : cs.length = m * z := by rw [RCs.len _ _ hcs, D.sizes_eq hz, hm]
    obtain ⟨L, hL, hn⟩ := (H.pick p1).own
    simp only [Chs] at hL
    obtain ⟨_, L3, rfl, ⟨rfl, h1⟩, h3⟩ := hL
    have hB : ∀ k, out.ownBlock = some k → w0.heap.size ≤ k := fun k hk => (h1.lt k (by simp [hk])).1
    obtain ⟨ht, i, zv, hi, hzv, hsz, hzs, hz0, hby⟩ := hT
    have hb : (n + m) * i.bytes ≤ 140737488355328 := by
      have : (n + m) * i.bytes ≤ 5000000000 * 1024 := Nat.mul_le_mul hM hby
      omega
    obtain ⟨v', w', hrun, r1, r2, _, r4⟩ := run_append_own_at (P := P) w w0.heap.size t o.type e i zv z i.bytes ht hi hzv hsz rfl hzs hz0 out n es h1 ad m c cs hlen
      hcell (RCs.one _ _ hcs) (by unfold maxLen; omega) hb H.ext.size
    have hfin := h v' w' cs hcs ⟨H.ext.grown r2 (fun k hk => .inr (hB k hk)), v'.ownBlock.toList ++ L3, by
      unfold Chs
      refine ⟨_, L3, rfl, ⟨rfl, r1⟩, h3.frame H.ext.size r2.size (fun k hk hx => r2.block k (Nat.lt_of_lt_of_le hk H.ext.size) (fun e => ?_)) (fun k hk => r2.block k (h3.lt k hk).2 (fun e => ?_))⟩
      · have := hB k e.symm; omega
      · exact (List.nodup_append.1 hn).2.2 k (by simp [← e]) k (by simp [hk]) rfl, by
      have n2 := (List.nodup_append.1 hn).2.1
      refine List.nodup_append.2 ⟨by cases v'.ownBlock <;> simp, n2, fun x hx y hy e => ?_⟩
      subst e
      rcases r4 with r4 | r4
      · rw [r4] at hx
        exact (List.nodup_append.1 hn).2.2 x hx x (by simp [hy]) rfl
      · have hx' : x = w.heap.size := by rw [r4] at hx; simpa using hx
        have := (h3.lt x hy).2
        omega⟩
    unfold Oper.wp execOp
    simp only [ho, resolve, invoke, builtin, Sem.run_bind, Sem.run_pure, Result.andThen_ok, List.map_toArray, List.map_cons, List.map_nil, hs, hx, hrun]
    exact hfin
theorem wpList_pushKs (hgd : o.guard = none) (s x : Operand) (t : TypeId) (ho : o.op = .call { callee := .builtin .append, args := #[s, x], argTypes := #[t, t] }) {e z : Nat} (hT : SlT P t e z)
    {n m c : Nat} {es : List Value} {out : Value} {A : Option Addr} {ds : List D} {S : Nat → Prop} (hs : a.eval s = out) (hx : a.eval x = .slice A m c) (H : Hp X w0 w l) (p1 : Pick l (.raw e z n out es) l2)
    (hnew : RC w S (.l e z ds) [.slice A m c]) (hM : n + m ≤ 5000000000)
    (h : ∀ v' w' cs, RCs w S ds cs → Hp X w0 w' (.raw e z (n + m) v' (es ++ cs) :: l2) → wpList P ops Q rest (a.put o.dst v') w') : wpList P ops Q (o :: rest) a w :=
  wpList_plain hgd fun _ hK => wp_pushKs s x t ho hT hs hx H p1 hnew hM fun v' w' cs h0 h1 => hK _ _ (h v' w' cs h0 h1)
end
set_option maxRecDepth 100000 in
set_option maxHeartbeats 4000000 in
theorem lentParts {w : World} {S : Nat → Prop} {xs : List (Int × Int)} {A : Option Addr} {n c : Nat} (h : RC w S (.l 149 2 (xs.map ptD)) [.slice A n c]) (hn : n = xs.length) :
    Calls Tryz.prog 173 #[.slice A n c] w (PKr w 149 2 (xs.map ptD)) := by
  subst hn
  have hM := h.lenM.1
  have HH := Lib.hid h
  obtain ⟨N, hN⟩ : ∃ N : Nat, N = xs.length + 12 := ⟨_, rfl⟩
  obtain ⟨cl, hcl, hmk⟩ := make_row (P := Tryz.prog) stParts N (by omega)
  have hw : IntKind.i64.wrap ((xs.length : Int) + 12) = (N : Int) := by rw [IntKind.wrap_i64]; omega
  have HCL := Lib.hid hcl
  have HN := Lib.hid hN
  clear h hcl hN
  go_enter Tryz.func173, Tryz.ntmps173
  have H := Hp.start no w
  go_wp2_with (at_builtin; go_must (refine listH (by (repeat (first | with_reducible exact H | with_reducible exact H0_ | with_reducible apply Hp.alloc | with_reducible apply Hp.allocMap | with_reducible apply Hp.drew | with_reducible apply Hp.drewN | with_reducible apply Hp.set)); (try any_goals (repeat (first | with_reducible exact Upd.head | with_reducible apply Upd.tail)))) ?_; clear H; intro w1 H; (try simp only [size_drew_, size_drewN_, World.size_alloc, World.size_setCell, List.set_cons_zero, List.set_cons_succ] at H); refine wpList_pushKs rfl (.tmp 9) (.tmp 10) 36 rfl stParts (by go_simp <;> first | rfl | exact ⟨rfl, rfl⟩) (by go_simp <;> first | rfl | exact ⟨rfl, rfl⟩) (H.made .head HCL.out (by have := HN.out; unfold maxLen; omega)) .head (HH.out.ext0 H.ext) (by omega) ?_; clear H; intro v1 w2 es hes H))
  have HE := Lib.hid hes
  clear hes hmk
  simp only [Nat.zero_add, List.nil_append] at H
  go_loopw [3, 4] (fun out i wr => ∃ (q : Nat) (v : Value) (ms : List Value), q ≤ 12 ∧ i = .int .i64 q ∧ out = v ∧ Hid (RCs wr (fun k => w.heap.size ≤ k) (((List.range 12).map fun i => ptD (mkPt i)).take q) ms) ∧ Hp no w wr [.raw 149 2 (xs.length + q) v (es ++ ms)]) (fun _ i _ => 12 - (intOf i).toNat)
  case atStart => exact ⟨0, _, [], by omega, rfl, rfl, Lib.hid (by simp only [List.take_zero]; unfold RCs; rfl), by rw [List.append_nil]; exact H⟩
  case round =>
    clear H
    obtain ⟨q, v, ms, hq, rfl, rfl, HR, H⟩ := hrel
    by_cases hlt : q < 12
    · go_wp2_with fail
      refine (markPart_calls (i := q) hlt).mono ?_
      rintro e w3 ⟨cs2, rfl, hk, hx⟩
      have HL2 := Lib.hid ((RC.len _ _ hk).trans (show _ = 2 from rfl))
      have ONE := Lib.hid (RC.one _ _ hk)
      have hl2_ := HL2.out
      have hf2_ := fold_cells hl2_
      have HK := Lib.hid hk
      replace H := H.call hx
      clear hx hk
      go_wp2_with (at_builtin; go_must (refine wpList_pushK rfl (.tmp 16) (.tmp 19) 36 rfl stParts (by go_simp <;> first | rfl | exact ⟨rfl, rfl⟩) (by go_simp <;> first | rfl | exact ⟨rfl, rfl⟩) (by exact Hp.norm (by (repeat (first | with_reducible exact H | with_reducible exact H0_ | with_reducible apply Hp.alloc | with_reducible apply Hp.allocMap | with_reducible apply Hp.drew | with_reducible apply Hp.drewN | with_reducible apply Hp.set)); (try any_goals (repeat (first | with_reducible exact Upd.head | with_reducible apply Upd.tail)))) (by ((try simp only [size_drew_, size_drewN_, World.size_alloc, World.size_setCell, List.set_cons_zero, List.set_cons_succ, List.nil_append, List.cons_append]) <;> rfl))) (by (repeat (first | with_reducible exact Pick.head | with_reducible apply Pick.tail))) (by (repeat (first | with_reducible exact Pick.head | with_reducible apply Pick.tail))) HL2.out ONE.out ?_ ?_; (focus omega); clear H; intro v5 w5 H))
      go_roundw
      case rel =>
        have H8 : Hp no w _ [.raw 149 2 (xs.length + q + 1) v5 (es ++ ms ++ cs2)] := (H.arr (by (repeat (first | with_reducible exact Arr.nil | refine Arr.cons (by (repeat (first | with_reducible exact Pick.head | with_reducible apply Pick.tail))) ?_)) <;> exact Arr.of_subl (by (repeat (first | with_reducible exact Subl.refl _ | with_reducible apply Subl.drop)))))
        rw [List.append_assoc] at H8
        refine ⟨q + 1, v5, ms ++ cs2, by omega, by first | go_num | rfl | simp, rfl, Lib.hid ?_, H8⟩
        have h1 : RCs w5 (fun k => w.heap.size ≤ k) (((List.range 12).map fun i => ptD (mkPt i)).take q) ms := flatK (fun d hd => by
          have := List.mem_of_mem_take hd
          obtain ⟨i, _, rfl⟩ := List.mem_map.1 this
          exact ⟨_, rfl⟩) HR.out
        have h2 : RC w5 (fun k => w.heap.size ≤ k) (ptD (mkPt q)) cs2 := RC.pt.2 (RC.pt.1 HK.out)
        rw [mk_take hlt]
        exact h1.append (RCs.single h2)
      case measure => simp [intOf]; omega
    · obtain rfl : q = 12 := by omega
      obtain ⟨A5, c5, rfl, hc1, hc2, _⟩ := H.rawLen' (by (repeat (first | with_reducible exact Pick.head | with_reducible apply Pick.tail)))
      have hR := HR.out
      rw [mk_all _ hlt] at hR
      have HR2 := Lib.hid hR
      clear hR HR
      have hn5 : xs.length ≤ c5 := by omega
      go_wp2_with fail
      go_ret
      obtain ⟨_, _, _, hkk⟩ := KC.of (mk := mkD) (S := fun k => w.heap.size ≤ k) (ds := xs.map ptD) (es := es) (ms := ms) (A := A5) (c := c5) H (by (repeat (first | with_reducible exact Pick.head | with_reducible apply Pick.tail))) (by rw [List.length_map]) (pts_size xs) (by rw [List.length_map]; unfold M; exact hM) (pts_kept HE.out) (by rw [mkD_pt]; simp) (fun d hd => by rw [mkD_pt] at hd; obtain ⟨i, _, rfl⟩ := List.mem_map.1 hd; rfl) (by rw [mkD_pt]; exact HR2.out) (fun b h => h)
      exact ⟨A5, c5, by rw [List.length_map]; rfl, by rw [List.length_map]; exact hkk, H.ext⟩
def LentT (t : Tm) : Prop := ∀ (w : World) (S : Nat → Prop) (cs : List Value), RC w S t.d cs → Calls Tryz.prog 29 #[.agg cs.toArray] w (PKd w t.d)
set_option maxRecDepth 100000 in
set_option maxHeartbeats 4000000 in
theorem lentLevel (x : Lv) (w : World) (S : Nat → Prop) (cs : List Value) (h : RC w S (lvD x) cs) : Calls Tryz.prog 100 #[.agg cs.toArray] w (PKd w (lvD x)) := by
  obtain ⟨A, c, rfl, hp⟩ := RC.lv.1 h
  have HP := Lib.hid hp
  clear h hp
  go_enter Tryz.func100, Tryz.ntmps100
  go_wp2_with fail
  have H := Hp.start no w
  refine callsH (by (repeat (first | with_reducible exact H | with_reducible exact H0_ | with_reducible apply Hp.alloc | with_reducible apply Hp.allocMap | with_reducible apply Hp.drew | with_reducible apply Hp.drewN | with_reducible apply Hp.set)); (try any_goals (repeat (first | with_reducible exact Upd.head | with_reducible apply Upd.tail)))) ?_
  clear H; intro w1 H; (try simp only [size_drew_, size_drewN_, World.size_alloc, World.size_setCell, List.set_cons_zero, List.set_cons_succ] at H)
  refine (lentParts (HP.out.ext0 H.ext) rfl).mono ?_
  rintro e w2 ⟨A4, c4, rfl, hk, hx⟩
  simp only [List.length_map] at hk ⊢
  obtain ⟨G1, H2⟩ := H.resK hx hk
  clear H hx hk
  have H := H2
  clear H2
  have hr_ := H.rules; simp only [Rules, and_true] at hr_; have hd_ := H.dif; simp only [Dif, Neq, and_true] at hd_; obtain ⟨ho_, hz_⟩ := H.old0
  go_wp2_with ((with_reducible refine atStore (t := 38) ?_); go_must (refine wpList_storeH (t := 38) rfl rfl (by go_simp <;> first | rfl | exact ⟨rfl, rfl⟩) (by go_simp <;> first | rfl | exact ⟨rfl, rfl⟩) (by exact Hp.norm (by (repeat (first | with_reducible exact H | with_reducible exact H0_ | with_reducible apply Hp.alloc | with_reducible apply Hp.allocMap | with_reducible apply Hp.drew | with_reducible apply Hp.drewN | with_reducible apply Hp.set)); (try any_goals (repeat (first | with_reducible exact Upd.head | with_reducible apply Upd.tail)))) (by ((try simp only [size_drew_, size_drewN_, World.size_alloc, World.size_setCell, List.set_cons_zero, List.set_cons_succ, List.nil_append, List.cons_append]) <;> rfl))) (by (repeat (first | with_reducible exact Upd.head | with_reducible apply Upd.tail))) (by exact aggLevel) (by rfl) (by simp [Value.oneCell']) ?_; clear H; intro w7 H; (try simp only [size_drew_, size_drewN_, World.size_alloc, World.size_setCell, List.set_cons_zero, List.set_cons_succ] at H); (try clear hr_ hd_ ho_ hz_); have hr_ := H.rules; simp only [Rules, and_true] at hr_; have hd_ := H.dif; simp only [Dif, Neq, and_true] at hd_; obtain ⟨ho_, hz_⟩ := H.old0))
  (try clear hr_ hd_ ho_ hz_)
  have k1 := H.gh (p := fun w' => KC mkD w' (fun k => w.heap.size ≤ k) (.l 149 2 (x.map ptD)) [.slice A4 x.length c4]) (by (repeat (first | with_reducible exact Pick.head | with_reducible apply Pick.tail)))
  refine bodyPost_ret (v := .agg #[.slice A4 x.length c4]) (Res.one Tryz.results100 (H.resBox (g := w.heap.size + 1) (by (repeat (first | with_reducible exact Pick.head | with_reducible apply Pick.tail))) aggLevel rfl rfl)) rfl ⟨_, rfl, KC.lv k1, H.ext⟩
set_option maxRecDepth 100000 in
set_option maxHeartbeats 4000000 in
theorem lentTerm : ∀ t : Tm, LentT t := by
  intro t
  induction t using Tm.ind_ with
  | h k n a ls ks ih =>
  intro w S cs h
  obtain ⟨A0, ca, K0, ck, rfl, i1, i2, i3, hls, hks⟩ := RC.tm.1 h
  simp only [Tm.ls_mk, Tm.ks_mk, Tm.k_mk, Tm.n_mk, Tm.a_mk] at hls hks i1 i2 i3 ⊢
  have HLS := Lib.hid hls
  have HKS := Lib.hid hks
  have HI := Lib.hid ih
  have I := Lib.hid (And.intro i1 (And.intro i2 i3))
  clear h hls hks ih i1 i2 i3
  go_enter Tryz.func29, Tryz.ntmps29
  go_wp2_with fail
  have H := Hp.start no w
  refine callsH (by (repeat (first | with_reducible exact H | with_reducible exact H0_ | with_reducible apply Hp.alloc | with_reducible apply Hp.allocMap | with_reducible apply Hp.drew | with_reducible apply Hp.drewN | with_reducible apply Hp.set)); (try any_goals (repeat (first | with_reducible exact Upd.head | with_reducible apply Upd.tail)))) ?_
  clear H; intro w1 H; (try simp only [size_drew_, size_drewN_, World.size_alloc, World.size_setCell, List.set_cons_zero, List.set_cons_succ] at H)
  refine (lentLevels_ (fun x _ => lentLevel x) (HLS.out.ext0 H.ext) rfl).mono ?_
  rintro e w2 ⟨A4, c4, rfl, hk, hx⟩
  simp only [List.length_map] at hk ⊢
  obtain ⟨G1, H2⟩ := H.resK hx hk
  clear H hx hk
  have H := H2
  clear H2
  have hr_ := H.rules; simp only [Rules, and_true] at hr_; have hd_ := H.dif; simp only [Dif, Neq, and_true] at hd_; obtain ⟨ho_, hz_⟩ := H.old0
  go_wp2_with fail
  clear hr_ hd_ ho_ hz_
  refine callsH (by (repeat (first | with_reducible exact H | with_reducible exact H0_ | with_reducible apply Hp.alloc | with_reducible apply Hp.allocMap | with_reducible apply Hp.drew | with_reducible apply Hp.drewN | with_reducible apply Hp.set)); (try any_goals (repeat (first | with_reducible exact Upd.head | with_reducible apply Upd.tail)))) ?_
  clear H; intro w3 H; (try simp only [size_drew_, size_drewN_, World.size_alloc, World.size_setCell, List.set_cons_zero, List.set_cons_succ] at H)
  refine (lentTerms_ HI.out (HKS.out.ext0 H.ext) rfl).mono ?_
  rintro e w4 ⟨A5, c5, rfl, hk, hx⟩
  simp only [List.length_map] at hk ⊢
  obtain ⟨G2, H2⟩ := H.resK hx hk
  clear H hx hk
  have H := H2
  clear H2
  have hr_ := H.rules; simp only [Rules, and_true] at hr_; have hd_ := H.dif; simp only [Dif, Neq, and_true] at hd_; obtain ⟨ho_, hz_⟩ := H.old0
  go_wp2_with ((with_reducible refine atStore (t := 35) ?_); go_must (refine wpList_storeH (t := 35) rfl rfl (by go_simp <;> first | rfl | exact ⟨rfl, rfl⟩) (by go_simp <;> first | rfl | exact ⟨rfl, rfl⟩) (by exact Hp.norm (by (repeat (first | with_reducible exact H | with_reducible exact H0_ | with_reducible apply Hp.alloc | with_reducible apply Hp.allocMap | with_reducible apply Hp.drew | with_reducible apply Hp.drewN | with_reducible apply Hp.set)); (try any_goals (repeat (first | with_reducible exact Upd.head | with_reducible apply Upd.tail)))) (by ((try simp only [size_drew_, size_drewN_, World.size_alloc, World.size_setCell, List.set_cons_zero, List.set_cons_succ, List.nil_append, List.cons_append]) <;> rfl))) (by (repeat (first | with_reducible exact Upd.head | with_reducible apply Upd.tail))) (by exact aggTerm) (by rfl) (by simp [Value.oneCell']) ?_; clear H; intro w7 H; (try simp only [size_drew_, size_drewN_, World.size_alloc, World.size_setCell, List.set_cons_zero, List.set_cons_succ] at H); (try clear hr_ hd_ ho_ hz_); have hr_ := H.rules; simp only [Rules, and_true] at hr_; have hd_ := H.dif; simp only [Dif, Neq, and_true] at hd_; obtain ⟨ho_, hz_⟩ := H.old0))
  (try clear hr_ hd_ ho_ hz_)
  have k1 := H.gh (p := fun w' => KC mkD w' (fun k => w.heap.size ≤ k) (.l 38 1 (ls.map lvD)) [.slice A4 ls.length c4]) (by (repeat (first | with_reducible exact Pick.head | with_reducible apply Pick.tail)))
  have k2 := H.gh (p := fun w' => KC mkD w' (fun k => w.heap.size ≤ k) (.l 35 5 (ks.map Tm.d)) [.slice A5 ks.length c5]) (by (repeat (first | with_reducible exact Pick.head | with_reducible apply Pick.tail)))
  refine bodyPost_ret (v := .agg #[.int .i64 k, .int .i64 n, .int .i64 a, .slice A4 ls.length c4, .slice A5 ks.length c5]) (Res.one Tryz.results29 (H.resBox (g := w.heap.size + 1) (by (repeat (first | with_reducible exact Pick.head | with_reducible apply Pick.tail))) aggTerm rfl rfl)) rfl ⟨_, rfl, KC.tm I.out.1 I.out.2.1 I.out.2.2 k1 k2, H.ext⟩
set_option maxRecDepth 100000 in
set_option maxHeartbeats 4000000 in
theorem lentMember (x : Mb) (w : World) (S : Nat → Prop) (cs : List Value) (h : RC w S x.d cs) : Calls Tryz.prog 174 #[.agg cs.toArray] w (PKd w x.d) := by
  obtain ⟨A, c, rfl, hp⟩ := RC.mb.1 h
  have HP := Lib.hid hp
  clear h hp
  go_enter Tryz.func174, Tryz.ntmps174
  go_wp2_with fail
  have H := Hp.start no w
  refine callsH (by (repeat (first | with_reducible exact H | with_reducible exact H0_ | with_reducible apply Hp.alloc | with_reducible apply Hp.allocMap | with_reducible apply Hp.drew | with_reducible apply Hp.drewN | with_reducible apply Hp.set)); (try any_goals (repeat (first | with_reducible exact Upd.head | with_reducible apply Upd.tail)))) ?_
  clear H; intro w1 H; (try simp only [size_drew_, size_drewN_, World.size_alloc, World.size_setCell, List.set_cons_zero, List.set_cons_succ] at H)
  refine (lentTerms_ (fun t _ => lentTerm t) (HP.out.ext0 H.ext) rfl).mono ?_
  rintro e w2 ⟨A4, c4, rfl, hk, hx⟩
  simp only [List.length_map] at hk ⊢
  obtain ⟨G1, H2⟩ := H.resK hx hk
  clear H hx hk
  have H := H2
  clear H2
  have hr_ := H.rules; simp only [Rules, and_true] at hr_; have hd_ := H.dif; simp only [Dif, Neq, and_true] at hd_; obtain ⟨ho_, hz_⟩ := H.old0
  go_wp2_with ((with_reducible refine atStore (t := 151) ?_); go_must (refine wpList_storeH (t := 151) rfl rfl (by go_simp <;> first | rfl | exact ⟨rfl, rfl⟩) (by go_simp <;> first | rfl | exact ⟨rfl, rfl⟩) (by exact Hp.norm (by (repeat (first | with_reducible exact H | with_reducible exact H0_ | with_reducible apply Hp.alloc | with_reducible apply Hp.allocMap | with_reducible apply Hp.drew | with_reducible apply Hp.drewN | with_reducible apply Hp.set)); (try any_goals (repeat (first | with_reducible exact Upd.head | with_reducible apply Upd.tail)))) (by ((try simp only [size_drew_, size_drewN_, World.size_alloc, World.size_setCell, List.set_cons_zero, List.set_cons_succ, List.nil_append, List.cons_append]) <;> rfl))) (by (repeat (first | with_reducible exact Upd.head | with_reducible apply Upd.tail))) (by exact aggMemberK) (by rfl) (by simp [Value.oneCell']) ?_; clear H; intro w7 H; (try simp only [size_drew_, size_drewN_, World.size_alloc, World.size_setCell, List.set_cons_zero, List.set_cons_succ] at H); (try clear hr_ hd_ ho_ hz_); have hr_ := H.rules; simp only [Rules, and_true] at hr_; have hd_ := H.dif; simp only [Dif, Neq, and_true] at hd_; obtain ⟨ho_, hz_⟩ := H.old0))
  (try clear hr_ hd_ ho_ hz_)
  have k1 := H.gh (p := fun w' => KC mkD w' (fun k => w.heap.size ≤ k) (.l 35 5 (x.index.map Tm.d)) [.slice A4 x.index.length c4]) (by (repeat (first | with_reducible exact Pick.head | with_reducible apply Pick.tail)))
  refine bodyPost_ret (v := .agg #[.slice A4 x.index.length c4]) (Res.one Tryz.results174 (H.resBox (g := w.heap.size + 1) (by (repeat (first | with_reducible exact Pick.head | with_reducible apply Pick.tail))) aggMemberK rfl rfl)) rfl ⟨_, rfl, KC.mb k1, H.ext⟩
set_option maxRecDepth 100000 in
set_option maxHeartbeats 4000000 in
theorem lentCtor (x : Ct) (w : World) (S : Nat → Prop) (cs : List Value) (h : RC w S x.d cs) : Calls Tryz.prog 176 #[.agg cs.toArray] w (PKd w x.d) := by
  obtain ⟨A, ca, K, ck, rfl, i0, hp⟩ := RC.ct.1 h
  have HP := Lib.hid hp
  have I := Lib.hid i0
  clear h hp i0
  go_enter Tryz.func176, Tryz.ntmps176
  go_wp2_with fail
  have H := Hp.start no w
  refine callsH (by (repeat (first | with_reducible exact H | with_reducible exact H0_ | with_reducible apply Hp.alloc | with_reducible apply Hp.allocMap | with_reducible apply Hp.drew | with_reducible apply Hp.drewN | with_reducible apply Hp.set)); (try any_goals (repeat (first | with_reducible exact Upd.head | with_reducible apply Upd.tail)))) ?_
  clear H; intro w1 H; (try simp only [size_drew_, size_drewN_, World.size_alloc, World.size_setCell, List.set_cons_zero, List.set_cons_succ] at H)
  refine (lentTerm x.ty _ _ _ (HP.out.ext0 H.ext)).mono ?_
  rintro e w2 ⟨cs2, rfl, hk, hx⟩
  obtain ⟨A4, ca4, K4, ck4, rfl⟩ := hk.tmE
  obtain ⟨G1, H2⟩ := H.resK hx hk
  clear H hx hk
  have H := H2
  clear H2
  have hr_ := H.rules; simp only [Rules, and_true] at hr_; have hd_ := H.dif; simp only [Dif, Neq, and_true] at hd_; obtain ⟨ho_, hz_⟩ := H.old0
  go_wp2_with ((with_reducible refine atStore (t := 153) ?_); go_must (refine wpList_storeH (t := 153) rfl rfl (by go_simp <;> first | rfl | exact ⟨rfl, rfl⟩) (by go_simp <;> first | rfl | exact ⟨rfl, rfl⟩) (by exact Hp.norm (by (repeat (first | with_reducible exact H | with_reducible exact H0_ | with_reducible apply Hp.alloc | with_reducible apply Hp.allocMap | with_reducible apply Hp.drew | with_reducible apply Hp.drewN | with_reducible apply Hp.set)); (try any_goals (repeat (first | with_reducible exact Upd.head | with_reducible apply Upd.tail)))) (by ((try simp only [size_drew_, size_drewN_, World.size_alloc, World.size_setCell, List.set_cons_zero, List.set_cons_succ, List.nil_append, List.cons_append]) <;> rfl))) (by (repeat (first | with_reducible exact Upd.head | with_reducible apply Upd.tail))) (by exact aggCtorK) (by rfl) (by simp [Value.oneCell']) ?_; clear H; intro w7 H; (try simp only [size_drew_, size_drewN_, World.size_alloc, World.size_setCell, List.set_cons_zero, List.set_cons_succ] at H); (try clear hr_ hd_ ho_ hz_); have hr_ := H.rules; simp only [Rules, and_true] at hr_; have hd_ := H.dif; simp only [Dif, Neq, and_true] at hd_; obtain ⟨ho_, hz_⟩ := H.old0))
  (try clear hr_ hd_ ho_ hz_)
  have k1 := H.gh (p := fun w' => KC mkD w' (fun k => w.heap.size ≤ k) x.ty.d [.int .i64 x.ty.k, .int .i64 x.ty.n, .int .i64 x.ty.a, .slice A4 x.ty.ls.length ca4, .slice K4 x.ty.ks.length ck4]) (by (repeat (first | with_reducible exact Pick.head | with_reducible apply Pick.tail)))
  refine bodyPost_ret (v := .agg #[.int .i64 x.member, .int .i64 x.ty.k, .int .i64 x.ty.n, .int .i64 x.ty.a, .slice A4 x.ty.ls.length ca4, .slice K4 x.ty.ks.length ck4]) (Res.one Tryz.results176 (H.resBox (g := w.heap.size + 1) (by (repeat (first | with_reducible exact Pick.head | with_reducible apply Pick.tail))) aggCtorK rfl rfl)) rfl ⟨_, rfl, KC.ct I.out k1, H.ext⟩
end Go.Proofs.YteelplgdojjakaaGreatDoor
