/- Reference 11: right, its loops: contract. No statement of the seat is proved here. -/
import Derived.Test.YteelplgdojjakaaDoorFst
import Derived.Test.YteelplgdojjakaaDoorRef11b
import Derived.Test.YteelplgdojjakaaDoorMgRef2
import Derived.Test.YteelplgdojjakaaDoorMgSrcBlock
import Derived.Deep.DeepCutAuto
import Derived.Test.YteelplgdojjakaaDoorMgCases00
namespace Go.Proofs.YteelplgdojjakaaDoor
set_option linter.unusedSimpArgs false
set_option linter.unusedVariables false
open Go.RowKit

def R11OK (t : Tm) : Prop := ∀ (w : World) (S S1 : Nat → Prop) (ds : List Dc) (v : Value) (A : Option Addr) (c : Nat) (n sc sf dep : Int), RC w S (.l 42 16 (ds.map Dc.d)) [.slice A ds.length c] → TV w S1 t v → TmNN t →
  Calls Tryd.prog 80 #[.slice A ds.length c, .int .i64 n, .int .i64 sc, .int .i64 sf, v, .int .i64 dep] w (PV w (.bool (allR ds n sc sf dep t)))
theorem allsR_drop {ds : List Dc} {n sc sf k dep : Int} {ks : List Tm} {j : Nat} (h : j < ks.length) : allsR ds n sc sf k dep j (ks.drop j) = (allR ds n sc sf (downI k (j : Int) dep) ks[j] && allsR ds n sc sf k dep (j + 1) (ks.drop (j + 1))) := by
  rw [List.drop_eq_getElem_cons h, allsR]
set_option maxRecDepth 100000 in
set_option maxHeartbeats 8000000 in
theorem right3 {w W : World} {S S1 : Nat → Prop} {ds : List Dc} {k m a : Int} {ls : List Lv} {ks : List Tm} {A A0 K0 : Option Addr} {c ca ck gt : Nat} {n sc sf dep : Int} {x4 x6 x7 x8 x9 x11 x12 x13 x14 x15 x16 x17 x18 x19 x20 x21 x22 x23 x24 x25 x26 x27 x28 x29 x30 x31 x32 x33 x34 x35 x36 x37 x38 x39 x40 x41 x42 x43 x44 x45 x46 x47 x48 x49 x50 x51 x52 x53 x54 x55 x56 x57 x58 x59 x60 x61 x62 x63 x64 x65 x66 x67 x68 x69 x70 x71 x72 x73 x74 x75 x76 x77 x78 x79 x80 : Value} (IH : Hid (∀ t ∈ ks, R11OK t))
    (h : RC w S (.l 42 16 (ds.map Dc.d)) [.slice A ds.length c]) (hls : RC w S1 (.l 38 1 (ls.map lvD)) [.slice A0 ls.length ca]) (hks : RC w S1 (.l 30 5 (ks.map Tm.d)) [.slice K0 ks.length ck]) (hnn : ∀ t ∈ ks, TmNN t) {R : Bool} (hR : R = (lvsQ n ls && allsR ds n sc sf k dep 0 ks)) {K K1 : Act → World → Prop}
    (hK1 : ∀ a w', (sndC (fromN 3 (Tryd.f80.body.getD .skip))).wp Tryd.prog (bodyPost Tryd.prog Tryd.f80 (PV w (.bool R))) a w' → K1 a w')
    (hK : ∀ a w', (sndC (fstC (fromN 3 (Tryd.f80.body.getD .skip)))).wp Tryd.prog (Exit.then K1 (bodyPost Tryd.prog Tryd.f80 (PV w (.bool R)))) a w' → K a w')
    (H : Hp no w W [.box gt 30 [.int .i64 k, .int .i64 m, .int .i64 a, .slice A0 ls.length ca, .slice K0 ks.length ck]]) :
    (fstC (fstC (fromN 3 (Tryd.f80.body.getD .skip)))).wp Tryd.prog (Exit.then K (Exit.then K1 (bodyPost Tryd.prog Tryd.f80 (PV w (.bool R))))) { tmps := #[.slice A ds.length c, .int .i64 n, .int .i64 sc, .int .i64 sf, x4, .int .i64 dep, x6, x7, x8, x9, .pointer (some ⟨gt, 0, none⟩), x11, x12, x13, x14, x15, x16, x17, x18, x19, x20, x21, x22, x23, x24, x25, x26, x27, x28, x29, x30, x31, x32, x33, x34, x35, x36, x37, x38, x39, x40, x41, x42, x43, x44, x45, x46, x47, x48, x49, x50, x51, x52, x53, x54, x55, x56, x57, x58, x59, x60, x61, x62, x63, x64, x65, x66, x67, x68, x69, x70, x71, x72, x73, x74, x75, x76, x77, x78, x79, x80], defers := [] } W := by
  have hM := hks.lenM
  have hM2 := hls.lenM
  have HH := Lib.hid h
  have HN := Lib.hid hnn
  have HR := Lib.hid hR
  clear h hnn hR
  conv => arg 2; whnf
  conv at hK1 => intro a w; arg 1; arg 2; whnf
  conv at hK => intro a w; arg 1; arg 2; whnf
  have hr_ := H.rules; simp only [Rules, and_true] at hr_; have hd_ := H.dif; simp only [Dif, Neq, and_true] at hd_; obtain ⟨ho_, hz_⟩ := H.old0
  go_wp2_with fail
  clear hr_ hd_ ho_ hz_
  go_loopw [13] (fun i wr => ∃ j : Nat, j ≤ ls.length ∧ i = .int .i64 j ∧ Hid ((ls.take j).any (fun x => !lvRight n x) = false) ∧ Hp no w wr [.box gt 30 [.int .i64 k, .int .i64 m, .int .i64 a, .slice A0 ls.length ca, .slice K0 ks.length ck]]) (fun i _ => ls.length - (intOf i).toNat)
  case atStart => exact ⟨0, Nat.zero_le _, rfl, Lib.hid (by simp), H⟩
  case round =>
    clear H
    obtain ⟨j, hj, rfl, HA, H⟩ := hrel
    by_cases hlt : j < ls.length
    · obtain ⟨b, o, A1, c1, rfl, hb, hS, hd, p0⟩ := hls.atLv hlt
      have HD := Lib.hid hd
      clear hd
      have hr_ := H.rules; simp only [Rules, and_true] at hr_; have hd_ := H.dif; simp only [Dif, Neq, and_true] at hd_; obtain ⟨ho_, hz_⟩ := H.old0
      go_wp2_with fail
      clear hr_ hd_ ho_ hz_
      refine callsH (by (repeat (first | with_reducible exact H | with_reducible exact H0_ | with_reducible apply Hp.alloc | with_reducible apply Hp.allocMap | with_reducible apply Hp.drew | with_reducible apply Hp.drewN | with_reducible apply Hp.set)); (try any_goals (repeat (first | with_reducible exact Upd.head | with_reducible apply Upd.tail)))) ?_
      clear H; intro w2 H; (try simp only [size_drew_, size_drewN_, World.size_alloc, World.size_setCell, List.set_cons_zero, List.set_cons_succ] at H)
      refine (ref01Right (n := n) (HD.out.ext0 H.ext)).mono ?_
      rintro e w_ ⟨rfl, hx⟩
      replace H := H.call hx
      clear hx
      cases hq : lvRight n ls[j]
      · have HL : Hid (lvsQ n ls = false) := by
          unfold Hid lvsQ
          rw [any_at hlt (by rw [hq]; rfl)]
          rfl
        clear hq
        go_wp2_with fail
        go_ret
        exact ⟨by rw [HR.out, HL.out]; rfl, H.ext⟩
      · have HQ2 := Lib.hid hq
        clear hq
        go_wp2_with fail
        go_roundw
        case rel => exact ⟨j + 1, by omega, by first | go_num | rfl | simp, Lib.hid (any_take hlt HA.out (by rw [HQ2.out]; rfl)), H⟩
        case measure => simp [intOf]; omega
    · have HL : Hid (lvsQ n ls = true) := by
        unfold Hid lvsQ
        have h1 := HA.out
        rw [take_all hlt] at h1
        rw [h1]
        rfl
      clear HA
      have hr_ := H.rules; simp only [Rules, and_true] at hr_; have hd_ := H.dif; simp only [Dif, Neq, and_true] at hd_; obtain ⟨ho_, hz_⟩ := H.old0
      go_wp2_with fail
      clear hr_ hd_ ho_ hz_
      go_loopw [14] (fun i wr => ∃ j : Nat, j ≤ ks.length ∧ i = .int .i64 j ∧ Hid (allsR ds n sc sf k dep j (ks.drop j) = allsR ds n sc sf k dep 0 ks) ∧ Hp no w wr [.box gt 30 [.int .i64 k, .int .i64 m, .int .i64 a, .slice A0 ls.length ca, .slice K0 ks.length ck]]) (fun i _ => ks.length - (intOf i).toNat)
      case atStart => exact ⟨0, Nat.zero_le _, rfl, Lib.hid (by simp), H⟩
      case round =>
        clear H
        obtain ⟨j, hj, rfl, HS, H⟩ := hrel
        by_cases hlt : j < ks.length
        · obtain ⟨b, o, A1, ca1, K1, ck1, rfl, hb, hS, hd, p0, p1, p2, p3, p4⟩ := hks.atTm hlt
          have HD := Lib.hid hd
          have HE := Lib.hid (allsR_drop (ds := ds) (n := n) (sc := sc) (sf := sf) (k := k) (dep := dep) hlt)
          clear hd
          have hr_ := H.rules; simp only [Rules, and_true] at hr_; have hd_ := H.dif; simp only [Dif, Neq, and_true] at hd_; obtain ⟨ho_, hz_⟩ := H.old0
          go_wp2_with fail
          (try clear hr_ hd_ ho_ hz_)
          refine callsH (by (repeat (first | with_reducible exact H | with_reducible exact H0_ | with_reducible apply Hp.alloc | with_reducible apply Hp.allocMap | with_reducible apply Hp.drew | with_reducible apply Hp.drewN | with_reducible apply Hp.set)); (try any_goals (repeat (first | with_reducible exact Upd.head | with_reducible apply Upd.tail)))) ?_
          clear H; intro w9 H; (try simp only [size_drew_, size_drewN_, World.size_alloc, World.size_setCell, List.set_cons_zero, List.set_cons_succ] at H)
          refine (refBinds k (j : Int)).mono ?_
          rintro e w_ ⟨rfl, hx⟩
          replace H := H.call hx
          clear hx
          cases hbd : binds k (j : Int)
          · have hdn : downI k (j : Int) dep = dep := by unfold downI; rw [hbd]; rfl
            have hr_ := H.rules; simp only [Rules, and_true] at hr_; have hd_ := H.dif; simp only [Dif, Neq, and_true] at hd_; obtain ⟨ho_, hz_⟩ := H.old0
            go_wp2_with fail
            clear hr_ hd_ ho_ hz_
            have HDN := Lib.hid hdn
            clear hdn hbd
            refine callsH (by (repeat (first | with_reducible exact H | with_reducible exact H0_ | with_reducible apply Hp.alloc | with_reducible apply Hp.allocMap | with_reducible apply Hp.drew | with_reducible apply Hp.drewN | with_reducible apply Hp.set)); (try any_goals (repeat (first | with_reducible exact Upd.head | with_reducible apply Upd.tail)))) ?_
            clear H; intro w10 H; (try simp only [size_drew_, size_drewN_, World.size_alloc, World.size_setCell, List.set_cons_zero, List.set_cons_succ] at H)
            have he2 := HE.out
            have hcall := IH.out ks[j] (List.getElem_mem hlt) w10 _ _ ds _ A c n sc sf (downI k (j : Int) dep) (HH.out.ext0 H.ext) ⟨_, _, _, _, rfl, HD.out.ext0 H.ext⟩ (HN.out _ (List.getElem_mem hlt))
            rw [HDN.out] at hcall he2
            clear HE
            have HE := Lib.hid he2
            clear he2
            refine hcall.mono ?_
            clear hcall
            rintro e w_ ⟨rfl, hx⟩
            replace H := H.call hx
            clear hx
            cases hq : allR ds n sc sf (dep) ks[j]
            · have HQ := Lib.hid hq
              clear hq
              have HF : Hid (allsR ds n sc sf k dep 0 ks = false) := by unfold Hid; rw [← HS.out, HE.out, HQ.out]; rfl
              go_wp2_with fail
              go_ret
              exact ⟨by rw [HR.out, HL.out, HF.out]; rfl, H.ext⟩
            · have HQ := Lib.hid hq
              clear hq
              go_wp2_with fail
              go_roundw
              case rel => exact ⟨j + 1, by omega, by first | go_num | rfl | simp, Lib.hid (by rw [← HS.out, HE.out, HQ.out]; rfl), (H.arr (by (repeat (first | with_reducible exact Arr.nil | refine Arr.cons (by (repeat (first | with_reducible exact Pick.head | with_reducible apply Pick.tail))) ?_)) <;> exact Arr.of_subl (by (repeat (first | with_reducible exact Subl.refl _ | with_reducible apply Subl.drop)))))⟩
              case measure => simp [intOf]; omega
          · have hdn : downI k (j : Int) dep = wrap64 (dep + 1) := by unfold downI; rw [hbd]; rfl
            have hr_ := H.rules; simp only [Rules, and_true] at hr_; have hd_ := H.dif; simp only [Dif, Neq, and_true] at hd_; obtain ⟨ho_, hz_⟩ := H.old0
            go_wp2_with fail
            clear hr_ hd_ ho_ hz_
            have HDN := Lib.hid hdn
            clear hdn hbd
            refine callsH (by (repeat (first | with_reducible exact H | with_reducible exact H0_ | with_reducible apply Hp.alloc | with_reducible apply Hp.allocMap | with_reducible apply Hp.drew | with_reducible apply Hp.drewN | with_reducible apply Hp.set)); (try any_goals (repeat (first | with_reducible exact Upd.head | with_reducible apply Upd.tail)))) ?_
            clear H; intro w10 H; (try simp only [size_drew_, size_drewN_, World.size_alloc, World.size_setCell, List.set_cons_zero, List.set_cons_succ] at H)
            have he2 := HE.out
            have hcall := IH.out ks[j] (List.getElem_mem hlt) w10 _ _ ds _ A c n sc sf (downI k (j : Int) dep) (HH.out.ext0 H.ext) ⟨_, _, _, _, rfl, HD.out.ext0 H.ext⟩ (HN.out _ (List.getElem_mem hlt))
            rw [HDN.out] at hcall he2
            clear HE
            have HE := Lib.hid he2
            clear he2
            refine hcall.mono ?_
            clear hcall
            rintro e w_ ⟨rfl, hx⟩
            replace H := H.call hx
            clear hx
            cases hq : allR ds n sc sf (wrap64 (dep + 1)) ks[j]
            · have HQ := Lib.hid hq
              clear hq
              have HF : Hid (allsR ds n sc sf k dep 0 ks = false) := by unfold Hid; rw [← HS.out, HE.out, HQ.out]; rfl
              go_wp2_with fail
              go_ret
              exact ⟨by rw [HR.out, HL.out, HF.out]; rfl, H.ext⟩
            · have HQ := Lib.hid hq
              clear hq
              go_wp2_with fail
              go_roundw
              case rel => exact ⟨j + 1, by omega, by first | go_num | rfl | simp, Lib.hid (by rw [← HS.out, HE.out, HQ.out]; rfl), (H.arr (by (repeat (first | with_reducible exact Arr.nil | refine Arr.cons (by (repeat (first | with_reducible exact Pick.head | with_reducible apply Pick.tail))) ?_)) <;> exact Arr.of_subl (by (repeat (first | with_reducible exact Subl.refl _ | with_reducible apply Subl.drop)))))⟩
              case measure => simp [intOf]; omega
        · have hr_ := H.rules; simp only [Rules, and_true] at hr_; have hd_ := H.dif; simp only [Dif, Neq, and_true] at hd_; obtain ⟨ho_, hz_⟩ := H.old0
          have HF : Hid (allsR ds n sc sf k dep 0 ks = true) := by unfold Hid; rw [← HS.out, List.drop_eq_nil_of_le (by omega), allsR]
          go_wp2_with fail
          go_ret
          exact ⟨by rw [HR.out, HL.out, HF.out]; rfl, H.ext⟩
end Go.Proofs.YteelplgdojjakaaDoor
/- Reference 11: right, Right, row: contracts. No statement of the seat is proved here. -/
namespace Go.Proofs.YteelplgdojjakaaDoor
set_option linter.unusedSimpArgs false
set_option linter.unusedVariables false
open Go.RowKit

set_option maxRecDepth 100000 in
set_option maxHeartbeats 8000000 in
theorem ref11right_calls : ∀ t : Tm, R11OK t := by
  intro t
  induction t using Tm.ind_ with
  | h k m a ls ks ih =>
  rintro w S S1 ds v A c n sc sf dep h ⟨A0, ca, K0, ck, rfl, hrc⟩ hnn
  obtain ⟨_, _, _, _, he, _, _, _, hls, hks⟩ := RC.tm.1 hrc
  simp only [Tm.ls_mk, Tm.ks_mk, Tm.k_mk, Tm.n_mk, Tm.a_mk, List.cons.injEq, Value.slice.injEq, and_true, true_and] at he hls hks hrc ⊢
  obtain ⟨⟨rfl, rfl⟩, rfl, rfl⟩ := he
  cases hnn with
  | mk h0 hk =>
  have HV := Lib.hid hrc
  have IH := Lib.hid ih
  have HH := Lib.hid h
  have HLS := Lib.hid hls
  have HKS := Lib.hid hks
  have H0 := Lib.hid h0
  have HNN := Lib.hid hk
  clear hrc ih h hls hks h0 hk
  go_enter Tryd.func80, Tryd.ntmps80
  go_wp2_with fail
  have H := Hp.start no w
  refine callsH (by (repeat (first | with_reducible exact H | with_reducible exact H0_ | with_reducible apply Hp.alloc | with_reducible apply Hp.allocMap | with_reducible apply Hp.drew | with_reducible apply Hp.drewN | with_reducible apply Hp.set)); (try any_goals (repeat (first | with_reducible exact Upd.head | with_reducible apply Upd.tail)))) ?_
  clear H; intro w1 H; (try simp only [size_drew_, size_drewN_, World.size_alloc, World.size_setCell, List.set_cons_zero, List.set_cons_succ] at H)
  refine (named_calls (t := .mk k m a ls ks) (HH.out.ext0 H.ext) ⟨A0, ca, K0, ck, rfl, HV.out.ext0 H.ext⟩ H0.out).mono ?_
  rintro e w_ ⟨rfl, hx⟩
  replace H := H.call hx
  clear hx
  cases hq : askR ds sf (.mk k m a ls ks)
  · have HE : Hid (allR ds n sc sf dep (.mk k m a ls ks) = false) := by unfold Hid; rw [allR, hq]; rfl
    clear hq
    go_wp2_with fail
    go_ret
    exact ⟨by rw [HE.out]; rfl, H.ext⟩
  have HQ := Lib.hid hq
  clear hq
  by_cases k1 : k = 1
  · have gk : (k == 1) = true := by simpa using k1
    by_cases d1 : dep ≤ m
    · obtain ⟨x, hx⟩ : ∃ x, x = wrap64 (m - dep) := ⟨_, rfl⟩
      have hw : IntKind.i64.wrap (m - dep) = x := by rw [hx, IntKind.wrap_i64]; unfold wrap64; rfl
      have HX := Lib.hid hx
      clear hx
      by_cases d2 : sc ≤ x
      · have HE : Hid (allR ds n sc sf dep (.mk k m a ls ks) = false) := by unfold Hid; rw [allR, HQ.out, ← HX.out]; simp [k1, d1, d2]
        have hr_ := H.rules; simp only [Rules, and_true] at hr_; have hd_ := H.dif; simp only [Dif, Neq, and_true] at hd_; obtain ⟨ho_, hz_⟩ := H.old0
        go_wp2_with fail
        go_ret
        exact ⟨by rw [HE.out]; rfl, H.ext⟩
      ·
        have HE : Hid (allR ds n sc sf dep (.mk k m a ls ks) = (lvsQ n ls && allsR ds n sc sf k dep 0 ks)) := by unfold Hid; rw [allR, HQ.out]; simp [k1, d1, ← HX.out, d2]
        have hr_ := H.rules; simp only [Rules, and_true] at hr_; have hd_ := H.dif; simp only [Dif, Neq, and_true] at hd_; obtain ⟨ho_, hz_⟩ := H.old0
        go_upto_region 3 with fail
        (try clear hr_ hd_ ho_ hz_)
        exact right3 IH HH.out HLS.out HKS.out HNN.out HE.out (by assumption) (by assumption) H
    ·
      have HE : Hid (allR ds n sc sf dep (.mk k m a ls ks) = (lvsQ n ls && allsR ds n sc sf k dep 0 ks)) := by unfold Hid; rw [allR, HQ.out]; simp [k1, d1]
      have hr_ := H.rules; simp only [Rules, and_true] at hr_; have hd_ := H.dif; simp only [Dif, Neq, and_true] at hd_; obtain ⟨ho_, hz_⟩ := H.old0
      go_upto_region 3 with fail
      (try clear hr_ hd_ ho_ hz_)
      exact right3 IH HH.out HLS.out HKS.out HNN.out HE.out (by assumption) (by assumption) H
  · have gk : (k == 1) = false := by simpa using k1
    have HE : Hid (allR ds n sc sf dep (.mk k m a ls ks) = (lvsQ n ls && allsR ds n sc sf k dep 0 ks)) := by unfold Hid; rw [allR, HQ.out]; simp [k1]
    have hr_ := H.rules; simp only [Rules, and_true] at hr_; have hd_ := H.dif; simp only [Dif, Neq, and_true] at hd_; obtain ⟨ho_, hz_⟩ := H.old0
    go_upto_region 3 with fail
    (try clear hr_ hd_ ho_ hz_)
    exact right3 IH HH.out HLS.out HKS.out HNN.out HE.out (by assumption) (by assumption) H
set_option maxRecDepth 100000 in
set_option maxHeartbeats 4000000 in
theorem ref11Right_calls {w : World} {S S1 : Nat → Prop} {ds : List Dc} {t : Tm} {v : Value} {A : Option Addr} {k c : Nat} {n sf sc : Int} (h : RC w S (.l 42 16 (ds.map Dc.d)) [.slice A k c]) (hk : k = ds.length) (ht : TV w S1 t v) :
    Calls Tryd.prog 37 #[.slice A k c, .int .i64 n, .int .i64 sc, .int .i64 sf, v] w (PV w (.bool (srcQ ds n sc sf t))) := by
  subst hk
  rw [src_eq]
  obtain ⟨A0, ca, K0, ck, rfl, hrc⟩ := ht
  have HV := Lib.hid hrc
  have HH := Lib.hid h
  clear hrc h
  go_enter Tryd.func37, Tryd.ntmps37
  go_wp2_with fail
  have H := Hp.start no w
  refine callsH (by (repeat (first | with_reducible exact H | with_reducible exact H0_ | with_reducible apply Hp.alloc | with_reducible apply Hp.allocMap | with_reducible apply Hp.drew | with_reducible apply Hp.drewN | with_reducible apply Hp.set)); (try any_goals (repeat (first | with_reducible exact Upd.head | with_reducible apply Upd.tail)))) ?_
  clear H; intro w1 H; (try simp only [size_drew_, size_drewN_, World.size_alloc, World.size_setCell, List.set_cons_zero, List.set_cons_succ] at H)
  refine (ref02Right_calls ⟨A0, ca, K0, ck, rfl, HV.out.ext0 H.ext⟩).mono ?_
  rintro e w_ ⟨rfl, hx⟩
  replace H := H.call hx
  clear hx
  cases hq : decide (0 < refT 1 t)
  · have HE : Hid (srcR ds n sc sf t = false) := by unfold Hid srcR; rw [hq]; rfl
    clear hq
    go_wp2_with fail
    go_ret
    exact ⟨by rw [HE.out]; rfl, H.ext⟩
  · have HE : Hid (srcR ds n sc sf t = allR ds n sc sf 0 t) := by unfold Hid srcR; rw [hq]; rfl
    have HN := Lib.hid (ok_nn t 1 (rightQ_ok (by rw [← rightQ_ref]; exact hq)))
    clear hq
    have hr_ := H.rules; simp only [Rules, and_true] at hr_; have hd_ := H.dif; simp only [Dif, Neq, and_true] at hd_; obtain ⟨ho_, hz_⟩ := H.old0
    go_wp2_with fail
    clear hr_ hd_ ho_ hz_
    refine callsH (by (repeat (first | with_reducible exact H | with_reducible exact H0_ | with_reducible apply Hp.alloc | with_reducible apply Hp.allocMap | with_reducible apply Hp.drew | with_reducible apply Hp.drewN | with_reducible apply Hp.set)); (try any_goals (repeat (first | with_reducible exact Upd.head | with_reducible apply Upd.tail)))) ?_
    clear H; intro w2 H; (try simp only [size_drew_, size_drewN_, World.size_alloc, World.size_setCell, List.set_cons_zero, List.set_cons_succ] at H)
    refine (ref11right_calls t _ _ _ ds _ A c n sc sf 0 (HH.out.ext0 H.ext) ⟨A0, ca, K0, ck, rfl, HV.out.ext0 H.ext⟩ HN.out).mono ?_
    rintro e w_ ⟨rfl, hx⟩
    replace H := H.call hx
    clear hx
    obtain ⟨q, hq⟩ : ∃ q, q = allR ds n sc sf 0 t := ⟨_, rfl⟩
    rw [← hq]
    have HQQ := Lib.hid hq
    clear hq
    go_wp2_with fail
    go_ret
    exact ⟨by rw [HE.out, ← HQQ.out]; rfl, H.ext⟩
set_option maxRecDepth 100000 in
set_option maxHeartbeats 4000000 in
theorem ref11row_calls {w : World} {S S1 : Nat → Prop} {ds : List Dc} {ts : List Tm} {A B : Option Addr} {c k cb : Nat} {n sc : Int} (h : RC w S (.l 42 16 (ds.map Dc.d)) [.slice A ds.length c]) (hb : RC w S1 (.l 30 5 (ts.map Tm.d)) [.slice B k cb]) (hk : k = ts.length) :
    Calls Tryd.prog 117 #[.slice A ds.length c, .int .i64 n, .int .i64 sc, .slice B k cb] w (PV w (.bool (rowQ ds n sc 0 0 ts))) := by
  subst hk
  have hM := hb.lenM
  have HH := Lib.hid h
  clear h
  go_enter Tryd.func117, Tryd.ntmps117
  go_wp2_with fail
  have H := Hp.start no w
  go_loopw [9] (fun i wr => ∃ j : Nat, j ≤ ts.length ∧ i = .int .i64 j ∧ Hid (rowQ ds n sc 0 j (ts.drop j) = rowQ ds n sc 0 0 ts) ∧ Hp no w wr []) (fun i _ => ts.length - (intOf i).toNat)
  case atStart => exact ⟨0, Nat.zero_le _, rfl, Lib.hid (by simp), H⟩
  case round =>
    clear H
    obtain ⟨j, hj, rfl, HS, H⟩ := hrel
    by_cases hlt : j < ts.length
    · obtain ⟨b, o, A1, ca1, K1, ck1, rfl, hb1, hS, hd, p0, p1, p2, p3, p4⟩ := hb.atTm hlt
      have HD := Lib.hid hd
      have HE := Lib.hid (rowQ_drop (ds := ds) (n := n) (sc := sc) (sf := 0) hlt)
      clear hd
      have hr_ := H.rules; simp only [Rules, and_true] at hr_; have hd_ := H.dif; simp only [Dif, Neq, and_true] at hd_; obtain ⟨ho_, hz_⟩ := H.old0
      go_wp2_with fail
      (try clear hr_ hd_ ho_ hz_)
      refine callsH (by (repeat (first | with_reducible exact H | with_reducible exact H0_ | with_reducible apply Hp.alloc | with_reducible apply Hp.allocMap | with_reducible apply Hp.drew | with_reducible apply Hp.drewN | with_reducible apply Hp.set)); (try any_goals (repeat (first | with_reducible exact Upd.head | with_reducible apply Upd.tail)))) ?_
      clear H; intro w9 H; (try simp only [size_drew_, size_drewN_, World.size_alloc, World.size_setCell, List.set_cons_zero, List.set_cons_succ] at H)
      refine (ref11Right_calls (t := ts[j]) (HH.out.ext0 H.ext) rfl ⟨_, _, _, _, rfl, HD.out.ext0 H.ext⟩).mono ?_
      rintro e w_ ⟨rfl, hx⟩
      replace H := H.call hx
      clear hx
      cases hq : srcQ ds n (wrap64 (sc + (j : Int))) 0 ts[j]
      · have HF : Hid (rowQ ds n sc 0 0 ts = false) := by unfold Hid; rw [← HS.out, HE.out, hq]; rfl
        have HQ := Lib.hid hq
        clear hq
        go_wp2_with fail
        go_ret
        exact ⟨by rw [HF.out]; rfl, H.ext⟩
      · have HQ := Lib.hid hq
        clear hq
        go_wp2_with fail
        go_roundw
        case rel => exact ⟨j + 1, by omega, by first | go_num | rfl | simp, Lib.hid (by rw [← HS.out, HE.out, HQ.out]; rfl), (H.arr (by (repeat (first | with_reducible exact Arr.nil | refine Arr.cons (by (repeat (first | with_reducible exact Pick.head | with_reducible apply Pick.tail))) ?_)) <;> exact Arr.of_subl (by (repeat (first | with_reducible exact Subl.refl _ | with_reducible apply Subl.drop)))))⟩
        case measure => simp [intOf]; omega
    · have HF : Hid (rowQ ds n sc 0 0 ts = true) := by unfold Hid; rw [← HS.out, List.drop_eq_nil_of_le (by omega), rowQ]
      go_wp2_with fail
      go_ret
      exact ⟨by rw [HF.out]; rfl, H.ext⟩
end Go.Proofs.YteelplgdojjakaaDoor
/- SourceCases: the regions that ask both programs, from a world in which all that they ask is old. No statement of the seat is proved here. -/
namespace Go.Proofs.YteelplgdojjakaaDoor
set_option linter.unusedSimpArgs false
set_option linter.unusedVariables false
open Go.RowKit

abbrev tC (t : Tm) (A K : Option Addr) (c k : Nat) : List Value := [.int .i64 t.k, .int .i64 t.n, .int .i64 t.a, .slice A t.ls.length c, .slice K t.ks.length k]
theorem onlyN {P : Program} {c : Code} {Q : Exit → Act → World → Prop} {a : Act} {w : World} (h : c.wp P (Exit.then (Q .normal) fun _ _ _ => False) a w) : c.wp P Q a w :=
  Code.wp_mono (fun e a w q => by cases e <;> first | exact q | exact q.elim) h
theorem PV.name {w : World} {q : Bool} {e : Ending} {w' : World} (h : PV w (.bool q) e w') : ∃ q', Hid (q' = q) ∧ e = .returned (.bool q') ∧ Ext no w w' := ⟨q, Lib.hid rfl, h⟩
theorem Blk.at {w : World} {g t : Nat} {cs : List Value} (b : Blk w g t cs.toArray) (i : Nat) {u : Value} (h : cs[i]? = some u) : w.cell? ⟨g, i, none⟩ = some u := by
  rw [b.cells i]
  simpa using h
theorem callSrc {w : World} {S S1 : Nat → Prop} {ds : List Dc} {t : Tm} {A A0 K0 : Option Addr} {c ca ck : Nat} {n sf sc : Int} (hT : Tab w) (h : RC w S (.l 42 16 (ds.map Dc.d)) [.slice A ds.length c]) (ht : RC w S1 t.d (tC t A0 K0 ca ck)) :
    Calls Tryd.prog 36 #[.slice A ds.length c, .int .i64 n, .int .i64 sc, .int .i64 sf, .agg (tC t A0 K0 ca ck).toArray] w (PV w (.bool (srcQ ds n sc sf t))) :=
  srcRight_calls hT h rfl ⟨_, _, _, _, rfl, ht⟩
theorem callRef {w : World} {S S1 : Nat → Prop} {ds : List Dc} {t : Tm} {A A0 K0 : Option Addr} {c ca ck : Nat} {n sf sc : Int} (h : RC w S (.l 42 16 (ds.map Dc.d)) [.slice A ds.length c]) (ht : RC w S1 t.d (tC t A0 K0 ca ck)) :
    Calls Tryd.prog 37 #[.slice A ds.length c, .int .i64 n, .int .i64 sc, .int .i64 sf, .agg (tC t A0 K0 ca ck).toArray] w (PV w (.bool (srcQ ds n sc sf t))) :=
  ref11Right_calls h rfl ⟨_, _, _, _, rfl, ht⟩

set_option maxRecDepth 100000 in
set_option maxHeartbeats 8000000 in
theorem cases13 {W : World} {S S1 S2 : Nat → Prop} {ds : List Dc} {t u : Tm} {A A0 K0 A1 K1 : Option Addr} {c ca ck c1 k1 gt gu : Nat} {n : Int} {Q : Exit → Act → World → Prop} {x0 x1 x3 x7 x8 x9 x10 x11 x12 x13 x14 x15 x16 x17 x18 x19 x20 x21 x22 x23 x24 x25 x26 x27 x28 x29 x30 x31 x32 x33 x34 x35 x36 x37 x38 x39 x40 x41 x42 x43 x44 x45 x46 x47 x48 x49 x50 x51 x52 x53 x54 x55 x56 x57 x58 x59 x60 x61 x62 x63 x64 x65 x66 x67 x68 x69 x70 x71 x72 x73 x74 x75 x76 x77 x78 x79 x80 x81 x82 x83 x84 x85 x86 x87 x88 x89 x90 x91 x92 x93 x94 x95 x96 x97 x98 x99 x100 x101 x102 x103 x104 x105 x106 x107 x108 x109 x110 x111 x112 x113 x114 x115 x116 x117 x118 x119 x120 x121 x122 x123 x124 x125 x126 x127 x128 x129 x130 x131 x132 x133 x134 x135 x136 x137 x138 x139 x140 x141 x142 x143 x144 x145 x146 x147 x148 x149 x150 x151 x152 x153 x154 x155 x156 x157 x158 x159 x160 x161 x162 x163 x164 x165 x166 x167 x168 x169 x170 x171 x172 x173 x174 x175 x176 x177 x178 x179 x180 x181 x182 x183 x184 x185 x186 x187 x188 x189 x190 x191 x192 x193 x194 x195 x196 x197 x198 x199 x200 x201 x202 x203 x204 x205 x206 x207 x208 x209 x210 x211 x212 x213 x214 x215 x216 x217 x218 x219 x220 x221 x222 x223 x224 x225 x226 x227 x228 x229 x230 x231 x232 x233 x234 x235 x236 x237 x238 x239 x240 x241 x242 x243 x244 x245 x246 x247 x248 x249 x250 x251 x252 x253 x254 x255 x256 x257 x258 x259 x260 x261 x262 x263 x264 x265 x266 x267 x268 x269 x270 x271 x272 x273 x274 x275 x276 x277 x278 x279 x280 x281 x282 x283 x284 x285 x286 x287 x288 x289 x290 x291 x292 x293 x294 x295 x296 x297 x298 x299 : Value} (hT : Tab W) (h : RC W S (.l 42 16 (ds.map Dc.d)) [.slice A ds.length c])
    (ht : RC W S1 t.d (tC t A0 K0 ca ck)) (hu : RC W S2 u.d (tC u A1 K1 c1 k1)) (b1 : Blk W gt 30 (tC t A0 K0 ca ck).toArray) (b2 : Blk W gu 30 (tC u A1 K1 c1 k1).toArray)
    (hQ : ∀ (y56 y57 y58 y59 y60 y61 y62 y63 y64 y65 y66 y67 y68 y69 y70 y71 y72 y73 y74 y75 y76 y77 y78 : Value) (w' : World), Ext no W w' → Q .normal { tmps := #[x0, x1, .slice A ds.length c, x3, .int .i64 n, .pointer (some ⟨gt, 0, none⟩), .pointer (some ⟨gu, 0, none⟩), x7, x8, x9, x10, x11, x12, x13, x14, x15, x16, x17, x18, x19, x20, x21, x22, x23, x24, x25, x26, x27, x28, x29, x30, x31, x32, x33, x34, x35, x36, x37, x38, x39, x40, x41, x42, x43, x44, x45, x46, x47, x48, x49, x50, x51, x52, x53, x54, x55, y56, y57, y58, y59, y60, y61, y62, y63, y64, y65, y66, y67, y68, y69, y70, y71, y72, y73, y74, y75, y76, y77, y78, .bool false, x80, x81, x82, x83, x84, x85, x86, x87, x88, x89, x90, x91, x92, x93, x94, x95, x96, x97, x98, x99, x100, x101, x102, x103, x104, x105, x106, x107, x108, x109, x110, x111, x112, x113, x114, x115, x116, x117, x118, x119, x120, x121, x122, x123, x124, x125, x126, x127, x128, x129, x130, x131, x132, x133, x134, x135, x136, x137, x138, x139, x140, x141, x142, x143, x144, x145, x146, x147, x148, x149, x150, x151, x152, x153, x154, x155, x156, x157, x158, x159, x160, x161, x162, x163, x164, x165, x166, x167, x168, x169, x170, x171, x172, x173, x174, x175, x176, x177, x178, x179, x180, x181, x182, x183, x184, x185, x186, x187, x188, x189, x190, x191, x192, x193, x194, x195, x196, x197, x198, x199, x200, x201, x202, x203, x204, x205, x206, x207, x208, x209, x210, x211, x212, x213, x214, x215, x216, x217, x218, x219, x220, x221, x222, x223, x224, x225, x226, x227, x228, x229, x230, x231, x232, x233, x234, x235, x236, x237, x238, x239, x240, x241, x242, x243, x244, x245, x246, x247, x248, x249, x250, x251, x252, x253, x254, x255, x256, x257, x258, x259, x260, x261, x262, x263, x264, x265, x266, x267, x268, x269, x270, x271, x272, x273, x274, x275, x276, x277, x278, x279, x280, x281, x282, x283, x284, x285, x286, x287, x288, x289, x290, x291, x292, x293, x294, x295, x296, x297, x298, x299], defers := [] } w') :
    (fstC ((findR 13 (Tryd.f6.body.getD .skip)).getD .skip)).wp Tryd.prog Q { tmps := #[x0, x1, .slice A ds.length c, x3, .int .i64 n, .pointer (some ⟨gt, 0, none⟩), .pointer (some ⟨gu, 0, none⟩), x7, x8, x9, x10, x11, x12, x13, x14, x15, x16, x17, x18, x19, x20, x21, x22, x23, x24, x25, x26, x27, x28, x29, x30, x31, x32, x33, x34, x35, x36, x37, x38, x39, x40, x41, x42, x43, x44, x45, x46, x47, x48, x49, x50, x51, x52, x53, x54, x55, x56, x57, x58, x59, x60, x61, x62, x63, x64, x65, x66, x67, x68, x69, x70, x71, x72, x73, x74, x75, x76, x77, x78, x79, x80, x81, x82, x83, x84, x85, x86, x87, x88, x89, x90, x91, x92, x93, x94, x95, x96, x97, x98, x99, x100, x101, x102, x103, x104, x105, x106, x107, x108, x109, x110, x111, x112, x113, x114, x115, x116, x117, x118, x119, x120, x121, x122, x123, x124, x125, x126, x127, x128, x129, x130, x131, x132, x133, x134, x135, x136, x137, x138, x139, x140, x141, x142, x143, x144, x145, x146, x147, x148, x149, x150, x151, x152, x153, x154, x155, x156, x157, x158, x159, x160, x161, x162, x163, x164, x165, x166, x167, x168, x169, x170, x171, x172, x173, x174, x175, x176, x177, x178, x179, x180, x181, x182, x183, x184, x185, x186, x187, x188, x189, x190, x191, x192, x193, x194, x195, x196, x197, x198, x199, x200, x201, x202, x203, x204, x205, x206, x207, x208, x209, x210, x211, x212, x213, x214, x215, x216, x217, x218, x219, x220, x221, x222, x223, x224, x225, x226, x227, x228, x229, x230, x231, x232, x233, x234, x235, x236, x237, x238, x239, x240, x241, x242, x243, x244, x245, x246, x247, x248, x249, x250, x251, x252, x253, x254, x255, x256, x257, x258, x259, x260, x261, x262, x263, x264, x265, x266, x267, x268, x269, x270, x271, x272, x273, x274, x275, x276, x277, x278, x279, x280, x281, x282, x283, x284, x285, x286, x287, x288, x289, x290, x291, x292, x293, x294, x295, x296, x297, x298, x299], defers := [] } W := by
  have HT := Lib.hid hT
  have HH := Lib.hid h
  have HV := Lib.hid ht
  have HU := Lib.hid hu
  have hb1 := b1.lt
  have hb2 := b2.lt
  have p0 := b1.at 0 rfl
  have q0 := b2.at 0 rfl
  have p1 := b1.at 1 rfl
  have q1 := b2.at 1 rfl
  have p2 := b1.at 2 rfl
  have q2 := b2.at 2 rfl
  have p3 := b1.at 3 rfl
  have q3 := b2.at 3 rfl
  have p4 := b1.at 4 rfl
  have q4 := b2.at 4 rfl
  clear hT h ht hu b1 b2
  have H := Hp.start no W
  conv => arg 2; whnf
  refine onlyN ?_
  refine wp_region_H 24 [false, false, false, false, false, false, false, false, false, false, false, false, false, false, false, false, false, false, false, false, false, false, false, false] [] H .nil (by kernel_rfl) rfl rfl (fun H_ hR_ => ?_)
  (try clear H0_); have H0_ := H; clear H; have H := H_; clear H_
  refine wpL_reads (is := [(0, ?v1_0), (1, ?v1_1), (2, ?v1_2), (3, ?v1_3), (5, ?v1_4), (6, ?v1_5), (7, ?v1_6), (8, ?v1_7)]) (by kernel_rfl) (Nat.le_of_ble_eq_true rfl) (by intro _ _ d_ _ _ h_; cases d_ <;> exact h_) (by kernel_rfl) hR_ (fun w_ hw_ => ?h1_) ?_
  case h1_ =>
    have ho_ := hw_.old0.1; have hz_ := hw_.old0.2; have hr_ := hw_.rules; clear hw_; simp only [Rules, and_true] at hr_; go_split_ands
    (repeat (first | with_reducible exact RdOps.nil | (refine RdOps.run rfl (by rfl) ?_ ?_; (focus (first | (go_simp; done) | (go_simp; with_reducible rfl))); simp only [List.getElem_toArray, List.getElem_cons_zero, List.getElem_cons_succ, Act.put, List.setIfInBounds_toArray, List.set_cons_zero, List.set_cons_succ]) | (refine RdOps.skip rfl (by rfl) ?_ ?_; (focus (with_reducible rfl)); simp only [List.getElem_toArray, List.getElem_cons_zero, List.getElem_cons_succ, Act.put, List.setIfInBounds_toArray, List.set_cons_zero, List.set_cons_succ])))
  simp only [rdMark, rdAct, List.map_cons, List.map_nil, List.length_cons, List.length_nil, Nat.reduceAdd, Nat.reduceSub, Nat.zero_add, List.getElem?_toArray, List.getElem?_cons_zero, List.getElem?_cons_succ, Option.bind_some, Act.put, List.setIfInBounds_toArray, List.set_cons_zero, List.set_cons_succ]
  refine wpL_do (i := 4) rfl (by kernel_rfl) (by rfl) (fun K_ hK_ => ?_)
  go_simp
  refine (callSrc (ds := ds) (t := t) (HT.out.ext H.ext) (HH.out.ext0 H.ext) (HV.out.ext0 H.ext)).mono ?_
  intro e w_ hp_
  obtain ⟨q1, hq1, rfl, hx⟩ := hp_.name
  clear hp_
  replace H := H.call hx
  clear hx
  refine hK_ _ _ (fun _ => H.sub (by simp)) (fun hR_ => ?_)
  replace hR_ := hR_ (by decide)
  refine wpL_do (i := 9) rfl (by kernel_rfl) (by rfl) (fun K_ hK_ => ?_)
  go_simp
  refine (callRef (ds := ds) (t := t) (HH.out.ext0 H.ext) (HV.out.ext0 H.ext)).mono ?_
  intro e w_ hp_
  obtain ⟨q2, hq2, rfl, hx⟩ := hp_.name
  clear hp_
  obtain rfl : q2 = q1 := hq2.out.trans hq1.out.symm
  clear hq1 hq2
  replace H := H.call hx
  clear hx
  refine hK_ _ _ (fun _ => H.sub (by simp)) (fun hR_ => ?_)
  replace hR_ := hR_ (by decide)
  refine wpL_reads (is := [(10, ?v2_0), (11, ?v2_1), (12, ?v2_2), (13, ?v2_3), (14, ?v2_4), (15, ?v2_5), (17, ?v2_6), (18, ?v2_7), (19, ?v2_8), (20, ?v2_9)]) (by kernel_rfl) (Nat.le_of_ble_eq_true rfl) (by intro _ _ d_ _ _ h_; cases d_ <;> exact h_) (by kernel_rfl) hR_ (fun w_ hw_ => ?h2_) ?_
  case h2_ =>
    have ho_ := hw_.old0.1; have hz_ := hw_.old0.2; have hr_ := hw_.rules; clear hw_; simp only [Rules, and_true] at hr_; go_split_ands
    (repeat (first | with_reducible exact RdOps.nil | (refine RdOps.run rfl (by rfl) ?_ ?_; (focus (first | (go_simp; done) | (go_simp; with_reducible rfl))); simp only [List.getElem_toArray, List.getElem_cons_zero, List.getElem_cons_succ, Act.put, List.setIfInBounds_toArray, List.set_cons_zero, List.set_cons_succ]) | (refine RdOps.skip rfl (by rfl) ?_ ?_; (focus (with_reducible rfl)); simp only [List.getElem_toArray, List.getElem_cons_zero, List.getElem_cons_succ, Act.put, List.setIfInBounds_toArray, List.set_cons_zero, List.set_cons_succ])))
  simp only [rdMark, rdAct, List.map_cons, List.map_nil, List.length_cons, List.length_nil, Nat.reduceAdd, Nat.reduceSub, Nat.zero_add, List.getElem?_toArray, List.getElem?_cons_zero, List.getElem?_cons_succ, Option.bind_some, Act.put, List.setIfInBounds_toArray, List.set_cons_zero, List.set_cons_succ]
  refine wpL_do (i := 16) rfl (by kernel_rfl) (by rfl) (fun K_ hK_ => ?_)
  go_simp
  refine (callSrc (ds := ds) (t := u) (HT.out.ext H.ext) (HH.out.ext0 H.ext) (HU.out.ext0 H.ext)).mono ?_
  intro e w_ hp_
  obtain ⟨q1, hq1, rfl, hx⟩ := hp_.name
  clear hp_
  replace H := H.call hx
  clear hx
  refine hK_ _ _ (fun _ => H.sub (by simp)) (fun hR_ => ?_)
  replace hR_ := hR_ (by decide)
  refine wpL_do (i := 21) rfl (by kernel_rfl) (by rfl) (fun K_ hK_ => ?_)
  go_simp
  refine (callRef (ds := ds) (t := u) (HH.out.ext0 H.ext) (HU.out.ext0 H.ext)).mono ?_
  intro e w_ hp_
  obtain ⟨q2, hq2, rfl, hx⟩ := hp_.name
  clear hp_
  obtain rfl : q2 = q1 := hq2.out.trans hq1.out.symm
  clear hq1 hq2
  replace H := H.call hx
  clear hx
  refine hK_ _ _ (fun _ => H.sub (by simp)) (fun hR_ => ?_)
  replace hR_ := hR_ (by decide)
  refine wpL_reads (is := [(22, ?v3_0), (23, ?v3_1)]) (by kernel_rfl) (Nat.le_of_ble_eq_true rfl) (by intro _ _ d_ _ _ h_; cases d_ <;> exact h_) (by kernel_rfl) hR_ (fun w_ hw_ => ?h3_) ?_
  case h3_ =>
    have ho_ := hw_.old0.1; have hz_ := hw_.old0.2; have hr_ := hw_.rules; clear hw_; simp only [Rules, and_true] at hr_; go_split_ands
    (repeat (first | with_reducible exact RdOps.nil | (refine RdOps.run rfl (by rfl) ?_ ?_; (focus (first | (go_simp; done) | (go_simp; with_reducible rfl))); simp only [List.getElem_toArray, List.getElem_cons_zero, List.getElem_cons_succ, Act.put, List.setIfInBounds_toArray, List.set_cons_zero, List.set_cons_succ]) | (refine RdOps.skip rfl (by rfl) ?_ ?_; (focus (with_reducible rfl)); simp only [List.getElem_toArray, List.getElem_cons_zero, List.getElem_cons_succ, Act.put, List.setIfInBounds_toArray, List.set_cons_zero, List.set_cons_succ])))
  simp only [rdMark, rdAct, List.map_cons, List.map_nil, List.length_cons, List.length_nil, Nat.reduceAdd, Nat.reduceSub, Nat.zero_add, List.getElem?_toArray, List.getElem?_cons_zero, List.getElem?_cons_succ, Option.bind_some, Act.put, List.setIfInBounds_toArray, List.set_cons_zero, List.set_cons_succ]
  refine wpL_done (by kernel_rfl) ?_ _
  exact hQ _ _ _ _ _ _ _ _ _ _ _ _ _ _ _ _ _ _ _ _ _ _ _ _ H.ext

set_option maxRecDepth 100000 in
set_option maxHeartbeats 8000000 in
theorem cases24 {W : World} {S S1 S2 : Nat → Prop} {ds : List Dc} {t u : Tm} {A A0 K0 A1 K1 : Option Addr} {c ca ck c1 k1 gt gu gn i k : Nat} {a b : Int} {Q : Exit → Act → World → Prop} {x0 x1 x3 x4 x5 x6 x12 x13 x14 x15 x16 x17 x18 x19 x20 x21 x22 x23 x24 x25 x26 x27 x28 x29 x30 x31 x32 x33 x34 x35 x36 x37 x38 x39 x40 x41 x42 x43 x44 x45 x46 x47 x48 x49 x50 x51 x52 x53 x54 x55 x56 x57 x58 x59 x60 x61 x62 x63 x64 x65 x66 x67 x68 x69 x70 x71 x72 x73 x74 x75 x76 x77 x78 x79 x80 x81 x82 x83 x84 x85 x86 x87 x88 x89 x90 x91 x92 x93 x94 x95 x96 x97 x98 x99 x100 x101 x102 x103 x104 x105 x106 x107 x108 x109 x110 x111 x112 x113 x114 x115 x116 x117 x118 x119 x120 x121 x122 x123 x124 x125 x126 x127 x128 x129 x130 x131 x132 x133 x134 x135 x136 x137 x138 x139 x140 x141 x142 x143 x144 x145 x146 x147 x148 x149 x150 x151 x152 x153 x154 x155 x156 x157 x158 x159 x160 x161 x162 x163 x164 x165 x166 x167 x168 x169 x170 x171 x172 x173 x174 x175 x176 x177 x178 x179 x180 x181 x182 x183 x184 x185 x186 x187 x188 x189 x190 x191 x192 x193 x194 x195 x196 x197 x198 x199 x200 x201 x202 x203 x204 x205 x206 x207 x208 x209 x210 x211 x212 x213 x214 x215 x216 x217 x218 x219 x220 x221 x222 x223 x224 x225 x226 x227 x228 x229 x230 x231 x232 x233 x234 x235 x236 x237 x238 x239 x240 x241 x242 x243 x244 x245 x246 x247 x248 x249 x250 x251 x252 x253 x254 x255 x256 x257 x258 x259 x260 x261 x262 x263 x264 x265 x266 x267 x268 x269 x270 x271 x272 x273 x274 x275 x276 x277 x278 x279 x280 x281 x282 x283 x284 x285 x286 x287 x288 x289 x290 x291 x292 x293 x294 x295 x296 x297 x298 x299 : Value} (hT : Tab W) (h : RC W S (.l 42 16 (ds.map Dc.d)) [.slice A ds.length c])
    (ht : RC W S1 t.d (tC t A0 K0 ca ck)) (hu : RC W S2 u.d (tC u A1 K1 c1 k1)) (b1 : Blk W gt 30 (tC t A0 K0 ca ck).toArray) (b2 : Blk W gu 30 (tC u A1 K1 c1 k1).toArray)
    (hi : i < 7) (hk : k < 7) (hb3 : gn < W.heap.size) (r1 : W.cell? ⟨gn, i, none⟩ = some (.int .i64 a)) (r2 : W.cell? ⟨gn, k, none⟩ = some (.int .i64 b))
    (hQ : ∀ (y105 y106 y107 y108 y109 y110 y111 y112 y113 y114 y115 y116 y117 y118 y119 y120 y121 y122 y123 y124 y125 y126 y127 y128 y129 y130 y131 y132 y133 y134 y135 y136 y137 y138 y139 y140 y141 y142 y143 y144 y145 y146 y147 y148 y149 : Value) (w' : World), Ext no W w' → Q .normal { tmps := #[x0, x1, .slice A ds.length c, x3, x4, x5, x6, .slice (some ⟨gn, 0, none⟩) 7 7, .int .i64 (i : Int), .int .i64 (k : Int), .pointer (some ⟨gt, 0, none⟩), .pointer (some ⟨gu, 0, none⟩), x12, x13, x14, x15, x16, x17, x18, x19, x20, x21, x22, x23, x24, x25, x26, x27, x28, x29, x30, x31, x32, x33, x34, x35, x36, x37, x38, x39, x40, x41, x42, x43, x44, x45, x46, x47, x48, x49, x50, x51, x52, x53, x54, x55, x56, x57, x58, x59, x60, x61, x62, x63, x64, x65, x66, x67, x68, x69, x70, x71, x72, x73, x74, x75, x76, x77, x78, x79, x80, x81, x82, x83, x84, x85, x86, x87, x88, x89, x90, x91, x92, x93, x94, x95, x96, x97, x98, x99, x100, x101, x102, x103, x104, y105, y106, y107, y108, y109, y110, y111, y112, y113, y114, y115, y116, y117, y118, y119, y120, y121, y122, y123, y124, y125, y126, y127, y128, y129, y130, y131, y132, y133, y134, y135, y136, y137, y138, y139, y140, y141, y142, y143, y144, y145, y146, y147, y148, y149, .bool false, x151, x152, x153, x154, x155, x156, x157, x158, x159, x160, x161, x162, x163, x164, x165, x166, x167, x168, x169, x170, x171, x172, x173, x174, x175, x176, x177, x178, x179, x180, x181, x182, x183, x184, x185, x186, x187, x188, x189, x190, x191, x192, x193, x194, x195, x196, x197, x198, x199, x200, x201, x202, x203, x204, x205, x206, x207, x208, x209, x210, x211, x212, x213, x214, x215, x216, x217, x218, x219, x220, x221, x222, x223, x224, x225, x226, x227, x228, x229, x230, x231, x232, x233, x234, x235, x236, x237, x238, x239, x240, x241, x242, x243, x244, x245, x246, x247, x248, x249, x250, x251, x252, x253, x254, x255, x256, x257, x258, x259, x260, x261, x262, x263, x264, x265, x266, x267, x268, x269, x270, x271, x272, x273, x274, x275, x276, x277, x278, x279, x280, x281, x282, x283, x284, x285, x286, x287, x288, x289, x290, x291, x292, x293, x294, x295, x296, x297, x298, x299], defers := [] } w') :
    (fstC ((findR 24 (Tryd.f6.body.getD .skip)).getD .skip)).wp Tryd.prog Q { tmps := #[x0, x1, .slice A ds.length c, x3, x4, x5, x6, .slice (some ⟨gn, 0, none⟩) 7 7, .int .i64 (i : Int), .int .i64 (k : Int), .pointer (some ⟨gt, 0, none⟩), .pointer (some ⟨gu, 0, none⟩), x12, x13, x14, x15, x16, x17, x18, x19, x20, x21, x22, x23, x24, x25, x26, x27, x28, x29, x30, x31, x32, x33, x34, x35, x36, x37, x38, x39, x40, x41, x42, x43, x44, x45, x46, x47, x48, x49, x50, x51, x52, x53, x54, x55, x56, x57, x58, x59, x60, x61, x62, x63, x64, x65, x66, x67, x68, x69, x70, x71, x72, x73, x74, x75, x76, x77, x78, x79, x80, x81, x82, x83, x84, x85, x86, x87, x88, x89, x90, x91, x92, x93, x94, x95, x96, x97, x98, x99, x100, x101, x102, x103, x104, x105, x106, x107, x108, x109, x110, x111, x112, x113, x114, x115, x116, x117, x118, x119, x120, x121, x122, x123, x124, x125, x126, x127, x128, x129, x130, x131, x132, x133, x134, x135, x136, x137, x138, x139, x140, x141, x142, x143, x144, x145, x146, x147, x148, x149, x150, x151, x152, x153, x154, x155, x156, x157, x158, x159, x160, x161, x162, x163, x164, x165, x166, x167, x168, x169, x170, x171, x172, x173, x174, x175, x176, x177, x178, x179, x180, x181, x182, x183, x184, x185, x186, x187, x188, x189, x190, x191, x192, x193, x194, x195, x196, x197, x198, x199, x200, x201, x202, x203, x204, x205, x206, x207, x208, x209, x210, x211, x212, x213, x214, x215, x216, x217, x218, x219, x220, x221, x222, x223, x224, x225, x226, x227, x228, x229, x230, x231, x232, x233, x234, x235, x236, x237, x238, x239, x240, x241, x242, x243, x244, x245, x246, x247, x248, x249, x250, x251, x252, x253, x254, x255, x256, x257, x258, x259, x260, x261, x262, x263, x264, x265, x266, x267, x268, x269, x270, x271, x272, x273, x274, x275, x276, x277, x278, x279, x280, x281, x282, x283, x284, x285, x286, x287, x288, x289, x290, x291, x292, x293, x294, x295, x296, x297, x298, x299], defers := [] } W := by
  have HT := Lib.hid hT
  have HH := Lib.hid h
  have HV := Lib.hid ht
  have HU := Lib.hid hu
  have hb1 := b1.lt
  have hb2 := b2.lt
  have p0 := b1.at 0 rfl
  have q0 := b2.at 0 rfl
  have p1 := b1.at 1 rfl
  have q1 := b2.at 1 rfl
  have p2 := b1.at 2 rfl
  have q2 := b2.at 2 rfl
  have p3 := b1.at 3 rfl
  have q3 := b2.at 3 rfl
  have p4 := b1.at 4 rfl
  have q4 := b2.at 4 rfl
  clear hT h ht hu b1 b2
  have hi2 : (i : Int) < 7 := by omega
  have hk2 : (k : Int) < 7 := by omega
  have H := Hp.start no W
  conv => arg 2; whnf
  refine onlyN ?_
  refine wp_region_H 46 [false, false, false, false, false, false, false, false, false, false, false, false, false, false, false, false, false, false, false, false, false, false, false, false, false, false, false, false, false, false, false, false, false, false, false, false, false, false, false, false, false, false, false, false, false, false] [] H .nil (by kernel_rfl) rfl rfl (fun H_ hR_ => ?_)
  (try clear H0_); have H0_ := H; clear H; have H := H_; clear H_
  refine wpL_reads (is := [(0, ?v4_0), (1, ?v4_1), (2, ?v4_2), (3, ?v4_3), (4, ?v4_4), (5, ?v4_5), (6, ?v4_6), (7, ?v4_7), (8, ?v4_8), (9, ?v4_9), (10, ?v4_10), (11, ?v4_11), (12, ?v4_12), (13, ?v4_13), (15, ?v4_14), (16, ?v4_15), (17, ?v4_16), (18, ?v4_17), (19, ?v4_18), (20, ?v4_19), (21, ?v4_20), (22, ?v4_21), (23, ?v4_22), (24, ?v4_23), (25, ?v4_24), (26, ?v4_25), (27, ?v4_26), (28, ?v4_27)]) (by kernel_rfl) (Nat.le_of_ble_eq_true rfl) (by intro _ _ d_ _ _ h_; cases d_ <;> exact h_) (by kernel_rfl) hR_ (fun w_ hw_ => ?h4_) ?_
  case h4_ =>
    have ho_ := hw_.old0.1; have hz_ := hw_.old0.2; have hr_ := hw_.rules; clear hw_; simp only [Rules, and_true] at hr_; go_split_ands
    (repeat (first | with_reducible exact RdOps.nil | (refine RdOps.run rfl (by rfl) ?_ ?_; (focus (first | (go_simp; done) | (go_simp; with_reducible rfl))); simp only [List.getElem_toArray, List.getElem_cons_zero, List.getElem_cons_succ, Act.put, List.setIfInBounds_toArray, List.set_cons_zero, List.set_cons_succ]) | (refine RdOps.skip rfl (by rfl) ?_ ?_; (focus (with_reducible rfl)); simp only [List.getElem_toArray, List.getElem_cons_zero, List.getElem_cons_succ, Act.put, List.setIfInBounds_toArray, List.set_cons_zero, List.set_cons_succ])))
  simp only [rdMark, rdAct, List.map_cons, List.map_nil, List.length_cons, List.length_nil, Nat.reduceAdd, Nat.reduceSub, Nat.zero_add, List.getElem?_toArray, List.getElem?_cons_zero, List.getElem?_cons_succ, Option.bind_some, Act.put, List.setIfInBounds_toArray, List.set_cons_zero, List.set_cons_succ]
  refine wpL_do (i := 14) rfl (by kernel_rfl) (by rfl) (fun K_ hK_ => ?_)
  go_simp
  refine (callSrc (ds := ds) (t := t) (HT.out.ext H.ext) (HH.out.ext0 H.ext) (HV.out.ext0 H.ext)).mono ?_
  intro e w_ hp_
  obtain ⟨q1, hq1, rfl, hx⟩ := hp_.name
  clear hp_
  replace H := H.call hx
  clear hx
  refine hK_ _ _ (fun _ => H.sub (by simp)) (fun hR_ => ?_)
  replace hR_ := hR_ (by decide)
  refine wpL_do (i := 29) rfl (by kernel_rfl) (by rfl) (fun K_ hK_ => ?_)
  go_simp
  refine (callRef (ds := ds) (t := t) (HH.out.ext0 H.ext) (HV.out.ext0 H.ext)).mono ?_
  intro e w_ hp_
  obtain ⟨q2, hq2, rfl, hx⟩ := hp_.name
  clear hp_
  obtain rfl : q2 = q1 := hq2.out.trans hq1.out.symm
  clear hq1 hq2
  replace H := H.call hx
  clear hx
  refine hK_ _ _ (fun _ => H.sub (by simp)) (fun hR_ => ?_)
  replace hR_ := hR_ (by decide)
  refine wpL_reads (is := [(30, ?v5_0), (31, ?v5_1), (32, ?v5_2), (33, ?v5_3), (34, ?v5_4), (35, ?v5_5), (36, ?v5_6), (38, ?v5_7), (39, ?v5_8), (40, ?v5_9), (41, ?v5_10), (42, ?v5_11)]) (by kernel_rfl) (Nat.le_of_ble_eq_true rfl) (by intro _ _ d_ _ _ h_; cases d_ <;> exact h_) (by kernel_rfl) hR_ (fun w_ hw_ => ?h5_) ?_
  case h5_ =>
    have ho_ := hw_.old0.1; have hz_ := hw_.old0.2; have hr_ := hw_.rules; clear hw_; simp only [Rules, and_true] at hr_; go_split_ands
    (repeat (first | with_reducible exact RdOps.nil | (refine RdOps.run rfl (by rfl) ?_ ?_; (focus (first | (go_simp; done) | (go_simp; with_reducible rfl))); simp only [List.getElem_toArray, List.getElem_cons_zero, List.getElem_cons_succ, Act.put, List.setIfInBounds_toArray, List.set_cons_zero, List.set_cons_succ]) | (refine RdOps.skip rfl (by rfl) ?_ ?_; (focus (with_reducible rfl)); simp only [List.getElem_toArray, List.getElem_cons_zero, List.getElem_cons_succ, Act.put, List.setIfInBounds_toArray, List.set_cons_zero, List.set_cons_succ])))
  simp only [rdMark, rdAct, List.map_cons, List.map_nil, List.length_cons, List.length_nil, Nat.reduceAdd, Nat.reduceSub, Nat.zero_add, List.getElem?_toArray, List.getElem?_cons_zero, List.getElem?_cons_succ, Option.bind_some, Act.put, List.setIfInBounds_toArray, List.set_cons_zero, List.set_cons_succ]
  refine wpL_do (i := 37) rfl (by kernel_rfl) (by rfl) (fun K_ hK_ => ?_)
  go_simp
  refine (callSrc (ds := []) (t := u) (S := fun _ => True) (HT.out.ext H.ext) RC.nil (HU.out.ext0 H.ext)).mono ?_
  intro e w_ hp_
  obtain ⟨q1, hq1, rfl, hx⟩ := hp_.name
  clear hp_
  replace H := H.call hx
  clear hx
  refine hK_ _ _ (fun _ => H.sub (by simp)) (fun hR_ => ?_)
  replace hR_ := hR_ (by decide)
  refine wpL_do (i := 43) rfl (by kernel_rfl) (by rfl) (fun K_ hK_ => ?_)
  go_simp
  refine (callRef (ds := []) (t := u) (S := fun _ => True) RC.nil (HU.out.ext0 H.ext)).mono ?_
  intro e w_ hp_
  obtain ⟨q2, hq2, rfl, hx⟩ := hp_.name
  clear hp_
  obtain rfl : q2 = q1 := hq2.out.trans hq1.out.symm
  clear hq1 hq2
  replace H := H.call hx
  clear hx
  refine hK_ _ _ (fun _ => H.sub (by simp)) (fun hR_ => ?_)
  replace hR_ := hR_ (by decide)
  refine wpL_reads (is := [(44, ?v6_0), (45, ?v6_1)]) (by kernel_rfl) (Nat.le_of_ble_eq_true rfl) (by intro _ _ d_ _ _ h_; cases d_ <;> exact h_) (by kernel_rfl) hR_ (fun w_ hw_ => ?h6_) ?_
  case h6_ =>
    have ho_ := hw_.old0.1; have hz_ := hw_.old0.2; have hr_ := hw_.rules; clear hw_; simp only [Rules, and_true] at hr_; go_split_ands
    (repeat (first | with_reducible exact RdOps.nil | (refine RdOps.run rfl (by rfl) ?_ ?_; (focus (first | (go_simp; done) | (go_simp; with_reducible rfl))); simp only [List.getElem_toArray, List.getElem_cons_zero, List.getElem_cons_succ, Act.put, List.setIfInBounds_toArray, List.set_cons_zero, List.set_cons_succ]) | (refine RdOps.skip rfl (by rfl) ?_ ?_; (focus (with_reducible rfl)); simp only [List.getElem_toArray, List.getElem_cons_zero, List.getElem_cons_succ, Act.put, List.setIfInBounds_toArray, List.set_cons_zero, List.set_cons_succ])))
  simp only [rdMark, rdAct, List.map_cons, List.map_nil, List.length_cons, List.length_nil, Nat.reduceAdd, Nat.reduceSub, Nat.zero_add, List.getElem?_toArray, List.getElem?_cons_zero, List.getElem?_cons_succ, Option.bind_some, Act.put, List.setIfInBounds_toArray, List.set_cons_zero, List.set_cons_succ]
  refine wpL_done (by kernel_rfl) ?_ _
  exact hQ _ _ _ _ _ _ _ _ _ _ _ _ _ _ _ _ _ _ _ _ _ _ _ _ _ _ _ _ _ _ _ _ _ _ _ _ _ _ _ _ _ _ _ _ _ _ H.ext

end Go.Proofs.YteelplgdojjakaaDoor
