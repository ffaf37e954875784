/- The reference of layer 21: terms carried over: contracts. -/
import Derived.Test.YteelplgdojjakaaDoorRefC2
namespace Go.Proofs.YteelplgdojjakaaDoor
set_option linter.unusedSimpArgs false
set_option linter.unusedVariables false
open Go.RowKit

theorem carryTs_get (ds : List Dc) (at_ : List Int) (ts : List Tm) {j : Nat} (h : j < ts.length) : (carryTs ds at_ ts)[j]'(by rw [carryTs_len]; exact h) = carryT ds at_ ts[j] := by
  simp only [carryTs_eq, List.getElem_map]
def RefOK (S S2 : Nat → Prop) (ds : List Dc) (at_ : List Int) (A B : Option Addr) (c c2 : Nat) (t : Tm) : Prop :=
  ∀ (w : World) (S0 : Nat → Prop) (v : Value), Cx w S S2 ds at_ A B c c2 → TV w S0 t v → Calls Tryd.prog 14 #[.slice A ds.length c, .slice B at_.length c2, v] w (PTm w (carryT ds at_ t))
set_option maxRecDepth 100000 in
set_option maxHeartbeats 4000000 in
theorem refTerm_ {S S2 : Nat → Prop} {ds : List Dc} {at_ : List Int} {A B : Option Addr} {c c2 : Nat} : ∀ t : Tm, RefOK S S2 ds at_ A B c c2 t := by
  intro t
  induction t using Tm.ind_ with
  | h tk tn ta ls ks ih =>
  rintro w S0 v C ⟨A0, ca, K0, ck, rfl, hrc⟩
  obtain ⟨_, _, _, _, he, i1, i2, i3, hls, hks⟩ := RC.tm.1 hrc
  simp only [List.cons.injEq, Value.slice.injEq, and_true, true_and] at he
  obtain ⟨⟨rfl, rfl⟩, rfl, rfl⟩ := he
  have IH := Lib.hid ih
  have HC := Lib.hid C
  clear ih hrc C
  simp only [Tm.k_mk, Tm.n_mk, Tm.a_mk, Tm.ls_mk, Tm.ks_mk] at hls hks i1 i2 i3 ⊢
  have hM := hks.lenM
  go_enter Tryd.func14, Tryd.ntmps14
  go_wp2_with fail
  have H := Hp.start no w
  refine callsH (by (repeat (first | with_reducible exact H | with_reducible exact H0_ | with_reducible apply Hp.alloc | with_reducible apply Hp.allocMap | with_reducible apply Hp.drew | with_reducible apply Hp.drewN | with_reducible apply Hp.set)); (try any_goals (repeat (first | with_reducible exact Upd.head | with_reducible apply Upd.tail)))) ?_
  clear H; intro w1 H; (try simp only [size_drew_, size_drewN_, World.size_alloc, World.size_setCell, List.set_cons_zero, List.set_cons_succ] at H)
  refine (refLift (t := .mk tk tn ta ls []) (S := S0) 0 0 ⟨A0, ca, none, 0, rfl, RC.tm.2 ⟨_, _, _, _, rfl, i1, i2, i3, hls.ext0 H.ext, RC.nil⟩⟩).mono ?_
  rintro e w2 ⟨v, rfl, hto, hx⟩
  rw [lift00 i2] at hto
  obtain ⟨A1, c1, K1, k1, rfl, H3⟩ := H.resTm hx hto
  clear H hx hto
  simp only [Tm.k_mk, Tm.n_mk, Tm.a_mk, Tm.ls_mk, Tm.ks_mk] at H3 ⊢
  obtain ⟨_, _, _, H⟩ := H3.untm
  clear H3
  simp only [Tm.k_mk, Tm.n_mk, Tm.a_mk, Tm.ls_mk, Tm.ks_mk] at H
  have hr_ := H.rules; simp only [Rules, and_true] at hr_; have hd_ := H.dif; simp only [Dif, Neq, and_true] at hd_; obtain ⟨ho_, hz_⟩ := H.old0
  go_wp2_with fail
  clear hr_ hd_ ho_ hz_
  refine callsH (by (repeat (first | with_reducible exact H | with_reducible exact H0_ | with_reducible apply Hp.alloc | with_reducible apply Hp.allocMap | with_reducible apply Hp.drew | with_reducible apply Hp.drewN | with_reducible apply Hp.set)); (try any_goals (repeat (first | with_reducible exact Upd.head | with_reducible apply Upd.tail)))) ?_
  clear H; intro w3 H; (try simp only [size_drew_, size_drewN_, World.size_alloc, World.size_setCell, List.set_cons_zero, List.set_cons_succ] at H)
  refine (ref_const (HC.out.1.ext0 H.ext) (HC.out.2.1.ext0 H.ext)).mono ?_
  rintro e w4 ⟨⟨m, rfl, hm⟩, hx⟩
  replace H := H.call hx
  clear hx
  cases hq : nameOf ds at_ tk tn ta with
  | none =>
      have HE := Lib.hid (carryT_none (ls := ls) (ks := ks) hq)
      clear hq hm
      simp only [Option.isSome_none]
      have hr_ := H.rules; simp only [Rules, and_true] at hr_; have hd_ := H.dif; simp only [Dif, Neq, and_true] at hd_; obtain ⟨ho_, hz_⟩ := H.old0
      go_wp2_with fail
      clear hr_ hd_ ho_ hz_
      refine codeH (by (repeat (first | with_reducible exact H | with_reducible exact H0_ | with_reducible apply Hp.alloc | with_reducible apply Hp.allocMap | with_reducible apply Hp.drew | with_reducible apply Hp.drewN | with_reducible apply Hp.set)); (try any_goals (repeat (first | with_reducible exact Upd.head | with_reducible apply Upd.tail)))) ?_
      clear H; intro w5 H; (try simp only [size_drew_, size_drewN_, World.size_alloc, World.size_setCell, List.set_cons_zero, List.set_cons_succ] at H)
      go_loopw [10] (fun i wr => ∃ j : Nat, j ≤ ks.length ∧ i = .int .i64 j ∧ ∃ o, Hp no w wr [.box w2.heap.size 30 [.int .i64 tk, .int .i64 tn, .int .i64 ta, .slice A1 ls.length c1, o], .dat (.l 38 1 (ls.map lvD)) [.slice A1 ls.length c1], .dat (.l 30 5 (((carryTs ds at_ ks).take j).map Tm.d)) [o], .box (w.heap.size + 1) 30 [.int .i64 0, .int .i64 0, .int .i64 0, .slice none 0 0, .slice none 0 0], .box w.heap.size 30 [.int .i64 tk, .int .i64 tn, .int .i64 ta, .slice A0 ls.length ca, .slice K0 ks.length ck]]) (fun i _ => ks.length - (intOf i).toNat)
      case atStart => exact ⟨0, Nat.zero_le _, rfl, _, H⟩
      case round =>
        clear H
        obtain ⟨j, hj, rfl, o, H⟩ := hrel
        by_cases hlt : j < ks.length
        · obtain ⟨b, off, A2, c2, K2, k2, rfl, hb, hS, hd, p0, p1, p2, p3, p4⟩ := hks.atTm hlt
          have HD := Lib.hid hd
          clear hd
          have hr_ := H.rules; simp only [Rules, and_true] at hr_; have hd_ := H.dif; simp only [Dif, Neq, and_true] at hd_; obtain ⟨ho_, hz_⟩ := H.old0
          go_wp2_with fail
          clear hr_ hd_ ho_ hz_
          refine regionH (by (repeat (first | with_reducible exact H | with_reducible exact H0_ | with_reducible apply Hp.alloc | with_reducible apply Hp.allocMap | with_reducible apply Hp.drew | with_reducible apply Hp.drewN | with_reducible apply Hp.set)); (try any_goals (repeat (first | with_reducible exact Upd.head | with_reducible apply Upd.tail)))) ?_
          clear H; intro w6 H; (try simp only [size_drew_, size_drewN_, World.size_alloc, World.size_setCell, List.set_cons_zero, List.set_cons_succ] at H)
          refine wp_region_H 14 [false, false, false, false, false, false, false, false, false, false, false, false, false, false] [13] H (.cons (i := 0) rfl (.cons (i := 4) rfl .nil)) (by kernel_rfl) rfl rfl (fun H_ hR_ => ?_)
          (try clear H0_); have H0_ := H; clear H; have H := H_; clear H_
          refine wpL_take (i := 0) (v := ?v1_) rfl (by kernel_rfl) (fun _ _ _ h => h) hR_ (by rfl) (fun w_ hw_ => ?h1_) ?_
          case h1_ => have ho_ := hw_.old0.1; have hz_ := hw_.old0.2; have hr_ := hw_.rules; clear hw_; simp only [Rules, and_true] at hr_; go_split_ands; go_simp; try with_reducible rfl
          simp only [List.getElem_toArray, List.getElem_cons_zero, List.getElem_cons_succ, Act.put, List.setIfInBounds_toArray, List.set_cons_zero, List.set_cons_succ]
          refine wpL_take (i := 1) (v := ?v2_) rfl (by kernel_rfl) (fun _ _ _ h => h) hR_ (by rfl) (fun w_ hw_ => ?h2_) ?_
          case h2_ => have ho_ := hw_.old0.1; have hz_ := hw_.old0.2; have hr_ := hw_.rules; clear hw_; simp only [Rules, and_true] at hr_; go_split_ands; go_simp; try with_reducible rfl
          simp only [List.getElem_toArray, List.getElem_cons_zero, List.getElem_cons_succ, Act.put, List.setIfInBounds_toArray, List.set_cons_zero, List.set_cons_succ]
          refine wpL_take (i := 2) (v := ?v3_) rfl (by kernel_rfl) (fun _ _ _ h => h) hR_ (by rfl) (fun w_ hw_ => ?h3_) ?_
          case h3_ => have ho_ := hw_.old0.1; have hz_ := hw_.old0.2; have hr_ := hw_.rules; clear hw_; simp only [Rules, and_true] at hr_; go_split_ands; go_simp; try with_reducible rfl
          simp only [List.getElem_toArray, List.getElem_cons_zero, List.getElem_cons_succ, Act.put, List.setIfInBounds_toArray, List.set_cons_zero, List.set_cons_succ]
          refine wpL_take (i := 3) (v := ?v4_) rfl (by kernel_rfl) (fun _ _ _ h => h) hR_ (by rfl) (fun w_ hw_ => ?h4_) ?_
          case h4_ => have ho_ := hw_.old0.1; have hz_ := hw_.old0.2; have hr_ := hw_.rules; clear hw_; simp only [Rules, and_true] at hr_; go_split_ands; go_simp; try with_reducible rfl
          simp only [List.getElem_toArray, List.getElem_cons_zero, List.getElem_cons_succ, Act.put, List.setIfInBounds_toArray, List.set_cons_zero, List.set_cons_succ]
          refine wpL_take (i := 4) (v := ?v5_) rfl (by kernel_rfl) (fun _ _ _ h => h) hR_ (by rfl) (fun w_ hw_ => ?h5_) ?_
          case h5_ => have ho_ := hw_.old0.1; have hz_ := hw_.old0.2; have hr_ := hw_.rules; clear hw_; simp only [Rules, and_true] at hr_; go_split_ands; go_simp; try with_reducible rfl
          simp only [List.getElem_toArray, List.getElem_cons_zero, List.getElem_cons_succ, Act.put, List.setIfInBounds_toArray, List.set_cons_zero, List.set_cons_succ]
          refine wpL_take (i := 5) (v := ?v6_) rfl (by kernel_rfl) (fun _ _ _ h => h) hR_ (by rfl) (fun w_ hw_ => ?h6_) ?_
          case h6_ => have ho_ := hw_.old0.1; have hz_ := hw_.old0.2; have hr_ := hw_.rules; clear hw_; simp only [Rules, and_true] at hr_; go_split_ands; go_simp; try with_reducible rfl
          simp only [List.getElem_toArray, List.getElem_cons_zero, List.getElem_cons_succ, Act.put, List.setIfInBounds_toArray, List.set_cons_zero, List.set_cons_succ]
          refine wpL_take (i := 6) (v := ?v7_) rfl (by kernel_rfl) (fun _ _ _ h => h) hR_ (by rfl) (fun w_ hw_ => ?h7_) ?_
          case h7_ => have ho_ := hw_.old0.1; have hz_ := hw_.old0.2; have hr_ := hw_.rules; clear hw_; simp only [Rules, and_true] at hr_; go_split_ands; go_simp; try with_reducible rfl
          simp only [List.getElem_toArray, List.getElem_cons_zero, List.getElem_cons_succ, Act.put, List.setIfInBounds_toArray, List.set_cons_zero, List.set_cons_succ]
          refine wpL_take (i := 7) (v := ?v8_) rfl (by kernel_rfl) (fun _ _ _ h => h) hR_ (by rfl) (fun w_ hw_ => ?h8_) ?_
          case h8_ => have ho_ := hw_.old0.1; have hz_ := hw_.old0.2; have hr_ := hw_.rules; clear hw_; simp only [Rules, and_true] at hr_; go_split_ands; go_simp; try with_reducible rfl
          simp only [List.getElem_toArray, List.getElem_cons_zero, List.getElem_cons_succ, Act.put, List.setIfInBounds_toArray, List.set_cons_zero, List.set_cons_succ]
          refine wpL_take (i := 8) (v := ?v9_) rfl (by kernel_rfl) (fun _ _ _ h => h) hR_ (by rfl) (fun w_ hw_ => ?h9_) ?_
          case h9_ => have ho_ := hw_.old0.1; have hz_ := hw_.old0.2; have hr_ := hw_.rules; clear hw_; simp only [Rules, and_true] at hr_; go_split_ands; go_simp; try with_reducible rfl
          simp only [List.getElem_toArray, List.getElem_cons_zero, List.getElem_cons_succ, Act.put, List.setIfInBounds_toArray, List.set_cons_zero, List.set_cons_succ]
          refine wpL_do (i := 9) rfl (by kernel_rfl) (by rfl) (fun K_ hK_ => ?_)
          go_simp
          refine (IH.out ks[j] (by simp) _ _ _ (HC.out.ext H.ext) ⟨_, _, _, _, rfl, HD.out.ext0 H.ext⟩).mono ?_
          rintro e w7 ⟨v, rfl, hto, hx⟩
          obtain ⟨A3, c3, K3, k3, rfl, H3⟩ := H.resTm hx hto
          clear H H0_ hx hto hR_
          have H := H3
          clear H3
          refine hK_ _ _ (fun _ => H.sub (by simp)) (fun hR_ => ?_)
          replace hR_ := hR_ (by decide)
          refine wpL_do (i := 10) rfl (by kernel_rfl) (by rfl) (fun K_ hK_ => ?_)
          go_simp
          refine kontH (by (repeat (first | with_reducible exact H | with_reducible exact H0_ | with_reducible apply Hp.alloc | with_reducible apply Hp.allocMap | with_reducible apply Hp.drew | with_reducible apply Hp.drewN | with_reducible apply Hp.set)); (try any_goals (repeat (first | with_reducible exact Upd.head | with_reducible apply Upd.tail)))) ?_
          clear H; intro w8 H; (try simp only [size_drew_, size_drewN_, World.size_alloc, World.size_setCell, List.set_cons_zero, List.set_cons_succ] at H)
          refine hK_ _ _ (fun _ => H.sub (by simp)) (fun hR_ => ?_)
          replace hR_ := hR_ (by decide)
          obtain ⟨Ao, co, rfl⟩ := H.sliceN (n := j) (ds := ((carryTs ds at_ ks).take j).map Tm.d) (by (repeat (first | with_reducible exact Pick.head | with_reducible apply Pick.tail))) (by simp [carryTs_len]; omega)
          refine wpL_do (i := 11) rfl (by kernel_rfl) (by rfl) (fun K_ hK_ => ?_)
          refine wp_pushH (.tmp 41) (.tmp 50) 28 rfl stTerms (by go_simp <;> first | rfl | exact ⟨rfl, rfl⟩) (by go_simp <;> first | rfl | exact ⟨rfl, rfl⟩) H (by (repeat (first | with_reducible exact Pick.head | with_reducible apply Pick.tail))) (by (repeat (first | with_reducible exact Pick.head | with_reducible apply Pick.tail))) (by (repeat (first | with_reducible exact Pick.head | with_reducible apply Pick.tail))) (Tm.size_d _) ?_ ?_
          focus (simp [M]; omega)
          clear H; intro v' w9 H
          refine hK_ _ _ (fun _ => H.sub (by simp)) (fun hR_ => ?_)
          replace hR_ := hR_ (by decide)
          refine wpL_take (i := 12) (v := ?v10_) rfl (by kernel_rfl) (fun _ _ _ h => h) hR_ (by rfl) (fun w_ hw_ => ?h10_) ?_
          case h10_ => have ho_ := hw_.old0.1; have hz_ := hw_.old0.2; have hr_ := hw_.rules; clear hw_; simp only [Rules, and_true] at hr_; go_split_ands; go_simp; try with_reducible rfl
          simp only [List.getElem_toArray, List.getElem_cons_zero, List.getElem_cons_succ, Act.put, List.setIfInBounds_toArray, List.set_cons_zero, List.set_cons_succ]
          obtain ⟨Ap, cp, rfl⟩ := H.sliceN (n := j + 1) .head (by simp [carryTs_len]; omega)
          have hr_ := H.rules; simp only [Rules, and_true] at hr_; have hd_ := H.dif; simp only [Dif, Neq, and_true] at hd_; obtain ⟨ho_, hz_⟩ := H.old0
          refine wpL_do (i := 13) rfl (by kernel_rfl) (by rfl) (fun K_ hK_ => ?_)
          go_simp
          clear hr_ hd_ ho_ hz_
          refine kontH (by (repeat (first | with_reducible exact H | with_reducible exact H0_ | with_reducible apply Hp.alloc | with_reducible apply Hp.allocMap | with_reducible apply Hp.drew | with_reducible apply Hp.drewN | with_reducible apply Hp.set)); (try any_goals (repeat (first | with_reducible exact Upd.head | with_reducible apply Upd.tail)))) ?_
          clear H; intro w10 H; (try simp only [size_drew_, size_drewN_, World.size_alloc, World.size_setCell, List.set_cons_zero, List.set_cons_succ] at H)
          refine hK_ _ _ (fun h => absurd (by decide) h) (fun _ => ?_)
          refine wpL_done (by kernel_rfl) ?_ _
          go_wp2_with fail
          go_roundw
          case rel =>
            (repeat apply Exists.intro)
            refine ⟨⟨j + 1, by omega, by go_num, _, by rw [take_map _ (by rw [carryTs_len]; exact hlt), carryTs_get _ _ _ hlt]; exact (H.arr (by (repeat (first | with_reducible exact Arr.nil | refine Arr.cons (by (repeat (first | with_reducible exact Pick.head | with_reducible apply Pick.tail))) ?_))))⟩, ?_⟩
            rfl
          case measure => simp [intOf]; omega
        · obtain ⟨Ao, co, rfl⟩ := H.sliceN (n := ks.length) (ds := ((carryTs ds at_ ks).take j).map Tm.d) (by (repeat (first | with_reducible exact Pick.head | with_reducible apply Pick.tail))) (by simp [carryTs_len]; omega)
          rw [take_all (by rw [carryTs_len]; exact hlt)] at H
          have hr_ := H.rules; simp only [Rules, and_true] at hr_; have hd_ := H.dif; simp only [Dif, Neq, and_true] at hd_; obtain ⟨ho_, hz_⟩ := H.old0
          go_wp2_with ((with_reducible refine atStore (t := 30) ?_); go_must (refine wpList_storeH (t := 30) rfl rfl (by go_simp <;> first | rfl | exact ⟨rfl, rfl⟩) (by go_simp <;> first | rfl | exact ⟨rfl, rfl⟩) (by exact Hp.norm (by (repeat (first | with_reducible exact H | with_reducible exact H0_ | with_reducible apply Hp.alloc | with_reducible apply Hp.allocMap | with_reducible apply Hp.drew | with_reducible apply Hp.drewN | with_reducible apply Hp.set)); (try any_goals (repeat (first | with_reducible exact Upd.head | with_reducible apply Upd.tail)))) (by ((try simp only [size_drew_, size_drewN_, World.size_alloc, World.size_setCell, List.set_cons_zero, List.set_cons_succ, List.nil_append, List.cons_append]) <;> rfl))) (by (repeat (first | with_reducible exact Upd.head | with_reducible apply Upd.tail))) (by exact aggTerm) (by rfl) (by simp [Value.oneCell']) ?_; clear H; intro w7 H; (try simp only [size_drew_, size_drewN_, World.size_alloc, World.size_setCell, List.set_cons_zero, List.set_cons_succ] at H); (try clear hr_ hd_ ho_ hz_); have hr_ := H.rules; simp only [Rules, and_true] at hr_; have hd_ := H.dif; simp only [Dif, Neq, and_true] at hd_; obtain ⟨ho_, hz_⟩ := H.old0))
          clear hr_ hd_ ho_ hz_
          refine endH (by (repeat (first | with_reducible exact H | with_reducible exact H0_ | with_reducible apply Hp.alloc | with_reducible apply Hp.allocMap | with_reducible apply Hp.drew | with_reducible apply Hp.drewN | with_reducible apply Hp.set)); (try any_goals (repeat (first | with_reducible exact Upd.head | with_reducible apply Upd.tail)))) ?_
          clear H; intro w8 H; (try simp only [size_drew_, size_drewN_, World.size_alloc, World.size_setCell, List.set_cons_zero, List.set_cons_succ] at H)
          refine bodyPost_ret (v := .agg #[.int .i64 tk, .int .i64 tn, .int .i64 ta, .slice A1 ls.length c1, .slice Ao ks.length co]) (Res.one Tryd.results14 (H.resBox (by (repeat (first | with_reducible exact Pick.head | with_reducible apply Pick.tail))) aggTerm rfl rfl)) rfl ?_
          rw [HE.out]
          exact (show PTm w (.mk tk tn ta ls (carryTs ds at_ ks)) _ _ from by
            have H := H.tm (by (repeat (first | with_reducible exact Pick.head | with_reducible apply Pick.tail))) (by (repeat (first | with_reducible exact Pick.head | with_reducible apply Pick.tail))) i1 i2 i3
            exact H.ptmk .head rfl (carryTs_len _ _ _).symm)
  | some r =>
      have HE := Lib.hid (carryT_some (ls := ls) (ks := ks) hq)
      have HI := Lib.hid (nameOf_inI HC.out.2.1.ints hq)
      obtain rfl : m = r := by rw [hq] at hm; exact hm rfl
      clear hq hm
      simp only [Option.isSome_some]
      have hr_ := H.rules; simp only [Rules, and_true] at hr_; have hd_ := H.dif; simp only [Dif, Neq, and_true] at hd_; obtain ⟨ho_, hz_⟩ := H.old0
      go_wp2_with fail
      clear hr_ hd_ ho_ hz_
      refine codeH (by (repeat (first | with_reducible exact H | with_reducible exact H0_ | with_reducible apply Hp.alloc | with_reducible apply Hp.allocMap | with_reducible apply Hp.drew | with_reducible apply Hp.drewN | with_reducible apply Hp.set)); (try any_goals (repeat (first | with_reducible exact Upd.head | with_reducible apply Upd.tail)))) ?_
      clear H; intro w5 H; (try simp only [size_drew_, size_drewN_, World.size_alloc, World.size_setCell, List.set_cons_zero, List.set_cons_succ] at H)
      go_loopw [10] (fun i wr => ∃ j : Nat, j ≤ ks.length ∧ i = .int .i64 j ∧ ∃ o, Hp no w wr [.box w2.heap.size 30 [.int .i64 3, .int .i64 m, .int .i64 0, .slice A1 ls.length c1, o], .dat (.l 38 1 (ls.map lvD)) [.slice A1 ls.length c1], .dat (.l 30 5 (((carryTs ds at_ ks).take j).map Tm.d)) [o], .box (w.heap.size + 1) 30 [.int .i64 0, .int .i64 0, .int .i64 0, .slice none 0 0, .slice none 0 0], .box w.heap.size 30 [.int .i64 tk, .int .i64 tn, .int .i64 ta, .slice A0 ls.length ca, .slice K0 ks.length ck]]) (fun i _ => ks.length - (intOf i).toNat)
      case atStart => exact ⟨0, Nat.zero_le _, rfl, _, H⟩
      case round =>
        clear H
        obtain ⟨j, hj, rfl, o, H⟩ := hrel
        by_cases hlt : j < ks.length
        · obtain ⟨b, off, A2, c2, K2, k2, rfl, hb, hS, hd, p0, p1, p2, p3, p4⟩ := hks.atTm hlt
          have HD := Lib.hid hd
          clear hd
          have hr_ := H.rules; simp only [Rules, and_true] at hr_; have hd_ := H.dif; simp only [Dif, Neq, and_true] at hd_; obtain ⟨ho_, hz_⟩ := H.old0
          go_wp2_with fail
          clear hr_ hd_ ho_ hz_
          refine regionH (by (repeat (first | with_reducible exact H | with_reducible exact H0_ | with_reducible apply Hp.alloc | with_reducible apply Hp.allocMap | with_reducible apply Hp.drew | with_reducible apply Hp.drewN | with_reducible apply Hp.set)); (try any_goals (repeat (first | with_reducible exact Upd.head | with_reducible apply Upd.tail)))) ?_
          clear H; intro w6 H; (try simp only [size_drew_, size_drewN_, World.size_alloc, World.size_setCell, List.set_cons_zero, List.set_cons_succ] at H)
          refine wp_region_H 14 [false, false, false, false, false, false, false, false, false, false, false, false, false, false] [13] H (.cons (i := 0) rfl (.cons (i := 4) rfl .nil)) (by kernel_rfl) rfl rfl (fun H_ hR_ => ?_)
          (try clear H0_); have H0_ := H; clear H; have H := H_; clear H_
          refine wpL_take (i := 0) (v := ?v11_) rfl (by kernel_rfl) (fun _ _ _ h => h) hR_ (by rfl) (fun w_ hw_ => ?h11_) ?_
          case h11_ => have ho_ := hw_.old0.1; have hz_ := hw_.old0.2; have hr_ := hw_.rules; clear hw_; simp only [Rules, and_true] at hr_; go_split_ands; go_simp; try with_reducible rfl
          simp only [List.getElem_toArray, List.getElem_cons_zero, List.getElem_cons_succ, Act.put, List.setIfInBounds_toArray, List.set_cons_zero, List.set_cons_succ]
          refine wpL_take (i := 1) (v := ?v12_) rfl (by kernel_rfl) (fun _ _ _ h => h) hR_ (by rfl) (fun w_ hw_ => ?h12_) ?_
          case h12_ => have ho_ := hw_.old0.1; have hz_ := hw_.old0.2; have hr_ := hw_.rules; clear hw_; simp only [Rules, and_true] at hr_; go_split_ands; go_simp; try with_reducible rfl
          simp only [List.getElem_toArray, List.getElem_cons_zero, List.getElem_cons_succ, Act.put, List.setIfInBounds_toArray, List.set_cons_zero, List.set_cons_succ]
          refine wpL_take (i := 2) (v := ?v13_) rfl (by kernel_rfl) (fun _ _ _ h => h) hR_ (by rfl) (fun w_ hw_ => ?h13_) ?_
          case h13_ => have ho_ := hw_.old0.1; have hz_ := hw_.old0.2; have hr_ := hw_.rules; clear hw_; simp only [Rules, and_true] at hr_; go_split_ands; go_simp; try with_reducible rfl
          simp only [List.getElem_toArray, List.getElem_cons_zero, List.getElem_cons_succ, Act.put, List.setIfInBounds_toArray, List.set_cons_zero, List.set_cons_succ]
          refine wpL_take (i := 3) (v := ?v14_) rfl (by kernel_rfl) (fun _ _ _ h => h) hR_ (by rfl) (fun w_ hw_ => ?h14_) ?_
          case h14_ => have ho_ := hw_.old0.1; have hz_ := hw_.old0.2; have hr_ := hw_.rules; clear hw_; simp only [Rules, and_true] at hr_; go_split_ands; go_simp; try with_reducible rfl
          simp only [List.getElem_toArray, List.getElem_cons_zero, List.getElem_cons_succ, Act.put, List.setIfInBounds_toArray, List.set_cons_zero, List.set_cons_succ]
          refine wpL_take (i := 4) (v := ?v15_) rfl (by kernel_rfl) (fun _ _ _ h => h) hR_ (by rfl) (fun w_ hw_ => ?h15_) ?_
          case h15_ => have ho_ := hw_.old0.1; have hz_ := hw_.old0.2; have hr_ := hw_.rules; clear hw_; simp only [Rules, and_true] at hr_; go_split_ands; go_simp; try with_reducible rfl
          simp only [List.getElem_toArray, List.getElem_cons_zero, List.getElem_cons_succ, Act.put, List.setIfInBounds_toArray, List.set_cons_zero, List.set_cons_succ]
          refine wpL_take (i := 5) (v := ?v16_) rfl (by kernel_rfl) (fun _ _ _ h => h) hR_ (by rfl) (fun w_ hw_ => ?h16_) ?_
          case h16_ => have ho_ := hw_.old0.1; have hz_ := hw_.old0.2; have hr_ := hw_.rules; clear hw_; simp only [Rules, and_true] at hr_; go_split_ands; go_simp; try with_reducible rfl
          simp only [List.getElem_toArray, List.getElem_cons_zero, List.getElem_cons_succ, Act.put, List.setIfInBounds_toArray, List.set_cons_zero, List.set_cons_succ]
          refine wpL_take (i := 6) (v := ?v17_) rfl (by kernel_rfl) (fun _ _ _ h => h) hR_ (by rfl) (fun w_ hw_ => ?h17_) ?_
          case h17_ => have ho_ := hw_.old0.1; have hz_ := hw_.old0.2; have hr_ := hw_.rules; clear hw_; simp only [Rules, and_true] at hr_; go_split_ands; go_simp; try with_reducible rfl
          simp only [List.getElem_toArray, List.getElem_cons_zero, List.getElem_cons_succ, Act.put, List.setIfInBounds_toArray, List.set_cons_zero, List.set_cons_succ]
          refine wpL_take (i := 7) (v := ?v18_) rfl (by kernel_rfl) (fun _ _ _ h => h) hR_ (by rfl) (fun w_ hw_ => ?h18_) ?_
          case h18_ => have ho_ := hw_.old0.1; have hz_ := hw_.old0.2; have hr_ := hw_.rules; clear hw_; simp only [Rules, and_true] at hr_; go_split_ands; go_simp; try with_reducible rfl
          simp only [List.getElem_toArray, List.getElem_cons_zero, List.getElem_cons_succ, Act.put, List.setIfInBounds_toArray, List.set_cons_zero, List.set_cons_succ]
          refine wpL_take (i := 8) (v := ?v19_) rfl (by kernel_rfl) (fun _ _ _ h => h) hR_ (by rfl) (fun w_ hw_ => ?h19_) ?_
          case h19_ => have ho_ := hw_.old0.1; have hz_ := hw_.old0.2; have hr_ := hw_.rules; clear hw_; simp only [Rules, and_true] at hr_; go_split_ands; go_simp; try with_reducible rfl
          simp only [List.getElem_toArray, List.getElem_cons_zero, List.getElem_cons_succ, Act.put, List.setIfInBounds_toArray, List.set_cons_zero, List.set_cons_succ]
          refine wpL_do (i := 9) rfl (by kernel_rfl) (by rfl) (fun K_ hK_ => ?_)
          go_simp
          refine (IH.out ks[j] (by simp) _ _ _ (HC.out.ext H.ext) ⟨_, _, _, _, rfl, HD.out.ext0 H.ext⟩).mono ?_
          rintro e w7 ⟨v, rfl, hto, hx⟩
          obtain ⟨A3, c3, K3, k3, rfl, H3⟩ := H.resTm hx hto
          clear H H0_ hx hto hR_
          have H := H3
          clear H3
          refine hK_ _ _ (fun _ => H.sub (by simp)) (fun hR_ => ?_)
          replace hR_ := hR_ (by decide)
          refine wpL_do (i := 10) rfl (by kernel_rfl) (by rfl) (fun K_ hK_ => ?_)
          go_simp
          refine kontH (by (repeat (first | with_reducible exact H | with_reducible exact H0_ | with_reducible apply Hp.alloc | with_reducible apply Hp.allocMap | with_reducible apply Hp.drew | with_reducible apply Hp.drewN | with_reducible apply Hp.set)); (try any_goals (repeat (first | with_reducible exact Upd.head | with_reducible apply Upd.tail)))) ?_
          clear H; intro w8 H; (try simp only [size_drew_, size_drewN_, World.size_alloc, World.size_setCell, List.set_cons_zero, List.set_cons_succ] at H)
          refine hK_ _ _ (fun _ => H.sub (by simp)) (fun hR_ => ?_)
          replace hR_ := hR_ (by decide)
          obtain ⟨Ao, co, rfl⟩ := H.sliceN (n := j) (ds := ((carryTs ds at_ ks).take j).map Tm.d) (by (repeat (first | with_reducible exact Pick.head | with_reducible apply Pick.tail))) (by simp [carryTs_len]; omega)
          refine wpL_do (i := 11) rfl (by kernel_rfl) (by rfl) (fun K_ hK_ => ?_)
          refine wp_pushH (.tmp 41) (.tmp 50) 28 rfl stTerms (by go_simp <;> first | rfl | exact ⟨rfl, rfl⟩) (by go_simp <;> first | rfl | exact ⟨rfl, rfl⟩) H (by (repeat (first | with_reducible exact Pick.head | with_reducible apply Pick.tail))) (by (repeat (first | with_reducible exact Pick.head | with_reducible apply Pick.tail))) (by (repeat (first | with_reducible exact Pick.head | with_reducible apply Pick.tail))) (Tm.size_d _) ?_ ?_
          focus (simp [M]; omega)
          clear H; intro v' w9 H
          refine hK_ _ _ (fun _ => H.sub (by simp)) (fun hR_ => ?_)
          replace hR_ := hR_ (by decide)
          refine wpL_take (i := 12) (v := ?v20_) rfl (by kernel_rfl) (fun _ _ _ h => h) hR_ (by rfl) (fun w_ hw_ => ?h20_) ?_
          case h20_ => have ho_ := hw_.old0.1; have hz_ := hw_.old0.2; have hr_ := hw_.rules; clear hw_; simp only [Rules, and_true] at hr_; go_split_ands; go_simp; try with_reducible rfl
          simp only [List.getElem_toArray, List.getElem_cons_zero, List.getElem_cons_succ, Act.put, List.setIfInBounds_toArray, List.set_cons_zero, List.set_cons_succ]
          obtain ⟨Ap, cp, rfl⟩ := H.sliceN (n := j + 1) .head (by simp [carryTs_len]; omega)
          have hr_ := H.rules; simp only [Rules, and_true] at hr_; have hd_ := H.dif; simp only [Dif, Neq, and_true] at hd_; obtain ⟨ho_, hz_⟩ := H.old0
          refine wpL_do (i := 13) rfl (by kernel_rfl) (by rfl) (fun K_ hK_ => ?_)
          go_simp
          clear hr_ hd_ ho_ hz_
          refine kontH (by (repeat (first | with_reducible exact H | with_reducible exact H0_ | with_reducible apply Hp.alloc | with_reducible apply Hp.allocMap | with_reducible apply Hp.drew | with_reducible apply Hp.drewN | with_reducible apply Hp.set)); (try any_goals (repeat (first | with_reducible exact Upd.head | with_reducible apply Upd.tail)))) ?_
          clear H; intro w10 H; (try simp only [size_drew_, size_drewN_, World.size_alloc, World.size_setCell, List.set_cons_zero, List.set_cons_succ] at H)
          refine hK_ _ _ (fun h => absurd (by decide) h) (fun _ => ?_)
          refine wpL_done (by kernel_rfl) ?_ _
          go_wp2_with fail
          go_roundw
          case rel =>
            (repeat apply Exists.intro)
            refine ⟨⟨j + 1, by omega, by go_num, _, by rw [take_map _ (by rw [carryTs_len]; exact hlt), carryTs_get _ _ _ hlt]; exact (H.arr (by (repeat (first | with_reducible exact Arr.nil | refine Arr.cons (by (repeat (first | with_reducible exact Pick.head | with_reducible apply Pick.tail))) ?_))))⟩, ?_⟩
            rfl
          case measure => simp [intOf]; omega
        · obtain ⟨Ao, co, rfl⟩ := H.sliceN (n := ks.length) (ds := ((carryTs ds at_ ks).take j).map Tm.d) (by (repeat (first | with_reducible exact Pick.head | with_reducible apply Pick.tail))) (by simp [carryTs_len]; omega)
          rw [take_all (by rw [carryTs_len]; exact hlt)] at H
          have hr_ := H.rules; simp only [Rules, and_true] at hr_; have hd_ := H.dif; simp only [Dif, Neq, and_true] at hd_; obtain ⟨ho_, hz_⟩ := H.old0
          go_wp2_with ((with_reducible refine atStore (t := 30) ?_); go_must (refine wpList_storeH (t := 30) rfl rfl (by go_simp <;> first | rfl | exact ⟨rfl, rfl⟩) (by go_simp <;> first | rfl | exact ⟨rfl, rfl⟩) (by exact Hp.norm (by (repeat (first | with_reducible exact H | with_reducible exact H0_ | with_reducible apply Hp.alloc | with_reducible apply Hp.allocMap | with_reducible apply Hp.drew | with_reducible apply Hp.drewN | with_reducible apply Hp.set)); (try any_goals (repeat (first | with_reducible exact Upd.head | with_reducible apply Upd.tail)))) (by ((try simp only [size_drew_, size_drewN_, World.size_alloc, World.size_setCell, List.set_cons_zero, List.set_cons_succ, List.nil_append, List.cons_append]) <;> rfl))) (by (repeat (first | with_reducible exact Upd.head | with_reducible apply Upd.tail))) (by exact aggTerm) (by rfl) (by simp [Value.oneCell']) ?_; clear H; intro w7 H; (try simp only [size_drew_, size_drewN_, World.size_alloc, World.size_setCell, List.set_cons_zero, List.set_cons_succ] at H); (try clear hr_ hd_ ho_ hz_); have hr_ := H.rules; simp only [Rules, and_true] at hr_; have hd_ := H.dif; simp only [Dif, Neq, and_true] at hd_; obtain ⟨ho_, hz_⟩ := H.old0))
          clear hr_ hd_ ho_ hz_
          refine endH (by (repeat (first | with_reducible exact H | with_reducible exact H0_ | with_reducible apply Hp.alloc | with_reducible apply Hp.allocMap | with_reducible apply Hp.drew | with_reducible apply Hp.drewN | with_reducible apply Hp.set)); (try any_goals (repeat (first | with_reducible exact Upd.head | with_reducible apply Upd.tail)))) ?_
          clear H; intro w8 H; (try simp only [size_drew_, size_drewN_, World.size_alloc, World.size_setCell, List.set_cons_zero, List.set_cons_succ] at H)
          refine bodyPost_ret (v := .agg #[.int .i64 3, .int .i64 m, .int .i64 0, .slice A1 ls.length c1, .slice Ao ks.length co]) (Res.one Tryd.results14 (H.resBox (by (repeat (first | with_reducible exact Pick.head | with_reducible apply Pick.tail))) aggTerm rfl rfl)) rfl ?_
          rw [HE.out]
          exact (show PTm w (.mk 3 m 0 ls (carryTs ds at_ ks)) _ _ from by
            have H := H.tm (by (repeat (first | with_reducible exact Pick.head | with_reducible apply Pick.tail))) (by (repeat (first | with_reducible exact Pick.head | with_reducible apply Pick.tail))) (show inI 3 from ⟨by decide, by decide⟩) HI.out (show inI 0 from ⟨by decide, by decide⟩)
            exact H.ptmk .head rfl (carryTs_len _ _ _).symm)
end Go.Proofs.YteelplgdojjakaaDoor
