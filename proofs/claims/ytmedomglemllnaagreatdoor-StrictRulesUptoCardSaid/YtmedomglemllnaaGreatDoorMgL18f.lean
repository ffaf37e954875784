/- The kit's counts: how many parts things have: what they compute, and their contracts. No statement of the seat is proved here. -/
import Derived.Test.YtmedomglemllnaaGreatDoorMgBack
import Derived.Lib.Hide
import Derived.Test.YtmedomglemllnaaGreatDoorL18e
import Derived.Test.YtmedomglemllnaaGreatDoorMgSelf
namespace Go.Proofs.YtmedomglemllnaaGreatDoor
set_option linter.unusedSimpArgs false
set_option linter.unusedVariables false
open Go.RowKit

def levelOfS (most : Int) (x : Lv) : Int := min (1 + (x.length : Int)) (wrap64 (most + 1))
def cntS {α : Type} (f : Int → α → Int) (most : Int) : List α → Int → Int
  | [], n => n
  | x :: xs, n => if n ≤ most then cntS f most xs (f n x) else n
def levelsOfS (most : Int) (xs : List Lv) : Int := cntS (fun n x => wrap64 (n + levelOfS most x)) most xs 0
theorem cntS_drop {α : Type} {f : Int → α → Int} {most m : Int} {xs : List α} {j : Nat} (h : j < xs.length) (hm : m ≤ most) : cntS f most (xs.drop (j + 1)) (f m xs[j]) = cntS f most (xs.drop j) m := by
  rw [List.drop_eq_getElem_cons h, cntS, if_pos hm]
theorem cntS_stop {α : Type} {f : Int → α → Int} {most m : Int} {xs : List α} (hm : ¬ m ≤ most) : cntS f most xs m = m := by
  cases xs with
  | nil => rfl
  | cons x xs => rw [cntS, if_neg hm]
set_option maxHeartbeats 400000 in
theorem levelOf_calls {w : World} {S : Nat → Prop} {x : Lv} {A : Option Addr} {c : Nat} (h : RC w S (.l 237 2 (x.map ptD)) [.slice A x.length c]) (most : Int) :
    Calls Tryz.prog 104 #[.agg #[.slice A x.length c], .int .i64 most] w (PV w (.int .i64 (levelOfS most x))) := by
  have hM := h.lenM
  go_enter Tryz.func104, Tryz.ntmps104
  go_wp2_with fail
  all_goals go_ret
  all_goals refine ⟨?_, (Ext.refl _ _).alloc _⟩
  all_goals simp [levelOfS, Int.min_def]
  all_goals omega
set_option maxHeartbeats 800000 in
theorem levelsOf_calls {w : World} {S : Nat → Prop} {xs : List Lv} {A : Option Addr} {c : Nat} (h : RC w S (.l 47 1 (xs.map lvD)) [.slice A xs.length c]) (most : Int) :
    Calls Tryz.prog 184 #[.slice A xs.length c, .int .i64 most] w (PV w (.int .i64 (levelsOfS most xs))) := by
  have hM := h.lenM
  go_enter Tryz.func184, Tryz.ntmps184
  go_wp2_with fail
  go_loopw [5, 6] (fun n i wr => ∃ (j : Nat) (m : Int), j ≤ xs.length ∧ i = .int .i64 j ∧ n = .int .i64 m ∧ cntS (fun n x => wrap64 (n + levelOfS most x)) most (xs.drop j) m = levelsOfS most xs ∧ Ext no w wr) (fun _ i _ => xs.length - (intOf i).toNat)
  case atStart => exact ⟨0, 0, Nat.zero_le _, rfl, rfl, rfl, Ext.refl _ _⟩
  case round =>
    obtain ⟨j, m, hj, rfl, rfl, heq, hext⟩ := hrel
    have HE := Lib.hid heq
    clear heq
    by_cases hlt : j < xs.length
    · by_cases hm : m ≤ most
      · obtain ⟨b, o, A1, c1, rfl, hb, hS, hrc, hcell⟩ := (h.ext0 hext).atLv hlt
        go_wp2_with fail
        refine (levelOf_calls hrc most).mono ?_
        rintro e w2 ⟨rfl, hx⟩
        go_wp2_with fail
        go_roundw
        case rel => exact ⟨j + 1, _, by omega, by go_num, rfl, by rw [← HE.out, ← cntS_drop hlt hm], hext.seq hx⟩
        case measure => simp [intOf]; omega
      · go_wp2_with fail
        go_ret
        exact ⟨by rw [← HE.out, cntS_stop (by omega)]; rfl, hext⟩
    · go_wp2_with fail
      go_ret
      exact ⟨by rw [← HE.out, List.drop_eq_nil_of_le (by omega)]; rfl, hext⟩

mutual
def termOfS : Tm → Int → Int
  | .mk _ _ _ ls ks, most => wrap64 (wrap64 (1 + levelsOfS most ls) + termsOfA ks most 0)
def termsOfA : List Tm → Int → Int → Int
  | [], _, n => n
  | t :: ts, most, n => if n ≤ most then termsOfA ts most (wrap64 (n + termOfS t (wrap64 (most - n)))) else n
end
def termsOfS (most : Int) (ts : List Tm) : Int := cntS (fun n t => wrap64 (n + termOfS t (wrap64 (most - n)))) most ts 0
theorem termsOfA_eq (ts : List Tm) (most : Int) : ∀ n, termsOfA ts most n = cntS (fun n t => wrap64 (n + termOfS t (wrap64 (most - n)))) most ts n := by
  induction ts with
  | nil => intro n; rw [termsOfA, cntS]
  | cons t ts ih => intro n; rw [termsOfA, cntS, ih]
theorem termOfS_eq (t : Tm) (most : Int) : termOfS t most = wrap64 (wrap64 (1 + levelsOfS most t.ls) + termsOfS most t.ks) := by
  cases t; rw [termOfS, termsOfA_eq]; rfl
def TermOfOK (t : Tm) : Prop := ∀ (w : World) (S : Nat → Prop) (v : Value) (most : Int), TV w S t v → Calls Tryz.prog 103 #[v, .int .i64 most] w (PV w (.int .i64 (termOfS t most)))
set_option maxHeartbeats 800000 in
theorem termsOf_calls_ {w : World} {S : Nat → Prop} {ts : List Tm} {A : Option Addr} {c : Nat} (ih : ∀ t ∈ ts, TermOfOK t) (h : RC w S (.l 26 5 (ts.map Tm.d)) [.slice A ts.length c]) (most : Int) :
    Calls Tryz.prog 53 #[.slice A ts.length c, .int .i64 most] w (PV w (.int .i64 (termsOfS most ts))) := by
  have hM := h.lenM
  have IH := Lib.hid ih
  clear ih
  go_enter Tryz.func53, Tryz.ntmps53
  go_wp2_with fail
  go_loopw [5, 6] (fun n i wr => ∃ (j : Nat) (m : Int), j ≤ ts.length ∧ i = .int .i64 j ∧ n = .int .i64 m ∧ cntS (fun n t => wrap64 (n + termOfS t (wrap64 (most - n)))) most (ts.drop j) m = termsOfS most ts ∧ Ext no w wr) (fun _ i _ => ts.length - (intOf i).toNat)
  case atStart => exact ⟨0, 0, Nat.zero_le _, rfl, rfl, rfl, Ext.refl _ _⟩
  case round =>
    obtain ⟨j, m, hj, rfl, rfl, heq, hext⟩ := hrel
    have HE := Lib.hid heq
    clear heq
    by_cases hlt : j < ts.length
    · by_cases hm : m ≤ most
      · obtain ⟨b, o, A1, ca, K1, ck, rfl, hb, hS, hd, p0, p1, p2, p3, p4⟩ := (h.ext0 hext).atTm hlt
        have HD := Lib.hid hd
        clear hd
        go_wp2_with fail
        refine (IH.out ts[j] (by simp) _ _ _ _ ⟨_, _, _, _, rfl, HD.out⟩).mono ?_
        rintro e w2 ⟨rfl, hx⟩
        go_wp2_with fail
        go_roundw
        case rel => exact ⟨j + 1, _, by omega, by go_num, rfl, by rw [← HE.out, ← cntS_drop hlt (by omega)], hext.seq hx⟩
        case measure => simp [intOf]; omega
      · go_wp2_with fail
        go_ret
        exact ⟨by rw [← HE.out, cntS_stop (by omega)]; rfl, hext⟩
    · go_wp2_with fail
      go_ret
      exact ⟨by rw [← HE.out, List.drop_eq_nil_of_le (by omega)]; rfl, hext⟩
set_option maxRecDepth 100000 in
set_option maxHeartbeats 800000 in
theorem termOf_calls : ∀ t : Tm, TermOfOK t := by
  intro t
  induction t using Tm.ind_ with
  | h tk tn ta ls ks ih =>
  rintro w S v most ⟨A0, ca, K0, ck, rfl, hrc⟩
  obtain ⟨_, _, _, _, he, i1, i2, i3, hls, hks⟩ := RC.tm.1 hrc
  simp only [List.cons.injEq, Value.slice.injEq, and_true, true_and] at he
  obtain ⟨⟨rfl, rfl⟩, rfl, rfl⟩ := he
  have IH := Lib.hid ih
  have HE := Lib.hid (termOfS_eq (.mk tk tn ta ls ks) most)
  clear ih hrc
  simp only [Tm.k_mk, Tm.n_mk, Tm.a_mk, Tm.ls_mk, Tm.ks_mk] at hls hks HE ⊢
  go_enter Tryz.func103, Tryz.ntmps103
  go_wp2_with fail
  have H := Hp.start no w
  refine regionH (by (repeat (first | with_reducible exact H | with_reducible exact H0_ | with_reducible apply Hp.alloc | with_reducible apply Hp.allocMap | with_reducible apply Hp.drew | with_reducible apply Hp.drewN | with_reducible apply Hp.set)); (try any_goals (repeat (first | with_reducible exact Upd.head | with_reducible apply Upd.tail)))) ?_
  clear H; intro w1 H; (try simp only [size_drew_, size_drewN_, World.size_alloc, World.size_setCell, List.set_cons_zero, List.set_cons_succ] at H)
  refine wp_region_H 11 [false, false, false, false, false, false, false, false, false, false, false] [] H (.cons (i := 0) rfl .nil) (by kernel_rfl) rfl rfl (fun H_ hR_ => ?_)
  (try clear H0_); have H0_ := H; clear H; have H := H_; clear H_
  refine wpL_reads (is := [(0, ?v1_0), (1, ?v1_1), (2, ?v1_2), (5, ?v1_3), (6, ?v1_4), (7, ?v1_5)]) (by kernel_rfl) (Nat.le_of_ble_eq_true rfl) (by intro _ _ d_ _ _ h_; cases d_ <;> exact h_) (by kernel_rfl) hR_ (fun w_ hw_ => ?h1_) ?_
  case h1_ =>
    have ho_ := hw_.old0.1; have hz_ := hw_.old0.2; have hr_ := hw_.rules; clear hw_; simp only [Rules, and_true] at hr_; go_split_ands
    (repeat (first | with_reducible exact RdOps.nil | (refine RdOps.run rfl (by rfl) ?_ ?_; (focus (first | (go_simp; done) | (go_simp; with_reducible rfl))); simp only [List.getElem_toArray, List.getElem_cons_zero, List.getElem_cons_succ, Act.put, List.setIfInBounds_toArray, List.set_cons_zero, List.set_cons_succ]) | (refine RdOps.skip rfl (by rfl) ?_; simp only [List.getElem_toArray, List.getElem_cons_zero, List.getElem_cons_succ, Act.put, List.setIfInBounds_toArray, List.set_cons_zero, List.set_cons_succ])))
  simp only [rdMark, rdAct, List.map_cons, List.map_nil, List.length_cons, List.length_nil, Nat.reduceAdd, Nat.reduceSub, Nat.zero_add, List.getElem?_toArray, List.getElem?_cons_zero, List.getElem?_cons_succ, Option.bind_some, Act.put, List.setIfInBounds_toArray, List.set_cons_zero, List.set_cons_succ]
  refine wpL_do (i := 3) rfl (by kernel_rfl) (by rfl) (fun K_ hK_ => ?_)
  go_simp
  refine (levelsOf_calls (hls.ext0 H.ext) most).mono ?_
  rintro e w2 ⟨rfl, hx⟩
  replace H := H.call hx
  clear hx
  refine hK_ _ _ (fun _ => H.sub (by simp)) (fun hR_ => ?_)
  replace hR_ := hR_ (by decide)
  refine wpL_reads (is := [(4, ?v2_0)]) (by kernel_rfl) (Nat.le_of_ble_eq_true rfl) (by intro _ _ d_ _ _ h_; cases d_ <;> exact h_) (by kernel_rfl) hR_ (fun w_ hw_ => ?h2_) ?_
  case h2_ =>
    have ho_ := hw_.old0.1; have hz_ := hw_.old0.2; have hr_ := hw_.rules; clear hw_; simp only [Rules, and_true] at hr_; go_split_ands
    (repeat (first | with_reducible exact RdOps.nil | (refine RdOps.run rfl (by rfl) ?_ ?_; (focus (first | (go_simp; done) | (go_simp; with_reducible rfl))); simp only [List.getElem_toArray, List.getElem_cons_zero, List.getElem_cons_succ, Act.put, List.setIfInBounds_toArray, List.set_cons_zero, List.set_cons_succ]) | (refine RdOps.skip rfl (by rfl) ?_; simp only [List.getElem_toArray, List.getElem_cons_zero, List.getElem_cons_succ, Act.put, List.setIfInBounds_toArray, List.set_cons_zero, List.set_cons_succ])))
  simp only [rdMark, rdAct, List.map_cons, List.map_nil, List.length_cons, List.length_nil, Nat.reduceAdd, Nat.reduceSub, Nat.zero_add, List.getElem?_toArray, List.getElem?_cons_zero, List.getElem?_cons_succ, Option.bind_some, Act.put, List.setIfInBounds_toArray, List.set_cons_zero, List.set_cons_succ]
  refine wpL_do (i := 8) rfl (by kernel_rfl) (by rfl) (fun K_ hK_ => ?_)
  go_simp
  refine (termsOf_calls_ (fun t ht => IH.out t ht) (hks.ext0 H.ext) most).mono ?_
  rintro e w3 ⟨rfl, hx⟩
  replace H := H.call hx
  clear hx
  refine hK_ _ _ (fun _ => H.sub (by simp)) (fun hR_ => ?_)
  replace hR_ := hR_ (by decide)
  refine wpL_reads (is := [(9, ?v3_0), (10, ?v3_1)]) (by kernel_rfl) (Nat.le_of_ble_eq_true rfl) (by intro _ _ d_ _ _ h_; cases d_ <;> exact h_) (by kernel_rfl) hR_ (fun w_ hw_ => ?h3_) ?_
  case h3_ =>
    have ho_ := hw_.old0.1; have hz_ := hw_.old0.2; have hr_ := hw_.rules; clear hw_; simp only [Rules, and_true] at hr_; go_split_ands
    (repeat (first | with_reducible exact RdOps.nil | (refine RdOps.run rfl (by rfl) ?_ ?_; (focus (first | (go_simp; done) | (go_simp; with_reducible rfl))); simp only [List.getElem_toArray, List.getElem_cons_zero, List.getElem_cons_succ, Act.put, List.setIfInBounds_toArray, List.set_cons_zero, List.set_cons_succ]) | (refine RdOps.skip rfl (by rfl) ?_; simp only [List.getElem_toArray, List.getElem_cons_zero, List.getElem_cons_succ, Act.put, List.setIfInBounds_toArray, List.set_cons_zero, List.set_cons_succ])))
  simp only [rdMark, rdAct, List.map_cons, List.map_nil, List.length_cons, List.length_nil, Nat.reduceAdd, Nat.reduceSub, Nat.zero_add, List.getElem?_toArray, List.getElem?_cons_zero, List.getElem?_cons_succ, Option.bind_some, Act.put, List.setIfInBounds_toArray, List.set_cons_zero, List.set_cons_succ]
  refine wpL_done (by kernel_rfl) ?_ _
  go_wp2_with fail
  go_ret
  exact ⟨by rw [HE.out]; simp only [wrapE]; rfl, H.ext⟩
end Go.Proofs.YtmedomglemllnaaGreatDoor
/- The kit's counts of declarations: contracts. No statement of the seat is proved here. -/
namespace Go.Proofs.YtmedomglemllnaaGreatDoor
set_option linter.unusedSimpArgs false
set_option linter.unusedVariables false
open Go.RowKit

theorem termsOf_calls {w : World} {S : Nat → Prop} {ts : List Tm} {A : Option Addr} {c : Nat} (h : RC w S (.l 26 5 (ts.map Tm.d)) [.slice A ts.length c]) (most : Int) :
    Calls Tryz.prog 53 #[.slice A ts.length c, .int .i64 most] w (PV w (.int .i64 (termsOfS most ts))) := termsOf_calls_ (fun t _ => termOf_calls t) h most
def memberF (most n : Int) (x : Mb) : Int := wrap64 (wrap64 (n + 1) + termsOfS most x.index)
def ctorF (most n : Int) (x : Ct) : Int := wrap64 (wrap64 (n + 1) + termOfS x.ty most)
set_option maxRecDepth 100000 in
set_option maxHeartbeats 1000000 in
theorem membersOf_calls {w : World} {S : Nat → Prop} {xs : List Mb} {A : Option Addr} {c : Nat} (h : RC w S (.l 73 1 (xs.map Mb.d)) [.slice A xs.length c]) (most : Int) :
    Calls Tryz.prog 105 #[.slice A xs.length c, .int .i64 most] w (PV w (.int .i64 (cntS (memberF most) most xs 0))) := by
  have hM := h.lenM
  go_enter Tryz.func105, Tryz.ntmps105
  go_wp2_with fail
  have H := Hp.start no w
  go_loopw [5, 6] (fun n i wr => ∃ (j : Nat) (m : Int), j ≤ xs.length ∧ i = .int .i64 j ∧ n = .int .i64 m ∧ cntS (memberF most) most (xs.drop j) m = cntS (memberF most) most xs 0 ∧ Hp no w wr []) (fun _ i _ => xs.length - (intOf i).toNat)
  case atStart => exact ⟨0, 0, Nat.zero_le _, rfl, rfl, rfl, H⟩
  case round =>
    clear H
    obtain ⟨j, m, hj, rfl, rfl, heq, H⟩ := hrel
    have HE := Lib.hid heq
    clear heq
    by_cases hlt : j < xs.length
    · by_cases hm : m ≤ most
      · obtain ⟨b, o, A1, c1, rfl, hb, hS, hrc, p0⟩ := h.atMb hlt
        have HR := Lib.hid hrc
        clear hrc
        have hr_ := H.rules; simp only [Rules, and_true] at hr_; have hd_ := H.dif; simp only [Dif, Neq, and_true] at hd_; obtain ⟨ho_, hz_⟩ := H.old0
        go_wp2_with fail
        clear hr_ hd_ ho_ hz_
        refine (termsOf_calls (HR.out.mbI.ext0 H.ext) most).mono ?_
        rintro e w_ ⟨rfl, hx⟩
        replace H := H.call hx
        clear hx
        have E := Lib.hid (cntS_drop (f := memberF most) hlt hm)
        go_wp2_with fail
        go_roundw
        case rel => exact ⟨j + 1, _, by omega, by go_num, rfl, by first | (rw [← HE.out, ← E.out]; simp only [memberF, wrapE]; done) | (rw [← HE.out, ← E.out]; rfl), H⟩
        case measure => simp [intOf]; omega
      · go_wp2_with fail
        go_ret
        exact ⟨by rw [← HE.out, cntS_stop (by omega)]; rfl, H.ext⟩
    · go_wp2_with fail
      go_ret
      exact ⟨by rw [← HE.out, List.drop_eq_nil_of_le (by omega)]; rfl, H.ext⟩

set_option maxRecDepth 100000 in
set_option maxHeartbeats 1000000 in
theorem ctorsOf_calls {w : World} {S : Nat → Prop} {xs : List Ct} {A : Option Addr} {c : Nat} (h : RC w S (.l 148 6 (xs.map Ct.d)) [.slice A xs.length c]) (most : Int) :
    Calls Tryz.prog 106 #[.slice A xs.length c, .int .i64 most] w (PV w (.int .i64 (cntS (ctorF most) most xs 0))) := by
  have hM := h.lenM
  go_enter Tryz.func106, Tryz.ntmps106
  go_wp2_with fail
  have H := Hp.start no w
  go_loopw [5, 6] (fun n i wr => ∃ (j : Nat) (m : Int), j ≤ xs.length ∧ i = .int .i64 j ∧ n = .int .i64 m ∧ cntS (ctorF most) most (xs.drop j) m = cntS (ctorF most) most xs 0 ∧ Hp no w wr []) (fun _ i _ => xs.length - (intOf i).toNat)
  case atStart => exact ⟨0, 0, Nat.zero_le _, rfl, rfl, rfl, H⟩
  case round =>
    clear H
    obtain ⟨j, m, hj, rfl, rfl, heq, H⟩ := hrel
    have HE := Lib.hid heq
    clear heq
    by_cases hlt : j < xs.length
    · by_cases hm : m ≤ most
      · obtain ⟨b, o, A1, c1, K1, k1, rfl, hb, hS, hrc, p0, p1, p2, p3, p4, p5⟩ := h.atCt hlt
        have HR := Lib.hid hrc
        clear hrc
        have hr_ := H.rules; simp only [Rules, and_true] at hr_; have hd_ := H.dif; simp only [Dif, Neq, and_true] at hd_; obtain ⟨ho_, hz_⟩ := H.old0
        go_wp2_with fail
        clear hr_ hd_ ho_ hz_
        refine (termOf_calls _ _ S _ most ⟨_, _, _, _, rfl, HR.out.ctT.ext0 H.ext⟩).mono ?_
        rintro e w_ ⟨rfl, hx⟩
        replace H := H.call hx
        clear hx
        have E := Lib.hid (cntS_drop (f := ctorF most) hlt hm)
        go_wp2_with fail
        go_roundw
        case rel => exact ⟨j + 1, _, by omega, by go_num, rfl, by first | (rw [← HE.out, ← E.out]; simp only [ctorF, wrapE]; done) | (rw [← HE.out, ← E.out]; rfl), H⟩
        case measure => simp [intOf]; omega
      · go_wp2_with fail
        go_ret
        exact ⟨by rw [← HE.out, cntS_stop (by omega)]; rfl, H.ext⟩
    · go_wp2_with fail
      go_ret
      exact ⟨by rw [← HE.out, List.drop_eq_nil_of_le (by omega)]; rfl, H.ext⟩

def declOfS (most : Int) (d : Dc) : Int := wrap64 (wrap64 (wrap64 (wrap64 (wrap64 (wrap64 (1 + termOfS d.ty most) + termOfS d.body most) + termsOfS most d.params) + levelOfS most d.sort) + cntS (memberF most) most d.members 0) + cntS (ctorF most) most d.ctors 0)
set_option maxRecDepth 100000 in
set_option maxHeartbeats 2000000 in
theorem declOf_calls {w : World} {S : Nat → Prop} {d : Dc} {cs : List Value} (h : RC w S d.d cs) (most : Int) :
    Calls Tryz.prog 31 #[.agg cs.toArray, .int .i64 most] w (PV w (.int .i64 (declOfS most d))) := by
  obtain ⟨Aty, cty, Kty, kty, Abody, cbody, Kbody, kbody, Aparams, cparams, Asort, csort, Amembers, cmembers, Actors, cctors, rfl, i1, i2, hty, hbody, hparams, hsort, hmembers, hctors⟩ := RC.dc.1 h
  clear h
  go_enter Tryz.func31, Tryz.ntmps31
  go_wp2_with fail
  have H := Hp.start no w
  refine regionH (by (repeat (first | with_reducible exact H | with_reducible exact H0_ | with_reducible apply Hp.alloc | with_reducible apply Hp.allocMap | with_reducible apply Hp.drew | with_reducible apply Hp.drewN | with_reducible apply Hp.set)); (try any_goals (repeat (first | with_reducible exact Upd.head | with_reducible apply Upd.tail)))) ?_
  clear H; intro w1 H; (try simp only [size_drew_, size_drewN_, World.size_alloc, World.size_setCell, List.set_cons_zero, List.set_cons_succ] at H)
  refine wp_region_H 31 [false, false, false, false, false, false, false, false, false, false, false, false, false, false, false, false, false, false, false, false, false, false, false, false, false, false, false, false, false, false, false] [] H (.cons (i := 0) rfl .nil) (by kernel_rfl) rfl rfl (fun H_ hR_ => ?_)
  (try clear H0_); have H0_ := H; clear H; have H := H_; clear H_
  refine wpL_reads (is := [(0, ?v1_0), (1, ?v1_1), (2, ?v1_2), (5, ?v1_3), (6, ?v1_4), (7, ?v1_5), (10, ?v1_6), (11, ?v1_7), (12, ?v1_8), (15, ?v1_9), (16, ?v1_10), (17, ?v1_11), (20, ?v1_12), (21, ?v1_13), (22, ?v1_14), (25, ?v1_15), (26, ?v1_16), (27, ?v1_17)]) (by kernel_rfl) (Nat.le_of_ble_eq_true rfl) (by intro _ _ d_ _ _ h_; cases d_ <;> exact h_) (by kernel_rfl) hR_ (fun w_ hw_ => ?h1_) ?_
  case h1_ =>
    have ho_ := hw_.old0.1; have hz_ := hw_.old0.2; have hr_ := hw_.rules; clear hw_; simp only [Rules, and_true] at hr_; go_split_ands
    (repeat (first | with_reducible exact RdOps.nil | (refine RdOps.run rfl (by rfl) ?_ ?_; (focus (first | (go_simp; done) | (go_simp; with_reducible rfl))); simp only [List.getElem_toArray, List.getElem_cons_zero, List.getElem_cons_succ, Act.put, List.setIfInBounds_toArray, List.set_cons_zero, List.set_cons_succ]) | (refine RdOps.skip rfl (by rfl) ?_; simp only [List.getElem_toArray, List.getElem_cons_zero, List.getElem_cons_succ, Act.put, List.setIfInBounds_toArray, List.set_cons_zero, List.set_cons_succ])))
  simp only [rdMark, rdAct, List.map_cons, List.map_nil, List.length_cons, List.length_nil, Nat.reduceAdd, Nat.reduceSub, Nat.zero_add, List.getElem?_toArray, List.getElem?_cons_zero, List.getElem?_cons_succ, Option.bind_some, Act.put, List.setIfInBounds_toArray, List.set_cons_zero, List.set_cons_succ]
  refine wpL_do (i := 3) rfl (by kernel_rfl) (by rfl) (fun K_ hK_ => ?_)
  go_simp
  refine (termOf_calls _ _ S _ most ⟨_, _, _, _, rfl, hty.ext0 H.ext⟩).mono ?_
  rintro e w_ ⟨rfl, hx⟩
  replace H := H.call hx
  clear hx
  refine hK_ _ _ (fun _ => H.sub (by simp)) (fun hR_ => ?_)
  replace hR_ := hR_ (by decide)
  refine wpL_reads (is := [(4, ?v2_0)]) (by kernel_rfl) (Nat.le_of_ble_eq_true rfl) (by intro _ _ d_ _ _ h_; cases d_ <;> exact h_) (by kernel_rfl) hR_ (fun w_ hw_ => ?h2_) ?_
  case h2_ =>
    have ho_ := hw_.old0.1; have hz_ := hw_.old0.2; have hr_ := hw_.rules; clear hw_; simp only [Rules, and_true] at hr_; go_split_ands
    (repeat (first | with_reducible exact RdOps.nil | (refine RdOps.run rfl (by rfl) ?_ ?_; (focus (first | (go_simp; done) | (go_simp; with_reducible rfl))); simp only [List.getElem_toArray, List.getElem_cons_zero, List.getElem_cons_succ, Act.put, List.setIfInBounds_toArray, List.set_cons_zero, List.set_cons_succ]) | (refine RdOps.skip rfl (by rfl) ?_; simp only [List.getElem_toArray, List.getElem_cons_zero, List.getElem_cons_succ, Act.put, List.setIfInBounds_toArray, List.set_cons_zero, List.set_cons_succ])))
  simp only [rdMark, rdAct, List.map_cons, List.map_nil, List.length_cons, List.length_nil, Nat.reduceAdd, Nat.reduceSub, Nat.zero_add, List.getElem?_toArray, List.getElem?_cons_zero, List.getElem?_cons_succ, Option.bind_some, Act.put, List.setIfInBounds_toArray, List.set_cons_zero, List.set_cons_succ]
  refine wpL_do (i := 8) rfl (by kernel_rfl) (by rfl) (fun K_ hK_ => ?_)
  go_simp
  refine (termOf_calls _ _ S _ most ⟨_, _, _, _, rfl, hbody.ext0 H.ext⟩).mono ?_
  rintro e w_ ⟨rfl, hx⟩
  replace H := H.call hx
  clear hx
  refine hK_ _ _ (fun _ => H.sub (by simp)) (fun hR_ => ?_)
  replace hR_ := hR_ (by decide)
  refine wpL_reads (is := [(9, ?v3_0)]) (by kernel_rfl) (Nat.le_of_ble_eq_true rfl) (by intro _ _ d_ _ _ h_; cases d_ <;> exact h_) (by kernel_rfl) hR_ (fun w_ hw_ => ?h3_) ?_
  case h3_ =>
    have ho_ := hw_.old0.1; have hz_ := hw_.old0.2; have hr_ := hw_.rules; clear hw_; simp only [Rules, and_true] at hr_; go_split_ands
    (repeat (first | with_reducible exact RdOps.nil | (refine RdOps.run rfl (by rfl) ?_ ?_; (focus (first | (go_simp; done) | (go_simp; with_reducible rfl))); simp only [List.getElem_toArray, List.getElem_cons_zero, List.getElem_cons_succ, Act.put, List.setIfInBounds_toArray, List.set_cons_zero, List.set_cons_succ]) | (refine RdOps.skip rfl (by rfl) ?_; simp only [List.getElem_toArray, List.getElem_cons_zero, List.getElem_cons_succ, Act.put, List.setIfInBounds_toArray, List.set_cons_zero, List.set_cons_succ])))
  simp only [rdMark, rdAct, List.map_cons, List.map_nil, List.length_cons, List.length_nil, Nat.reduceAdd, Nat.reduceSub, Nat.zero_add, List.getElem?_toArray, List.getElem?_cons_zero, List.getElem?_cons_succ, Option.bind_some, Act.put, List.setIfInBounds_toArray, List.set_cons_zero, List.set_cons_succ]
  refine wpL_do (i := 13) rfl (by kernel_rfl) (by rfl) (fun K_ hK_ => ?_)
  go_simp
  refine (termsOf_calls (hparams.ext0 H.ext) most).mono ?_
  rintro e w_ ⟨rfl, hx⟩
  replace H := H.call hx
  clear hx
  refine hK_ _ _ (fun _ => H.sub (by simp)) (fun hR_ => ?_)
  replace hR_ := hR_ (by decide)
  refine wpL_reads (is := [(14, ?v4_0)]) (by kernel_rfl) (Nat.le_of_ble_eq_true rfl) (by intro _ _ d_ _ _ h_; cases d_ <;> exact h_) (by kernel_rfl) hR_ (fun w_ hw_ => ?h4_) ?_
  case h4_ =>
    have ho_ := hw_.old0.1; have hz_ := hw_.old0.2; have hr_ := hw_.rules; clear hw_; simp only [Rules, and_true] at hr_; go_split_ands
    (repeat (first | with_reducible exact RdOps.nil | (refine RdOps.run rfl (by rfl) ?_ ?_; (focus (first | (go_simp; done) | (go_simp; with_reducible rfl))); simp only [List.getElem_toArray, List.getElem_cons_zero, List.getElem_cons_succ, Act.put, List.setIfInBounds_toArray, List.set_cons_zero, List.set_cons_succ]) | (refine RdOps.skip rfl (by rfl) ?_; simp only [List.getElem_toArray, List.getElem_cons_zero, List.getElem_cons_succ, Act.put, List.setIfInBounds_toArray, List.set_cons_zero, List.set_cons_succ])))
  simp only [rdMark, rdAct, List.map_cons, List.map_nil, List.length_cons, List.length_nil, Nat.reduceAdd, Nat.reduceSub, Nat.zero_add, List.getElem?_toArray, List.getElem?_cons_zero, List.getElem?_cons_succ, Option.bind_some, Act.put, List.setIfInBounds_toArray, List.set_cons_zero, List.set_cons_succ]
  refine wpL_do (i := 18) rfl (by kernel_rfl) (by rfl) (fun K_ hK_ => ?_)
  go_simp
  refine (levelOf_calls (hsort.ext0 H.ext) most).mono ?_
  rintro e w_ ⟨rfl, hx⟩
  replace H := H.call hx
  clear hx
  refine hK_ _ _ (fun _ => H.sub (by simp)) (fun hR_ => ?_)
  replace hR_ := hR_ (by decide)
  refine wpL_reads (is := [(19, ?v5_0)]) (by kernel_rfl) (Nat.le_of_ble_eq_true rfl) (by intro _ _ d_ _ _ h_; cases d_ <;> exact h_) (by kernel_rfl) hR_ (fun w_ hw_ => ?h5_) ?_
  case h5_ =>
    have ho_ := hw_.old0.1; have hz_ := hw_.old0.2; have hr_ := hw_.rules; clear hw_; simp only [Rules, and_true] at hr_; go_split_ands
    (repeat (first | with_reducible exact RdOps.nil | (refine RdOps.run rfl (by rfl) ?_ ?_; (focus (first | (go_simp; done) | (go_simp; with_reducible rfl))); simp only [List.getElem_toArray, List.getElem_cons_zero, List.getElem_cons_succ, Act.put, List.setIfInBounds_toArray, List.set_cons_zero, List.set_cons_succ]) | (refine RdOps.skip rfl (by rfl) ?_; simp only [List.getElem_toArray, List.getElem_cons_zero, List.getElem_cons_succ, Act.put, List.setIfInBounds_toArray, List.set_cons_zero, List.set_cons_succ])))
  simp only [rdMark, rdAct, List.map_cons, List.map_nil, List.length_cons, List.length_nil, Nat.reduceAdd, Nat.reduceSub, Nat.zero_add, List.getElem?_toArray, List.getElem?_cons_zero, List.getElem?_cons_succ, Option.bind_some, Act.put, List.setIfInBounds_toArray, List.set_cons_zero, List.set_cons_succ]
  refine wpL_do (i := 23) rfl (by kernel_rfl) (by rfl) (fun K_ hK_ => ?_)
  go_simp
  refine (membersOf_calls (hmembers.ext0 H.ext) most).mono ?_
  rintro e w_ ⟨rfl, hx⟩
  replace H := H.call hx
  clear hx
  refine hK_ _ _ (fun _ => H.sub (by simp)) (fun hR_ => ?_)
  replace hR_ := hR_ (by decide)
  refine wpL_reads (is := [(24, ?v6_0)]) (by kernel_rfl) (Nat.le_of_ble_eq_true rfl) (by intro _ _ d_ _ _ h_; cases d_ <;> exact h_) (by kernel_rfl) hR_ (fun w_ hw_ => ?h6_) ?_
  case h6_ =>
    have ho_ := hw_.old0.1; have hz_ := hw_.old0.2; have hr_ := hw_.rules; clear hw_; simp only [Rules, and_true] at hr_; go_split_ands
    (repeat (first | with_reducible exact RdOps.nil | (refine RdOps.run rfl (by rfl) ?_ ?_; (focus (first | (go_simp; done) | (go_simp; with_reducible rfl))); simp only [List.getElem_toArray, List.getElem_cons_zero, List.getElem_cons_succ, Act.put, List.setIfInBounds_toArray, List.set_cons_zero, List.set_cons_succ]) | (refine RdOps.skip rfl (by rfl) ?_; simp only [List.getElem_toArray, List.getElem_cons_zero, List.getElem_cons_succ, Act.put, List.setIfInBounds_toArray, List.set_cons_zero, List.set_cons_succ])))
  simp only [rdMark, rdAct, List.map_cons, List.map_nil, List.length_cons, List.length_nil, Nat.reduceAdd, Nat.reduceSub, Nat.zero_add, List.getElem?_toArray, List.getElem?_cons_zero, List.getElem?_cons_succ, Option.bind_some, Act.put, List.setIfInBounds_toArray, List.set_cons_zero, List.set_cons_succ]
  refine wpL_do (i := 28) rfl (by kernel_rfl) (by rfl) (fun K_ hK_ => ?_)
  go_simp
  refine (ctorsOf_calls (hctors.ext0 H.ext) most).mono ?_
  rintro e w_ ⟨rfl, hx⟩
  replace H := H.call hx
  clear hx
  refine hK_ _ _ (fun _ => H.sub (by simp)) (fun hR_ => ?_)
  replace hR_ := hR_ (by decide)
  refine wpL_reads (is := [(29, ?v7_0), (30, ?v7_1)]) (by kernel_rfl) (Nat.le_of_ble_eq_true rfl) (by intro _ _ d_ _ _ h_; cases d_ <;> exact h_) (by kernel_rfl) hR_ (fun w_ hw_ => ?h7_) ?_
  case h7_ =>
    have ho_ := hw_.old0.1; have hz_ := hw_.old0.2; have hr_ := hw_.rules; clear hw_; simp only [Rules, and_true] at hr_; go_split_ands
    (repeat (first | with_reducible exact RdOps.nil | (refine RdOps.run rfl (by rfl) ?_ ?_; (focus (first | (go_simp; done) | (go_simp; with_reducible rfl))); simp only [List.getElem_toArray, List.getElem_cons_zero, List.getElem_cons_succ, Act.put, List.setIfInBounds_toArray, List.set_cons_zero, List.set_cons_succ]) | (refine RdOps.skip rfl (by rfl) ?_; simp only [List.getElem_toArray, List.getElem_cons_zero, List.getElem_cons_succ, Act.put, List.setIfInBounds_toArray, List.set_cons_zero, List.set_cons_succ])))
  simp only [rdMark, rdAct, List.map_cons, List.map_nil, List.length_cons, List.length_nil, Nat.reduceAdd, Nat.reduceSub, Nat.zero_add, List.getElem?_toArray, List.getElem?_cons_zero, List.getElem?_cons_succ, Option.bind_some, Act.put, List.setIfInBounds_toArray, List.set_cons_zero, List.set_cons_succ]
  refine wpL_done (by kernel_rfl) ?_ _
  go_wp2_with fail
  go_ret
  exact ⟨by simp only [declOfS, wrapE]; rfl, H.ext⟩
def declF (most n : Int) (d : Dc) : Int := wrap64 (n + declOfS most d)
set_option maxRecDepth 100000 in
set_option maxHeartbeats 1000000 in
theorem declsOf_calls {w : World} {S : Nat → Prop} {xs : List Dc} {A : Option Addr} {c : Nat} (h : RC w S (.l 51 16 (xs.map Dc.d)) [.slice A xs.length c]) (most : Int) :
    Calls Tryz.prog 81 #[.slice A xs.length c, .int .i64 most] w (PV w (.int .i64 (cntS (declF most) most xs 0))) := by
  have hM := h.lenM
  go_enter Tryz.func81, Tryz.ntmps81
  go_wp2_with fail
  have H := Hp.start no w
  go_loopw [5, 6] (fun n i wr => ∃ (j : Nat) (m : Int), j ≤ xs.length ∧ i = .int .i64 j ∧ n = .int .i64 m ∧ cntS (declF most) most (xs.drop j) m = cntS (declF most) most xs 0 ∧ Hp no w wr []) (fun _ i _ => xs.length - (intOf i).toNat)
  case atStart => exact ⟨0, 0, Nat.zero_le _, rfl, rfl, rfl, H⟩
  case round =>
    clear H
    obtain ⟨j, m, hj, rfl, rfl, heq, H⟩ := hrel
    have HE := Lib.hid heq
    clear heq
    by_cases hlt : j < xs.length
    · by_cases hm : m ≤ most
      · obtain ⟨b, o, cs, rfl, hb, hS, hd, hl, hcell⟩ := h.el (i := j) (d := xs[j].d) (by simp [hlt])
        have HI := Lib.hid hcell
        have HL := Lib.hid hl
        have HR := Lib.hid hd
        clear hcell hl hd
        have hr_ := H.rules; simp only [Rules, and_true] at hr_; have hd_ := H.dif; simp only [Dif, Neq, and_true] at hd_; obtain ⟨ho_, hz_⟩ := H.old0
        go_wp2_with ((with_reducible refine atLoad (t := 51) ?_); (refine wpList_run (v := .agg (cs).toArray) rfl (run_loadL aggDecl rfl ?_ HL.out (H.lies hb no_not HI.out)) ?_); (focus (go_simp; done)))
        clear hr_ hd_ ho_ hz_
        refine (declOf_calls (HR.out.ext0 H.ext) most).mono ?_
        rintro e w_ ⟨rfl, hx⟩
        replace H := H.call hx
        clear hx
        have E := Lib.hid (cntS_drop (f := declF most) hlt hm)
        go_wp2_with fail
        go_roundw
        case rel => exact ⟨j + 1, _, by omega, by go_num, rfl, by first | (rw [← HE.out, ← E.out]; simp only [declF, wrapE]; done) | (rw [← HE.out, ← E.out]; rfl), H⟩
        case measure => simp [intOf]; omega
      · go_wp2_with fail
        go_ret
        exact ⟨by rw [← HE.out, cntS_stop (by omega)]; rfl, H.ext⟩
    · go_wp2_with fail
      go_ret
      exact ⟨by rw [← HE.out, List.drop_eq_nil_of_le (by omega)]; rfl, H.ext⟩
end Go.Proofs.YtmedomglemllnaaGreatDoor
/- law 18: Deep, great: contracts. No statement of the seat is proved here. -/
namespace Go.Proofs.YtmedomglemllnaaGreatDoor
set_option linter.unusedSimpArgs false
set_option linter.unusedVariables false
open Go.RowKit

def PNum18 (w : World) (e : Ending) (w' : World) : Prop := ∃ n : Int, e = .returned (.int .i64 n) ∧ Ext no w w'
def DeepOK (t : Tm) : Prop := ∀ (w : World) (S : Nat → Prop) (v : Value) (most : Int), TV w S t v → Calls Tryz.prog 203 #[v, .int .i64 most] w (PNum18 w)
set_option maxRecDepth 100000 in
set_option maxHeartbeats 4000000 in
theorem deep18_calls : ∀ t : Tm, DeepOK t := by
  intro t
  induction t using Tm.ind_ with
  | h tk tn ta ls ks ih =>
  rintro w S v most ⟨A0, ca, K0, ck, rfl, hrc⟩
  obtain ⟨_, _, _, _, he, i1, i2, i3, hls, hks⟩ := RC.tm.1 hrc
  simp only [List.cons.injEq, Value.slice.injEq, and_true, true_and] at he
  obtain ⟨⟨rfl, rfl⟩, rfl, rfl⟩ := he
  have IH := Lib.hid ih
  simp only [Tm.k_mk, Tm.n_mk, Tm.a_mk, Tm.ls_mk, Tm.ks_mk] at hls hks ⊢
  have hM := hks.lenM
  have HKS := Lib.hid hks
  clear ih hrc hls hks i1 i2 i3
  go_enter Tryz.func203, Tryz.ntmps203
  have H := Hp.start no w
  go_wp2_with fail
  refine codeH (by (repeat (first | with_reducible exact H | with_reducible exact H0_ | with_reducible apply Hp.alloc | with_reducible apply Hp.allocMap | with_reducible apply Hp.drew | with_reducible apply Hp.drewN | with_reducible apply Hp.set)); (try any_goals (repeat (first | with_reducible exact Upd.head | with_reducible apply Upd.tail)))) ?_
  clear H; intro w1 H; (try simp only [size_drew_, size_drewN_, World.size_alloc, World.size_setCell, List.set_cons_zero, List.set_cons_succ] at H)
  go_loopw [5, 6] (fun n i wr => ∃ (j : Nat) (m : Int), j ≤ ks.length ∧ i = .int .i64 j ∧ n = .int .i64 m ∧ Hp no w wr [.box w.heap.size 26 [.int .i64 tk, .int .i64 tn, .int .i64 ta, .slice A0 ls.length ca, .slice K0 ks.length ck]]) (fun _ i _ => ks.length - (intOf i).toNat)
  case atStart => exact ⟨0, 0, Nat.zero_le _, rfl, rfl, H⟩
  case round =>
    clear H
    obtain ⟨j, m, hj, rfl, rfl, H⟩ := hrel
    by_cases hlt : j < ks.length
    · by_cases hm : 0 < most
      · obtain ⟨b_, o, B1, ca1, L1, ck1, rfl, hb, hS, hd, p0, p1, p2, p3, p4⟩ := HKS.out.atTm hlt
        have HD := Lib.hid hd
        clear hd hS
        have hr_ := H.rules; simp only [Rules, and_true] at hr_; have hd_ := H.dif; simp only [Dif, Neq, and_true] at hd_; obtain ⟨ho_, hz_⟩ := H.old0
        go_wp2_with fail
        (try clear hr_ hd_ ho_ hz_)
        refine callsH (by (repeat (first | with_reducible exact H | with_reducible exact H0_ | with_reducible apply Hp.alloc | with_reducible apply Hp.allocMap | with_reducible apply Hp.drew | with_reducible apply Hp.drewN | with_reducible apply Hp.set)); (try any_goals (repeat (first | with_reducible exact Upd.head | with_reducible apply Upd.tail)))) ?_
        clear H; intro w2 H; (try simp only [size_drew_, size_drewN_, World.size_alloc, World.size_setCell, List.set_cons_zero, List.set_cons_succ] at H)
        refine (IH.out ks[j] (by simp) w2 S _ _ ⟨_, _, _, _, rfl, HD.out.ext0 H.ext⟩).mono ?_
        rintro e w3 ⟨z, rfl, hx⟩
        replace H := H.call hx
        clear hx
        go_wp2_with fail
        go_roundw
        case rel => exact ⟨j + 1, _, by omega, by first | go_num | rfl | simp, rfl, (H.arr (by (repeat (first | with_reducible exact Arr.nil | refine Arr.cons (by (repeat (first | with_reducible exact Pick.head | with_reducible apply Pick.tail))) ?_)) <;> exact Arr.of_subl (by (repeat (first | with_reducible exact Subl.refl _ | with_reducible apply Subl.drop)))))⟩
        case measure => first | (simp [intOf]; done) | (simp [intOf]; omega)
      · have hr_ := H.rules; simp only [Rules, and_true] at hr_; have hd_ := H.dif; simp only [Dif, Neq, and_true] at hd_; obtain ⟨ho_, hz_⟩ := H.old0
        go_wp2_with fail
        (try clear hr_ hd_ ho_ hz_)
        go_ret
        exact ⟨_, rfl, H.ext⟩
    · have hr_ := H.rules; simp only [Rules, and_true] at hr_; have hd_ := H.dif; simp only [Dif, Neq, and_true] at hd_; obtain ⟨ho_, hz_⟩ := H.old0
      go_wp2_with fail
      (try clear hr_ hd_ ho_ hz_)
      go_ret
      exact ⟨_, rfl, H.ext⟩
end Go.Proofs.YtmedomglemllnaaGreatDoor
