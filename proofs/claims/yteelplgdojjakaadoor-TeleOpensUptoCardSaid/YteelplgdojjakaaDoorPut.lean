/- term: Put: the turning function; contract. No statement of the seat is proved here. -/
import Derived.Test.YteelplgdojjakaaDoorWalkG
import Derived.Test.YteelplgdojjakaaDoorOpen
namespace Go.Proofs.YteelplgdojjakaaDoor
set_option linter.unusedSimpArgs false
set_option linter.unusedVariables false
open Go.RowKit

mutual
/-- How deep a term is. -/
def depthT : Tm → Nat
  | .mk _ _ _ _ ks => depthsT ks + 1
def depthsT : List Tm → Nat
  | [] => 0
  | t :: ts => max (depthT t) (depthsT ts)
end
theorem depthsT_get {ts : List Tm} {i : Nat} (h : i < ts.length) : depthT ts[i] ≤ depthsT ts := by
  induction ts generalizing i with
  | nil => simp at h
  | cons t ts ih =>
    rw [depthsT]
    cases i with
    | zero => simp; omega
    | succ i => have := ih (i := i) (by simpa using h); simp; omega
/-- Binders and terms that a walk from no binder meets. -/
def GPut (b : Int) (t : Tm) : Prop := 0 ≤ b ∧ b + depthT t ≤ 4611686018427387904
theorem GPut.kid : ∀ b k n a ls ks, GPut b (.mk k n a ls ks) → ∀ (i : Nat) (h : i < ks.length), GPut (downI k i b) ks[i] := by
  rintro b k n a ls ks ⟨h0, h1⟩ i h
  have h2 := depthsT_get h
  rw [depthT] at h1
  push_cast at h1
  unfold GPut downI
  split
  · unfold wrap64; omega
  · omega
/-- What becomes of a node where terms are put. -/
def putF (by_ : List Tm) : Turn := fun b t => if t.k = 1 ∧ b ≤ t.n then (if h : (t.n - b).toNat < by_.length then .inl (liftT (by_[by_.length - 1 - (t.n - b).toNat]'(by omega)) b 0) else .inr (t.k, wrap64 (t.n - by_.length), t.a, t.ls)) else .inr (t.k, t.n, t.a, t.ls)
def putT (t : Tm) (by_ : List Tm) : Tm := walkT (putF by_) 0 t
/-- The terms that are put, in their box. -/
def ByAt (bp : Nat) (A : Option Addr) (c : Nat) (Sb : Nat → Prop) (by_ : List Tm) (w : World) : Prop := w.cell? ⟨bp, 0, none⟩ = some (.slice A by_.length c) ∧ RC w Sb (.l 30 5 (by_.map Tm.d)) [.slice A by_.length c]
set_option maxRecDepth 100000 in
set_option maxHeartbeats 4000000 in
theorem put1_calls (bp : Nat) (by_ : List Tm) (Sb : Nat → Prop) (A : Option Addr) (c : Nat) : TurnG 71 #[.pointer (some ⟨bp, 0, none⟩)] (ByAt bp A c Sb by_) GPut (putF by_) := by
  refine ⟨fun w w' h hx => ⟨hx.keep h.1, h.2.ext0 hx⟩, fun args w => run_enter Tryd.func71 (by kernel_rfl) args w, ?_⟩
  rintro w S b t v ⟨hc, hby⟩ hT ⟨hb0, hbd⟩ ⟨A0, ca, K0, ck, rfl, hrc⟩
  have lc := cell_lt hc
  obtain ⟨_, _, _, _, he, i1, i2, i3, hls, hks⟩ := RC.tm.1 hrc
  clear he hls hks
  have HRC := Lib.hid hrc
  have HBY := Lib.hid hby
  have HT := Lib.hid hT
  have hM := hby.lenM
  have hi2 : t.n ≤ 9223372036854775807 := i2.2
  clear hrc hby hT i1 i2 i3 hbd
  show Calls Tryd.prog 71 #[.agg #[.int .i64 b, .func (.func 71) #[] #[.pointer (some ⟨bp, 0, none⟩)]], _, .pointer (some ⟨bp, 0, none⟩)] w _
  go_enter Tryd.func71, Tryd.ntmps71
  go_wp2_with fail
  have H := Hp.start no w
  refine callsH (by (repeat (first | with_reducible exact H | with_reducible exact H0_ | with_reducible apply Hp.alloc | with_reducible apply Hp.allocMap | with_reducible apply Hp.drew | with_reducible apply Hp.drewN | with_reducible apply Hp.set)); (try any_goals (repeat (first | with_reducible exact Upd.head | with_reducible apply Upd.tail)))) ?_
  clear H; intro w1 H; (try simp only [size_drew_, size_drewN_, World.size_alloc, World.size_setCell, List.set_cons_zero, List.set_cons_succ] at H)
  refine (means_calls b t.n).mono ?_
  rintro e w_ ⟨rfl, hx⟩
  replace H := H.call hx
  clear hx
  by_cases h1 : t.k = 1 ∧ b ≤ t.n
  · obtain ⟨hk1, hle⟩ := h1
    obtain ⟨K, hK⟩ : ∃ K : Nat, t.n - b = (K : Int) := ⟨(t.n - b).toNat, by omega⟩
    have hwk : wrap64 (t.n - b) = (K : Int) := by unfold wrap64; omega
    rw [hwk]
    have HK := Lib.hid hK
    have hKb : K ≤ 9223372036854775807 := by omega
    clear hwk hK
    by_cases hlt : K < by_.length
    · obtain ⟨m, hm⟩ : ∃ m : Nat, (by_.length : Int) - 1 - (K : Int) = (m : Int) := ⟨by_.length - 1 - K, by omega⟩
      have hmL : m < by_.length := by omega
      have hwr1 : IntKind.i64.wrap ((by_.length : Int) - 1) = (by_.length : Int) - 1 := by rw [IntKind.wrap_i64]; omega
      have hwr4 : IntKind.i64.wrap (m : Int) = (m : Int) := by rw [IntKind.wrap_i64]; omega
      obtain ⟨bb, o, A1, ca1, K1, ck1, rfl, hb1, hS1, hd, p0, p1, p2, p3, p4⟩ := HBY.out.atTm hmL
      have HD := Lib.hid hd
      clear hd
      have hr_ := H.rules; simp only [Rules, and_true] at hr_; have hd_ := H.dif; simp only [Dif, Neq, and_true] at hd_; obtain ⟨ho_, hz_⟩ := H.old0
      go_wp2_with fail
      clear hr_ hd_ ho_ hz_
      have HP : Hid (putF by_ b t = .inl (liftT by_[m] b 0)) := by
        unfold Hid putF
        rw [if_pos ⟨hk1, hle⟩, dif_pos (by have := HK.out; omega)]
        have e : by_.length - 1 - (t.n - b).toNat = m := by have := HK.out; omega
        simp only [e]
      refine regionH (by (repeat (first | with_reducible exact H | with_reducible exact H0_ | with_reducible apply Hp.alloc | with_reducible apply Hp.allocMap | with_reducible apply Hp.drew | with_reducible apply Hp.drewN | with_reducible apply Hp.set)); (try any_goals (repeat (first | with_reducible exact Upd.head | with_reducible apply Upd.tail)))) ?_
      clear H; intro w3 H; (try simp only [size_drew_, size_drewN_, World.size_alloc, World.size_setCell, List.set_cons_zero, List.set_cons_succ] at H)
      refine wp_region_H 14 [false, false, false, false, false, false, false, false, false, false, false, false, false, false] [] H (.cons (i := 2) rfl .nil) (by kernel_rfl) rfl rfl (fun H_ hR_ => ?_)
      (try clear H0_); have H0_ := H; clear H; have H := H_; clear H_
      refine wpL_reads (is := [(0, ?v1_0), (1, ?v1_1), (2, ?v1_2), (3, ?v1_3), (4, ?v1_4), (5, ?v1_5), (6, ?v1_6), (7, ?v1_7), (8, ?v1_8), (9, ?v1_9), (10, ?v1_10)]) (by kernel_rfl) (Nat.le_of_ble_eq_true rfl) (by intro _ _ d_ _ _ h_; cases d_ <;> exact h_) (by kernel_rfl) hR_ (fun w_ hw_ => ?h1_) ?_
      case h1_ =>
        have ho_ := hw_.old0.1; have hz_ := hw_.old0.2; have hr_ := hw_.rules; clear hw_; simp only [Rules, and_true] at hr_; go_split_ands
        (repeat (first | with_reducible exact RdOps.nil | (refine RdOps.run rfl (by rfl) ?_ ?_; (focus (first | (go_simp; done) | (go_simp; with_reducible rfl))); simp only [List.getElem_toArray, List.getElem_cons_zero, List.getElem_cons_succ, Act.put, List.setIfInBounds_toArray, List.set_cons_zero, List.set_cons_succ]) | (refine RdOps.skip rfl (by rfl) ?_; simp only [List.getElem_toArray, List.getElem_cons_zero, List.getElem_cons_succ, Act.put, List.setIfInBounds_toArray, List.set_cons_zero, List.set_cons_succ])))
      simp only [rdMark, rdAct, List.map_cons, List.map_nil, List.length_cons, List.length_nil, Nat.reduceAdd, Nat.reduceSub, Nat.zero_add, List.getElem?_toArray, List.getElem?_cons_zero, List.getElem?_cons_succ, Option.bind_some, Act.put, List.setIfInBounds_toArray, List.set_cons_zero, List.set_cons_succ]
      refine wpL_do (i := 11) rfl (by kernel_rfl) (by rfl) (fun K_ hK_ => ?_)
      go_simp
      refine (lift_calls (HT.out.ext H.ext) b 0 ⟨_, _, _, _, rfl, HD.out.ext0 H.ext⟩).mono ?_
      rintro e w_ ⟨v, rfl, hto, hx⟩
      obtain ⟨D1, Dc, D2, Dk, rfl, H_⟩ := H.resTm hx hto
      clear H hx hto
      have H := H_
      clear H_
      refine hK_ _ _ (fun _ => H.sub (by simp)) (fun hR_ => ?_)
      replace hR_ := hR_ (by decide)
      refine wpL_do (i := 12) rfl (by kernel_rfl) (by rfl) (fun K_ hK_ => ?_)
      refine wp_storeH rfl (by go_simp <;> first | rfl | exact ⟨rfl, rfl⟩) (by go_simp <;> first | rfl | exact ⟨rfl, rfl⟩) H (by (repeat (first | with_reducible exact Upd.head | with_reducible apply Upd.tail))) (by exact aggTerm) (by rfl) (by simp [Value.oneCell']) (fun w9 H_ => ?_)
      clear H; have H := H_; clear H_
      refine hK_ _ _ (fun _ => H.sub (by simp)) (fun hR_ => ?_)
      replace hR_ := hR_ (by decide)
      refine wpL_reads (is := [(13, ?v2_0)]) (by kernel_rfl) (Nat.le_of_ble_eq_true rfl) (by intro _ _ d_ _ _ h_; cases d_ <;> exact h_) (by kernel_rfl) hR_ (fun w_ hw_ => ?h2_) ?_
      case h2_ =>
        have ho_ := hw_.old0.1; have hz_ := hw_.old0.2; have hr_ := hw_.rules; clear hw_; simp only [Rules, and_true] at hr_; go_split_ands
        (repeat (first | with_reducible exact RdOps.nil | (refine RdOps.run rfl (by rfl) ?_ ?_; (focus (first | (go_simp; done) | (go_simp; with_reducible rfl))); simp only [List.getElem_toArray, List.getElem_cons_zero, List.getElem_cons_succ, Act.put, List.setIfInBounds_toArray, List.set_cons_zero, List.set_cons_succ]) | (refine RdOps.skip rfl (by rfl) ?_; simp only [List.getElem_toArray, List.getElem_cons_zero, List.getElem_cons_succ, Act.put, List.setIfInBounds_toArray, List.set_cons_zero, List.set_cons_succ])))
      simp only [rdMark, rdAct, List.map_cons, List.map_nil, List.length_cons, List.length_nil, Nat.reduceAdd, Nat.reduceSub, Nat.zero_add, List.getElem?_toArray, List.getElem?_cons_zero, List.getElem?_cons_succ, Option.bind_some, Act.put, List.setIfInBounds_toArray, List.set_cons_zero, List.set_cons_succ]
      refine wpL_done (by kernel_rfl) ?_ _
      go_wp2_with fail
      refine endH (by (repeat (first | with_reducible exact H | with_reducible exact H0_ | with_reducible apply Hp.alloc | with_reducible apply Hp.allocMap | with_reducible apply Hp.drew | with_reducible apply Hp.drewN | with_reducible apply Hp.set)); (try any_goals (repeat (first | with_reducible exact Upd.head | with_reducible apply Upd.tail)))) ?_
      clear H; intro w8 H; (try simp only [size_drew_, size_drewN_, World.size_alloc, World.size_setCell, List.set_cons_zero, List.set_cons_succ] at H)
      have hr_ := H.rules; simp only [Rules, and_true] at hr_; have hd_ := H.dif; simp only [Dif, Neq, and_true] at hd_; obtain ⟨ho_, hz_⟩ := H.old0
      rw [HP.out]
      refine bodyPost_ret (v := .tuple #[.agg #[.int .i64 (liftT by_[m] b 0).k, .int .i64 (liftT by_[m] b 0).n, .int .i64 (liftT by_[m] b 0).a, .slice D1 (liftT by_[m] b 0).ls.length Dc, .slice D2 (liftT by_[m] b 0).ks.length Dk], .bool true]) (by simp [results, Tryd.results71, go_sem, hr_]) rfl ?_
      obtain ⟨v', he, hto, hx⟩ := H.ptm (t := liftT by_[m] b 0) (by (repeat (first | with_reducible exact Pick.head | with_reducible apply Pick.tail)))
      obtain rfl := Ending.returned.inj he
      exact ⟨_, rfl, hto, hx⟩
    · have HP : Hid (putF by_ b t = .inr (1, t.n - by_.length, t.a, t.ls)) := by
        unfold Hid putF
        rw [if_pos ⟨hk1, hle⟩, dif_neg (by have := HK.out; omega), hk1, show wrap64 (t.n - by_.length) = t.n - by_.length by have := HK.out; unfold wrap64; omega]
      have hge : (by_.length : Int) ≤ t.n := by have := HK.out; omega
      obtain ⟨_, _, _, _, he, i1, i2, i3, hls, hks⟩ := RC.tm.1 HRC.out
      simp only [List.cons.injEq, Value.slice.injEq, and_true, true_and] at he
      obtain ⟨⟨rfl, rfl⟩, rfl, rfl⟩ := he
      have HLS := Lib.hid hls
      have HKK := Lib.hid hks
      have HI3 := Lib.hid i3
      clear hls hks i1 i2 i3
      have hr_ := H.rules; simp only [Rules, and_true] at hr_; have hd_ := H.dif; simp only [Dif, Neq, and_true] at hd_; obtain ⟨ho_, hz_⟩ := H.old0
      go_wp2_with fail
      clear hr_ hd_ ho_ hz_
      refine callsH (by (repeat (first | with_reducible exact H | with_reducible exact H0_ | with_reducible apply Hp.alloc | with_reducible apply Hp.allocMap | with_reducible apply Hp.drew | with_reducible apply Hp.drewN | with_reducible apply Hp.set)); (try any_goals (repeat (first | with_reducible exact Upd.head | with_reducible apply Upd.tail)))) ?_
      clear H; intro w3 H; (try simp only [size_drew_, size_drewN_, World.size_alloc, World.size_setCell, List.set_cons_zero, List.set_cons_succ] at H)
      refine (own_calls (t := .mk 1 (t.n - by_.length) t.a t.ls t.ks) (S := fun x => S x ∧ x < w.heap.size) ⟨A0, ca, K0, ck, rfl, RC.tm.2 ⟨_, _, _, _, rfl, (by simp only [Tm.k_mk]; unfold inI; omega), (by simp only [Tm.n_mk]; unfold inI; omega), HI3.out, HLS.out.bd.ext0 H.ext, HKK.out.bd.ext0 H.ext⟩⟩).mono ?_
      rintro e w4 ⟨v, rfl, ⟨A4, c4, L, K4, k4, rfl, j1, j2, j3, hro, hnd, hks4⟩, hx⟩
      simp only [Tm.k_mk, Tm.n_mk, Tm.a_mk, Tm.ls_mk, Tm.ks_mk] at j1 j2 j3 hro hks4 ⊢
      replace H := H.res hx hro hnd
      clear hx hro hnd
      have HKS := Lib.hid (RC.back H.ext _ _ hks4)
      have HJ := Lib.hid (And.intro j1 (And.intro j2 j3))
      clear hks4 j1 j2 j3
      have hr_ := H.rules; simp only [Rules, and_true] at hr_; have hd_ := H.dif; simp only [Dif, Neq, and_true] at hd_; obtain ⟨ho_, hz_⟩ := H.old0
      go_wp2_with ((with_reducible refine atStore (t := 30) ?_); go_must (refine wpList_storeH (t := 30) rfl rfl (by go_simp <;> first | rfl | exact ⟨rfl, rfl⟩) (by go_simp <;> first | rfl | exact ⟨rfl, rfl⟩) (by exact Hp.norm (by (repeat (first | with_reducible exact H | with_reducible exact H0_ | with_reducible apply Hp.alloc | with_reducible apply Hp.allocMap | with_reducible apply Hp.drew | with_reducible apply Hp.drewN | with_reducible apply Hp.set)); (try any_goals (repeat (first | with_reducible exact Upd.head | with_reducible apply Upd.tail)))) (by ((try simp only [size_drew_, size_drewN_, World.size_alloc, World.size_setCell, List.set_cons_zero, List.set_cons_succ, List.nil_append, List.cons_append]) <;> rfl))) (by (repeat (first | with_reducible exact Upd.head | with_reducible apply Upd.tail))) (by exact aggTerm) (by rfl) (by simp [Value.oneCell']) ?_; clear H; intro w7 H; (try simp only [size_drew_, size_drewN_, World.size_alloc, World.size_setCell, List.set_cons_zero, List.set_cons_succ] at H); (try clear hr_ hd_ ho_ hz_); have hr_ := H.rules; simp only [Rules, and_true] at hr_; have hd_ := H.dif; simp only [Dif, Neq, and_true] at hd_; obtain ⟨ho_, hz_⟩ := H.old0))
      (try clear hr_ hd_ ho_ hz_)
      have hr_ := H.rules; simp only [Rules, and_true] at hr_; have hd_ := H.dif; simp only [Dif, Neq, and_true] at hd_; obtain ⟨ho_, hz_⟩ := H.old0
      refine bodyPost_ret (v := .tuple #[.agg #[.int .i64 1, .int .i64 (t.n - by_.length), .int .i64 t.a, .slice A4 t.ls.length c4, .slice K4 t.ks.length k4], .bool false]) (by simp [results, Tryd.results71, go_sem, hr_]) rfl ?_
      rw [HP.out]
      obtain ⟨L2, hro2, hnd2⟩ := H.acc (e := 38) (z := 1) (ds := t.ls.map lvD) (v := .slice A4 t.ls.length c4) (by (repeat (first | with_reducible exact Pick.head | with_reducible apply Pick.tail)))
      exact ⟨_, rfl, ⟨A4, c4, L2, K4, k4, rfl, HJ.out.1, HJ.out.2.1, HJ.out.2.2, hro2, hnd2, HKS.out.ext0 H.ext⟩, H.ext⟩
  · have HP : Hid (putF by_ b t = .inr (t.k, t.n, t.a, t.ls)) := by
      unfold Hid putF
      rw [if_neg h1]
    have hkk : ∃ kk, kk = wrap64 (t.n - b) := ⟨_, rfl⟩
    obtain ⟨kk, hkk⟩ := hkk
    rw [← hkk]
    clear hkk
    by_cases hk1 : t.k = 1
    · have hdec : decide (b ≤ t.n) = false := by simpa using fun e => h1 ⟨hk1, e⟩
      rw [hdec]
      clear h1 hdec
      have HP1 : Hid (putF by_ b t = .inr (1, t.n, t.a, t.ls)) := by unfold Hid; rw [HP.out, hk1]
      clear HP
      have HP := HP1
      clear HP1
      have hrc1 := HRC.out
      rw [hk1] at hrc1
      obtain ⟨_, _, _, _, he, i1, i2, i3, hls, hks⟩ := RC.tm.1 HRC.out
      simp only [List.cons.injEq, Value.slice.injEq, and_true, true_and] at he
      obtain ⟨⟨rfl, rfl⟩, rfl, rfl⟩ := he
      have HLS := Lib.hid hls
      have HKK := Lib.hid hks
      have HI3 := Lib.hid i3
      have HI2 := Lib.hid i2
      clear hls hks i1 i2 i3 hrc1
      have hr_ := H.rules; simp only [Rules, and_true] at hr_; have hd_ := H.dif; simp only [Dif, Neq, and_true] at hd_; obtain ⟨ho_, hz_⟩ := H.old0
      go_wp2_with fail
      clear hr_ hd_ ho_ hz_
      refine callsH (by (repeat (first | with_reducible exact H | with_reducible exact H0_ | with_reducible apply Hp.alloc | with_reducible apply Hp.allocMap | with_reducible apply Hp.drew | with_reducible apply Hp.drewN | with_reducible apply Hp.set)); (try any_goals (repeat (first | with_reducible exact Upd.head | with_reducible apply Upd.tail)))) ?_
      clear H; intro w3 H; (try simp only [size_drew_, size_drewN_, World.size_alloc, World.size_setCell, List.set_cons_zero, List.set_cons_succ] at H)
      refine (own_calls (t := .mk 1 (t.n) t.a t.ls t.ks) (S := fun x => S x ∧ x < w.heap.size) ⟨A0, ca, K0, ck, rfl, RC.tm.2 ⟨_, _, _, _, rfl, (by simp only [Tm.k_mk]; unfold inI; omega), HI2.out, HI3.out, HLS.out.bd.ext0 H.ext, HKK.out.bd.ext0 H.ext⟩⟩).mono ?_
      rintro e w4 ⟨v, rfl, ⟨A4, c4, L, K4, k4, rfl, j1, j2, j3, hro, hnd, hks4⟩, hx⟩
      simp only [Tm.k_mk, Tm.n_mk, Tm.a_mk, Tm.ls_mk, Tm.ks_mk] at j1 j2 j3 hro hks4 ⊢
      replace H := H.res hx hro hnd
      clear hx hro hnd
      have HKS := Lib.hid (RC.back H.ext _ _ hks4)
      have HJ := Lib.hid (And.intro j1 (And.intro j2 j3))
      clear hks4 j1 j2 j3
      have hr_ := H.rules; simp only [Rules, and_true] at hr_; have hd_ := H.dif; simp only [Dif, Neq, and_true] at hd_; obtain ⟨ho_, hz_⟩ := H.old0
      go_wp2_with ((with_reducible refine atStore (t := 30) ?_); go_must (refine wpList_storeH (t := 30) rfl rfl (by go_simp <;> first | rfl | exact ⟨rfl, rfl⟩) (by go_simp <;> first | rfl | exact ⟨rfl, rfl⟩) (by exact Hp.norm (by (repeat (first | with_reducible exact H | with_reducible exact H0_ | with_reducible apply Hp.alloc | with_reducible apply Hp.allocMap | with_reducible apply Hp.drew | with_reducible apply Hp.drewN | with_reducible apply Hp.set)); (try any_goals (repeat (first | with_reducible exact Upd.head | with_reducible apply Upd.tail)))) (by ((try simp only [size_drew_, size_drewN_, World.size_alloc, World.size_setCell, List.set_cons_zero, List.set_cons_succ, List.nil_append, List.cons_append]) <;> rfl))) (by (repeat (first | with_reducible exact Upd.head | with_reducible apply Upd.tail))) (by exact aggTerm) (by rfl) (by simp [Value.oneCell']) ?_; clear H; intro w7 H; (try simp only [size_drew_, size_drewN_, World.size_alloc, World.size_setCell, List.set_cons_zero, List.set_cons_succ] at H); (try clear hr_ hd_ ho_ hz_); have hr_ := H.rules; simp only [Rules, and_true] at hr_; have hd_ := H.dif; simp only [Dif, Neq, and_true] at hd_; obtain ⟨ho_, hz_⟩ := H.old0))
      (try clear hr_ hd_ ho_ hz_)
      have hr_ := H.rules; simp only [Rules, and_true] at hr_; have hd_ := H.dif; simp only [Dif, Neq, and_true] at hd_; obtain ⟨ho_, hz_⟩ := H.old0
      refine bodyPost_ret (v := .tuple #[.agg #[.int .i64 1, .int .i64 (t.n), .int .i64 t.a, .slice A4 t.ls.length c4, .slice K4 t.ks.length k4], .bool false]) (by simp [results, Tryd.results71, go_sem, hr_]) rfl ?_
      rw [HP.out]
      obtain ⟨L2, hro2, hnd2⟩ := H.acc (e := 38) (z := 1) (ds := t.ls.map lvD) (v := .slice A4 t.ls.length c4) (by (repeat (first | with_reducible exact Pick.head | with_reducible apply Pick.tail)))
      exact ⟨_, rfl, ⟨A4, c4, L2, K4, k4, rfl, HJ.out.1, HJ.out.2.1, HJ.out.2.2, hro2, hnd2, HKS.out.ext0 H.ext⟩, H.ext⟩
    · clear h1
      obtain ⟨_, _, _, _, he, i1, i2, i3, hls, hks⟩ := RC.tm.1 HRC.out
      simp only [List.cons.injEq, Value.slice.injEq, and_true, true_and] at he
      obtain ⟨⟨rfl, rfl⟩, rfl, rfl⟩ := he
      have HLS := Lib.hid hls
      have HKK := Lib.hid hks
      have HI3 := Lib.hid i3
      have HI2 := Lib.hid i2
      have HI1 := Lib.hid i1
      clear hls hks i1 i2 i3
      have hr_ := H.rules; simp only [Rules, and_true] at hr_; have hd_ := H.dif; simp only [Dif, Neq, and_true] at hd_; obtain ⟨ho_, hz_⟩ := H.old0
      go_wp2_with fail
      clear hr_ hd_ ho_ hz_
      refine callsH (by (repeat (first | with_reducible exact H | with_reducible exact H0_ | with_reducible apply Hp.alloc | with_reducible apply Hp.allocMap | with_reducible apply Hp.drew | with_reducible apply Hp.drewN | with_reducible apply Hp.set)); (try any_goals (repeat (first | with_reducible exact Upd.head | with_reducible apply Upd.tail)))) ?_
      clear H; intro w3 H; (try simp only [size_drew_, size_drewN_, World.size_alloc, World.size_setCell, List.set_cons_zero, List.set_cons_succ] at H)
      refine (own_calls (t := .mk t.k (t.n) t.a t.ls t.ks) (S := fun x => S x ∧ x < w.heap.size) ⟨A0, ca, K0, ck, rfl, RC.tm.2 ⟨_, _, _, _, rfl, HI1.out, HI2.out, HI3.out, HLS.out.bd.ext0 H.ext, HKK.out.bd.ext0 H.ext⟩⟩).mono ?_
      rintro e w4 ⟨v, rfl, ⟨A4, c4, L, K4, k4, rfl, j1, j2, j3, hro, hnd, hks4⟩, hx⟩
      simp only [Tm.k_mk, Tm.n_mk, Tm.a_mk, Tm.ls_mk, Tm.ks_mk] at j1 j2 j3 hro hks4 ⊢
      replace H := H.res hx hro hnd
      clear hx hro hnd
      have HKS := Lib.hid (RC.back H.ext _ _ hks4)
      have HJ := Lib.hid (And.intro j1 (And.intro j2 j3))
      clear hks4 j1 j2 j3
      have hr_ := H.rules; simp only [Rules, and_true] at hr_; have hd_ := H.dif; simp only [Dif, Neq, and_true] at hd_; obtain ⟨ho_, hz_⟩ := H.old0
      go_wp2_with ((with_reducible refine atStore (t := 30) ?_); go_must (refine wpList_storeH (t := 30) rfl rfl (by go_simp <;> first | rfl | exact ⟨rfl, rfl⟩) (by go_simp <;> first | rfl | exact ⟨rfl, rfl⟩) (by exact Hp.norm (by (repeat (first | with_reducible exact H | with_reducible exact H0_ | with_reducible apply Hp.alloc | with_reducible apply Hp.allocMap | with_reducible apply Hp.drew | with_reducible apply Hp.drewN | with_reducible apply Hp.set)); (try any_goals (repeat (first | with_reducible exact Upd.head | with_reducible apply Upd.tail)))) (by ((try simp only [size_drew_, size_drewN_, World.size_alloc, World.size_setCell, List.set_cons_zero, List.set_cons_succ, List.nil_append, List.cons_append]) <;> rfl))) (by (repeat (first | with_reducible exact Upd.head | with_reducible apply Upd.tail))) (by exact aggTerm) (by rfl) (by simp [Value.oneCell']) ?_; clear H; intro w7 H; (try simp only [size_drew_, size_drewN_, World.size_alloc, World.size_setCell, List.set_cons_zero, List.set_cons_succ] at H); (try clear hr_ hd_ ho_ hz_); have hr_ := H.rules; simp only [Rules, and_true] at hr_; have hd_ := H.dif; simp only [Dif, Neq, and_true] at hd_; obtain ⟨ho_, hz_⟩ := H.old0))
      (try clear hr_ hd_ ho_ hz_)
      have hr_ := H.rules; simp only [Rules, and_true] at hr_; have hd_ := H.dif; simp only [Dif, Neq, and_true] at hd_; obtain ⟨ho_, hz_⟩ := H.old0
      refine bodyPost_ret (v := .tuple #[.agg #[.int .i64 t.k, .int .i64 (t.n), .int .i64 t.a, .slice A4 t.ls.length c4, .slice K4 t.ks.length k4], .bool false]) (by simp [results, Tryd.results71, go_sem, hr_]) rfl ?_
      rw [HP.out]
      obtain ⟨L2, hro2, hnd2⟩ := H.acc (e := 38) (z := 1) (ds := t.ls.map lvD) (v := .slice A4 t.ls.length c4) (by (repeat (first | with_reducible exact Pick.head | with_reducible apply Pick.tail)))
      exact ⟨_, rfl, ⟨A4, c4, L2, K4, k4, rfl, HJ.out.1, HJ.out.2.1, HJ.out.2.2, hro2, hnd2, HKS.out.ext0 H.ext⟩, H.ext⟩
set_option maxRecDepth 100000 in
set_option maxHeartbeats 2000000 in
theorem put_calls {S Sb : Nat → Prop} {t : Tm} {w : World} {v : Value} {by_ : List Tm} {A : Option Addr} {n c : Nat} (hT : Tab w) (h : TV w S t v) (hby : RC w Sb (.l 30 5 (by_.map Tm.d)) [.slice A n c]) (hn : n = by_.length) (hd : depthT t ≤ 4611686018427387904) : Calls Tryd.prog 32 #[v, .slice A n c] w (PTm w (putT t by_)) := by
  subst hn
  obtain ⟨A0, ca, K0, ck, rfl, hrc⟩ := h
  have HT := Lib.hid hT
  have HRC := Lib.hid hrc
  have HBY := Lib.hid hby
  have HD := Lib.hid hd
  clear hT hrc hby hd
  have hmf : ∀ (fn : Fn) (first cap : Array Value) (w : World), (Instr.makeFunc fn first cap).run Tryd.prog w = .ok (.func fn first cap) w := fun _ _ _ _ => rfl
  go_enter Tryd.func32, Tryd.ntmps32
  go_wp2_with fail
  have H := Hp.start no w
  refine callsH (by (repeat (first | with_reducible exact H | with_reducible exact H0_ | with_reducible apply Hp.alloc | with_reducible apply Hp.allocMap | with_reducible apply Hp.drew | with_reducible apply Hp.drewN | with_reducible apply Hp.set)); (try any_goals (repeat (first | with_reducible exact Upd.head | with_reducible apply Upd.tail)))) ?_
  clear H; intro w1 H; (try simp only [size_drew_, size_drewN_, World.size_alloc, World.size_setCell, List.set_cons_zero, List.set_cons_succ] at H)
  refine (walkG_calls GPut.kid (put1_calls (w.heap.size + 1) by_ Sb A c) t _ S 0 _ ⟨(H.blk (g := w.heap.size + 1) (by (repeat (first | with_reducible exact Pick.head | with_reducible apply Pick.tail)))).cells 0, HBY.out.ext0 H.ext⟩ (HT.out.ext H.ext) ⟨by omega, by have := HD.out; omega⟩ ⟨_, _, _, _, rfl, HRC.out.ext0 H.ext⟩).mono ?_
  rintro e w_ ⟨v, rfl, hto, hx⟩
  obtain ⟨D1, Dc, D2, Dk, rfl, H_⟩ := H.resTm hx hto
  clear H hx hto
  have H := H_
  clear H_
  have hr_ := H.rules; simp only [Rules, and_true] at hr_; have hd_ := H.dif; simp only [Dif, Neq, and_true] at hd_; obtain ⟨ho_, hz_⟩ := H.old0
  go_wp2_with ((with_reducible refine atStore (t := 30) ?_); go_must (refine wpList_storeH (t := 30) rfl rfl (by go_simp <;> first | rfl | exact ⟨rfl, rfl⟩) (by go_simp <;> first | rfl | exact ⟨rfl, rfl⟩) (by exact Hp.norm (by (repeat (first | with_reducible exact H | with_reducible exact H0_ | with_reducible apply Hp.alloc | with_reducible apply Hp.allocMap | with_reducible apply Hp.drew | with_reducible apply Hp.drewN | with_reducible apply Hp.set)); (try any_goals (repeat (first | with_reducible exact Upd.head | with_reducible apply Upd.tail)))) (by ((try simp only [size_drew_, size_drewN_, World.size_alloc, World.size_setCell, List.set_cons_zero, List.set_cons_succ, List.nil_append, List.cons_append]) <;> rfl))) (by (repeat (first | with_reducible exact Upd.head | with_reducible apply Upd.tail))) (by exact aggTerm) (by rfl) (by simp [Value.oneCell']) ?_; clear H; intro w7 H; (try simp only [size_drew_, size_drewN_, World.size_alloc, World.size_setCell, List.set_cons_zero, List.set_cons_succ] at H); (try clear hr_ hd_ ho_ hz_); have hr_ := H.rules; simp only [Rules, and_true] at hr_; have hd_ := H.dif; simp only [Dif, Neq, and_true] at hd_; obtain ⟨ho_, hz_⟩ := H.old0))
  clear hr_ hd_ ho_ hz_
  refine endH (by (repeat (first | with_reducible exact H | with_reducible exact H0_ | with_reducible apply Hp.alloc | with_reducible apply Hp.allocMap | with_reducible apply Hp.drew | with_reducible apply Hp.drewN | with_reducible apply Hp.set)); (try any_goals (repeat (first | with_reducible exact Upd.head | with_reducible apply Upd.tail)))) ?_
  clear H; intro w8 H; (try simp only [size_drew_, size_drewN_, World.size_alloc, World.size_setCell, List.set_cons_zero, List.set_cons_succ] at H)
  unfold putT
  exact bodyPost_ret (v := .agg #[_, _, _, _, _]) (Res.one Tryd.results32 (H.resBox (by (repeat (first | with_reducible exact Pick.head | with_reducible apply Pick.tail))) aggTerm rfl rfl)) rfl (H.ptm (by (repeat (first | with_reducible exact Pick.head | with_reducible apply Pick.tail))))
end Go.Proofs.YteelplgdojjakaaDoor
