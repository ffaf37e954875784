/- tele: own, owns, of, Pis, Lams, Apps: contracts. No statement of the seat is proved here. -/
import Derived.Test.YtgbokmphbimihaaDoorMgAbove
import Derived.Test.YtgbokmphbimihaaDoorMgMust0
namespace Go.Proofs.YtgbokmphbimihaaDoor
set_option linter.unusedSimpArgs false
set_option linter.unusedVariables false
open Go.RowKit

/-- All numbers of a term are int64's. -/
inductive TmOK : Tm → Prop where
  | mk {k n a : Int} {ls : List Lv} {ks : List Tm} (h1 : inI k) (h2 : inI n) (h3 : inI a) (h : ∀ t ∈ ks, TmOK t) : TmOK (.mk k n a ls ks)
theorem RC.ok : ∀ (t : Tm) {w : World} {S : Nat → Prop} {cs : List Value}, RC w S t.d cs → TmOK t := by
  intro t
  induction t using Tm.ind_ with
  | h k n a ls ks ih =>
  intro w S cs h
  obtain ⟨_, _, _, _, _, i1, i2, i3, _, hks⟩ := RC.tm.1 h
  refine .mk i1 i2 i3 fun t ht => ?_
  obtain ⟨j, hj, rfl⟩ := List.getElem_of_mem ht
  obtain ⟨_, _, _, _, _, _, _, _, _, hr, _⟩ := RC.atTm hks hj
  exact ih _ (by simp) hr
theorem wrap_in {n : Int} (h : inI n) : wrap64 n = n := by unfold inI at h; unfold wrap64; omega
theorem lift0 : ∀ {t : Tm} (b : Int), TmOK t → walkT (liftF 0 0) b t = t := by
  intro t
  induction t using Tm.ind_ with
  | h k n a ls ks ih =>
  intro b h
  cases h with
  | mk h1 h2 h3 h =>
  have hs : ∀ (ts : List Tm) (i : Nat), (∀ t ∈ ts, t ∈ ks) → walkTs (liftF 0 0) k b i ts = ts := by
    intro ts
    induction ts with
    | nil => intro i _; rfl
    | cons t ts ihs =>
      intro i hm
      rw [walkTs, ih t (hm t (by simp)) _ (h t (hm t (by simp))), ihs _ fun t ht => hm t (by simp [ht])]
  simp only [walkT, liftF, Tm.k_mk, Tm.n_mk, Tm.a_mk, Tm.ls_mk, Int.add_zero, wrap_in h2, ite_self]
  rw [hs ks 0 fun _ h => h]
theorem liftT0 {t : Tm} (h : TmOK t) : liftT t 0 0 = t := lift0 0 h

set_option maxRecDepth 100000 in
set_option maxHeartbeats 2000000 in
theorem teleOwn {S : Nat → Prop} {t : Tm} {w : World} {v : Value} (hT : Tab w) (h : TV w S t v) : Calls Tryd.prog 79 #[v] w (PTm w t) := by
  obtain ⟨A0, ca, K0, ck, rfl, hrc⟩ := h
  have hok := Lib.hid (liftT0 (RC.ok _ hrc))
  have HT := Lib.hid hT
  clear hT
  go_enter Tryd.func79, Tryd.ntmps79
  go_wp2_with fail
  have H := Hp.start no w
  refine callsH (by (repeat (first | with_reducible exact H | with_reducible exact H0_ | with_reducible apply Hp.alloc | with_reducible apply Hp.allocMap | with_reducible apply Hp.drew | with_reducible apply Hp.drewN | with_reducible apply Hp.set)); (try any_goals (repeat (first | with_reducible exact Upd.head | with_reducible apply Upd.tail)))) ?_
  clear H; intro w1 H; (try simp only [size_drew_, size_drewN_, World.size_alloc, World.size_setCell, List.set_cons_zero, List.set_cons_succ] at H)
  refine (lift_calls (t := t) (S := S) (HT.out.ext H.ext) 0 0 ⟨_, _, _, _, rfl, hrc.ext0 H.ext⟩).mono ?_
  rw [hok.out]
  rintro e w_ ⟨v, rfl, hto, hx⟩
  obtain ⟨A1, Ac, A2, Ak, rfl, H_⟩ := H.resTm hx hto
  clear H hx hto
  have H := H_
  clear H_
  have hr_ := H.rules; simp only [Rules, and_true] at hr_; have hd_ := H.dif; simp only [Dif, Neq, and_true] at hd_; obtain ⟨ho_, hz_⟩ := H.old0
  go_wp2_with ((with_reducible refine atStore (t := 26) ?_); go_must (refine wpList_storeH (t := 26) rfl rfl (by go_simp <;> first | rfl | exact ⟨rfl, rfl⟩) (by go_simp <;> first | rfl | exact ⟨rfl, rfl⟩) (by exact Hp.norm (by (repeat (first | with_reducible exact H | with_reducible exact H0_ | with_reducible apply Hp.alloc | with_reducible apply Hp.allocMap | with_reducible apply Hp.drew | with_reducible apply Hp.drewN | with_reducible apply Hp.set)); (try any_goals (repeat (first | with_reducible exact Upd.head | with_reducible apply Upd.tail)))) (by ((try simp only [size_drew_, size_drewN_, World.size_alloc, World.size_setCell, List.set_cons_zero, List.set_cons_succ, List.nil_append, List.cons_append]) <;> rfl))) (by (repeat (first | with_reducible exact Upd.head | with_reducible apply Upd.tail))) (by exact aggTerm) (by rfl) (by simp [Value.oneCell']) ?_; clear H; intro w7 H; (try simp only [size_drew_, size_drewN_, World.size_alloc, World.size_setCell, List.set_cons_zero, List.set_cons_succ] at H); (try clear hr_ hd_ ho_ hz_); have hr_ := H.rules; simp only [Rules, and_true] at hr_; have hd_ := H.dif; simp only [Dif, Neq, and_true] at hd_; obtain ⟨ho_, hz_⟩ := H.old0))
  clear hr_ hd_ ho_ hz_
  refine endH (by (repeat (first | with_reducible exact H | with_reducible exact H0_ | with_reducible apply Hp.alloc | with_reducible apply Hp.allocMap | with_reducible apply Hp.drew | with_reducible apply Hp.drewN | with_reducible apply Hp.set)); (try any_goals (repeat (first | with_reducible exact Upd.head | with_reducible apply Upd.tail)))) ?_
  clear H; intro w8 H; (try simp only [size_drew_, size_drewN_, World.size_alloc, World.size_setCell, List.set_cons_zero, List.set_cons_succ] at H)
  exact bodyPost_ret (v := .agg #[_, _, _, _, _]) (Res.one Tryd.results79 (H.resBox (by (repeat (first | with_reducible exact Pick.head | with_reducible apply Pick.tail))) aggTerm rfl rfl)) rfl (H.ptm (by (repeat (first | with_reducible exact Pick.head | with_reducible apply Pick.tail))))
set_option maxRecDepth 100000 in
set_option maxHeartbeats 2000000 in
theorem teleOwns {S : Nat → Prop} {ts : List Tm} {w : World} {A : Option Addr} {n c : Nat} (hT : Tab w) (h : RC w S (.l 26 5 (ts.map Tm.d)) [.slice A n c]) (hn : n = ts.length) : Calls Tryd.prog 136 #[.slice A n c] w (PSl w 26 5 (ts.map Tm.d)) := by
  subst hn
  have hM := h.lenM
  have HT := Lib.hid hT
  clear hT
  go_enter Tryd.func136, Tryd.ntmps136
  go_wp2_with fail
  have H := Hp.start no w
  replace H := H.nil 26 5
  go_loopw [2, 7] (fun out i wr => ∃ j : Nat, j ≤ ts.length ∧ i = .int .i64 j ∧ Hp no w wr [.dat (.l 26 5 ((ts.take j).map Tm.d)) [out]]) (fun _ i _ => ts.length - (intOf i).toNat)
  case atStart => exact ⟨0, Nat.zero_le _, rfl, H⟩
  case round =>
    clear H
    obtain ⟨j, hj, rfl, H⟩ := hrel
    by_cases hlt : j < ts.length
    · obtain ⟨b, o, A1, ca, K1, ck, rfl, hb, hS, hd, p0, p1, p2, p3, p4⟩ := h.atTm hlt
      have HD := Lib.hid hd
      clear hd
      have hr_ := H.rules; simp only [Rules, and_true] at hr_; have hd_ := H.dif; simp only [Dif, Neq, and_true] at hd_; obtain ⟨ho_, hz_⟩ := H.old0
      go_wp2_with fail
      clear hr_ hd_ ho_ hz_
      refine callsH (by (repeat (first | with_reducible exact H | with_reducible exact H0_ | with_reducible apply Hp.alloc | with_reducible apply Hp.allocMap | with_reducible apply Hp.drew | with_reducible apply Hp.drewN | with_reducible apply Hp.set)); (try any_goals (repeat (first | with_reducible exact Upd.head | with_reducible apply Upd.tail)))) ?_
      clear H; intro w2 H; (try simp only [size_drew_, size_drewN_, World.size_alloc, World.size_setCell, List.set_cons_zero, List.set_cons_succ] at H)
      refine (teleOwn (HT.out.ext H.ext) ⟨_, _, _, _, rfl, HD.out.ext0 H.ext⟩).mono ?_
      rintro e w_ ⟨v, rfl, hto, hx⟩
      obtain ⟨B1, Bc, B2, Bk, rfl, H_⟩ := H.resTm hx hto
      clear H hx hto
      have H := H_
      clear H_
      rename Hp _ _ _ _ => H
      go_wp2_with (at_builtin; go_must (refine wpList_pushH rfl (.tmp 11) (.tmp 14) 24 rfl stTerms (by go_simp <;> first | rfl | exact ⟨rfl, rfl⟩) (by go_simp <;> first | rfl | exact ⟨rfl, rfl⟩) (by exact Hp.norm (by (repeat (first | with_reducible exact H | with_reducible exact H0_ | with_reducible apply Hp.alloc | with_reducible apply Hp.allocMap | with_reducible apply Hp.drew | with_reducible apply Hp.drewN | with_reducible apply Hp.set)); (try any_goals (repeat (first | with_reducible exact Upd.head | with_reducible apply Upd.tail)))) (by ((try simp only [size_drew_, size_drewN_, World.size_alloc, World.size_setCell, List.set_cons_zero, List.set_cons_succ, List.nil_append, List.cons_append]) <;> rfl))) (by (repeat (first | with_reducible exact Pick.head | with_reducible apply Pick.tail))) (by (repeat (first | with_reducible exact Pick.head | with_reducible apply Pick.tail))) (by (repeat (first | with_reducible exact Pick.head | with_reducible apply Pick.tail))) (Tm.size_d _) ?_ ?_; (focus (simp [M]; omega)); clear H; intro v' w4 H))
      go_roundw
      case rel => exact ⟨j + 1, by omega, by go_num, by rw [take_map _ hlt]; exact (H.only (by (repeat (first | with_reducible exact Subl.nil | with_reducible apply Subl.keep | with_reducible apply Subl.drop))))⟩
      case measure => simp [intOf]; omega
    · go_wp2_with fail
      go_ret
      rw [take_all hlt] at H
      exact H.psl .head
end Go.Proofs.YtgbokmphbimihaaDoor
/- tele: of, Pis, Apps: contracts. No statement of the seat is proved here. -/
namespace Go.Proofs.YtgbokmphbimihaaDoor
set_option linter.unusedSimpArgs false
set_option linter.unusedVariables false
open Go.RowKit

theorem aggRow : AggT Tryd.prog 110 1 := ⟨_, Tryd.underlying110, rfl, by kernel_rfl⟩
theorem aggWork : AggT Tryd.prog 112 1 := ⟨_, Tryd.underlying112, rfl, by kernel_rfl⟩
theorem fieldWork (v : Value) (w : World) : (Instr.field 112 (.agg #[v]) 0).run Tryd.prog w = .ok (.agg #[v]) w := by kernel_rfl
/-- A fresh row within a struct. -/
def PSlA (w : World) (e z : Nat) (ds : List D) (en : Ending) (w' : World) : Prop := ∃ A c, en = .returned (.agg #[.slice A ds.length c]) ∧ Acc w w' e z ds (.slice A ds.length c) ∧ Ext no w w'
set_option maxRecDepth 100000 in
set_option maxHeartbeats 2000000 in
theorem teleOf {S : Nat → Prop} {ts : List Tm} {w : World} {A : Option Addr} {n c : Nat} (hT : Tab w) (h : RC w S (.l 26 5 (ts.map Tm.d)) [.slice A n c]) (hn : n = ts.length) : Calls Tryd.prog 77 #[.slice A n c] w (PSlA w 26 5 (ts.map Tm.d)) := by
  subst hn
  have HT := Lib.hid hT
  clear hT
  go_enter Tryd.func77, Tryd.ntmps77
  go_wp2_with fail
  have H := Hp.start no w
  refine callsH (by (repeat (first | with_reducible exact H | with_reducible exact H0_ | with_reducible apply Hp.alloc | with_reducible apply Hp.allocMap | with_reducible apply Hp.drew | with_reducible apply Hp.drewN | with_reducible apply Hp.set)); (try any_goals (repeat (first | with_reducible exact Upd.head | with_reducible apply Upd.tail)))) ?_
  clear H; intro w1 H; (try simp only [size_drew_, size_drewN_, World.size_alloc, World.size_setCell, List.set_cons_zero, List.set_cons_succ] at H)
  refine (teleOwns (HT.out.ext H.ext) (h.ext0 H.ext) rfl).mono ?_
  rintro e w_ ⟨B1, Bc, rfl, hacc, hx⟩
  replace H := H.resSl hx hacc
  clear hx hacc
  simp only [List.length_map] at H ⊢
  have hr_ := H.rules; simp only [Rules, and_true] at hr_; have hd_ := H.dif; simp only [Dif, Neq, and_true] at hd_; obtain ⟨ho_, hz_⟩ := H.old0
  go_wp2_with ((with_reducible refine atStore (t := 112) ?_); go_must (refine wpList_storeH (t := 112) rfl rfl (by go_simp <;> first | rfl | exact ⟨rfl, rfl⟩) (by go_simp <;> first | rfl | exact ⟨rfl, rfl⟩) (by exact Hp.norm (by (repeat (first | with_reducible exact H | with_reducible exact H0_ | with_reducible apply Hp.alloc | with_reducible apply Hp.allocMap | with_reducible apply Hp.drew | with_reducible apply Hp.drewN | with_reducible apply Hp.set)); (try any_goals (repeat (first | with_reducible exact Upd.head | with_reducible apply Upd.tail)))) (by ((try simp only [size_drew_, size_drewN_, World.size_alloc, World.size_setCell, List.set_cons_zero, List.set_cons_succ, List.nil_append, List.cons_append]) <;> rfl))) (by (repeat (first | with_reducible exact Upd.head | with_reducible apply Upd.tail))) (by exact aggWork) (by rfl) (by simp [Value.oneCell']) ?_; clear H; intro w7 H; (try simp only [size_drew_, size_drewN_, World.size_alloc, World.size_setCell, List.set_cons_zero, List.set_cons_succ] at H); (try clear hr_ hd_ ho_ hz_); have hr_ := H.rules; simp only [Rules, and_true] at hr_; have hd_ := H.dif; simp only [Dif, Neq, and_true] at hd_; obtain ⟨ho_, hz_⟩ := H.old0))
  clear hr_ hd_ ho_ hz_
  refine endH (by (repeat (first | with_reducible exact H | with_reducible exact H0_ | with_reducible apply Hp.alloc | with_reducible apply Hp.allocMap | with_reducible apply Hp.drew | with_reducible apply Hp.drewN | with_reducible apply Hp.set)); (try any_goals (repeat (first | with_reducible exact Upd.head | with_reducible apply Upd.tail)))) ?_
  clear H; intro w8 H; (try simp only [size_drew_, size_drewN_, World.size_alloc, World.size_setCell, List.set_cons_zero, List.set_cons_succ] at H)
  refine bodyPost_ret (v := .agg #[_]) (Res.one Tryd.results77 (H.resBox (by (repeat (first | with_reducible exact Pick.head | with_reducible apply Pick.tail))) aggWork rfl rfl)) rfl ⟨_, _, by simp only [List.length_map]; rfl, H.acc (by simp only [List.length_map]; exact (by (repeat (first | with_reducible exact Pick.head | with_reducible apply Pick.tail)))), H.ext⟩
set_option maxRecDepth 100000 in
set_option maxHeartbeats 2000000 in
theorem pis_calls {S S2 : Nat → Prop} {ts : List Tm} {b : Tm} {w : World} {v : Value} {A : Option Addr} {n c : Nat} (hT : Tab w) (h : RC w S (.l 26 5 (ts.map Tm.d)) [.slice A n c]) (hn : n = ts.length) (hb : TV w S2 b v) : Calls Tryd.prog 31 #[.slice A n c, v] w (PTm w (aboveT 4 ts b)) := by
  subst hn
  obtain ⟨A0, ca, K0, ck, rfl, hrc⟩ := hb
  have HT := Lib.hid hT
  clear hT
  go_enter Tryd.func31, Tryd.ntmps31
  go_wp2_with fail
  have H := Hp.start no w
  refine regionH (by (repeat (first | with_reducible exact H | with_reducible exact H0_ | with_reducible apply Hp.alloc | with_reducible apply Hp.allocMap | with_reducible apply Hp.drew | with_reducible apply Hp.drewN | with_reducible apply Hp.set)); (try any_goals (repeat (first | with_reducible exact Upd.head | with_reducible apply Upd.tail)))) ?_
  clear H; intro w1 H; (try simp only [size_drew_, size_drewN_, World.size_alloc, World.size_setCell, List.set_cons_zero, List.set_cons_succ] at H)
  refine wp_region_H 7 [false, false, false, false, false, false, false] [] H (.cons (i := 1) rfl .nil) (by kernel_rfl) rfl rfl (fun H_ hR_ => ?_)
  (try clear H0_); have H0_ := H; clear H; have H := H_; clear H_
  refine wpL_reads (is := [(0, ?v1_0), (3, ?v1_1)]) (by kernel_rfl) (Nat.le_of_ble_eq_true rfl) (by intro _ _ d_ _ _ h_; cases d_ <;> exact h_) (by kernel_rfl) hR_ (fun w_ hw_ => ?h1_) ?_
  case h1_ =>
    have ho_ := hw_.old0.1; have hz_ := hw_.old0.2; have hr_ := hw_.rules; clear hw_; simp only [Rules, and_true] at hr_; go_split_ands
    (repeat (first | with_reducible exact RdOps.nil | (refine RdOps.run rfl (by rfl) ?_ ?_; (focus (first | (go_simp; done) | (go_simp; with_reducible rfl))); simp only [List.getElem_toArray, List.getElem_cons_zero, List.getElem_cons_succ, Act.put, List.setIfInBounds_toArray, List.set_cons_zero, List.set_cons_succ]) | (refine RdOps.skip rfl (by rfl) ?_; simp only [List.getElem_toArray, List.getElem_cons_zero, List.getElem_cons_succ, Act.put, List.setIfInBounds_toArray, List.set_cons_zero, List.set_cons_succ])))
  simp only [rdMark, rdAct, List.map_cons, List.map_nil, List.length_cons, List.length_nil, Nat.reduceAdd, Nat.reduceSub, Nat.zero_add, List.getElem?_toArray, List.getElem?_cons_zero, List.getElem?_cons_succ, Option.bind_some, Act.put, List.setIfInBounds_toArray, List.set_cons_zero, List.set_cons_succ]
  refine wpL_do (i := 1) rfl (by kernel_rfl) (by rfl) (fun K_ hK_ => ?_)
  go_simp
  refine (teleOf (HT.out.ext H.ext) (h.ext0 H.ext) rfl).mono ?_
  rintro e w_ ⟨B1, Bc, rfl, hacc, hx⟩
  replace H := H.resSl hx hacc
  clear hx hacc
  simp only [List.length_map] at H ⊢
  have hfw := fieldWork
  refine hK_ _ _ (fun _ => H.sub (by simp)) (fun hR_ => ?_)
  replace hR_ := hR_ (by decide)
  refine wpL_reads (is := [(2, ?v2_0)]) (by kernel_rfl) (Nat.le_of_ble_eq_true rfl) (by intro _ _ d_ _ _ h_; cases d_ <;> exact h_) (by kernel_rfl) hR_ (fun w_ hw_ => ?h2_) ?_
  case h2_ =>
    have ho_ := hw_.old0.1; have hz_ := hw_.old0.2; have hr_ := hw_.rules; clear hw_; simp only [Rules, and_true] at hr_; go_split_ands
    (repeat (first | with_reducible exact RdOps.nil | (refine RdOps.run rfl (by rfl) ?_ ?_; (focus (first | (go_simp; done) | (go_simp; with_reducible rfl))); simp only [List.getElem_toArray, List.getElem_cons_zero, List.getElem_cons_succ, Act.put, List.setIfInBounds_toArray, List.set_cons_zero, List.set_cons_succ]) | (refine RdOps.skip rfl (by rfl) ?_; simp only [List.getElem_toArray, List.getElem_cons_zero, List.getElem_cons_succ, Act.put, List.setIfInBounds_toArray, List.set_cons_zero, List.set_cons_succ])))
  simp only [rdMark, rdAct, List.map_cons, List.map_nil, List.length_cons, List.length_nil, Nat.reduceAdd, Nat.reduceSub, Nat.zero_add, List.getElem?_toArray, List.getElem?_cons_zero, List.getElem?_cons_succ, Option.bind_some, Act.put, List.setIfInBounds_toArray, List.set_cons_zero, List.set_cons_succ]
  refine wpL_do (i := 4) rfl (by kernel_rfl) (by rfl) (fun K_ hK_ => ?_)
  go_simp
  clear hfw
  refine (teleOwn (HT.out.ext H.ext) ⟨_, _, _, _, rfl, hrc.ext0 H.ext⟩).mono ?_
  rintro e w_ ⟨v, rfl, hto, hx⟩
  obtain ⟨C1, Cc, C2, Ck, rfl, H_⟩ := H.resTm hx hto
  clear H hx hto
  have H := H_
  clear H_
  refine hK_ _ _ (fun _ => H.sub (by simp)) (fun hR_ => ?_)
  replace hR_ := hR_ (by decide)
  refine wpL_do (i := 5) rfl (by kernel_rfl) (by rfl) (fun K_ hK_ => ?_)
  go_simp
  refine (above_calls H.swap (by unfold inI; omega)).mono ?_
  rintro e w_ ⟨D1, d1, D2, d2, rfl, H_⟩
  clear H
  have H := H_
  clear H_
  refine hK_ _ _ (fun _ => H.sub (by simp)) (fun hR_ => ?_)
  replace hR_ := hR_ (by decide)
  refine wpL_do (i := 6) rfl (by kernel_rfl) (by rfl) (fun K_ hK_ => ?_)
  refine wp_storeH rfl (by go_simp <;> first | rfl | exact ⟨rfl, rfl⟩) (by go_simp <;> first | rfl | exact ⟨rfl, rfl⟩) H (by (repeat (first | with_reducible exact Upd.head | with_reducible apply Upd.tail))) (by exact aggTerm) (by rfl) (by simp [Value.oneCell']) (fun w9 H_ => ?_)
  clear H; have H := H_; clear H_
  refine hK_ _ _ (fun _ => H.sub (by simp)) (fun _ => ?_)
  refine wpL_done (by kernel_rfl) ?_ _
  go_wp2_with fail
  refine endH (by (repeat (first | with_reducible exact H | with_reducible exact H0_ | with_reducible apply Hp.alloc | with_reducible apply Hp.allocMap | with_reducible apply Hp.drew | with_reducible apply Hp.drewN | with_reducible apply Hp.set)); (try any_goals (repeat (first | with_reducible exact Upd.head | with_reducible apply Upd.tail)))) ?_
  clear H; intro w8 H; (try simp only [size_drew_, size_drewN_, World.size_alloc, World.size_setCell, List.set_cons_zero, List.set_cons_succ] at H)
  exact bodyPost_ret (v := .agg #[_, _, _, _, _]) (Res.one Tryd.results31 (H.resBox (by (repeat (first | with_reducible exact Pick.head | with_reducible apply Pick.tail))) aggTerm rfl rfl)) rfl (H.ptm (by (repeat (first | with_reducible exact Pick.head | with_reducible apply Pick.tail))))

/-- A term at arguments. -/
def appsT (f : Tm) (args : List Tm) : Tm := args.foldl (fun f a => .mk 6 0 0 [] [f, a]) f
theorem appsT_take {f : Tm} {l : List Tm} {j : Nat} (h : j < l.length) : appsT f (l.take (j + 1)) = .mk 6 0 0 [] [appsT f (l.take j), l[j]] := by
  unfold appsT
  rw [List.take_succ_eq_append_getElem h, List.foldl_append]
  rfl
set_option maxRecDepth 100000 in
set_option maxHeartbeats 2000000 in
theorem apps_calls {S S2 : Nat → Prop} {ts : List Tm} {f : Tm} {w : World} {v : Value} {A : Option Addr} {n c : Nat} (hT : Tab w) (h : RC w S (.l 26 5 (ts.map Tm.d)) [.slice A n c]) (hn : n = ts.length) (hb : TV w S2 f v) : Calls Tryd.prog 93 #[v, .slice A n c] w (PTm w (appsT f ts)) := by
  subst hn
  have hM := h.lenM
  obtain ⟨A0, ca, K0, ck, rfl, hrc⟩ := hb
  have HT := Lib.hid hT
  clear hT
  go_enter Tryd.func93, Tryd.ntmps93
  go_wp2_with fail
  have H := Hp.start no w
  refine callsH (by (repeat (first | with_reducible exact H | with_reducible exact H0_ | with_reducible apply Hp.alloc | with_reducible apply Hp.allocMap | with_reducible apply Hp.drew | with_reducible apply Hp.drewN | with_reducible apply Hp.set)); (try any_goals (repeat (first | with_reducible exact Upd.head | with_reducible apply Upd.tail)))) ?_
  clear H; intro w1 H; (try simp only [size_drew_, size_drewN_, World.size_alloc, World.size_setCell, List.set_cons_zero, List.set_cons_succ] at H)
  refine (teleOwn (HT.out.ext H.ext) ⟨_, _, _, _, rfl, hrc.ext0 H.ext⟩).mono ?_
  rintro e w_ ⟨v, rfl, hto, hx⟩
  obtain ⟨B1, Bc, B2, Bk, rfl, H_⟩ := H.resTm hx hto
  clear H hx hto
  have H := H_
  clear H_
  have hr_ := H.rules; simp only [Rules, and_true] at hr_; have hd_ := H.dif; simp only [Dif, Neq, and_true] at hd_; obtain ⟨ho_, hz_⟩ := H.old0
  go_wp2_with ((with_reducible refine atStore (t := 26) ?_); go_must (refine wpList_storeH (t := 26) rfl rfl (by go_simp <;> first | rfl | exact ⟨rfl, rfl⟩) (by go_simp <;> first | rfl | exact ⟨rfl, rfl⟩) (by exact Hp.norm (by (repeat (first | with_reducible exact H | with_reducible exact H0_ | with_reducible apply Hp.alloc | with_reducible apply Hp.allocMap | with_reducible apply Hp.drew | with_reducible apply Hp.drewN | with_reducible apply Hp.set)); (try any_goals (repeat (first | with_reducible exact Upd.head | with_reducible apply Upd.tail)))) (by ((try simp only [size_drew_, size_drewN_, World.size_alloc, World.size_setCell, List.set_cons_zero, List.set_cons_succ, List.nil_append, List.cons_append]) <;> rfl))) (by (repeat (first | with_reducible exact Upd.head | with_reducible apply Upd.tail))) (by exact aggTerm) (by rfl) (by simp [Value.oneCell']) ?_; clear H; intro w2 H; (try simp only [size_drew_, size_drewN_, World.size_alloc, World.size_setCell, List.set_cons_zero, List.set_cons_succ] at H); (try clear hr_ hd_ ho_ hz_); have hr_ := H.rules; simp only [Rules, and_true] at hr_; have hd_ := H.dif; simp only [Dif, Neq, and_true] at hd_; obtain ⟨ho_, hz_⟩ := H.old0))
  clear hr_ hd_ ho_ hz_
  go_loopw [11] (fun i wr => ∃ (j : Nat) (r : Tm) (B K : Option Addr) (cb kb : Nat), j ≤ ts.length ∧ i = .int .i64 j ∧ r = appsT f (ts.take j) ∧ Hp no w wr [.box (w.heap.size + 1) 26 [.int .i64 0, .int .i64 0, .int .i64 0, .slice none 0 0, .slice none 0 0], .box w.heap.size 26 [.int .i64 r.k, .int .i64 r.n, .int .i64 r.a, .slice B r.ls.length cb, .slice K r.ks.length kb], .dat r.d [.int .i64 r.k, .int .i64 r.n, .int .i64 r.a, .slice B r.ls.length cb, .slice K r.ks.length kb]]) (fun i _ => ts.length - (intOf i).toNat)
  case atStart => exact ⟨0, f, _, _, _, _, Nat.zero_le _, rfl, rfl, (H.arr (by (repeat (first | with_reducible exact Arr.nil | refine Arr.cons (by (repeat (first | with_reducible exact Pick.head | with_reducible apply Pick.tail))) ?_)) <;> exact Arr.of_subl (by (repeat (first | with_reducible exact Subl.refl _ | with_reducible apply Subl.drop)))))⟩
  case round =>
    clear H
    obtain ⟨j, r, B, K, cb, kb, hj, rfl, hr, H⟩ := hrel
    have HR := Lib.hid hr
    clear hr
    by_cases hlt : j < ts.length
    · obtain ⟨b, o, A1, ca1, K1, ck1, rfl, hb, hS, hd, p0, p1, p2, p3, p4⟩ := h.atTm hlt
      have HD := Lib.hid hd
      clear hd
      have hr_ := H.rules; simp only [Rules, and_true] at hr_; have hd_ := H.dif; simp only [Dif, Neq, and_true] at hd_; obtain ⟨ho_, hz_⟩ := H.old0
      go_wp2_with fail
      clear hr_ hd_ ho_ hz_
      refine regionH (by (repeat (first | with_reducible exact H | with_reducible exact H0_ | with_reducible apply Hp.alloc | with_reducible apply Hp.allocMap | with_reducible apply Hp.drew | with_reducible apply Hp.drewN | with_reducible apply Hp.set)); (try any_goals (repeat (first | with_reducible exact Upd.head | with_reducible apply Upd.tail)))) ?_
      clear H; intro w3 H; (try simp only [size_drew_, size_drewN_, World.size_alloc, World.size_setCell, List.set_cons_zero, List.set_cons_succ] at H)
      refine wp_region_H 6 [false, false, false, false, false, false] [5] H (.cons (i := 0) rfl (.cons (i := 2) rfl .nil)) (by kernel_rfl) rfl rfl (fun H_ hR_ => ?_)
      (try clear H0_); have H0_ := H; clear H; have H := H_; clear H_
      refine wpL_reads (is := [(0, ?v3_0), (1, ?v3_1)]) (by kernel_rfl) (Nat.le_of_ble_eq_true rfl) (by intro _ _ d_ _ _ h_; cases d_ <;> exact h_) (by kernel_rfl) hR_ (fun w_ hw_ => ?h3_) ?_
      case h3_ =>
        have ho_ := hw_.old0.1; have hz_ := hw_.old0.2; have hr_ := hw_.rules; clear hw_; simp only [Rules, and_true] at hr_; go_split_ands
        (repeat (first | with_reducible exact RdOps.nil | (refine RdOps.run rfl (by rfl) ?_ ?_; (focus (first | (go_simp; done) | (go_simp; with_reducible rfl))); simp only [List.getElem_toArray, List.getElem_cons_zero, List.getElem_cons_succ, Act.put, List.setIfInBounds_toArray, List.set_cons_zero, List.set_cons_succ]) | (refine RdOps.skip rfl (by rfl) ?_; simp only [List.getElem_toArray, List.getElem_cons_zero, List.getElem_cons_succ, Act.put, List.setIfInBounds_toArray, List.set_cons_zero, List.set_cons_succ])))
      simp only [rdMark, rdAct, List.map_cons, List.map_nil, List.length_cons, List.length_nil, Nat.reduceAdd, Nat.reduceSub, Nat.zero_add, List.getElem?_toArray, List.getElem?_cons_zero, List.getElem?_cons_succ, Option.bind_some, Act.put, List.setIfInBounds_toArray, List.set_cons_zero, List.set_cons_succ]
      refine wpL_do (i := 2) rfl (by kernel_rfl) (by rfl) (fun K_ hK_ => ?_)
      go_simp
      refine (teleOwn (HT.out.ext H.ext) ⟨_, _, _, _, rfl, HD.out.ext0 H.ext⟩).mono ?_
      rintro e w_ ⟨v, rfl, hto, hx⟩
      obtain ⟨C1, Cc, C2, Ck, rfl, H_⟩ := H.resTm hx hto
      clear H hx hto
      have H := H_
      clear H_
      refine hK_ _ _ (fun _ => H.sub (by simp)) (fun hR_ => ?_)
      replace hR_ := hR_ (by decide)
      refine wpL_do (i := 3) rfl (by kernel_rfl) (by rfl) (fun K_ hK_ => ?_)
      go_simp
      refine kontH (by (repeat (first | with_reducible exact H | with_reducible exact H0_ | with_reducible apply Hp.alloc | with_reducible apply Hp.allocMap | with_reducible apply Hp.drew | with_reducible apply Hp.drewN | with_reducible apply Hp.set)); (try any_goals (repeat (first | with_reducible exact Upd.head | with_reducible apply Upd.tail)))) ?_
      clear H; intro w4 H; (try simp only [size_drew_, size_drewN_, World.size_alloc, World.size_setCell, List.set_cons_zero, List.set_cons_succ] at H)
      refine hK_ _ _ (fun _ => H.sub (by simp)) (fun hR_ => ?_)
      replace hR_ := hR_ (by decide)
      refine wpL_reads (is := [(4, ?v4_0)]) (by kernel_rfl) (Nat.le_of_ble_eq_true rfl) (by intro _ _ d_ _ _ h_; cases d_ <;> exact h_) (by kernel_rfl) hR_ (fun w_ hw_ => ?h4_) ?_
      case h4_ =>
        have ho_ := hw_.old0.1; have hz_ := hw_.old0.2; have hr_ := hw_.rules; clear hw_; simp only [Rules, and_true] at hr_; go_split_ands
        (repeat (first | with_reducible exact RdOps.nil | (refine RdOps.run rfl (by rfl) ?_ ?_; (focus (first | (go_simp; done) | (go_simp; with_reducible rfl))); simp only [List.getElem_toArray, List.getElem_cons_zero, List.getElem_cons_succ, Act.put, List.setIfInBounds_toArray, List.set_cons_zero, List.set_cons_succ]) | (refine RdOps.skip rfl (by rfl) ?_; simp only [List.getElem_toArray, List.getElem_cons_zero, List.getElem_cons_succ, Act.put, List.setIfInBounds_toArray, List.set_cons_zero, List.set_cons_succ])))
      simp only [rdMark, rdAct, List.map_cons, List.map_nil, List.length_cons, List.length_nil, Nat.reduceAdd, Nat.reduceSub, Nat.zero_add, List.getElem?_toArray, List.getElem?_cons_zero, List.getElem?_cons_succ, Option.bind_some, Act.put, List.setIfInBounds_toArray, List.set_cons_zero, List.set_cons_succ]
      refine wpL_do (i := 5) rfl (by kernel_rfl) (by rfl) (fun K_ hK_ => ?_)
      refine wp_storeH rfl (by go_simp <;> first | rfl | exact ⟨rfl, rfl⟩) (by go_simp <;> first | rfl | exact ⟨rfl, rfl⟩) H (by (repeat (first | with_reducible exact Upd.head | with_reducible apply Upd.tail))) (by exact aggTerm) (by rfl) (by simp [Value.oneCell']) (fun w9 H_ => ?_)
      clear H; have H := H_; clear H_
      refine hK_ _ _ (fun h => absurd (by decide) h) (fun _ => ?_)
      refine wpL_done (by kernel_rfl) ?_ _
      have H := H.node2 (k := 6) (a := r) (b := ts[j]) (by (repeat (first | with_reducible exact Pick.head | with_reducible apply Pick.tail))) (by (repeat (first | with_reducible exact Pick.head | with_reducible apply Pick.tail))) (by (repeat (first | with_reducible exact Pick.head | with_reducible apply Pick.tail))) (by unfold inI; omega)
      go_wp2_with fail
      go_roundw
      case rel =>
        refine ⟨j + 1, .mk 6 0 0 [] [r, ts[j]], ?_⟩
        (iterate 4 apply Exists.intro)
        refine ⟨by omega, by go_num, by rw [appsT_take hlt, HR.out], ?_⟩
        simp only [Tm.k_mk, Tm.n_mk, Tm.a_mk, Tm.ls_mk, Tm.ks_mk, List.length_nil, List.length_cons, Nat.reduceAdd, Nat.zero_add]
        exact (H.arr (by (repeat (first | with_reducible exact Arr.nil | refine Arr.cons (by (repeat (first | with_reducible exact Pick.head | with_reducible apply Pick.tail))) ?_)) <;> exact Arr.of_subl (by (repeat (first | with_reducible exact Subl.refl _ | with_reducible apply Subl.drop)))))
      case measure => simp [intOf]; omega
    · rw [take_all hlt] at HR
      have hr_ := H.rules; simp only [Rules, and_true] at hr_; have hd_ := H.dif; simp only [Dif, Neq, and_true] at hd_; obtain ⟨ho_, hz_⟩ := H.old0
      go_wp2_with ((with_reducible refine atStore (t := 26) ?_); go_must (refine wpList_storeH (t := 26) rfl rfl (by go_simp <;> first | rfl | exact ⟨rfl, rfl⟩) (by go_simp <;> first | rfl | exact ⟨rfl, rfl⟩) (by exact Hp.norm (by (repeat (first | with_reducible exact H | with_reducible exact H0_ | with_reducible apply Hp.alloc | with_reducible apply Hp.allocMap | with_reducible apply Hp.drew | with_reducible apply Hp.drewN | with_reducible apply Hp.set)); (try any_goals (repeat (first | with_reducible exact Upd.head | with_reducible apply Upd.tail)))) (by ((try simp only [size_drew_, size_drewN_, World.size_alloc, World.size_setCell, List.set_cons_zero, List.set_cons_succ, List.nil_append, List.cons_append]) <;> rfl))) (by (repeat (first | with_reducible exact Upd.head | with_reducible apply Upd.tail))) (by exact aggTerm) (by rfl) (by simp [Value.oneCell']) ?_; clear H; intro w7 H; (try simp only [size_drew_, size_drewN_, World.size_alloc, World.size_setCell, List.set_cons_zero, List.set_cons_succ] at H); (try clear hr_ hd_ ho_ hz_); have hr_ := H.rules; simp only [Rules, and_true] at hr_; have hd_ := H.dif; simp only [Dif, Neq, and_true] at hd_; obtain ⟨ho_, hz_⟩ := H.old0))
      clear hr_ hd_ ho_ hz_
      refine endH (by (repeat (first | with_reducible exact H | with_reducible exact H0_ | with_reducible apply Hp.alloc | with_reducible apply Hp.allocMap | with_reducible apply Hp.drew | with_reducible apply Hp.drewN | with_reducible apply Hp.set)); (try any_goals (repeat (first | with_reducible exact Upd.head | with_reducible apply Upd.tail)))) ?_
      clear H; intro w8 H; (try simp only [size_drew_, size_drewN_, World.size_alloc, World.size_setCell, List.set_cons_zero, List.set_cons_succ] at H)
      rw [← HR.out]
      exact bodyPost_ret (v := .agg #[_, _, _, _, _]) (Res.one Tryd.results93 (H.resBox (by (repeat (first | with_reducible exact Pick.head | with_reducible apply Pick.tail))) aggTerm rfl rfl)) rfl (H.ptm (by (repeat (first | with_reducible exact Pick.head | with_reducible apply Pick.tail))))
end Go.Proofs.YtgbokmphbimihaaDoor
/- tele: Count, Lifts; term: Size: contracts. What is appended of old memory. No statement of the seat is proved here. -/
namespace Go.Proofs.YtgbokmphbimihaaDoor
set_option linter.unusedSimpArgs false
set_option linter.unusedVariables false
open Go.RowKit

section
variable {X : Nat → Prop} {w0 w w1 : World} {l l' l1 l2 l3 : List Ch}
variable {P : Program} {ops : Array Oper} {rest : List Oper} {o : Oper} {a : Act} {Q : Exit → Act → World → Prop}
/-- 'out = append(out, x)', x of the old memory. -/
theorem wp_pushR {K : Act → World → Prop} (s x : Operand) (t : TypeId) (ho : o.op = .call { callee := .builtin .append, args := #[s, x], argTypes := #[t, t] }) {e z : Nat} (hT : SlT P t e z)
    {ds : List D} {d : D} {out : Value} {cs : List Value} {g c e1 : Nat} (hs : a.eval s = out) (hx : a.eval x = .slice (some ⟨g, 0, none⟩) 1 c) (H : Hp X w0 w l) (p3 : Pick l (.box g e1 cs) l1) (p1 : Pick l1 (.row e z ds out) l2)
    (hd : RC w (fun k => k < w0.heap.size ∧ ¬ X k) d cs) (hz : d.size = z) (hM : ds.length + 1 ≤ M)
    (h : ∀ v' w', Hp X w0 w' (.row e z (ds ++ [d]) v' :: l2) → K (a.put o.dst v') w') : o.wp P a w K Q := by
  have hcell := H.boxlies p3
  obtain ⟨L, hL, hn⟩ := ((H.pick p3).pick (.tail p1)).own
  simp only [Chs] at hL
  obtain ⟨L1, _, rfl, ⟨rfl, h1⟩, L2, L3, rfl, h2, h3⟩ := hL
  have hB : ∀ k, out.ownBlock = some k → w0.heap.size ≤ k := by
    intro k hk
    obtain ⟨_, _, es, h4, _⟩ := h1
    exact (h4.lt k (by simp [hk])).1
  refine wp_pushC s x t ho hT (ds' := [d]) (cs := cs) (m := 1) hs hx h1 ?_ (by simpa using hz) rfl hcell (by simpa using hM) H.ext.size ?_
  · unfold RCs
    refine ⟨cs, [], by simp, RC.frame (Nat.le_refl _) (fun k hk hS => ⟨hS, fun e => ?_⟩) (fun _ _ _ => rfl) _ _ hd, by unfold RCs; rfl⟩
    have := hB k e.symm
    omega
  · intro v' w' g1 g2 g3
    refine h v' w' ⟨H.ext.grown g2 (fun k hk => .inr (hB k hk)), v'.ownBlock.toList ++ L3, ?_, ?_⟩
    · unfold Chs
      refine ⟨_, L3, rfl, ⟨rfl, g1⟩, h3.frame H.ext.size g2.size (fun k hk hx => g2.block k (Nat.lt_of_lt_of_le hk H.ext.size) (fun e => ?_)) (fun k hk => g2.block k (h3.lt k hk).2 (fun e => ?_))⟩
      · have := hB k e.symm; omega
      · exact (List.nodup_append.1 hn).2.2 k (by simp [← e]) k (by simp [hk]) rfl
    · have n2 := (List.nodup_append.1 (List.nodup_append.1 hn).2.1).2.1
      refine List.nodup_append.2 ⟨by cases v'.ownBlock <;> simp, n2, fun x hx y hy e => ?_⟩
      subst e
      rcases g3 with g3 | g3
      · rw [g3] at hx
        exact (List.nodup_append.1 hn).2.2 x hx x (by simp [hy]) rfl
      · have hx' : x = w.heap.size := by rw [g3] at hx; simpa using hx
        have := (h3.lt x hy).2
        omega
theorem wpList_pushR (hgd : o.guard = none) (s x : Operand) (t : TypeId) (ho : o.op = .call { callee := .builtin .append, args := #[s, x], argTypes := #[t, t] }) {e z : Nat} (hT : SlT P t e z)
    {ds : List D} {d : D} {out : Value} {cs : List Value} {g c e1 : Nat} (hs : a.eval s = out) (hx : a.eval x = .slice (some ⟨g, 0, none⟩) 1 c) (H : Hp X w0 w l) (p3 : Pick l (.box g e1 cs) l1) (p1 : Pick l1 (.row e z ds out) l2)
    (hd : RC w (fun k => k < w0.heap.size ∧ ¬ X k) d cs) (hz : d.size = z) (hM : ds.length + 1 ≤ M)
    (h : ∀ v' w', Hp X w0 w' (.row e z (ds ++ [d]) v' :: l2) → wpList P ops Q rest (a.put o.dst v') w') : wpList P ops Q (o :: rest) a w :=
  wpList_plain hgd fun _ hK => wp_pushR s x t ho hT hs hx H p3 p1 hd hz hM fun v' w' h1 => hK _ _ (h v' w' h1)
theorem Hp.rowNil (H : Hp X w0 w l) (e z : Nat) : Hp X w0 w (.row e z [] (.slice none 0 0) :: l) := by
  obtain ⟨L, h, hn⟩ := H.own
  exact ⟨H.ext, L, by unfold Chs; exact ⟨[], L, rfl, ⟨by simp [Value.ownBlock], RG.nil⟩, h⟩, hn⟩
/-- A row of old elements is read. -/
theorem Hp.rowRd {e z : Nat} {ds : List D} {v : Value} (H : Hp X w0 w l) (p : Pick l (.row e z ds v) l') : RC w (fun k => (k < w0.heap.size ∧ ¬ X k) ∨ w0.heap.size ≤ k) (.l e z ds) [v] := by
  obtain ⟨L, hL, _⟩ := (H.pick p).own
  simp only [Chs] at hL
  obtain ⟨L1, _, rfl, ⟨rfl, h1⟩, _⟩ := hL
  exact h1.rc
end

/-- How many binders Open may take off. -/
def countT : Tm → Nat
  | .mk k _ _ _ [_, b] => if k = 4 then countT b + 1 else 0
  | _ => 0
theorem Tm.two {t : Tm} (h : t.ks.length = 2) : ∃ k n a ls x y, t = .mk k n a ls [x, y] := by
  obtain ⟨k, n, a, ls, ks⟩ := t
  match ks, h with
  | [x, y], _ => exact ⟨k, n, a, ls, x, y, rfl⟩
theorem countT_step {t : Tm} (h4 : t.k = 4) (h2 : t.ks.length = 2) : countT t = countT (t.ks[1]'(by omega)) + 1 := by
  obtain ⟨k, n, a, ls, x, y, rfl⟩ := Tm.two h2
  simp only [Tm.k_mk] at h4
  rw [countT, if_pos h4]
  rfl
theorem countT_stop {t : Tm} (h : ¬ (t.k = 4 ∧ t.ks.length = 2)) : countT t = 0 := by
  obtain ⟨k, n, a, ls, ks⟩ := t
  match ks with
  | [] => simp [countT]
  | [_] => simp [countT]
  | [x, y] =>
    rw [countT, if_neg]
    intro e
    exact h ⟨e, rfl⟩
  | _ :: _ :: _ :: _ => simp [countT]
set_option maxRecDepth 100000 in
set_option maxHeartbeats 2000000 in
theorem teleCount {S : Nat → Prop} {t : Tm} {w : World} {v : Value} (h : TV w S t v) (hb : countT t ≤ 1000000000000) : Calls Tryd.prog 104 #[v] w (PV w (.int .i64 (countT t))) := by
  obtain ⟨A0, ca, K0, ck, rfl, hrc⟩ := h
  have HRC := Lib.hid hrc
  clear hrc
  go_enter Tryd.func104, Tryd.ntmps104
  go_wp2_with fail
  have H := Hp.start no w
  go_loopw [2] (fun n wr => ∃ (u : Tm) (m : Nat) (B K : Option Addr) (cb kb : Nat), n = .int .i64 m ∧ countT u + m = countT t ∧ RC w S u.d [.int .i64 u.k, .int .i64 u.n, .int .i64 u.a, .slice B u.ls.length cb, .slice K u.ks.length kb] ∧ Hp no w wr [.box w.heap.size 26 [.int .i64 u.k, .int .i64 u.n, .int .i64 u.a, .slice B u.ls.length cb, .slice K u.ks.length kb]]) (fun n _ => countT t - (intOf n).toNat)
  case atStart => exact ⟨t, 0, _, _, _, _, rfl, rfl, HRC.out, by (repeat (first | with_reducible exact H | with_reducible exact H0_ | with_reducible apply Hp.alloc | with_reducible apply Hp.allocMap | with_reducible apply Hp.drew | with_reducible apply Hp.drewN | with_reducible apply Hp.set)); (try any_goals (repeat (first | with_reducible exact Upd.head | with_reducible apply Upd.tail)))⟩
  case round =>
    clear H
    obtain ⟨u, m, B, K, cb, kb, rfl, hm, hrc, H⟩ := hrel
    have HM := Lib.hid hm
    have HR := Lib.hid hrc
    have hmb : m ≤ 1000000000000 := by omega
    clear hm hrc
    by_cases h4 : u.k = 4
    · by_cases h2 : u.ks.length = 2
      · obtain ⟨_, _, _, _, he, _, _, _, _, hks⟩ := RC.tm.1 HR.out
        simp only [List.cons.injEq, Value.slice.injEq, and_true, true_and] at he
        obtain ⟨⟨rfl, rfl⟩, rfl, rfl⟩ := he
        obtain ⟨b, o, A1, ca1, K1, ck1, rfl, hb, hS, hd, p0, p1, p2, p3, p4⟩ := hks.atTm (k := 1) (by omega)
        have HD := Lib.hid hd
        have HS := Lib.hid (countT_step h4 h2)
        clear hd hks
        simp only [Nat.one_mul] at p0 p1 p2 p3 p4
        have hr_ := H.rules; simp only [Rules, and_true] at hr_; have hd_ := H.dif; simp only [Dif, Neq, and_true] at hd_; obtain ⟨ho_, hz_⟩ := H.old0
        go_wp2_with ((with_reducible refine atStore (t := 26) ?_); go_must (refine wpList_storeH (t := 26) rfl rfl (by go_simp <;> first | rfl | exact ⟨rfl, rfl⟩) (by go_simp <;> first | rfl | exact ⟨rfl, rfl⟩) (by exact Hp.norm (by (repeat (first | with_reducible exact H | with_reducible exact H0_ | with_reducible apply Hp.alloc | with_reducible apply Hp.allocMap | with_reducible apply Hp.drew | with_reducible apply Hp.drewN | with_reducible apply Hp.set)); (try any_goals (repeat (first | with_reducible exact Upd.head | with_reducible apply Upd.tail)))) (by ((try simp only [size_drew_, size_drewN_, World.size_alloc, World.size_setCell, List.set_cons_zero, List.set_cons_succ, List.nil_append, List.cons_append]) <;> rfl))) (by (repeat (first | with_reducible exact Upd.head | with_reducible apply Upd.tail))) (by exact aggTerm) (by rfl) (by simp [Value.oneCell']) ?_; clear H; intro w7 H; (try simp only [size_drew_, size_drewN_, World.size_alloc, World.size_setCell, List.set_cons_zero, List.set_cons_succ] at H); (try clear hr_ hd_ ho_ hz_); have hr_ := H.rules; simp only [Rules, and_true] at hr_; have hd_ := H.dif; simp only [Dif, Neq, and_true] at hd_; obtain ⟨ho_, hz_⟩ := H.old0))
        clear hr_ hd_ ho_ hz_
        go_roundw
        case rel => exact ⟨u.ks[1], m + 1, _, _, _, _, by go_num, by have h1 := HM.out; have h5 := HS.out; omega, HD.out, H⟩
        case measure => have h1 := HM.out; have h5 := HS.out; simp [intOf]; omega
      · have HS := Lib.hid (countT_stop (t := u) (fun h => h2 h.2))
        have hr_ := H.rules; simp only [Rules, and_true] at hr_; have hd_ := H.dif; simp only [Dif, Neq, and_true] at hd_; obtain ⟨ho_, hz_⟩ := H.old0
        go_wp2_with fail
        clear hr_ hd_ ho_ hz_
        go_ret
        exact ⟨by have h1 := HM.out; have h5 := HS.out; rw [show countT t = m by omega]; rfl, H.ext⟩
    · have HS := Lib.hid (countT_stop (t := u) (fun h => h4 h.1))
      have hr_ := H.rules; simp only [Rules, and_true] at hr_; have hd_ := H.dif; simp only [Dif, Neq, and_true] at hd_; obtain ⟨ho_, hz_⟩ := H.old0
      go_wp2_with fail
      clear hr_ hd_ ho_ hz_
      go_ret
      exact ⟨by have h1 := HM.out; have h5 := HS.out; rw [show countT t = m by omega]; rfl, H.ext⟩
/-- A row lifted: each behind those ahead. -/
def liftsT (ts : List Tm) (n fr : Int) : List Tm := List.ofFn fun i : Fin ts.length => liftT ts[i] n (wrap64 (fr + (i.1 : Nat)))
theorem liftsT_len (ts : List Tm) (n fr : Int) : (liftsT ts n fr).length = ts.length := by simp [liftsT]
theorem liftsT_take {ts : List Tm} {n fr : Int} {j : Nat} (h : j < ts.length) : ((liftsT ts n fr).take (j + 1)).map Tm.d = ((liftsT ts n fr).take j).map Tm.d ++ [(liftT ts[j] n (wrap64 (fr + (j : Nat)))).d] := by
  have h' : j < (liftsT ts n fr).length := by rw [liftsT_len]; exact h
  rw [List.take_succ_eq_append_getElem h', List.map_append]
  simp [liftsT]
set_option maxRecDepth 100000 in
set_option maxHeartbeats 2000000 in
theorem teleLifts {S : Nat → Prop} {ts : List Tm} {w : World} {A : Option Addr} {n c : Nat} (hT : Tab w) (h : RC w S (.l 26 5 (ts.map Tm.d)) [.slice A n c]) (hn : n = ts.length) (by_ fr : Int) : Calls Tryd.prog 106 #[.slice A n c, .int .i64 by_, .int .i64 fr] w (PSl w 26 5 ((liftsT ts by_ fr).map Tm.d)) := by
  subst hn
  have hM := h.lenM
  have HT := Lib.hid hT
  clear hT
  go_enter Tryd.func106, Tryd.ntmps106
  go_wp2_with fail
  have H := Hp.start no w
  replace H := H.nil 26 5
  go_loopw [6, 11] (fun out i wr => ∃ j : Nat, j ≤ ts.length ∧ i = .int .i64 j ∧ Hp no w wr [.dat (.l 26 5 (((liftsT ts by_ fr).take j).map Tm.d)) [out]]) (fun _ i _ => ts.length - (intOf i).toNat)
  case atStart => exact ⟨0, Nat.zero_le _, rfl, H⟩
  case round =>
    clear H
    obtain ⟨j, hj, rfl, H⟩ := hrel
    by_cases hlt : j < ts.length
    · obtain ⟨b, o, A1, ca, K1, ck, rfl, hb, hS, hd, p0, p1, p2, p3, p4⟩ := h.atTm hlt
      have HD := Lib.hid hd
      have HL := Lib.hid (liftsT_take (n := by_) (fr := fr) hlt)
      have hlen := liftsT_len ts by_ fr
      clear hd
      have hr_ := H.rules; simp only [Rules, and_true] at hr_; have hd_ := H.dif; simp only [Dif, Neq, and_true] at hd_; obtain ⟨ho_, hz_⟩ := H.old0
      go_wp2_with ((with_reducible refine atStore (t := 26) ?_); go_must (refine wpList_storeH (t := 26) rfl rfl (by go_simp <;> first | rfl | exact ⟨rfl, rfl⟩) (by go_simp <;> first | rfl | exact ⟨rfl, rfl⟩) (by exact Hp.norm (by (repeat (first | with_reducible exact H | with_reducible exact H0_ | with_reducible apply Hp.alloc | with_reducible apply Hp.allocMap | with_reducible apply Hp.drew | with_reducible apply Hp.drewN | with_reducible apply Hp.set)); (try any_goals (repeat (first | with_reducible exact Upd.head | with_reducible apply Upd.tail)))) (by ((try simp only [size_drew_, size_drewN_, World.size_alloc, World.size_setCell, List.set_cons_zero, List.set_cons_succ, List.nil_append, List.cons_append]) <;> rfl))) (by (repeat (first | with_reducible exact Upd.head | with_reducible apply Upd.tail))) (by exact aggTerm) (by rfl) (by simp [Value.oneCell']) ?_; clear H; intro w7 H; (try simp only [size_drew_, size_drewN_, World.size_alloc, World.size_setCell, List.set_cons_zero, List.set_cons_succ] at H); (try clear hr_ hd_ ho_ hz_); have hr_ := H.rules; simp only [Rules, and_true] at hr_; have hd_ := H.dif; simp only [Dif, Neq, and_true] at hd_; obtain ⟨ho_, hz_⟩ := H.old0))
      clear hr_ hd_ ho_ hz_
      refine callsH (by (repeat (first | with_reducible exact H | with_reducible exact H0_ | with_reducible apply Hp.alloc | with_reducible apply Hp.allocMap | with_reducible apply Hp.drew | with_reducible apply Hp.drewN | with_reducible apply Hp.set)); (try any_goals (repeat (first | with_reducible exact Upd.head | with_reducible apply Upd.tail)))) ?_
      clear H; intro w2 H; (try simp only [size_drew_, size_drewN_, World.size_alloc, World.size_setCell, List.set_cons_zero, List.set_cons_succ] at H)
      refine (lift_calls (HT.out.ext H.ext) _ _ ⟨_, _, _, _, rfl, HD.out.ext0 H.ext⟩).mono ?_
      rintro e w_ ⟨v, rfl, hto, hx⟩
      obtain ⟨B1, Bc, B2, Bk, rfl, H_⟩ := H.resTm hx hto
      clear H hx hto
      have H := H_
      clear H_
      go_wp2_with (at_builtin; go_must (refine wpList_pushH rfl (.tmp 16) (.tmp 23) 24 rfl stTerms (by go_simp <;> first | rfl | exact ⟨rfl, rfl⟩) (by go_simp <;> first | rfl | exact ⟨rfl, rfl⟩) (by exact Hp.norm (by (repeat (first | with_reducible exact H | with_reducible exact H0_ | with_reducible apply Hp.alloc | with_reducible apply Hp.allocMap | with_reducible apply Hp.drew | with_reducible apply Hp.drewN | with_reducible apply Hp.set)); (try any_goals (repeat (first | with_reducible exact Upd.head | with_reducible apply Upd.tail)))) (by ((try simp only [size_drew_, size_drewN_, World.size_alloc, World.size_setCell, List.set_cons_zero, List.set_cons_succ, List.nil_append, List.cons_append]) <;> rfl))) (by (repeat (first | with_reducible exact Pick.head | with_reducible apply Pick.tail))) (by (repeat (first | with_reducible exact Pick.head | with_reducible apply Pick.tail))) (by (repeat (first | with_reducible exact Pick.head | with_reducible apply Pick.tail))) (Tm.size_d _) ?_ ?_; (focus (simp [M]; omega)); clear H; intro v' w4 H))
      go_roundw
      case rel => exact ⟨j + 1, by omega, by go_num, by rw [HL.out]; exact (H.arr (by (repeat (first | with_reducible exact Arr.nil | refine Arr.cons (by (repeat (first | with_reducible exact Pick.head | with_reducible apply Pick.tail))) ?_)) <;> exact Arr.of_subl (by (repeat (first | with_reducible exact Subl.refl _ | with_reducible apply Subl.drop)))))⟩
      case measure => simp [intOf]; omega
    · go_wp2_with fail
      go_ret
      rw [take_all (by rw [liftsT_len]; exact hlt)] at H
      exact H.psl .head
end Go.Proofs.YtgbokmphbimihaaDoor
