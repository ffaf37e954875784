/- tele: open: contract. No statement of the seat is proved here. -/
import Derived.Test.YtgbokmphbimihaaDoorMgTele3
import Derived.Test.YtgbokmphbimihaaDoorMgAbove
import Derived.Test.YtgbokmphbimihaaDoorMgSrcBlock
namespace Go.Proofs.YtgbokmphbimihaaDoor
set_option linter.unusedSimpArgs false
set_option linter.unusedVariables false
open Go.RowKit

theorem RC.oldP {w w' : World} {S : Nat → Prop} {d : D} {cs : List Value} (h : RC w S d cs) (hx : Ext no w w') : RC w' (fun k => k < w.heap.size ∧ ¬ no k) d cs :=
  RC.frame hx.size (fun k _ hS => ⟨hS.2, no_not⟩) (fun k hk _ => hx.block k hk no_not) _ _ h.bd
/-- So many binders taken off. -/
def openT : Nat → Tm → Option (List Tm × Tm)
  | 0, t => some ([], t)
  | n + 1, .mk k _ _ _ [a, b] => if k = 4 then (openT n b).map fun p => (a :: p.1, p.2) else none
  | _ + 1, _ => none
theorem openT_step {n : Nat} {t : Tm} (h4 : t.k = 4) (h2 : t.ks.length = 2) : openT (n + 1) t = (openT n (t.ks[1]'(by omega))).map fun p => (t.ks[0]'(by omega) :: p.1, p.2) := by
  obtain ⟨k, m, a, ls, x, y, rfl⟩ := Tm.two h2
  simp only [Tm.k_mk] at h4
  rw [openT, if_pos h4]
  rfl
theorem openT_stop {n : Nat} {t : Tm} (h : ¬ (t.k = 4 ∧ t.ks.length = 2)) : openT (n + 1) t = none := by
  obtain ⟨k, m, a, ls, ks⟩ := t
  match ks with
  | [] => simp [openT]
  | [_] => simp [openT]
  | [x, y] =>
    rw [openT, if_neg]
    intro e
    exact h ⟨e, rfl⟩
  | _ :: _ :: _ :: _ => simp [openT]
def fewP : List PanicEntry := [{ v := .iface 177 (.agg #[]), recovered := false }]
/-- A row and a term, fresh both; or few thrown. -/
def POpen (w : World) (o : Option (List Tm × Tm)) (e : Ending) (w' : World) : Prop :=
  match o with
  | none => e = .panicked fewP ∧ Ext no w w'
  | some (ls, r) => ∃ A c B cb K kb, e = .returned (.tuple #[.slice A ls.length c, .agg #[.int .i64 r.k, .int .i64 r.n, .int .i64 r.a, .slice B r.ls.length cb, .slice K r.ks.length kb]]) ∧
    Hp no w w' [.dat (.l 26 5 (ls.map Tm.d)) [.slice A ls.length c], .dat r.d [.int .i64 r.k, .int .i64 r.n, .int .i64 r.a, .slice B r.ls.length cb, .slice K r.ks.length kb]]
def openN (n : Int) (t : Tm) : Option (List Tm × Tm) := if n < 0 then none else openT n.toNat t
set_option maxRecDepth 100000 in
set_option maxHeartbeats 4000000 in
theorem open_calls {S : Nat → Prop} {t : Tm} {w : World} {v : Value} (hT : Tab w) (h : TV w S t v) (n : Int) (hb : countT t ≤ 1000000000 ∨ n ≤ 1000000000) (hn : inI n) : Calls Tryd.prog 150 #[v, .int .i64 n] w (POpen w (openN n t)) := by
  obtain ⟨A0, ca, K0, ck, rfl, hrc⟩ := h
  have HRC := Lib.hid hrc
  have HT := Lib.hid hT
  have HBB := Lib.hid hb
  clear hrc hT hb
  go_enter Tryd.func150, Tryd.ntmps150
  by_cases h0 : n < 0
  · have HO : Hid (openN n t = none) := by unfold Hid openN; rw [if_pos h0]
    have H := Hp.start no w
    go_wp2_with fail
    rw [HO.out]
    exact ⟨rfl, rfl, (show Hp no w _ _ from (by (repeat (first | with_reducible exact H | with_reducible exact H0_ | with_reducible apply Hp.alloc | with_reducible apply Hp.allocMap | with_reducible apply Hp.drew | with_reducible apply Hp.drewN | with_reducible apply Hp.set)); (try any_goals (repeat (first | with_reducible exact Upd.head | with_reducible apply Upd.tail))))).ext⟩
  · have HO : Hid (openN n t = openT n.toNat t) := by unfold Hid openN; rw [if_neg h0]
    have hn2 : n ≤ 9223372036854775807 := hn.2
    clear hn
    go_wp2_with fail
    have H := (Hp.start no w).rowNil 26 5
    go_loopw [4, 11] (fun out i wr => ∃ (j : Nat) (u : Tm) (ls : List Tm) (B K : Option Addr) (cb kb : Nat), (j : Int) ≤ n ∧ i = .int .i64 j ∧ countT u + j = countT t ∧ ls.length = j ∧ openT n.toNat t = (openT (n.toNat - j) u).map (fun p => (ls ++ p.1, p.2)) ∧
      RC w S u.d [.int .i64 u.k, .int .i64 u.n, .int .i64 u.a, .slice B u.ls.length cb, .slice K u.ks.length kb] ∧
      Hp no w wr [.box (w.heap.size + 1) 26 [.int .i64 0, .int .i64 0, .int .i64 0, .slice none 0 0, .slice none 0 0], .box w.heap.size 26 [.int .i64 u.k, .int .i64 u.n, .int .i64 u.a, .slice B u.ls.length cb, .slice K u.ks.length kb], .row 26 5 (ls.map Tm.d) out]) (fun _ i _ => countT t - (intOf i).toNat)
    case atStart => exact ⟨0, t, [], _, _, _, _, by omega, rfl, rfl, rfl, by simp, HRC.out, by rw [List.map_nil]; exact Hp.norm (by (repeat (first | with_reducible exact H | with_reducible exact H0_ | with_reducible apply Hp.alloc | with_reducible apply Hp.allocMap | with_reducible apply Hp.drew | with_reducible apply Hp.drewN | with_reducible apply Hp.set)); (try any_goals (repeat (first | with_reducible exact Upd.head | with_reducible apply Upd.tail)))) (by ((try simp only [size_drew_, size_drewN_, World.size_alloc, World.size_setCell, List.set_cons_zero, List.set_cons_succ, List.nil_append, List.cons_append]) <;> rfl))⟩
    case round =>
      clear H
      obtain ⟨j, u, ls, B, K, cb, kb, hj, rfl, hm, hls, hop, hrc, H⟩ := hrel
      have HM := Lib.hid hm
      have HR := Lib.hid hrc
      have HP := Lib.hid hop
      have hmb : j ≤ 1000000000 := by have := HBB.out; omega
      clear hm hrc hop
      by_cases hlt : (j : Int) < n
      · by_cases h42 : u.k = 4 ∧ u.ks.length = 2
        · obtain ⟨h4, h2⟩ := h42
          obtain ⟨_, _, _, _, he, _, _, _, _, hks⟩ := RC.tm.1 HR.out
          simp only [List.cons.injEq, Value.slice.injEq, and_true, true_and] at he
          obtain ⟨⟨rfl, rfl⟩, rfl, rfl⟩ := he
          obtain ⟨b, o, A1, ca1, K1, ck1, rfl, hb1, hS, hd, p0, p1, p2, p3, p4⟩ := hks.atTm (k := 0) (by omega)
          obtain ⟨b', o', A2, ca2, K2, ck2, he, hb2, hS2, hd2, q0, q1, q2, q3, q4⟩ := hks.atTm (k := 1) (by omega)
          simp only [Option.some.injEq, Addr.mk.injEq, and_true] at he
          obtain ⟨rfl, rfl⟩ := he
          have HA := Lib.hid hd
          have HD := Lib.hid hd2
          have HS := Lib.hid (countT_step h4 h2)
          have HN := Lib.hid (openT_step (n := n.toNat - (j + 1)) h4 h2)
          clear hd hd2 hks
          simp only [Nat.one_mul, Nat.zero_mul, Nat.add_zero] at p0 p1 p2 p3 p4 q0 q1 q2 q3 q4
          have hr_ := H.rules; simp only [Rules, and_true] at hr_; have hd_ := H.dif; simp only [Dif, Neq, and_true] at hd_; obtain ⟨ho_, hz_⟩ := H.old0
          go_wp2_with (first | (at_builtin; go_must (refine wpList_pushR (d := u.ks[0].d) rfl (.tmp 24) (.tmp 29) 24 rfl stTerms (by go_simp <;> first | rfl | exact ⟨rfl, rfl⟩) (by go_simp <;> first | rfl | exact ⟨rfl, rfl⟩) (by exact Hp.norm (by (repeat (first | with_reducible exact H | with_reducible exact H0_ | with_reducible apply Hp.alloc | with_reducible apply Hp.allocMap | with_reducible apply Hp.drew | with_reducible apply Hp.drewN | with_reducible apply Hp.set)); (try any_goals (repeat (first | with_reducible exact Upd.head | with_reducible apply Upd.tail)))) (by ((try simp only [size_drew_, size_drewN_, World.size_alloc, World.size_setCell, List.set_cons_zero, List.set_cons_succ, List.nil_append, List.cons_append]) <;> rfl))) (by (repeat (first | with_reducible exact Pick.head | with_reducible apply Pick.tail))) (by (repeat (first | with_reducible exact Pick.head | with_reducible apply Pick.tail))) ?_ ?_ ?_ ?_; (focus (exact HA.out.oldP (H.ext.alloc _))); (focus (exact Tm.size_d _)); (focus (simp only [M, List.length_map]; omega)); clear H; intro v' w4 H; (try clear hr_ hd_ ho_ hz_); have hr_ := H.rules; simp only [Rules, and_true] at hr_; have hd_ := H.dif; simp only [Dif, Neq, and_true] at hd_; obtain ⟨ho_, hz_⟩ := H.old0)) | ((with_reducible refine atStore (t := 26) ?_); go_must (refine wpList_storeH (t := 26) rfl rfl (by go_simp <;> first | rfl | exact ⟨rfl, rfl⟩) (by go_simp <;> first | rfl | exact ⟨rfl, rfl⟩) (by exact Hp.norm (by (repeat (first | with_reducible exact H | with_reducible exact H0_ | with_reducible apply Hp.alloc | with_reducible apply Hp.allocMap | with_reducible apply Hp.drew | with_reducible apply Hp.drewN | with_reducible apply Hp.set)); (try any_goals (repeat (first | with_reducible exact Upd.head | with_reducible apply Upd.tail)))) (by ((try simp only [size_drew_, size_drewN_, World.size_alloc, World.size_setCell, List.set_cons_zero, List.set_cons_succ, List.nil_append, List.cons_append]) <;> rfl))) (by (repeat (first | with_reducible exact Upd.head | with_reducible apply Upd.tail))) (by exact aggTerm) (by rfl) (by simp [Value.oneCell']) ?_; clear H; intro w7 H; (try simp only [size_drew_, size_drewN_, World.size_alloc, World.size_setCell, List.set_cons_zero, List.set_cons_succ] at H); (try clear hr_ hd_ ho_ hz_); have hr_ := H.rules; simp only [Rules, and_true] at hr_; have hd_ := H.dif; simp only [Dif, Neq, and_true] at hd_; obtain ⟨ho_, hz_⟩ := H.old0)))
          clear hr_ hd_ ho_ hz_
          go_roundw
          case rel => exact ⟨j + 1, u.ks[1], ls ++ [u.ks[0]], _, _, _, _, by omega, by go_num, by have h1 := HM.out; have h5 := HS.out; omega, by simp [hls], by have e := HN.out; rw [show n.toNat - (j + 1) + 1 = n.toNat - j by omega] at e; rw [HP.out, e]; simp [Option.map_map, Function.comp_def], HD.out, by simp only [List.map_append, List.map_cons, List.map_nil]; exact (H.arr (by (repeat (first | with_reducible exact Arr.nil | refine Arr.cons (by (repeat (first | with_reducible exact Pick.head | with_reducible apply Pick.tail))) ?_)) <;> exact Arr.of_subl (by (repeat (first | with_reducible exact Subl.refl _ | with_reducible apply Subl.drop)))))⟩
          case measure => have h1 := HM.out; have h5 := HS.out; simp [intOf]; omega
        · have HN := Lib.hid (openT_stop (n := n.toNat - (j + 1)) h42)
          have HO2 : Hid (openN n t = none) := by
            unfold Hid
            have e := HN.out
            rw [show n.toNat - (j + 1) + 1 = n.toNat - j by omega] at e
            rw [HO.out, HP.out, e]
            rfl
          by_cases h4 : u.k = 4
          · have h2 : ¬ u.ks.length = 2 := fun e => h42 ⟨h4, e⟩
            clear h42
            have hr_ := H.rules; simp only [Rules, and_true] at hr_; have hd_ := H.dif; simp only [Dif, Neq, and_true] at hd_; obtain ⟨ho_, hz_⟩ := H.old0
            go_wp2_with fail
            clear hr_ hd_ ho_ hz_
            rw [HO2.out]
            exact ⟨rfl, rfl, (show Hp no w _ _ from (by (repeat (first | with_reducible exact H | with_reducible exact H0_ | with_reducible apply Hp.alloc | with_reducible apply Hp.allocMap | with_reducible apply Hp.drew | with_reducible apply Hp.drewN | with_reducible apply Hp.set)); (try any_goals (repeat (first | with_reducible exact Upd.head | with_reducible apply Upd.tail))))).ext⟩
          · clear h42
            have hr_ := H.rules; simp only [Rules, and_true] at hr_; have hd_ := H.dif; simp only [Dif, Neq, and_true] at hd_; obtain ⟨ho_, hz_⟩ := H.old0
            go_wp2_with fail
            clear hr_ hd_ ho_ hz_
            rw [HO2.out]
            exact ⟨rfl, rfl, (show Hp no w _ _ from (by (repeat (first | with_reducible exact H | with_reducible exact H0_ | with_reducible apply Hp.alloc | with_reducible apply Hp.allocMap | with_reducible apply Hp.drew | with_reducible apply Hp.drewN | with_reducible apply Hp.set)); (try any_goals (repeat (first | with_reducible exact Upd.head | with_reducible apply Upd.tail))))).ext⟩
      · have HO2 : Hid (openN n t = some (ls, u)) := by
          unfold Hid
          rw [HO.out, HP.out, show n.toNat - j = 0 by omega]
          simp [openT]
        subst hls
        obtain ⟨E1, e1, rfl, _⟩ := (H.rowRd (e := 26) (by (repeat (first | with_reducible exact Pick.head | with_reducible apply Pick.tail)))).slice
        simp only [List.length_map] at H ⊢
        have hr_ := H.rules; simp only [Rules, and_true] at hr_; have hd_ := H.dif; simp only [Dif, Neq, and_true] at hd_; obtain ⟨ho_, hz_⟩ := H.old0
        go_wp2_with fail
        clear hr_ hd_ ho_ hz_
        refine regionH (by (repeat (first | with_reducible exact H | with_reducible exact H0_ | with_reducible apply Hp.alloc | with_reducible apply Hp.allocMap | with_reducible apply Hp.drew | with_reducible apply Hp.drewN | with_reducible apply Hp.set)); (try any_goals (repeat (first | with_reducible exact Upd.head | with_reducible apply Upd.tail)))) ?_
        clear H; intro w3 H; (try simp only [size_drew_, size_drewN_, World.size_alloc, World.size_setCell, List.set_cons_zero, List.set_cons_succ] at H)
        refine wp_region_H 6 [false, false, false, false, false, false] [5] H (.cons (i := 1) rfl .nil) (by kernel_rfl) rfl rfl (fun H_ hR_ => ?_)
        (try clear H0_); have H0_ := H; clear H; have H := H_; clear H_
        refine wpL_reads (is := [(0, ?v1_0), (2, ?v1_1)]) (by kernel_rfl) (Nat.le_of_ble_eq_true rfl) (by intro _ _ d_ _ _ h_; cases d_ <;> exact h_) (by kernel_rfl) hR_ (fun w_ hw_ => ?h1_) ?_
        case h1_ =>
          have ho_ := hw_.old0.1; have hz_ := hw_.old0.2; have hr_ := hw_.rules; clear hw_; simp only [Rules, and_true] at hr_; go_split_ands
          (repeat (first | with_reducible exact RdOps.nil | (refine RdOps.run rfl (by rfl) ?_ ?_; (focus (first | (go_simp; done) | (go_simp; with_reducible rfl))); simp only [List.getElem_toArray, List.getElem_cons_zero, List.getElem_cons_succ, Act.put, List.setIfInBounds_toArray, List.set_cons_zero, List.set_cons_succ]) | (refine RdOps.skip rfl (by rfl) ?_; simp only [List.getElem_toArray, List.getElem_cons_zero, List.getElem_cons_succ, Act.put, List.setIfInBounds_toArray, List.set_cons_zero, List.set_cons_succ])))
        simp only [rdMark, rdAct, List.map_cons, List.map_nil, List.length_cons, List.length_nil, Nat.reduceAdd, Nat.reduceSub, Nat.zero_add, List.getElem?_toArray, List.getElem?_cons_zero, List.getElem?_cons_succ, Option.bind_some, Act.put, List.setIfInBounds_toArray, List.set_cons_zero, List.set_cons_succ]
        refine wpL_do (i := 1) rfl (by kernel_rfl) (by rfl) (fun K_ hK_ => ?_)
        go_simp
        have hrow := H.rowRd (e := 26) (z := 5) (ds := ls.map Tm.d) (v := .slice E1 ls.length e1) (by (repeat (first | with_reducible exact Pick.head | with_reducible apply Pick.tail)))
        have hcall := teleOwns (HT.out.ext H.ext) hrow rfl
        clear hrow
        refine hcall.mono ?_
        clear hcall
        rintro e w_ ⟨B1, Bc, rfl, hacc, hx⟩
        replace H := H.resSl hx hacc
        clear hx hacc
        refine hK_ _ _ (fun _ => H.sub (by simp)) (fun hR_ => ?_)
        replace hR_ := hR_ (by decide)
        refine wpL_do (i := 3) rfl (by kernel_rfl) (by rfl) (fun K_ hK_ => ?_)
        go_simp
        refine (teleOwn (HT.out.ext H.ext) ⟨_, _, _, _, rfl, HR.out.ext0 H.ext⟩).mono ?_
        rintro e w_ ⟨v, rfl, hto, hx⟩
        obtain ⟨C1, Cc, C2, Ck, rfl, H_⟩ := H.resTm hx hto
        clear H hx hto
        have H := H_
        clear H_
        refine hK_ _ _ (fun _ => H.sub (by simp)) (fun hR_ => ?_)
        replace hR_ := hR_ (by decide)
        refine wpL_reads (is := [(4, ?v2_0)]) (by kernel_rfl) (Nat.le_of_ble_eq_true rfl) (by intro _ _ d_ _ _ h_; cases d_ <;> exact h_) (by kernel_rfl) hR_ (fun w_ hw_ => ?h2_) ?_
        case h2_ =>
          have ho_ := hw_.old0.1; have hz_ := hw_.old0.2; have hr_ := hw_.rules; clear hw_; simp only [Rules, and_true] at hr_; go_split_ands
          (repeat (first | with_reducible exact RdOps.nil | (refine RdOps.run rfl (by rfl) ?_ ?_; (focus (first | (go_simp; done) | (go_simp; with_reducible rfl))); simp only [List.getElem_toArray, List.getElem_cons_zero, List.getElem_cons_succ, Act.put, List.setIfInBounds_toArray, List.set_cons_zero, List.set_cons_succ]) | (refine RdOps.skip rfl (by rfl) ?_; simp only [List.getElem_toArray, List.getElem_cons_zero, List.getElem_cons_succ, Act.put, List.setIfInBounds_toArray, List.set_cons_zero, List.set_cons_succ])))
        simp only [rdMark, rdAct, List.map_cons, List.map_nil, List.length_cons, List.length_nil, Nat.reduceAdd, Nat.reduceSub, Nat.zero_add, List.getElem?_toArray, List.getElem?_cons_zero, List.getElem?_cons_succ, Option.bind_some, Act.put, List.setIfInBounds_toArray, List.set_cons_zero, List.set_cons_succ]
        refine wpL_do (i := 5) rfl (by kernel_rfl) (by rfl) (fun K_ hK_ => ?_)
        refine wp_storeH rfl (by go_simp <;> first | rfl | exact ⟨rfl, rfl⟩) (by go_simp <;> first | rfl | exact ⟨rfl, rfl⟩) H (by (repeat (first | with_reducible exact Upd.head | with_reducible apply Upd.tail))) (by exact aggTerm) (by rfl) (by simp [Value.oneCell']) (fun w9 H_ => ?_)
        clear H; have H := H_; clear H_
        refine hK_ _ _ (fun h => absurd (by decide) h) (fun _ => ?_)
        refine wpL_done (by kernel_rfl) ?_ _
        go_wp2_with fail
        refine endH (by (repeat (first | with_reducible exact H | with_reducible exact H0_ | with_reducible apply Hp.alloc | with_reducible apply Hp.allocMap | with_reducible apply Hp.drew | with_reducible apply Hp.drewN | with_reducible apply Hp.set)); (try any_goals (repeat (first | with_reducible exact Upd.head | with_reducible apply Upd.tail)))) ?_
        clear H; intro w8 H; (try simp only [size_drew_, size_drewN_, World.size_alloc, World.size_setCell, List.set_cons_zero, List.set_cons_succ] at H)
        simp only [List.length_map] at H
        have hr_ := H.rules; simp only [Rules, and_true] at hr_; have hd_ := H.dif; simp only [Dif, Neq, and_true] at hd_; obtain ⟨ho_, hz_⟩ := H.old0
        refine bodyPost_ret (v := .tuple #[.slice B1 ls.length Bc, .agg #[.int .i64 u.k, .int .i64 u.n, .int .i64 u.a, .slice C1 u.ls.length Cc, .slice C2 u.ks.length Ck]]) (by simp [results, Tryd.results150, go_sem, hr_]) rfl ?_
        rw [HO2.out]
        exact ⟨_, _, _, _, _, _, rfl, (H.arr (by (repeat (first | with_reducible exact Arr.nil | refine Arr.cons (by (repeat (first | with_reducible exact Pick.head | with_reducible apply Pick.tail))) ?_)) <;> exact Arr.of_subl (by (repeat (first | with_reducible exact Subl.refl _ | with_reducible apply Subl.drop)))))⟩
end Go.Proofs.YtgbokmphbimihaaDoor
/- term: Put: the turning function; contract. No statement of the seat is proved here. -/
namespace Go.Proofs.YtgbokmphbimihaaDoor
set_option linter.unusedSimpArgs false
set_option linter.unusedVariables false
open Go.RowKit

mutual
/-- How deep a term is. -/
def depthT : Tm → Nat
  | .mk _ _ _ _ ks => depthsT ks + 1
def depthsT : List Tm → Nat
  | [] => 0
  | t :: ts => max (depthT t) (depthsT ts)
end
theorem depthsT_get {ts : List Tm} {i : Nat} (h : i < ts.length) : depthT ts[i] ≤ depthsT ts := by
  induction ts generalizing i with
  | nil => simp at h
  | cons t ts ih =>
    rw [depthsT]
    cases i with
    | zero => simp; omega
    | succ i => have := ih (i := i) (by simpa using h); simp; omega
/-- Binders and terms that a walk from no binder meets. -/
def GPut (b : Int) (t : Tm) : Prop := 0 ≤ b ∧ b + depthT t ≤ 4611686018427387904
theorem GPut.kid : ∀ b k n a ls ks, GPut b (.mk k n a ls ks) → ∀ (i : Nat) (h : i < ks.length), GPut (downI k i b) ks[i] := by
  rintro b k n a ls ks ⟨h0, h1⟩ i h
  have h2 := depthsT_get h
  rw [depthT] at h1
  push_cast at h1
  unfold GPut downI
  split
  · unfold wrap64; omega
  · omega
/-- What becomes of a node where terms are put. -/
def putF (by_ : List Tm) : Turn := fun b t => if t.k = 1 ∧ b ≤ t.n then (if h : (t.n - b).toNat < by_.length then .inl (liftT (by_[by_.length - 1 - (t.n - b).toNat]'(by omega)) b 0) else .inr (t.k, wrap64 (t.n - by_.length), t.a, t.ls)) else .inr (t.k, t.n, t.a, t.ls)
def putT (t : Tm) (by_ : List Tm) : Tm := walkT (putF by_) 0 t
/-- The terms that are put, in their box. -/
def ByAt (bp : Nat) (A : Option Addr) (c : Nat) (Sb : Nat → Prop) (by_ : List Tm) (w : World) : Prop := w.cell? ⟨bp, 0, none⟩ = some (.slice A by_.length c) ∧ RC w Sb (.l 26 5 (by_.map Tm.d)) [.slice A by_.length c]
set_option maxRecDepth 100000 in
set_option maxHeartbeats 4000000 in
theorem put1_calls (bp : Nat) (by_ : List Tm) (Sb : Nat → Prop) (A : Option Addr) (c : Nat) : TurnG 72 #[.pointer (some ⟨bp, 0, none⟩)] (ByAt bp A c Sb by_) GPut (putF by_) := by
  refine ⟨fun w w' h hx => ⟨hx.keep h.1, h.2.ext0 hx⟩, fun args w => run_enter Tryd.func72 (by kernel_rfl) args w, ?_⟩
  rintro w S b t v ⟨hc, hby⟩ hT ⟨hb0, hbd⟩ ⟨A0, ca, K0, ck, rfl, hrc⟩
  have lc := cell_lt hc
  obtain ⟨_, _, _, _, he, i1, i2, i3, hls, hks⟩ := RC.tm.1 hrc
  clear he hls hks
  have HRC := Lib.hid hrc
  have HBY := Lib.hid hby
  have HT := Lib.hid hT
  have hM := hby.lenM
  have hi2 : t.n ≤ 9223372036854775807 := i2.2
  clear hrc hby hT i1 i2 i3 hbd
  show Calls Tryd.prog 72 #[.agg #[.int .i64 b, .func (.func 72) #[] #[.pointer (some ⟨bp, 0, none⟩)]], _, .pointer (some ⟨bp, 0, none⟩)] w _
  go_enter Tryd.func72, Tryd.ntmps72
  go_wp2_with fail
  have H := Hp.start no w
  refine callsH (by (repeat (first | with_reducible exact H | with_reducible exact H0_ | with_reducible apply Hp.alloc | with_reducible apply Hp.allocMap | with_reducible apply Hp.drew | with_reducible apply Hp.drewN | with_reducible apply Hp.set)); (try any_goals (repeat (first | with_reducible exact Upd.head | with_reducible apply Upd.tail)))) ?_
  clear H; intro w1 H; (try simp only [size_drew_, size_drewN_, World.size_alloc, World.size_setCell, List.set_cons_zero, List.set_cons_succ] at H)
  refine (means_calls b t.n).mono ?_
  rintro e w_ ⟨rfl, hx⟩
  replace H := H.call hx
  clear hx
  by_cases h1 : t.k = 1 ∧ b ≤ t.n
  · obtain ⟨hk1, hle⟩ := h1
    obtain ⟨K, hK⟩ : ∃ K : Nat, t.n - b = (K : Int) := ⟨(t.n - b).toNat, by omega⟩
    have hwk : wrap64 (t.n - b) = (K : Int) := by unfold wrap64; omega
    rw [hwk]
    have HK := Lib.hid hK
    have hKb : K ≤ 9223372036854775807 := by omega
    clear hwk hK
    by_cases hlt : K < by_.length
    · obtain ⟨m, hm⟩ : ∃ m : Nat, (by_.length : Int) - 1 - (K : Int) = (m : Int) := ⟨by_.length - 1 - K, by omega⟩
      have hmL : m < by_.length := by omega
      have hwr1 : IntKind.i64.wrap ((by_.length : Int) - 1) = (by_.length : Int) - 1 := by rw [IntKind.wrap_i64]; omega
      have hwr4 : IntKind.i64.wrap (m : Int) = (m : Int) := by rw [IntKind.wrap_i64]; omega
      obtain ⟨bb, o, A1, ca1, K1, ck1, rfl, hb1, hS1, hd, p0, p1, p2, p3, p4⟩ := HBY.out.atTm hmL
      have HD := Lib.hid hd
      clear hd
      have hr_ := H.rules; simp only [Rules, and_true] at hr_; have hd_ := H.dif; simp only [Dif, Neq, and_true] at hd_; obtain ⟨ho_, hz_⟩ := H.old0
      go_wp2_with fail
      clear hr_ hd_ ho_ hz_
      have HP : Hid (putF by_ b t = .inl (liftT by_[m] b 0)) := by
        unfold Hid putF
        rw [if_pos ⟨hk1, hle⟩, dif_pos (by have := HK.out; omega)]
        have e : by_.length - 1 - (t.n - b).toNat = m := by have := HK.out; omega
        simp only [e]
      refine regionH (by (repeat (first | with_reducible exact H | with_reducible exact H0_ | with_reducible apply Hp.alloc | with_reducible apply Hp.allocMap | with_reducible apply Hp.drew | with_reducible apply Hp.drewN | with_reducible apply Hp.set)); (try any_goals (repeat (first | with_reducible exact Upd.head | with_reducible apply Upd.tail)))) ?_
      clear H; intro w3 H; (try simp only [size_drew_, size_drewN_, World.size_alloc, World.size_setCell, List.set_cons_zero, List.set_cons_succ] at H)
      refine wp_region_H 14 [false, false, false, false, false, false, false, false, false, false, false, false, false, false] [] H (.cons (i := 2) rfl .nil) (by kernel_rfl) rfl rfl (fun H_ hR_ => ?_)
      (try clear H0_); have H0_ := H; clear H; have H := H_; clear H_
      refine wpL_reads (is := [(0, ?v1_0), (1, ?v1_1), (2, ?v1_2), (3, ?v1_3), (4, ?v1_4), (5, ?v1_5), (6, ?v1_6), (7, ?v1_7), (8, ?v1_8), (9, ?v1_9), (10, ?v1_10)]) (by kernel_rfl) (Nat.le_of_ble_eq_true rfl) (by intro _ _ d_ _ _ h_; cases d_ <;> exact h_) (by kernel_rfl) hR_ (fun w_ hw_ => ?h1_) ?_
      case h1_ =>
        have ho_ := hw_.old0.1; have hz_ := hw_.old0.2; have hr_ := hw_.rules; clear hw_; simp only [Rules, and_true] at hr_; go_split_ands
        (repeat (first | with_reducible exact RdOps.nil | (refine RdOps.run rfl (by rfl) ?_ ?_; (focus (first | (go_simp; done) | (go_simp; with_reducible rfl))); simp only [List.getElem_toArray, List.getElem_cons_zero, List.getElem_cons_succ, Act.put, List.setIfInBounds_toArray, List.set_cons_zero, List.set_cons_succ]) | (refine RdOps.skip rfl (by rfl) ?_; simp only [List.getElem_toArray, List.getElem_cons_zero, List.getElem_cons_succ, Act.put, List.setIfInBounds_toArray, List.set_cons_zero, List.set_cons_succ])))
      simp only [rdMark, rdAct, List.map_cons, List.map_nil, List.length_cons, List.length_nil, Nat.reduceAdd, Nat.reduceSub, Nat.zero_add, List.getElem?_toArray, List.getElem?_cons_zero, List.getElem?_cons_succ, Option.bind_some, Act.put, List.setIfInBounds_toArray, List.set_cons_zero, List.set_cons_succ]
      refine wpL_do (i := 11) rfl (by kernel_rfl) (by rfl) (fun K_ hK_ => ?_)
      go_simp
      refine (lift_calls (HT.out.ext H.ext) b 0 ⟨_, _, _, _, rfl, HD.out.ext0 H.ext⟩).mono ?_
      rintro e w_ ⟨v, rfl, hto, hx⟩
      obtain ⟨D1, Dc, D2, Dk, rfl, H_⟩ := H.resTm hx hto
      clear H hx hto
      have H := H_
      clear H_
      refine hK_ _ _ (fun _ => H.sub (by simp)) (fun hR_ => ?_)
      replace hR_ := hR_ (by decide)
      refine wpL_do (i := 12) rfl (by kernel_rfl) (by rfl) (fun K_ hK_ => ?_)
      refine wp_storeH rfl (by go_simp <;> first | rfl | exact ⟨rfl, rfl⟩) (by go_simp <;> first | rfl | exact ⟨rfl, rfl⟩) H (by (repeat (first | with_reducible exact Upd.head | with_reducible apply Upd.tail))) (by exact aggTerm) (by rfl) (by simp [Value.oneCell']) (fun w9 H_ => ?_)
      clear H; have H := H_; clear H_
      refine hK_ _ _ (fun _ => H.sub (by simp)) (fun hR_ => ?_)
      replace hR_ := hR_ (by decide)
      refine wpL_reads (is := [(13, ?v2_0)]) (by kernel_rfl) (Nat.le_of_ble_eq_true rfl) (by intro _ _ d_ _ _ h_; cases d_ <;> exact h_) (by kernel_rfl) hR_ (fun w_ hw_ => ?h2_) ?_
      case h2_ =>
        have ho_ := hw_.old0.1; have hz_ := hw_.old0.2; have hr_ := hw_.rules; clear hw_; simp only [Rules, and_true] at hr_; go_split_ands
        (repeat (first | with_reducible exact RdOps.nil | (refine RdOps.run rfl (by rfl) ?_ ?_; (focus (first | (go_simp; done) | (go_simp; with_reducible rfl))); simp only [List.getElem_toArray, List.getElem_cons_zero, List.getElem_cons_succ, Act.put, List.setIfInBounds_toArray, List.set_cons_zero, List.set_cons_succ]) | (refine RdOps.skip rfl (by rfl) ?_; simp only [List.getElem_toArray, List.getElem_cons_zero, List.getElem_cons_succ, Act.put, List.setIfInBounds_toArray, List.set_cons_zero, List.set_cons_succ])))
      simp only [rdMark, rdAct, List.map_cons, List.map_nil, List.length_cons, List.length_nil, Nat.reduceAdd, Nat.reduceSub, Nat.zero_add, List.getElem?_toArray, List.getElem?_cons_zero, List.getElem?_cons_succ, Option.bind_some, Act.put, List.setIfInBounds_toArray, List.set_cons_zero, List.set_cons_succ]
      refine wpL_done (by kernel_rfl) ?_ _
      go_wp2_with fail
      refine endH (by (repeat (first | with_reducible exact H | with_reducible exact H0_ | with_reducible apply Hp.alloc | with_reducible apply Hp.allocMap | with_reducible apply Hp.drew | with_reducible apply Hp.drewN | with_reducible apply Hp.set)); (try any_goals (repeat (first | with_reducible exact Upd.head | with_reducible apply Upd.tail)))) ?_
      clear H; intro w8 H; (try simp only [size_drew_, size_drewN_, World.size_alloc, World.size_setCell, List.set_cons_zero, List.set_cons_succ] at H)
      have hr_ := H.rules; simp only [Rules, and_true] at hr_; have hd_ := H.dif; simp only [Dif, Neq, and_true] at hd_; obtain ⟨ho_, hz_⟩ := H.old0
      rw [HP.out]
      refine bodyPost_ret (v := .tuple #[.agg #[.int .i64 (liftT by_[m] b 0).k, .int .i64 (liftT by_[m] b 0).n, .int .i64 (liftT by_[m] b 0).a, .slice D1 (liftT by_[m] b 0).ls.length Dc, .slice D2 (liftT by_[m] b 0).ks.length Dk], .bool true]) (by simp [results, Tryd.results72, go_sem, hr_]) rfl ?_
      obtain ⟨v', he, hto, hx⟩ := H.ptm (t := liftT by_[m] b 0) (by (repeat (first | with_reducible exact Pick.head | with_reducible apply Pick.tail)))
      obtain rfl := Ending.returned.inj he
      exact ⟨_, rfl, hto, hx⟩
    · have HP : Hid (putF by_ b t = .inr (1, t.n - by_.length, t.a, t.ls)) := by
        unfold Hid putF
        rw [if_pos ⟨hk1, hle⟩, dif_neg (by have := HK.out; omega), hk1, show wrap64 (t.n - by_.length) = t.n - by_.length by have := HK.out; unfold wrap64; omega]
      have hge : (by_.length : Int) ≤ t.n := by have := HK.out; omega
      obtain ⟨_, _, _, _, he, i1, i2, i3, hls, hks⟩ := RC.tm.1 HRC.out
      simp only [List.cons.injEq, Value.slice.injEq, and_true, true_and] at he
      obtain ⟨⟨rfl, rfl⟩, rfl, rfl⟩ := he
      have HLS := Lib.hid hls
      have HKK := Lib.hid hks
      have HI3 := Lib.hid i3
      clear hls hks i1 i2 i3
      have hr_ := H.rules; simp only [Rules, and_true] at hr_; have hd_ := H.dif; simp only [Dif, Neq, and_true] at hd_; obtain ⟨ho_, hz_⟩ := H.old0
      go_wp2_with fail
      clear hr_ hd_ ho_ hz_
      refine callsH (by (repeat (first | with_reducible exact H | with_reducible exact H0_ | with_reducible apply Hp.alloc | with_reducible apply Hp.allocMap | with_reducible apply Hp.drew | with_reducible apply Hp.drewN | with_reducible apply Hp.set)); (try any_goals (repeat (first | with_reducible exact Upd.head | with_reducible apply Upd.tail)))) ?_
      clear H; intro w3 H; (try simp only [size_drew_, size_drewN_, World.size_alloc, World.size_setCell, List.set_cons_zero, List.set_cons_succ] at H)
      refine (own_calls (t := .mk 1 (t.n - by_.length) t.a t.ls t.ks) (S := fun x => S x ∧ x < w.heap.size) ⟨A0, ca, K0, ck, rfl, RC.tm.2 ⟨_, _, _, _, rfl, (by simp only [Tm.k_mk]; unfold inI; omega), (by simp only [Tm.n_mk]; unfold inI; omega), HI3.out, HLS.out.bd.ext0 H.ext, HKK.out.bd.ext0 H.ext⟩⟩).mono ?_
      rintro e w4 ⟨v, rfl, ⟨A4, c4, L, K4, k4, rfl, j1, j2, j3, hro, hnd, hks4⟩, hx⟩
      simp only [Tm.k_mk, Tm.n_mk, Tm.a_mk, Tm.ls_mk, Tm.ks_mk] at j1 j2 j3 hro hks4 ⊢
      replace H := H.res hx hro hnd
      clear hx hro hnd
      have HKS := Lib.hid (RC.back H.ext _ _ hks4)
      have HJ := Lib.hid (And.intro j1 (And.intro j2 j3))
      clear hks4 j1 j2 j3
      have hr_ := H.rules; simp only [Rules, and_true] at hr_; have hd_ := H.dif; simp only [Dif, Neq, and_true] at hd_; obtain ⟨ho_, hz_⟩ := H.old0
      go_wp2_with ((with_reducible refine atStore (t := 26) ?_); go_must (refine wpList_storeH (t := 26) rfl rfl (by go_simp <;> first | rfl | exact ⟨rfl, rfl⟩) (by go_simp <;> first | rfl | exact ⟨rfl, rfl⟩) (by exact Hp.norm (by (repeat (first | with_reducible exact H | with_reducible exact H0_ | with_reducible apply Hp.alloc | with_reducible apply Hp.allocMap | with_reducible apply Hp.drew | with_reducible apply Hp.drewN | with_reducible apply Hp.set)); (try any_goals (repeat (first | with_reducible exact Upd.head | with_reducible apply Upd.tail)))) (by ((try simp only [size_drew_, size_drewN_, World.size_alloc, World.size_setCell, List.set_cons_zero, List.set_cons_succ, List.nil_append, List.cons_append]) <;> rfl))) (by (repeat (first | with_reducible exact Upd.head | with_reducible apply Upd.tail))) (by exact aggTerm) (by rfl) (by simp [Value.oneCell']) ?_; clear H; intro w7 H; (try simp only [size_drew_, size_drewN_, World.size_alloc, World.size_setCell, List.set_cons_zero, List.set_cons_succ] at H); (try clear hr_ hd_ ho_ hz_); have hr_ := H.rules; simp only [Rules, and_true] at hr_; have hd_ := H.dif; simp only [Dif, Neq, and_true] at hd_; obtain ⟨ho_, hz_⟩ := H.old0))
      (try clear hr_ hd_ ho_ hz_)
      have hr_ := H.rules; simp only [Rules, and_true] at hr_; have hd_ := H.dif; simp only [Dif, Neq, and_true] at hd_; obtain ⟨ho_, hz_⟩ := H.old0
      refine bodyPost_ret (v := .tuple #[.agg #[.int .i64 1, .int .i64 (t.n - by_.length), .int .i64 t.a, .slice A4 t.ls.length c4, .slice K4 t.ks.length k4], .bool false]) (by simp [results, Tryd.results72, go_sem, hr_]) rfl ?_
      rw [HP.out]
      obtain ⟨L2, hro2, hnd2⟩ := H.acc (e := 33) (z := 1) (ds := t.ls.map lvD) (v := .slice A4 t.ls.length c4) (by (repeat (first | with_reducible exact Pick.head | with_reducible apply Pick.tail)))
      exact ⟨_, rfl, ⟨A4, c4, L2, K4, k4, rfl, HJ.out.1, HJ.out.2.1, HJ.out.2.2, hro2, hnd2, HKS.out.ext0 H.ext⟩, H.ext⟩
  · have HP : Hid (putF by_ b t = .inr (t.k, t.n, t.a, t.ls)) := by
      unfold Hid putF
      rw [if_neg h1]
    have hkk : ∃ kk, kk = wrap64 (t.n - b) := ⟨_, rfl⟩
    obtain ⟨kk, hkk⟩ := hkk
    rw [← hkk]
    clear hkk
    by_cases hk1 : t.k = 1
    · have hdec : decide (b ≤ t.n) = false := by simpa using fun e => h1 ⟨hk1, e⟩
      rw [hdec]
      clear h1 hdec
      have HP1 : Hid (putF by_ b t = .inr (1, t.n, t.a, t.ls)) := by unfold Hid; rw [HP.out, hk1]
      clear HP
      have HP := HP1
      clear HP1
      have hrc1 := HRC.out
      rw [hk1] at hrc1
      obtain ⟨_, _, _, _, he, i1, i2, i3, hls, hks⟩ := RC.tm.1 HRC.out
      simp only [List.cons.injEq, Value.slice.injEq, and_true, true_and] at he
      obtain ⟨⟨rfl, rfl⟩, rfl, rfl⟩ := he
      have HLS := Lib.hid hls
      have HKK := Lib.hid hks
      have HI3 := Lib.hid i3
      have HI2 := Lib.hid i2
      clear hls hks i1 i2 i3 hrc1
      have hr_ := H.rules; simp only [Rules, and_true] at hr_; have hd_ := H.dif; simp only [Dif, Neq, and_true] at hd_; obtain ⟨ho_, hz_⟩ := H.old0
      go_wp2_with fail
      clear hr_ hd_ ho_ hz_
      refine callsH (by (repeat (first | with_reducible exact H | with_reducible exact H0_ | with_reducible apply Hp.alloc | with_reducible apply Hp.allocMap | with_reducible apply Hp.drew | with_reducible apply Hp.drewN | with_reducible apply Hp.set)); (try any_goals (repeat (first | with_reducible exact Upd.head | with_reducible apply Upd.tail)))) ?_
      clear H; intro w3 H; (try simp only [size_drew_, size_drewN_, World.size_alloc, World.size_setCell, List.set_cons_zero, List.set_cons_succ] at H)
      refine (own_calls (t := .mk 1 (t.n) t.a t.ls t.ks) (S := fun x => S x ∧ x < w.heap.size) ⟨A0, ca, K0, ck, rfl, RC.tm.2 ⟨_, _, _, _, rfl, (by simp only [Tm.k_mk]; unfold inI; omega), HI2.out, HI3.out, HLS.out.bd.ext0 H.ext, HKK.out.bd.ext0 H.ext⟩⟩).mono ?_
      rintro e w4 ⟨v, rfl, ⟨A4, c4, L, K4, k4, rfl, j1, j2, j3, hro, hnd, hks4⟩, hx⟩
      simp only [Tm.k_mk, Tm.n_mk, Tm.a_mk, Tm.ls_mk, Tm.ks_mk] at j1 j2 j3 hro hks4 ⊢
      replace H := H.res hx hro hnd
      clear hx hro hnd
      have HKS := Lib.hid (RC.back H.ext _ _ hks4)
      have HJ := Lib.hid (And.intro j1 (And.intro j2 j3))
      clear hks4 j1 j2 j3
      have hr_ := H.rules; simp only [Rules, and_true] at hr_; have hd_ := H.dif; simp only [Dif, Neq, and_true] at hd_; obtain ⟨ho_, hz_⟩ := H.old0
      go_wp2_with ((with_reducible refine atStore (t := 26) ?_); go_must (refine wpList_storeH (t := 26) rfl rfl (by go_simp <;> first | rfl | exact ⟨rfl, rfl⟩) (by go_simp <;> first | rfl | exact ⟨rfl, rfl⟩) (by exact Hp.norm (by (repeat (first | with_reducible exact H | with_reducible exact H0_ | with_reducible apply Hp.alloc | with_reducible apply Hp.allocMap | with_reducible apply Hp.drew | with_reducible apply Hp.drewN | with_reducible apply Hp.set)); (try any_goals (repeat (first | with_reducible exact Upd.head | with_reducible apply Upd.tail)))) (by ((try simp only [size_drew_, size_drewN_, World.size_alloc, World.size_setCell, List.set_cons_zero, List.set_cons_succ, List.nil_append, List.cons_append]) <;> rfl))) (by (repeat (first | with_reducible exact Upd.head | with_reducible apply Upd.tail))) (by exact aggTerm) (by rfl) (by simp [Value.oneCell']) ?_; clear H; intro w7 H; (try simp only [size_drew_, size_drewN_, World.size_alloc, World.size_setCell, List.set_cons_zero, List.set_cons_succ] at H); (try clear hr_ hd_ ho_ hz_); have hr_ := H.rules; simp only [Rules, and_true] at hr_; have hd_ := H.dif; simp only [Dif, Neq, and_true] at hd_; obtain ⟨ho_, hz_⟩ := H.old0))
      (try clear hr_ hd_ ho_ hz_)
      have hr_ := H.rules; simp only [Rules, and_true] at hr_; have hd_ := H.dif; simp only [Dif, Neq, and_true] at hd_; obtain ⟨ho_, hz_⟩ := H.old0
      refine bodyPost_ret (v := .tuple #[.agg #[.int .i64 1, .int .i64 (t.n), .int .i64 t.a, .slice A4 t.ls.length c4, .slice K4 t.ks.length k4], .bool false]) (by simp [results, Tryd.results72, go_sem, hr_]) rfl ?_
      rw [HP.out]
      obtain ⟨L2, hro2, hnd2⟩ := H.acc (e := 33) (z := 1) (ds := t.ls.map lvD) (v := .slice A4 t.ls.length c4) (by (repeat (first | with_reducible exact Pick.head | with_reducible apply Pick.tail)))
      exact ⟨_, rfl, ⟨A4, c4, L2, K4, k4, rfl, HJ.out.1, HJ.out.2.1, HJ.out.2.2, hro2, hnd2, HKS.out.ext0 H.ext⟩, H.ext⟩
    · clear h1
      obtain ⟨_, _, _, _, he, i1, i2, i3, hls, hks⟩ := RC.tm.1 HRC.out
      simp only [List.cons.injEq, Value.slice.injEq, and_true, true_and] at he
      obtain ⟨⟨rfl, rfl⟩, rfl, rfl⟩ := he
      have HLS := Lib.hid hls
      have HKK := Lib.hid hks
      have HI3 := Lib.hid i3
      have HI2 := Lib.hid i2
      have HI1 := Lib.hid i1
      clear hls hks i1 i2 i3
      have hr_ := H.rules; simp only [Rules, and_true] at hr_; have hd_ := H.dif; simp only [Dif, Neq, and_true] at hd_; obtain ⟨ho_, hz_⟩ := H.old0
      go_wp2_with fail
      clear hr_ hd_ ho_ hz_
      refine callsH (by (repeat (first | with_reducible exact H | with_reducible exact H0_ | with_reducible apply Hp.alloc | with_reducible apply Hp.allocMap | with_reducible apply Hp.drew | with_reducible apply Hp.drewN | with_reducible apply Hp.set)); (try any_goals (repeat (first | with_reducible exact Upd.head | with_reducible apply Upd.tail)))) ?_
      clear H; intro w3 H; (try simp only [size_drew_, size_drewN_, World.size_alloc, World.size_setCell, List.set_cons_zero, List.set_cons_succ] at H)
      refine (own_calls (t := .mk t.k (t.n) t.a t.ls t.ks) (S := fun x => S x ∧ x < w.heap.size) ⟨A0, ca, K0, ck, rfl, RC.tm.2 ⟨_, _, _, _, rfl, HI1.out, HI2.out, HI3.out, HLS.out.bd.ext0 H.ext, HKK.out.bd.ext0 H.ext⟩⟩).mono ?_
      rintro e w4 ⟨v, rfl, ⟨A4, c4, L, K4, k4, rfl, j1, j2, j3, hro, hnd, hks4⟩, hx⟩
      simp only [Tm.k_mk, Tm.n_mk, Tm.a_mk, Tm.ls_mk, Tm.ks_mk] at j1 j2 j3 hro hks4 ⊢
      replace H := H.res hx hro hnd
      clear hx hro hnd
      have HKS := Lib.hid (RC.back H.ext _ _ hks4)
      have HJ := Lib.hid (And.intro j1 (And.intro j2 j3))
      clear hks4 j1 j2 j3
      have hr_ := H.rules; simp only [Rules, and_true] at hr_; have hd_ := H.dif; simp only [Dif, Neq, and_true] at hd_; obtain ⟨ho_, hz_⟩ := H.old0
      go_wp2_with ((with_reducible refine atStore (t := 26) ?_); go_must (refine wpList_storeH (t := 26) rfl rfl (by go_simp <;> first | rfl | exact ⟨rfl, rfl⟩) (by go_simp <;> first | rfl | exact ⟨rfl, rfl⟩) (by exact Hp.norm (by (repeat (first | with_reducible exact H | with_reducible exact H0_ | with_reducible apply Hp.alloc | with_reducible apply Hp.allocMap | with_reducible apply Hp.drew | with_reducible apply Hp.drewN | with_reducible apply Hp.set)); (try any_goals (repeat (first | with_reducible exact Upd.head | with_reducible apply Upd.tail)))) (by ((try simp only [size_drew_, size_drewN_, World.size_alloc, World.size_setCell, List.set_cons_zero, List.set_cons_succ, List.nil_append, List.cons_append]) <;> rfl))) (by (repeat (first | with_reducible exact Upd.head | with_reducible apply Upd.tail))) (by exact aggTerm) (by rfl) (by simp [Value.oneCell']) ?_; clear H; intro w7 H; (try simp only [size_drew_, size_drewN_, World.size_alloc, World.size_setCell, List.set_cons_zero, List.set_cons_succ] at H); (try clear hr_ hd_ ho_ hz_); have hr_ := H.rules; simp only [Rules, and_true] at hr_; have hd_ := H.dif; simp only [Dif, Neq, and_true] at hd_; obtain ⟨ho_, hz_⟩ := H.old0))
      (try clear hr_ hd_ ho_ hz_)
      have hr_ := H.rules; simp only [Rules, and_true] at hr_; have hd_ := H.dif; simp only [Dif, Neq, and_true] at hd_; obtain ⟨ho_, hz_⟩ := H.old0
      refine bodyPost_ret (v := .tuple #[.agg #[.int .i64 t.k, .int .i64 (t.n), .int .i64 t.a, .slice A4 t.ls.length c4, .slice K4 t.ks.length k4], .bool false]) (by simp [results, Tryd.results72, go_sem, hr_]) rfl ?_
      rw [HP.out]
      obtain ⟨L2, hro2, hnd2⟩ := H.acc (e := 33) (z := 1) (ds := t.ls.map lvD) (v := .slice A4 t.ls.length c4) (by (repeat (first | with_reducible exact Pick.head | with_reducible apply Pick.tail)))
      exact ⟨_, rfl, ⟨A4, c4, L2, K4, k4, rfl, HJ.out.1, HJ.out.2.1, HJ.out.2.2, hro2, hnd2, HKS.out.ext0 H.ext⟩, H.ext⟩
set_option maxRecDepth 100000 in
set_option maxHeartbeats 2000000 in
theorem put_calls {S Sb : Nat → Prop} {t : Tm} {w : World} {v : Value} {by_ : List Tm} {A : Option Addr} {n c : Nat} (hT : Tab w) (h : TV w S t v) (hby : RC w Sb (.l 26 5 (by_.map Tm.d)) [.slice A n c]) (hn : n = by_.length) (hd : depthT t ≤ 4611686018427387904) : Calls Tryd.prog 29 #[v, .slice A n c] w (PTm w (putT t by_)) := by
  subst hn
  obtain ⟨A0, ca, K0, ck, rfl, hrc⟩ := h
  have HT := Lib.hid hT
  have HRC := Lib.hid hrc
  have HBY := Lib.hid hby
  have HD := Lib.hid hd
  clear hT hrc hby hd
  have hmf : ∀ (fn : Fn) (first cap : Array Value) (w : World), (Instr.makeFunc fn first cap).run Tryd.prog w = .ok (.func fn first cap) w := fun _ _ _ _ => rfl
  go_enter Tryd.func29, Tryd.ntmps29
  go_wp2_with fail
  have H := Hp.start no w
  refine callsH (by (repeat (first | with_reducible exact H | with_reducible exact H0_ | with_reducible apply Hp.alloc | with_reducible apply Hp.allocMap | with_reducible apply Hp.drew | with_reducible apply Hp.drewN | with_reducible apply Hp.set)); (try any_goals (repeat (first | with_reducible exact Upd.head | with_reducible apply Upd.tail)))) ?_
  clear H; intro w1 H; (try simp only [size_drew_, size_drewN_, World.size_alloc, World.size_setCell, List.set_cons_zero, List.set_cons_succ] at H)
  refine (walkG_calls GPut.kid (put1_calls (w.heap.size + 1) by_ Sb A c) t _ S 0 _ ⟨(H.blk (g := w.heap.size + 1) (by (repeat (first | with_reducible exact Pick.head | with_reducible apply Pick.tail)))).cells 0, HBY.out.ext0 H.ext⟩ (HT.out.ext H.ext) ⟨by omega, by have := HD.out; omega⟩ ⟨_, _, _, _, rfl, HRC.out.ext0 H.ext⟩).mono ?_
  rintro e w_ ⟨v, rfl, hto, hx⟩
  obtain ⟨D1, Dc, D2, Dk, rfl, H_⟩ := H.resTm hx hto
  clear H hx hto
  have H := H_
  clear H_
  have hr_ := H.rules; simp only [Rules, and_true] at hr_; have hd_ := H.dif; simp only [Dif, Neq, and_true] at hd_; obtain ⟨ho_, hz_⟩ := H.old0
  go_wp2_with ((with_reducible refine atStore (t := 26) ?_); go_must (refine wpList_storeH (t := 26) rfl rfl (by go_simp <;> first | rfl | exact ⟨rfl, rfl⟩) (by go_simp <;> first | rfl | exact ⟨rfl, rfl⟩) (by exact Hp.norm (by (repeat (first | with_reducible exact H | with_reducible exact H0_ | with_reducible apply Hp.alloc | with_reducible apply Hp.allocMap | with_reducible apply Hp.drew | with_reducible apply Hp.drewN | with_reducible apply Hp.set)); (try any_goals (repeat (first | with_reducible exact Upd.head | with_reducible apply Upd.tail)))) (by ((try simp only [size_drew_, size_drewN_, World.size_alloc, World.size_setCell, List.set_cons_zero, List.set_cons_succ, List.nil_append, List.cons_append]) <;> rfl))) (by (repeat (first | with_reducible exact Upd.head | with_reducible apply Upd.tail))) (by exact aggTerm) (by rfl) (by simp [Value.oneCell']) ?_; clear H; intro w7 H; (try simp only [size_drew_, size_drewN_, World.size_alloc, World.size_setCell, List.set_cons_zero, List.set_cons_succ] at H); (try clear hr_ hd_ ho_ hz_); have hr_ := H.rules; simp only [Rules, and_true] at hr_; have hd_ := H.dif; simp only [Dif, Neq, and_true] at hd_; obtain ⟨ho_, hz_⟩ := H.old0))
  clear hr_ hd_ ho_ hz_
  refine endH (by (repeat (first | with_reducible exact H | with_reducible exact H0_ | with_reducible apply Hp.alloc | with_reducible apply Hp.allocMap | with_reducible apply Hp.drew | with_reducible apply Hp.drewN | with_reducible apply Hp.set)); (try any_goals (repeat (first | with_reducible exact Upd.head | with_reducible apply Upd.tail)))) ?_
  clear H; intro w8 H; (try simp only [size_drew_, size_drewN_, World.size_alloc, World.size_setCell, List.set_cons_zero, List.set_cons_succ] at H)
  unfold putT
  exact bodyPost_ret (v := .agg #[_, _, _, _, _]) (Res.one Tryd.results29 (H.resBox (by (repeat (first | with_reducible exact Pick.head | with_reducible apply Pick.tail))) aggTerm rfl rfl)) rfl (H.ptm (by (repeat (first | with_reducible exact Pick.head | with_reducible apply Pick.tail))))
end Go.Proofs.YtgbokmphbimihaaDoor
/- source: plain laws: what is right over some declarations is so over more; lifted; with a term put. No statement of the seat is proved here. -/
namespace Go.Proofs.YtgbokmphbimihaaDoor
set_option linter.unusedSimpArgs false
set_option linter.unusedVariables false
open Go.RowKit

theorem allsQ_iff {ds : List Dc} {n sf k sc : Int} : ∀ {ts : List Tm} {i : Nat}, allsQ ds n sf k sc i ts = true ↔ ∀ (j : Nat) (h : j < ts.length), allQ ds n sf (downI k ((i + j : Nat) : Int) sc) ts[j] = true
  | [], i => by simp [allsQ]
  | t :: ts, i => by
    rw [allsQ, Bool.and_eq_true, allsQ_iff (ts := ts) (i := i + 1)]
    constructor
    · rintro ⟨h1, h2⟩ j h
      cases j with
      | zero => simpa using h1
      | succ j =>
        have := h2 j (by simpa using h)
        rw [show i + 1 + j = i + (j + 1) by omega] at this
        simpa using this
    · intro h
      refine ⟨by have := h 0 (by simp); rw [Nat.add_zero] at this; exact this, fun j hj => ?_⟩
      have := h (j + 1) (by simpa using hj)
      rw [show i + 1 + j = i + (j + 1) by omega]
      simpa using this
theorem allQ_mk {ds : List Dc} {n sf sc k m a : Int} {ls : List Lv} {ks : List Tm} : allQ ds n sf sc (.mk k m a ls ks) = true ↔ askQ ds sf sc (.mk k m a ls ks) = true ∧ lvsQ n ls = true ∧ ∀ (j : Nat) (h : j < ks.length), allQ ds n sf (downI k (j : Int) sc) ks[j] = true := by
  rw [allQ, Bool.and_eq_true, Bool.and_eq_true, allsQ_iff]
  simp
theorem badP_mono {n n' : Int} (h : n ≤ n') {x : Int × Int} (hb : badP n' x = true) : badP n x = true := by
  unfold badP at hb ⊢
  simp only [Bool.or_eq_true, decide_eq_true_eq] at hb ⊢
  omega
theorem lvRight_mono {n n' : Int} (h : n ≤ n') {x : Lv} (hx : lvRight n x = true) : lvRight n' x = true := by
  unfold lvRight at hx ⊢
  simp only [Bool.and_eq_true, Bool.not_eq_true', List.any_eq_false] at hx ⊢
  exact ⟨hx.1, fun p hp hb => hx.2 p hp (badP_mono h hb)⟩
theorem lvsQ_iff {n : Int} {ls : List Lv} : lvsQ n ls = true ↔ ∀ x ∈ ls, lvRight n x = true := by
  unfold lvsQ
  simp
theorem lvsQ_mono {n n' : Int} (h : n ≤ n') {ls : List Lv} (hx : lvsQ n ls = true) : lvsQ n' ls = true :=
  lvsQ_iff.2 fun x hm => lvRight_mono h (lvsQ_iff.1 hx x hm)
theorem declAt_more {ds es : List Dc} {m : Int} {nl : Nat} {more : Int} {d : Dc} (h : declAt ds m nl more = some d) : declAt (ds ++ es) m nl more = some d := by
  unfold declAt at h ⊢
  split at h
  · rename_i h1
    rw [dif_pos (by rw [List.length_append]; omega)]
    simpa [List.getElem_append_left h1] using h
  · exact absurd h (by simp)
theorem askQ_mono {ds es : List Dc} {sf sf' sc sc' : Int} (hf : sf ≤ sf') (hs : sc ≤ sc') {t : Tm} (h : askQ ds sf sc t = true) : askQ (ds ++ es) sf' sc' t = true := by
  unfold askQ at h ⊢
  by_cases k1 : t.k = 1
  · rw [if_pos k1] at h ⊢; simp only [decide_eq_true_eq] at h ⊢; omega
  rw [if_neg k1] at h ⊢
  by_cases k3 : t.k = 3
  · rw [if_pos k3] at h ⊢
    unfold constQ at h ⊢
    split at h
    · rename_i d hd; rw [declAt_more hd]; exact h
    · simp at h
  rw [if_neg k3] at h ⊢
  by_cases k8 : t.k = 8
  · rw [if_pos k8] at h ⊢
    unfold memQ at h ⊢
    split at h
    · rename_i d hd; rw [declAt_more hd]; exact h
    · simp at h
  rw [if_neg k8] at h ⊢
  by_cases k9 : t.k = 9
  · rw [if_pos k9] at h ⊢
    unfold ctorQ at h ⊢
    split at h
    · rename_i d hd; rw [declAt_more hd]; exact h
    · simp at h
  rw [if_neg k9] at h ⊢
  by_cases k10 : t.k = 10
  · rw [if_pos k10] at h ⊢
    unfold recQ at h ⊢
    split at h
    · rename_i d hd; rw [declAt_more hd]; exact h
    · simp at h
  rw [if_neg k10] at h ⊢
  by_cases k11 : t.k = 11
  · rw [if_pos k11] at h ⊢; simp only [decide_eq_true_eq] at h ⊢; omega
  rw [if_neg k11] at h ⊢
  exact h
/-- A scope further down, where nothing wraps. -/
theorem downI_cases (k i : Int) {b : Int} (h0 : -1000 ≤ b) (h1 : b ≤ 4611686018427387904) : (downI k i b = b ∧ ∀ c, downI k i c = c) ∨ (downI k i b = b + 1 ∧ ∀ c, -1000 ≤ c → c ≤ 4611686018427387904 → downI k i c = c + 1) := by
  unfold downI
  split
  · right
    refine ⟨by unfold wrap64; omega, fun c h2 h3 => by unfold wrap64; omega⟩
  · left; exact ⟨rfl, fun _ => rfl⟩
theorem depth_kid {ks : List Tm} {k n a : Int} {ls : List Lv} {j : Nat} (h : j < ks.length) : depthT ks[j] + 1 ≤ depthT (.mk k n a ls ks) := by
  have := depthsT_get h
  rw [depthT]; omega
/-- What is right over some declarations is so over more, with more variables, levels, members. -/
theorem allQ_mono {ds es : List Dc} {n n' sf sf' : Int} (hn : n ≤ n') (hf : sf ≤ sf') : ∀ (t : Tm) (sc sc' : Int), 0 ≤ sc → sc ≤ sc' → sc' + depthT t ≤ 4611686018427387904 → allQ ds n sf sc t = true → allQ (ds ++ es) n' sf' sc' t = true := by
  intro t
  induction t using Tm.ind_ with
  | h k m a ls ks ih =>
    intro sc sc' h0 h1 hd h
    rw [allQ_mk] at h ⊢
    refine ⟨askQ_mono hf h1 h.1, lvsQ_mono hn h.2.1, fun j hj => ?_⟩
    have hk := depth_kid (k := k) (n := m) (a := a) (ls := ls) hj
    have h3 := h.2.2 j hj
    rcases downI_cases k (j : Int) (b := sc) (by omega) (by omega) with ⟨e, g⟩ | ⟨e, g⟩
    · rw [e] at h3; rw [g]
      exact ih _ (List.getElem_mem hj) sc sc' h0 h1 (by omega) h3
    · rw [e] at h3; rw [g _ (by omega) (by omega)]
      exact ih _ (List.getElem_mem hj) (sc + 1) (sc' + 1) (by omega) (by omega) (by omega) h3
theorem walkT_head {f : Turn} {b k m a : Int} {ls : List Lv} {ks : List Tm} {m' : Int} (h : f b (.mk k m a ls ks) = .inr (k, m', a, ls)) : walkT f b (.mk k m a ls ks) = .mk k m' a ls (walkTs f k b 0 ks) := by
  rw [walkT, h]
theorem askQ_var {ds : List Dc} {sf sc a m : Int} {ls : List Lv} {ks : List Tm} : askQ ds sf sc (.mk 1 m a ls ks) = true ↔ m < sc := by
  unfold askQ
  rw [if_pos (show (Tm.mk 1 m a ls ks).k = 1 from rfl)]
  exact decide_eq_true_iff
theorem askQ_other {ds : List Dc} {sf sc sc' k a m : Int} {ls : List Lv} {ks ks' : List Tm} (h : k ≠ 1) : askQ ds sf sc (.mk k m a ls ks) = askQ ds sf sc' (.mk k m a ls ks') := by
  unfold askQ
  rw [if_neg (show ¬ (Tm.mk k m a ls ks).k = 1 from h), if_neg (show ¬ (Tm.mk k m a ls ks').k = 1 from h)]
  rfl
/-- Lifted by so many. -/
theorem allQ_lift {ds : List Dc} {n sf x : Int} (hx : 0 ≤ x) : ∀ (t : Tm) (sc b : Int), TmNN t → 0 ≤ b → 0 ≤ sc → sc + x + depthT t ≤ 1152921504606846976 → b + depthT t ≤ 1152921504606846976 → allQ ds n sf sc t = true → allQ ds n sf (sc + x) (walkT (liftF x 0) b t) = true := by
  intro t
  induction t using Tm.ind_ with
  | h k m a ls ks ih =>
    intro sc b hnn hb h0 hd hd2 h
    rw [allQ_mk] at h
    obtain ⟨h1, h2, h3⟩ := h
    cases hnn with
    | mk hm hks =>
    have hfin : ∀ m', askQ ds sf (sc + x) (.mk k m' a ls (walkTs (liftF x 0) k b 0 ks)) = true → allQ ds n sf (sc + x) (.mk k m' a ls (walkTs (liftF x 0) k b 0 ks)) = true := by
      intro m' hq
      rw [allQ_mk]
      refine ⟨hq, h2, fun j hj => ?_⟩
      have hj' : j < ks.length := by rw [walkTs_len] at hj; exact hj
      rw [walkTs_get (liftF x 0) k b ks 0 j hj' hj, Nat.zero_add]
      have hk := depth_kid (k := k) (n := m) (a := a) (ls := ls) hj'
      have h4 := h3 j hj'
      rcases downI_cases k (j : Int) (b := sc) (by omega) (by omega) with ⟨e, g⟩ | ⟨e, g⟩
      · rw [e] at h4; rw [g, g]
        exact ih _ (List.getElem_mem hj') sc b (hks _ (List.getElem_mem hj')) hb h0 (by omega) (by omega) h4
      · rw [e] at h4; rw [g _ (by omega) (by omega), g _ (by omega) (by omega)]
        have := ih _ (List.getElem_mem hj') (sc + 1) (b + 1) (hks _ (List.getElem_mem hj')) (by omega) (by omega) (by omega) (by omega) h4
        rwa [show sc + 1 + x = sc + x + 1 by omega] at this
    by_cases k1 : k = 1
    · subst k1
      rw [askQ_var] at h1
      by_cases ho : outer b 0 (.mk 1 m a ls ks) = true
      · have e : liftF x 0 b (.mk 1 m a ls ks) = .inr (1, m + x, a, ls) := by
          unfold liftF
          rw [if_pos ho]
          simp only [Tm.k_mk, Tm.n_mk, Tm.a_mk, Tm.ls_mk]
          rw [show wrap64 (m + x) = m + x by unfold wrap64; omega]
        rw [walkT_head e]
        exact hfin _ (askQ_var.2 (by omega))
      · have e : liftF x 0 b (.mk 1 m a ls ks) = .inr (1, m, a, ls) := by
          unfold liftF
          rw [if_neg ho]
          rfl
        rw [walkT_head e]
        exact hfin _ (askQ_var.2 (by omega))
    · have e : liftF x 0 b (.mk k m a ls ks) = .inr (k, m, a, ls) := by
        unfold liftF outer
        rw [if_neg (by simp [Tm.k_mk, k1])]
        rfl
      rw [walkT_head e]
      exact hfin _ (by rw [← h1]; exact askQ_other k1)
/-- The lowest variable put. -/
theorem allQ_put {ds : List Dc} {n sf c : Int} {x : Tm} (hc : 1 ≤ c) (hxn : TmNN x) (hxd : c + depthT x ≤ 100000) (hx : allQ ds n sf (c - 1) x = true) : ∀ (t : Tm) (b : Int), TmNN t → 0 ≤ b → b + depthT t ≤ 100000 → allQ ds n sf (c + b) t = true → allQ ds n sf (c - 1 + b) (walkT (putF [x]) b t) = true := by
  intro t
  induction t using Tm.ind_ with
  | h k m a ls ks ih =>
    intro b hnn hb hd h
    rw [allQ_mk] at h
    obtain ⟨h1, h2, h3⟩ := h
    cases hnn with
    | mk hm hks =>
    have hfin : ∀ m', askQ ds sf (c - 1 + b) (.mk k m' a ls (walkTs (putF [x]) k b 0 ks)) = true → allQ ds n sf (c - 1 + b) (.mk k m' a ls (walkTs (putF [x]) k b 0 ks)) = true := by
      intro m' hq
      rw [allQ_mk]
      refine ⟨hq, h2, fun j hj => ?_⟩
      have hj' : j < ks.length := by rw [walkTs_len] at hj; exact hj
      rw [walkTs_get (putF [x]) k b ks 0 j hj' hj, Nat.zero_add]
      have hk := depth_kid (k := k) (n := m) (a := a) (ls := ls) hj'
      have h4 := h3 j hj'
      rcases downI_cases k (j : Int) (b := c + b) (by omega) (by omega) with ⟨e, g⟩ | ⟨e, g⟩
      · rw [e] at h4; rw [g, g]
        exact ih _ (List.getElem_mem hj') b (hks _ (List.getElem_mem hj')) hb (by omega) h4
      · rw [e] at h4; rw [g _ (by omega) (by omega), g _ (by omega) (by omega)]
        have := ih _ (List.getElem_mem hj') (b + 1) (hks _ (List.getElem_mem hj')) (by omega) (by omega) (by rw [show c + (b + 1) = c + b + 1 by omega]; exact h4)
        rwa [show c - 1 + (b + 1) = c - 1 + b + 1 by omega] at this
    by_cases k1 : k = 1
    · subst k1
      rw [askQ_var] at h1
      by_cases ho : b ≤ m
      · by_cases he : m = b
        · have e : putF [x] b (.mk 1 m a ls ks) = .inl (liftT x b 0) := by
            unfold putF
            have e0 : ((Tm.mk 1 m a ls ks).n - b).toNat = 0 := by
              show (m - b).toNat = 0
              omega
            rw [if_pos (show (Tm.mk 1 m a ls ks).k = 1 ∧ b ≤ (Tm.mk 1 m a ls ks).n from ⟨rfl, ho⟩), dif_pos (show ((Tm.mk 1 m a ls ks).n - b).toNat < [x].length by rw [e0]; simp)]
            simp [e0]
          rw [walkT, e]
          exact allQ_lift hb x (c - 1) 0 hxn (by omega) (by omega) (by omega) (by omega) hx
        · have e : putF [x] b (.mk 1 m a ls ks) = .inr (1, m - 1, a, ls) := by
            unfold putF
            rw [if_pos (show (Tm.mk 1 m a ls ks).k = 1 ∧ b ≤ (Tm.mk 1 m a ls ks).n from ⟨rfl, ho⟩), dif_neg (show ¬ ((Tm.mk 1 m a ls ks).n - b).toNat < [x].length by show ¬ (m - b).toNat < 1; omega)]
            show Sum.inr (1, wrap64 (m - 1), a, ls) = Sum.inr (1, m - 1, a, ls)
            rw [show wrap64 (m - 1) = m - 1 by unfold wrap64; omega]
          rw [walkT_head e]
          exact hfin _ (askQ_var.2 (by omega))
      · have e : putF [x] b (.mk 1 m a ls ks) = .inr (1, m, a, ls) := by
          unfold putF
          rw [if_neg (show ¬ ((Tm.mk 1 m a ls ks).k = 1 ∧ b ≤ (Tm.mk 1 m a ls ks).n) from fun h => ho h.2)]
          rfl
        rw [walkT_head e]
        exact hfin _ (askQ_var.2 (by omega))
    · have e : putF [x] b (.mk k m a ls ks) = .inr (k, m, a, ls) := by
        unfold putF
        rw [if_neg (show ¬ ((Tm.mk k m a ls ks).k = 1 ∧ b ≤ (Tm.mk k m a ls ks).n) from fun h => k1 h.1)]
        rfl
      rw [walkT_head e]
      exact hfin _ (by rw [← h1]; exact askQ_other k1)
theorem okTs_iff {p : Tm → Bool} {d : Int} {ts : List Tm} : okTs p d ts = true ↔ ∀ t ∈ ts, okT p d t = true := by
  refine ⟨okTs_mem, fun h => ?_⟩
  induction ts with
  | nil => rfl
  | cons t ts ih =>
    rw [okTs, Bool.and_eq_true]
    exact ⟨h t (by simp), ih fun u hu => h u (by simp [hu])⟩
theorem depths_le {ts : List Tm} {n : Nat} (h : ∀ t ∈ ts, depthT t ≤ n) : depthsT ts ≤ n := by
  induction ts with
  | nil => simp [depthsT]
  | cons t ts ih =>
    rw [depthsT]
    have h1 := h t (by simp)
    have h2 := ih fun u hu => h u (by simp [hu])
    omega
theorem ok_depth : ∀ (t : Tm) (d : Int), okT nodeQ d t = true → d + depthT t ≤ 401 := by
  intro t
  induction t using Tm.ind_ with
  | h k m a ls ks ih =>
    intro d h
    rw [okT] at h
    simp only [Bool.and_eq_true, decide_eq_true_eq] at h
    have h1 : depthsT ks ≤ (400 - d).toNat := depths_le fun t ht => by
      have := ih t ht (d + 1) (okTs_iff.1 h.2.2 t ht)
      omega
    rw [depthT]
    omega
theorem nodess_walk (f : Turn) (k b : Int) (ts : List Tm) (ih : ∀ t ∈ ts, ∀ b, nodesT (walkT f b t) = nodesT t) : ∀ i, nodessT (walkTs f k b i ts) = nodessT ts := by
  induction ts with
  | nil => intro i; rfl
  | cons t ts iht =>
    intro i
    rw [walkTs, nodessT, nodessT, ih t (by simp), iht fun u hu => ih u (by simp [hu])]
theorem nodes_lift (x fr : Int) : ∀ (t : Tm) (b : Int), nodesT (walkT (liftF x fr) b t) = nodesT t := by
  intro t
  induction t using Tm.ind_ with
  | h k m a ls ks ih =>
    intro b
    rw [walkT]
    simp only [liftF, Tm.k_mk, Tm.n_mk, Tm.a_mk, Tm.ls_mk]
    rw [nodesT, nodesT, nodess_walk _ _ _ _ ih]
theorem kind1 : (kindAt (1 : Int).toNat).1 = true := rfl
/-- A right term lifted is right, as long as its variables are few. -/
theorem ok_lift {ds : List Dc} {n sf x : Int} (hx : 0 ≤ x) (hx2 : x ≤ 1000) : ∀ (t : Tm) (d sc b : Int), 0 ≤ b → b ≤ 1000 + d → 0 ≤ sc → sc ≤ 1000 + d → okT nodeQ d t = true → allQ ds n sf sc t = true → okT nodeQ d (walkT (liftF x 0) b t) = true := by
  intro t
  induction t using Tm.ind_ with
  | h k m a ls ks ih =>
    intro d sc b hb hb2 h0 hs hok h
    rw [okT] at hok
    simp only [Bool.and_eq_true, decide_eq_true_eq] at hok
    obtain ⟨hd, hn, hks⟩ := hok
    rw [allQ_mk] at h
    obtain ⟨h1, h2, h3⟩ := h
    have hfin : ∀ m', nodeQ (.mk k m' a ls (walkTs (liftF x 0) k b 0 ks)) = true → okT nodeQ d (.mk k m' a ls (walkTs (liftF x 0) k b 0 ks)) = true := by
      intro m' hq
      rw [okT]
      simp only [Bool.and_eq_true, decide_eq_true_eq]
      refine ⟨hd, hq, okTs_iff.2 fun u hu => ?_⟩
      obtain ⟨j, hj, rfl⟩ := List.getElem_of_mem hu
      have hj' : j < ks.length := by rw [walkTs_len] at hj; exact hj
      rw [walkTs_get (liftF x 0) k b ks 0 j hj' hj, Nat.zero_add]
      have h4 := h3 j hj'
      have h5 := okTs_iff.1 hks _ (List.getElem_mem hj')
      rcases downI_cases k (j : Int) (b := sc) (by omega) (by omega) with ⟨e, g⟩ | ⟨e, g⟩
      · rw [e] at h4; rw [g]
        exact ih _ (List.getElem_mem hj') (d + 1) sc b hb (by omega) h0 (by omega) h5 h4
      · rw [e] at h4; rw [g _ (by omega) (by omega)]
        exact ih _ (List.getElem_mem hj') (d + 1) (sc + 1) (b + 1) (by omega) (by omega) (by omega) (by omega) h5 h4
    have hlen : (walkTs (liftF x 0) k b 0 ks).length = ks.length := walkTs_len _ _ _ _ _
    have hsame : nodeQ (.mk k m a ls (walkTs (liftF x 0) k b 0 ks)) = true := by
      rw [← hn, nodeQ_mk, nodeQ_mk, nodeB_mk, nodeB_mk, hlen]
    by_cases k1 : k = 1
    · subst k1
      rw [askQ_var] at h1
      have hnum := nodeQ_num hn
      simp only [Tm.n_mk, Tm.k_mk] at hnum
      by_cases ho : outer b 0 (.mk 1 m a ls ks) = true
      · have e : liftF x 0 b (.mk 1 m a ls ks) = .inr (1, m + x, a, ls) := by
          unfold liftF
          rw [if_pos ho]
          simp only [Tm.k_mk, Tm.n_mk, Tm.a_mk, Tm.ls_mk]
          rw [show wrap64 (m + x) = m + x by unfold wrap64; omega]
        rw [walkT_head e]
        refine hfin _ ?_
        rw [nodeQ_mk, nodeB_mk] at hsame ⊢
        have o1 : outI (m + x) = false := by unfold outI; simp; omega
        have o2 : outI m = false := by unfold outI; simp; omega
        rw [kind1] at hsame ⊢
        rw [o1]
        rw [o2] at hsame
        simpa using hsame
      · have e : liftF x 0 b (.mk 1 m a ls ks) = .inr (1, m, a, ls) := by
          unfold liftF
          rw [if_neg ho]
          rfl
        rw [walkT_head e]
        exact hfin _ hsame
    · have e : liftF x 0 b (.mk k m a ls ks) = .inr (k, m, a, ls) := by
        unfold liftF outer
        rw [if_neg (by simp [Tm.k_mk, k1])]
        rfl
      rw [walkT_head e]
      exact hfin _ hsame
theorem rightQ_iff {t : Tm} : rightQ t = true ↔ okT nodeQ 1 t = true ∧ nodesT t ≤ 20000 := by
  unfold rightQ
  rw [(cnt_eq t 1 0 (by omega)).1, Bool.and_eq_true, decide_eq_true_eq]
  constructor <;> rintro ⟨h1, h2⟩ <;> exact ⟨h1, by omega⟩
theorem right_depth {t : Tm} (h : rightQ t = true) : depthT t ≤ 400 := by
  have := ok_depth t 1 (rightQ_ok h)
  omega
theorem clamp_in {sc : Int} (h0 : 0 ≤ sc) (h1 : sc ≤ 1000000) : clamp sc = sc := by
  have := clamp_cases sc
  omega
/-- SourceGrows: over more. -/
theorem src_more {ds es : List Dc} {n sc sf x : Int} {t : Tm} (h0 : 0 ≤ sc) (h1 : sc ≤ 100) (hn : n ≤ 1000) (hs : sf ≤ 1000) (hx : 0 ≤ x) (hx2 : x ≤ 100) (h : srcQ ds n sc sf t = true) : srcQ (ds ++ es) (n + x) (sc + x) (sf + x) t = true := by
  unfold srcQ at h ⊢
  rw [Bool.and_eq_true] at h ⊢
  rw [clamp_in h0 (by omega)] at h
  rw [clamp_in (by omega) (by omega)]
  have := right_depth h.1
  exact ⟨h.1, allQ_mono (by omega) (by omega) t sc (sc + x) h0 (by omega) (by omega) h.2⟩
/-- SourceGrows: lifted. -/
theorem src_lift {ds : List Dc} {n sc sf x : Int} {t : Tm} (h0 : 0 ≤ sc) (h1 : sc ≤ 100) (hx : 0 ≤ x) (hx2 : x ≤ 100) (h : srcQ ds n sc sf t = true) : srcQ ds n (sc + x) sf (liftT t x 0) = true := by
  unfold srcQ at h ⊢
  rw [Bool.and_eq_true] at h ⊢
  rw [clamp_in h0 (by omega)] at h
  rw [clamp_in (by omega) (by omega)]
  have hd := right_depth h.1
  have hr := rightQ_iff.1 h.1
  refine ⟨rightQ_iff.2 ⟨?_, ?_⟩, ?_⟩
  · exact ok_lift hx (by omega) t 1 sc 0 (by omega) (by omega) h0 (by omega) hr.1 h.2
  · unfold liftT; rw [nodes_lift]; exact hr.2
  · exact allQ_lift hx t sc 0 (ok_nn t 1 hr.1) (by omega) h0 (by omega) (by omega) h.2
theorem src_right {ds : List Dc} {n sc sf : Int} {t : Tm} (h : srcQ ds n sc sf t = true) : rightQ t = true := by
  unfold srcQ at h
  rw [Bool.and_eq_true] at h
  exact h.1
/-- SourceGrows: put. -/
theorem src_put {ds : List Dc} {n sc sf : Int} {t a : Tm} (h0 : 0 ≤ sc) (h1 : sc ≤ 100) (hz : sc ≠ 0) (h : srcQ ds n sc sf t = true) (ha : srcQ ds n (sc - 1) sf a = true) : (srcQ ds n (sc - 1) sf (putT t [a]) || !rightQ (putT t [a])) = true := by
  unfold srcQ at h ha ⊢
  rw [Bool.and_eq_true] at h ha
  rw [clamp_in h0 (by omega)] at h
  rw [clamp_in (by omega) (by omega)] at ha ⊢
  have hd := right_depth h.1
  have hda := right_depth ha.1
  have := allQ_put (c := sc) (by omega) (ok_nn a 1 (rightQ_ok ha.1)) (by omega) ha.2 t 0 (ok_nn t 1 (rightQ_ok h.1)) (by omega) (by omega) (by rw [Int.add_zero]; exact h.2)
  rw [Int.add_zero] at this
  unfold putT
  rw [this, Bool.and_true]
  cases rightQ _ <;> rfl
end Go.Proofs.YtgbokmphbimihaaDoor
