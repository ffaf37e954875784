/- tele: open: contract. No statement of the seat is proved here. -/
import Derived.Test.YteelplgdojjakaaDoorTele3
namespace Go.Proofs.YteelplgdojjakaaDoor
set_option linter.unusedSimpArgs false
set_option linter.unusedVariables false
open Go.RowKit

theorem RC.oldP {w w' : World} {S : Nat → Prop} {d : D} {cs : List Value} (h : RC w S d cs) (hx : Ext no w w') : RC w' (fun k => k < w.heap.size ∧ ¬ no k) d cs :=
  RC.frame hx.size (fun k _ hS => ⟨hS.2, no_not⟩) (fun k hk _ => hx.block k hk no_not) _ _ h.bd
/-- So many binders taken off. -/
def openT : Nat → Tm → Option (List Tm × Tm)
  | 0, t => some ([], t)
  | n + 1, .mk k _ _ _ [a, b] => if k = 4 then (openT n b).map fun p => (a :: p.1, p.2) else none
  | _ + 1, _ => none
theorem openT_step {n : Nat} {t : Tm} (h4 : t.k = 4) (h2 : t.ks.length = 2) : openT (n + 1) t = (openT n (t.ks[1]'(by omega))).map fun p => (t.ks[0]'(by omega) :: p.1, p.2) := by
  obtain ⟨k, m, a, ls, x, y, rfl⟩ := Tm.two h2
  simp only [Tm.k_mk] at h4
  rw [openT, if_pos h4]
  rfl
theorem openT_stop {n : Nat} {t : Tm} (h : ¬ (t.k = 4 ∧ t.ks.length = 2)) : openT (n + 1) t = none := by
  obtain ⟨k, m, a, ls, ks⟩ := t
  match ks with
  | [] => simp [openT]
  | [_] => simp [openT]
  | [x, y] =>
    rw [openT, if_neg]
    intro e
    exact h ⟨e, rfl⟩
  | _ :: _ :: _ :: _ => simp [openT]
def fewP : List PanicEntry := [{ v := .iface 102 (.agg #[]), recovered := false }]
/-- A row and a term, fresh both; or few thrown. -/
def POpen (w : World) (o : Option (List Tm × Tm)) (e : Ending) (w' : World) : Prop :=
  match o with
  | none => e = .panicked fewP ∧ Ext no w w'
  | some (ls, r) => ∃ A c B cb K kb, e = .returned (.tuple #[.slice A ls.length c, .agg #[.int .i64 r.k, .int .i64 r.n, .int .i64 r.a, .slice B r.ls.length cb, .slice K r.ks.length kb]]) ∧
    Hp no w w' [.dat (.l 30 5 (ls.map Tm.d)) [.slice A ls.length c], .dat r.d [.int .i64 r.k, .int .i64 r.n, .int .i64 r.a, .slice B r.ls.length cb, .slice K r.ks.length kb]]
def openN (n : Int) (t : Tm) : Option (List Tm × Tm) := if n < 0 then none else openT n.toNat t
set_option maxRecDepth 100000 in
set_option maxHeartbeats 4000000 in
theorem open_calls {S : Nat → Prop} {t : Tm} {w : World} {v : Value} (hT : Tab w) (h : TV w S t v) (n : Int) (hb : countT t ≤ 1000000000 ∨ n ≤ 1000000000) (hn : inI n) : Calls Tryd.prog 67 #[v, .int .i64 n] w (POpen w (openN n t)) := by
  obtain ⟨A0, ca, K0, ck, rfl, hrc⟩ := h
  have HRC := Lib.hid hrc
  have HT := Lib.hid hT
  have HBB := Lib.hid hb
  clear hrc hT hb
  go_enter Tryd.func67, Tryd.ntmps67
  by_cases h0 : n < 0
  · have HO : Hid (openN n t = none) := by unfold Hid openN; rw [if_pos h0]
    have H := Hp.start no w
    go_wp2_with fail
    rw [HO.out]
    exact ⟨rfl, rfl, (show Hp no w _ _ from (by (repeat (first | with_reducible exact H | with_reducible exact H0_ | with_reducible apply Hp.alloc | with_reducible apply Hp.allocMap | with_reducible apply Hp.drew | with_reducible apply Hp.drewN | with_reducible apply Hp.set)); (try any_goals (repeat (first | with_reducible exact Upd.head | with_reducible apply Upd.tail))))).ext⟩
  · have HO : Hid (openN n t = openT n.toNat t) := by unfold Hid openN; rw [if_neg h0]
    have hn2 : n ≤ 9223372036854775807 := hn.2
    clear hn
    go_wp2_with fail
    have H := (Hp.start no w).rowNil 30 5
    go_loopw [4, 11] (fun out i wr => ∃ (j : Nat) (u : Tm) (ls : List Tm) (B K : Option Addr) (cb kb : Nat), (j : Int) ≤ n ∧ i = .int .i64 j ∧ countT u + j = countT t ∧ ls.length = j ∧ openT n.toNat t = (openT (n.toNat - j) u).map (fun p => (ls ++ p.1, p.2)) ∧
      RC w S u.d [.int .i64 u.k, .int .i64 u.n, .int .i64 u.a, .slice B u.ls.length cb, .slice K u.ks.length kb] ∧
      Hp no w wr [.box (w.heap.size + 1) 30 [.int .i64 0, .int .i64 0, .int .i64 0, .slice none 0 0, .slice none 0 0], .box w.heap.size 30 [.int .i64 u.k, .int .i64 u.n, .int .i64 u.a, .slice B u.ls.length cb, .slice K u.ks.length kb], .row 30 5 (ls.map Tm.d) out]) (fun _ i _ => countT t - (intOf i).toNat)
    case atStart => exact ⟨0, t, [], _, _, _, _, by omega, rfl, rfl, rfl, by simp, HRC.out, by rw [List.map_nil]; exact Hp.norm (by (repeat (first | with_reducible exact H | with_reducible exact H0_ | with_reducible apply Hp.alloc | with_reducible apply Hp.allocMap | with_reducible apply Hp.drew | with_reducible apply Hp.drewN | with_reducible apply Hp.set)); (try any_goals (repeat (first | with_reducible exact Upd.head | with_reducible apply Upd.tail)))) (by ((try simp only [size_drew_, size_drewN_, World.size_alloc, World.size_setCell, List.set_cons_zero, List.set_cons_succ, List.nil_append, List.cons_append]) <;> rfl))⟩
    case round =>
      clear H
      obtain ⟨j, u, ls, B, K, cb, kb, hj, rfl, hm, hls, hop, hrc, H⟩ := hrel
      have HM := Lib.hid hm
      have HR := Lib.hid hrc
      have HP := Lib.hid hop
      have hmb : j ≤ 1000000000 := by have := HBB.out; omega
      clear hm hrc hop
      by_cases hlt : (j : Int) < n
      · by_cases h42 : u.k = 4 ∧ u.ks.length = 2
        · obtain ⟨h4, h2⟩ := h42
          obtain ⟨_, _, _, _, he, _, _, _, _, hks⟩ := RC.tm.1 HR.out
          simp only [List.cons.injEq, Value.slice.injEq, and_true, true_and] at he
          obtain ⟨⟨rfl, rfl⟩, rfl, rfl⟩ := he
          obtain ⟨b, o, A1, ca1, K1, ck1, rfl, hb1, hS, hd, p0, p1, p2, p3, p4⟩ := hks.atTm (k := 0) (by omega)
          obtain ⟨b', o', A2, ca2, K2, ck2, he, hb2, hS2, hd2, q0, q1, q2, q3, q4⟩ := hks.atTm (k := 1) (by omega)
          simp only [Option.some.injEq, Addr.mk.injEq, and_true] at he
          obtain ⟨rfl, rfl⟩ := he
          have HA := Lib.hid hd
          have HD := Lib.hid hd2
          have HS := Lib.hid (countT_step h4 h2)
          have HN := Lib.hid (openT_step (n := n.toNat - (j + 1)) h4 h2)
          clear hd hd2 hks
          simp only [Nat.one_mul, Nat.zero_mul, Nat.add_zero] at p0 p1 p2 p3 p4 q0 q1 q2 q3 q4
          have hr_ := H.rules; simp only [Rules, and_true] at hr_; have hd_ := H.dif; simp only [Dif, Neq, and_true] at hd_; obtain ⟨ho_, hz_⟩ := H.old0
          go_wp2_with (first | (at_builtin; go_must (refine wpList_pushR (d := u.ks[0].d) rfl (.tmp 24) (.tmp 29) 28 rfl stTerms (by go_simp <;> first | rfl | exact ⟨rfl, rfl⟩) (by go_simp <;> first | rfl | exact ⟨rfl, rfl⟩) (by exact Hp.norm (by (repeat (first | with_reducible exact H | with_reducible exact H0_ | with_reducible apply Hp.alloc | with_reducible apply Hp.allocMap | with_reducible apply Hp.drew | with_reducible apply Hp.drewN | with_reducible apply Hp.set)); (try any_goals (repeat (first | with_reducible exact Upd.head | with_reducible apply Upd.tail)))) (by ((try simp only [size_drew_, size_drewN_, World.size_alloc, World.size_setCell, List.set_cons_zero, List.set_cons_succ, List.nil_append, List.cons_append]) <;> rfl))) (by (repeat (first | with_reducible exact Pick.head | with_reducible apply Pick.tail))) (by (repeat (first | with_reducible exact Pick.head | with_reducible apply Pick.tail))) ?_ ?_ ?_ ?_; (focus (exact HA.out.oldP (H.ext.alloc _))); (focus (exact Tm.size_d _)); (focus (simp only [M, List.length_map]; omega)); clear H; intro v' w4 H; (try clear hr_ hd_ ho_ hz_); have hr_ := H.rules; simp only [Rules, and_true] at hr_; have hd_ := H.dif; simp only [Dif, Neq, and_true] at hd_; obtain ⟨ho_, hz_⟩ := H.old0)) | ((with_reducible refine atStore (t := 30) ?_); go_must (refine wpList_storeH (t := 30) rfl rfl (by go_simp <;> first | rfl | exact ⟨rfl, rfl⟩) (by go_simp <;> first | rfl | exact ⟨rfl, rfl⟩) (by exact Hp.norm (by (repeat (first | with_reducible exact H | with_reducible exact H0_ | with_reducible apply Hp.alloc | with_reducible apply Hp.allocMap | with_reducible apply Hp.drew | with_reducible apply Hp.drewN | with_reducible apply Hp.set)); (try any_goals (repeat (first | with_reducible exact Upd.head | with_reducible apply Upd.tail)))) (by ((try simp only [size_drew_, size_drewN_, World.size_alloc, World.size_setCell, List.set_cons_zero, List.set_cons_succ, List.nil_append, List.cons_append]) <;> rfl))) (by (repeat (first | with_reducible exact Upd.head | with_reducible apply Upd.tail))) (by exact aggTerm) (by rfl) (by simp [Value.oneCell']) ?_; clear H; intro w7 H; (try simp only [size_drew_, size_drewN_, World.size_alloc, World.size_setCell, List.set_cons_zero, List.set_cons_succ] at H); (try clear hr_ hd_ ho_ hz_); have hr_ := H.rules; simp only [Rules, and_true] at hr_; have hd_ := H.dif; simp only [Dif, Neq, and_true] at hd_; obtain ⟨ho_, hz_⟩ := H.old0)))
          clear hr_ hd_ ho_ hz_
          go_roundw
          case rel => exact ⟨j + 1, u.ks[1], ls ++ [u.ks[0]], _, _, _, _, by omega, by go_num, by have h1 := HM.out; have h5 := HS.out; omega, by simp [hls], by have e := HN.out; rw [show n.toNat - (j + 1) + 1 = n.toNat - j by omega] at e; rw [HP.out, e]; simp [Option.map_map, Function.comp_def], HD.out, by simp only [List.map_append, List.map_cons, List.map_nil]; exact (H.arr (by (repeat (first | with_reducible exact Arr.nil | refine Arr.cons (by (repeat (first | with_reducible exact Pick.head | with_reducible apply Pick.tail))) ?_)) <;> exact Arr.of_subl (by (repeat (first | with_reducible exact Subl.refl _ | with_reducible apply Subl.drop)))))⟩
          case measure => have h1 := HM.out; have h5 := HS.out; simp [intOf]; omega
        · have HN := Lib.hid (openT_stop (n := n.toNat - (j + 1)) h42)
          have HO2 : Hid (openN n t = none) := by
            unfold Hid
            have e := HN.out
            rw [show n.toNat - (j + 1) + 1 = n.toNat - j by omega] at e
            rw [HO.out, HP.out, e]
            rfl
          by_cases h4 : u.k = 4
          · have h2 : ¬ u.ks.length = 2 := fun e => h42 ⟨h4, e⟩
            clear h42
            have hr_ := H.rules; simp only [Rules, and_true] at hr_; have hd_ := H.dif; simp only [Dif, Neq, and_true] at hd_; obtain ⟨ho_, hz_⟩ := H.old0
            go_wp2_with fail
            clear hr_ hd_ ho_ hz_
            rw [HO2.out]
            exact ⟨rfl, rfl, (show Hp no w _ _ from (by (repeat (first | with_reducible exact H | with_reducible exact H0_ | with_reducible apply Hp.alloc | with_reducible apply Hp.allocMap | with_reducible apply Hp.drew | with_reducible apply Hp.drewN | with_reducible apply Hp.set)); (try any_goals (repeat (first | with_reducible exact Upd.head | with_reducible apply Upd.tail))))).ext⟩
          · clear h42
            have hr_ := H.rules; simp only [Rules, and_true] at hr_; have hd_ := H.dif; simp only [Dif, Neq, and_true] at hd_; obtain ⟨ho_, hz_⟩ := H.old0
            go_wp2_with fail
            clear hr_ hd_ ho_ hz_
            rw [HO2.out]
            exact ⟨rfl, rfl, (show Hp no w _ _ from (by (repeat (first | with_reducible exact H | with_reducible exact H0_ | with_reducible apply Hp.alloc | with_reducible apply Hp.allocMap | with_reducible apply Hp.drew | with_reducible apply Hp.drewN | with_reducible apply Hp.set)); (try any_goals (repeat (first | with_reducible exact Upd.head | with_reducible apply Upd.tail))))).ext⟩
      · have HO2 : Hid (openN n t = some (ls, u)) := by
          unfold Hid
          rw [HO.out, HP.out, show n.toNat - j = 0 by omega]
          simp [openT]
        subst hls
        obtain ⟨E1, e1, rfl, _⟩ := (H.rowRd (e := 30) (by (repeat (first | with_reducible exact Pick.head | with_reducible apply Pick.tail)))).slice
        simp only [List.length_map] at H ⊢
        have hr_ := H.rules; simp only [Rules, and_true] at hr_; have hd_ := H.dif; simp only [Dif, Neq, and_true] at hd_; obtain ⟨ho_, hz_⟩ := H.old0
        go_wp2_with fail
        clear hr_ hd_ ho_ hz_
        refine regionH (by (repeat (first | with_reducible exact H | with_reducible exact H0_ | with_reducible apply Hp.alloc | with_reducible apply Hp.allocMap | with_reducible apply Hp.drew | with_reducible apply Hp.drewN | with_reducible apply Hp.set)); (try any_goals (repeat (first | with_reducible exact Upd.head | with_reducible apply Upd.tail)))) ?_
        clear H; intro w3 H; (try simp only [size_drew_, size_drewN_, World.size_alloc, World.size_setCell, List.set_cons_zero, List.set_cons_succ] at H)
        refine wp_region_H 6 [false, false, false, false, false, false] [5] H (.cons (i := 1) rfl .nil) (by kernel_rfl) rfl rfl (fun H_ hR_ => ?_)
        (try clear H0_); have H0_ := H; clear H; have H := H_; clear H_
        refine wpL_reads (is := [(0, ?v1_0), (2, ?v1_1)]) (by kernel_rfl) (Nat.le_of_ble_eq_true rfl) (by intro _ _ d_ _ _ h_; cases d_ <;> exact h_) (by kernel_rfl) hR_ (fun w_ hw_ => ?h1_) ?_
        case h1_ =>
          have ho_ := hw_.old0.1; have hz_ := hw_.old0.2; have hr_ := hw_.rules; clear hw_; simp only [Rules, and_true] at hr_; go_split_ands
          (repeat (first | with_reducible exact RdOps.nil | (refine RdOps.run rfl (by rfl) ?_ ?_; (focus (first | (go_simp; done) | (go_simp; with_reducible rfl))); simp only [List.getElem_toArray, List.getElem_cons_zero, List.getElem_cons_succ, Act.put, List.setIfInBounds_toArray, List.set_cons_zero, List.set_cons_succ]) | (refine RdOps.skip rfl (by rfl) ?_; simp only [List.getElem_toArray, List.getElem_cons_zero, List.getElem_cons_succ, Act.put, List.setIfInBounds_toArray, List.set_cons_zero, List.set_cons_succ])))
        simp only [rdMark, rdAct, List.map_cons, List.map_nil, List.length_cons, List.length_nil, Nat.reduceAdd, Nat.reduceSub, Nat.zero_add, List.getElem?_toArray, List.getElem?_cons_zero, List.getElem?_cons_succ, Option.bind_some, Act.put, List.setIfInBounds_toArray, List.set_cons_zero, List.set_cons_succ]
        refine wpL_do (i := 1) rfl (by kernel_rfl) (by rfl) (fun K_ hK_ => ?_)
        go_simp
        have hrow := H.rowRd (e := 30) (z := 5) (ds := ls.map Tm.d) (v := .slice E1 ls.length e1) (by (repeat (first | with_reducible exact Pick.head | with_reducible apply Pick.tail)))
        have hcall := teleOwns (HT.out.ext H.ext) hrow rfl
        clear hrow
        refine hcall.mono ?_
        clear hcall
        rintro e w_ ⟨B1, Bc, rfl, hacc, hx⟩
        replace H := H.resSl hx hacc
        clear hx hacc
        refine hK_ _ _ (fun _ => H.sub (by simp)) (fun hR_ => ?_)
        replace hR_ := hR_ (by decide)
        refine wpL_do (i := 3) rfl (by kernel_rfl) (by rfl) (fun K_ hK_ => ?_)
        go_simp
        refine (teleOwn (HT.out.ext H.ext) ⟨_, _, _, _, rfl, HR.out.ext0 H.ext⟩).mono ?_
        rintro e w_ ⟨v, rfl, hto, hx⟩
        obtain ⟨C1, Cc, C2, Ck, rfl, H_⟩ := H.resTm hx hto
        clear H hx hto
        have H := H_
        clear H_
        refine hK_ _ _ (fun _ => H.sub (by simp)) (fun hR_ => ?_)
        replace hR_ := hR_ (by decide)
        refine wpL_reads (is := [(4, ?v2_0)]) (by kernel_rfl) (Nat.le_of_ble_eq_true rfl) (by intro _ _ d_ _ _ h_; cases d_ <;> exact h_) (by kernel_rfl) hR_ (fun w_ hw_ => ?h2_) ?_
        case h2_ =>
          have ho_ := hw_.old0.1; have hz_ := hw_.old0.2; have hr_ := hw_.rules; clear hw_; simp only [Rules, and_true] at hr_; go_split_ands
          (repeat (first | with_reducible exact RdOps.nil | (refine RdOps.run rfl (by rfl) ?_ ?_; (focus (first | (go_simp; done) | (go_simp; with_reducible rfl))); simp only [List.getElem_toArray, List.getElem_cons_zero, List.getElem_cons_succ, Act.put, List.setIfInBounds_toArray, List.set_cons_zero, List.set_cons_succ]) | (refine RdOps.skip rfl (by rfl) ?_; simp only [List.getElem_toArray, List.getElem_cons_zero, List.getElem_cons_succ, Act.put, List.setIfInBounds_toArray, List.set_cons_zero, List.set_cons_succ])))
        simp only [rdMark, rdAct, List.map_cons, List.map_nil, List.length_cons, List.length_nil, Nat.reduceAdd, Nat.reduceSub, Nat.zero_add, List.getElem?_toArray, List.getElem?_cons_zero, List.getElem?_cons_succ, Option.bind_some, Act.put, List.setIfInBounds_toArray, List.set_cons_zero, List.set_cons_succ]
        refine wpL_do (i := 5) rfl (by kernel_rfl) (by rfl) (fun K_ hK_ => ?_)
        refine wp_storeH rfl (by go_simp <;> first | rfl | exact ⟨rfl, rfl⟩) (by go_simp <;> first | rfl | exact ⟨rfl, rfl⟩) H (by (repeat (first | with_reducible exact Upd.head | with_reducible apply Upd.tail))) (by exact aggTerm) (by rfl) (by simp [Value.oneCell']) (fun w9 H_ => ?_)
        clear H; have H := H_; clear H_
        refine hK_ _ _ (fun h => absurd (by decide) h) (fun _ => ?_)
        refine wpL_done (by kernel_rfl) ?_ _
        go_wp2_with fail
        refine endH (by (repeat (first | with_reducible exact H | with_reducible exact H0_ | with_reducible apply Hp.alloc | with_reducible apply Hp.allocMap | with_reducible apply Hp.drew | with_reducible apply Hp.drewN | with_reducible apply Hp.set)); (try any_goals (repeat (first | with_reducible exact Upd.head | with_reducible apply Upd.tail)))) ?_
        clear H; intro w8 H; (try simp only [size_drew_, size_drewN_, World.size_alloc, World.size_setCell, List.set_cons_zero, List.set_cons_succ] at H)
        simp only [List.length_map] at H
        have hr_ := H.rules; simp only [Rules, and_true] at hr_; have hd_ := H.dif; simp only [Dif, Neq, and_true] at hd_; obtain ⟨ho_, hz_⟩ := H.old0
        refine bodyPost_ret (v := .tuple #[.slice B1 ls.length Bc, .agg #[.int .i64 u.k, .int .i64 u.n, .int .i64 u.a, .slice C1 u.ls.length Cc, .slice C2 u.ks.length Ck]]) (by simp [results, Tryd.results67, go_sem, hr_]) rfl ?_
        rw [HO2.out]
        exact ⟨_, _, _, _, _, _, rfl, (H.arr (by (repeat (first | with_reducible exact Arr.nil | refine Arr.cons (by (repeat (first | with_reducible exact Pick.head | with_reducible apply Pick.tail))) ?_)) <;> exact Arr.of_subl (by (repeat (first | with_reducible exact Subl.refl _ | with_reducible apply Subl.drop)))))⟩
end Go.Proofs.YteelplgdojjakaaDoor
