/- tele: open: contract. No statement of the seat is proved here. -/
import Derived.Test.YtmedomglemllnaaGreatDoorMgTele3
import Derived.Test.YtmedomglemllnaaGreatDoorMgWalkG
import Derived.Recover
namespace Go.Proofs.YtmedomglemllnaaGreatDoor
set_option linter.unusedSimpArgs false
set_option linter.unusedVariables false
open Go.RowKit

theorem RC.oldP {w w' : World} {S : Nat → Prop} {d : D} {cs : List Value} (h : RC w S d cs) (hx : Ext no w w') : RC w' (fun k => k < w.heap.size ∧ ¬ no k) d cs :=
  RC.frame hx.size (fun k _ hS => ⟨hS.2, no_not⟩) (fun k hk _ => hx.block k hk no_not) _ _ h.bd
def openT : Nat → Tm → Option (List Tm × Tm)
  | 0, t => some ([], t)
  | n + 1, .mk k _ _ _ [a, b] => if k = 4 then (openT n b).map fun p => (a :: p.1, p.2) else none
  | _ + 1, _ => none
theorem openT_step {n : Nat} {t : Tm} (h4 : t.k = 4) (h2 : t.ks.length = 2) : openT (n + 1) t = (openT n (t.ks[1]'(by omega))).map fun p => (t.ks[0]'(by omega) :: p.1, p.2) := by
  obtain ⟨k, m, a, ls, x, y, rfl⟩ := Tm.two h2
  simp only [Tm.k_mk] at h4
  rw [openT, if_pos h4]
  rfl
theorem openT_stop {n : Nat} {t : Tm} (h : ¬ (t.k = 4 ∧ t.ks.length = 2)) : openT (n + 1) t = none := by
  obtain ⟨k, m, a, ls, ks⟩ := t
  match ks with
  | [] => simp [openT]
  | [_] => simp [openT]
  | [x, y] =>
    rw [openT, if_neg]
    intro e
    exact h ⟨e, rfl⟩
  | _ :: _ :: _ :: _ => simp [openT]
def fewP : List PanicEntry := [{ v := .iface 93 (.agg #[]), recovered := false }]
def POpen (w : World) (o : Option (List Tm × Tm)) (e : Ending) (w' : World) : Prop :=
  match o with
  | none => e = .panicked fewP ∧ Ext no w w'
  | some (ls, r) => ∃ A c B cb K kb, e = .returned (.tuple #[.slice A ls.length c, .agg #[.int .i64 r.k, .int .i64 r.n, .int .i64 r.a, .slice B r.ls.length cb, .slice K r.ks.length kb]]) ∧
    Hp no w w' [.dat (.l 26 5 (ls.map Tm.d)) [.slice A ls.length c], .dat r.d [.int .i64 r.k, .int .i64 r.n, .int .i64 r.a, .slice B r.ls.length cb, .slice K r.ks.length kb]]
def openN (n : Int) (t : Tm) : Option (List Tm × Tm) := if n < 0 then none else openT n.toNat t
set_option maxRecDepth 100000 in
set_option maxHeartbeats 4000000 in
theorem open_calls {S : Nat → Prop} {t : Tm} {w : World} {v : Value} (hT : Tab w) (h : TV w S t v) (n : Int) (hb : countT t ≤ 1000000000 ∨ n ≤ 1000000000) (hn : inI n) : Calls Tryz.prog 67 #[v, .int .i64 n] w (POpen w (openN n t)) := by
  obtain ⟨A0, ca, K0, ck, rfl, hrc⟩ := h
  have HRC := Lib.hid hrc
  have HT := Lib.hid hT
  have HBB := Lib.hid hb
  clear hrc hT hb
  go_enter Tryz.func67, Tryz.ntmps67
  by_cases h0 : n < 0
  · have HO : Hid (openN n t = none) := by unfold Hid openN; rw [if_pos h0]
    have H := Hp.start no w
    go_wp2_with fail
    rw [HO.out]
    exact ⟨rfl, rfl, (show Hp no w _ _ from (by (repeat (first | with_reducible exact H | with_reducible exact H0_ | with_reducible apply Hp.alloc | with_reducible apply Hp.allocMap | with_reducible apply Hp.drew | with_reducible apply Hp.drewN | with_reducible apply Hp.set)); (try any_goals (repeat (first | with_reducible exact Upd.head | with_reducible apply Upd.tail))))).ext⟩
  · have HO : Hid (openN n t = openT n.toNat t) := by unfold Hid openN; rw [if_neg h0]
    have hn2 : n ≤ 9223372036854775807 := hn.2
    clear hn
    go_wp2_with fail
    have H := (Hp.start no w).rowNil 26 5
    go_loopw [4, 11] (fun out i wr => ∃ (j : Nat) (u : Tm) (ls : List Tm) (B K : Option Addr) (cb kb : Nat), (j : Int) ≤ n ∧ i = .int .i64 j ∧ countT u + j = countT t ∧ ls.length = j ∧ openT n.toNat t = (openT (n.toNat - j) u).map (fun p => (ls ++ p.1, p.2)) ∧
      RC w S u.d [.int .i64 u.k, .int .i64 u.n, .int .i64 u.a, .slice B u.ls.length cb, .slice K u.ks.length kb] ∧
      Hp no w wr [.box (w.heap.size + 1) 26 [.int .i64 0, .int .i64 0, .int .i64 0, .slice none 0 0, .slice none 0 0], .box w.heap.size 26 [.int .i64 u.k, .int .i64 u.n, .int .i64 u.a, .slice B u.ls.length cb, .slice K u.ks.length kb], .row 26 5 (ls.map Tm.d) out]) (fun _ i _ => countT t - (intOf i).toNat)
    case atStart => exact ⟨0, t, [], _, _, _, _, by omega, rfl, rfl, rfl, by simp, HRC.out, by rw [List.map_nil]; exact Hp.norm (by (repeat (first | with_reducible exact H | with_reducible exact H0_ | with_reducible apply Hp.alloc | with_reducible apply Hp.allocMap | with_reducible apply Hp.drew | with_reducible apply Hp.drewN | with_reducible apply Hp.set)); (try any_goals (repeat (first | with_reducible exact Upd.head | with_reducible apply Upd.tail)))) (by ((try simp only [size_drew_, size_drewN_, World.size_alloc, World.size_setCell, List.set_cons_zero, List.set_cons_succ, List.nil_append, List.cons_append]) <;> rfl))⟩
    case round =>
      clear H
      obtain ⟨j, u, ls, B, K, cb, kb, hj, rfl, hm, hls, hop, hrc, H⟩ := hrel
      have HM := Lib.hid hm
      have HR := Lib.hid hrc
      have HP := Lib.hid hop
      have hmb : j ≤ 1000000000 := by have := HBB.out; omega
      clear hm hrc hop
      by_cases hlt : (j : Int) < n
      · by_cases h42 : u.k = 4 ∧ u.ks.length = 2
        · obtain ⟨h4, h2⟩ := h42
          obtain ⟨_, _, _, _, he, _, _, _, _, hks⟩ := RC.tm.1 HR.out
          simp only [List.cons.injEq, Value.slice.injEq, and_true, true_and] at he
          obtain ⟨⟨rfl, rfl⟩, rfl, rfl⟩ := he
          obtain ⟨b, o, A1, ca1, K1, ck1, rfl, hb1, hS, hd, p0, p1, p2, p3, p4⟩ := hks.atTm (k := 0) (by omega)
          obtain ⟨b', o', A2, ca2, K2, ck2, he, hb2, hS2, hd2, q0, q1, q2, q3, q4⟩ := hks.atTm (k := 1) (by omega)
          simp only [Option.some.injEq, Addr.mk.injEq, and_true] at he
          obtain ⟨rfl, rfl⟩ := he
          have HA := Lib.hid hd
          have HD := Lib.hid hd2
          have HS := Lib.hid (countT_step h4 h2)
          have HN := Lib.hid (openT_step (n := n.toNat - (j + 1)) h4 h2)
          clear hd hd2 hks
          simp only [Nat.one_mul, Nat.zero_mul, Nat.add_zero] at p0 p1 p2 p3 p4 q0 q1 q2 q3 q4
          have hr_ := H.rules; simp only [Rules, and_true] at hr_; have hd_ := H.dif; simp only [Dif, Neq, and_true] at hd_; obtain ⟨ho_, hz_⟩ := H.old0
          go_wp2_with (first | (at_builtin; go_must (refine wpList_pushR (d := u.ks[0].d) rfl (.tmp 24) (.tmp 29) 22 rfl stTerms (by go_simp <;> first | rfl | exact ⟨rfl, rfl⟩) (by go_simp <;> first | rfl | exact ⟨rfl, rfl⟩) (by exact Hp.norm (by (repeat (first | with_reducible exact H | with_reducible exact H0_ | with_reducible apply Hp.alloc | with_reducible apply Hp.allocMap | with_reducible apply Hp.drew | with_reducible apply Hp.drewN | with_reducible apply Hp.set)); (try any_goals (repeat (first | with_reducible exact Upd.head | with_reducible apply Upd.tail)))) (by ((try simp only [size_drew_, size_drewN_, World.size_alloc, World.size_setCell, List.set_cons_zero, List.set_cons_succ, List.nil_append, List.cons_append]) <;> rfl))) (by (repeat (first | with_reducible exact Pick.head | with_reducible apply Pick.tail))) (by (repeat (first | with_reducible exact Pick.head | with_reducible apply Pick.tail))) ?_ ?_ ?_ ?_; (focus (exact HA.out.oldP (H.ext.alloc _))); (focus (exact Tm.size_d _)); (focus (simp only [M, List.length_map]; omega)); clear H; intro v' w4 H; (try clear hr_ hd_ ho_ hz_); have hr_ := H.rules; simp only [Rules, and_true] at hr_; have hd_ := H.dif; simp only [Dif, Neq, and_true] at hd_; obtain ⟨ho_, hz_⟩ := H.old0)) | ((with_reducible refine atStore (t := 26) ?_); go_must (refine wpList_storeH (t := 26) rfl rfl (by go_simp <;> first | rfl | exact ⟨rfl, rfl⟩) (by go_simp <;> first | rfl | exact ⟨rfl, rfl⟩) (by exact Hp.norm (by (repeat (first | with_reducible exact H | with_reducible exact H0_ | with_reducible apply Hp.alloc | with_reducible apply Hp.allocMap | with_reducible apply Hp.drew | with_reducible apply Hp.drewN | with_reducible apply Hp.set)); (try any_goals (repeat (first | with_reducible exact Upd.head | with_reducible apply Upd.tail)))) (by ((try simp only [size_drew_, size_drewN_, World.size_alloc, World.size_setCell, List.set_cons_zero, List.set_cons_succ, List.nil_append, List.cons_append]) <;> rfl))) (by (repeat (first | with_reducible exact Upd.head | with_reducible apply Upd.tail))) (by exact aggTerm) (by rfl) (by simp [Value.oneCell']) ?_; clear H; intro w7 H; (try simp only [size_drew_, size_drewN_, World.size_alloc, World.size_setCell, List.set_cons_zero, List.set_cons_succ] at H); (try clear hr_ hd_ ho_ hz_); have hr_ := H.rules; simp only [Rules, and_true] at hr_; have hd_ := H.dif; simp only [Dif, Neq, and_true] at hd_; obtain ⟨ho_, hz_⟩ := H.old0)))
          clear hr_ hd_ ho_ hz_
          go_roundw
          case rel => exact ⟨j + 1, u.ks[1], ls ++ [u.ks[0]], _, _, _, _, by omega, by go_num, by have h1 := HM.out; have h5 := HS.out; omega, by simp [hls], by have e := HN.out; rw [show n.toNat - (j + 1) + 1 = n.toNat - j by omega] at e; rw [HP.out, e]; simp [Option.map_map, Function.comp_def], HD.out, by simp only [List.map_append, List.map_cons, List.map_nil]; exact (H.arr (by (repeat (first | with_reducible exact Arr.nil | refine Arr.cons (by (repeat (first | with_reducible exact Pick.head | with_reducible apply Pick.tail))) ?_)) <;> exact Arr.of_subl (by (repeat (first | with_reducible exact Subl.refl _ | with_reducible apply Subl.drop)))))⟩
          case measure => have h1 := HM.out; have h5 := HS.out; simp [intOf]; omega
        · have HN := Lib.hid (openT_stop (n := n.toNat - (j + 1)) h42)
          have HO2 : Hid (openN n t = none) := by
            unfold Hid
            have e := HN.out
            rw [show n.toNat - (j + 1) + 1 = n.toNat - j by omega] at e
            rw [HO.out, HP.out, e]
            rfl
          by_cases h4 : u.k = 4
          · have h2 : ¬ u.ks.length = 2 := fun e => h42 ⟨h4, e⟩
            clear h42
            have hr_ := H.rules; simp only [Rules, and_true] at hr_; have hd_ := H.dif; simp only [Dif, Neq, and_true] at hd_; obtain ⟨ho_, hz_⟩ := H.old0
            go_wp2_with fail
            clear hr_ hd_ ho_ hz_
            rw [HO2.out]
            exact ⟨rfl, rfl, (show Hp no w _ _ from (by (repeat (first | with_reducible exact H | with_reducible exact H0_ | with_reducible apply Hp.alloc | with_reducible apply Hp.allocMap | with_reducible apply Hp.drew | with_reducible apply Hp.drewN | with_reducible apply Hp.set)); (try any_goals (repeat (first | with_reducible exact Upd.head | with_reducible apply Upd.tail))))).ext⟩
          · clear h42
            have hr_ := H.rules; simp only [Rules, and_true] at hr_; have hd_ := H.dif; simp only [Dif, Neq, and_true] at hd_; obtain ⟨ho_, hz_⟩ := H.old0
            go_wp2_with fail
            clear hr_ hd_ ho_ hz_
            rw [HO2.out]
            exact ⟨rfl, rfl, (show Hp no w _ _ from (by (repeat (first | with_reducible exact H | with_reducible exact H0_ | with_reducible apply Hp.alloc | with_reducible apply Hp.allocMap | with_reducible apply Hp.drew | with_reducible apply Hp.drewN | with_reducible apply Hp.set)); (try any_goals (repeat (first | with_reducible exact Upd.head | with_reducible apply Upd.tail))))).ext⟩
      · have HO2 : Hid (openN n t = some (ls, u)) := by
          unfold Hid
          rw [HO.out, HP.out, show n.toNat - j = 0 by omega]
          simp [openT]
        subst hls
        obtain ⟨E1, e1, rfl, _⟩ := (H.rowRd (e := 26) (by (repeat (first | with_reducible exact Pick.head | with_reducible apply Pick.tail)))).slice
        simp only [List.length_map] at H ⊢
        have hr_ := H.rules; simp only [Rules, and_true] at hr_; have hd_ := H.dif; simp only [Dif, Neq, and_true] at hd_; obtain ⟨ho_, hz_⟩ := H.old0
        go_wp2_with fail
        clear hr_ hd_ ho_ hz_
        refine regionH (by (repeat (first | with_reducible exact H | with_reducible exact H0_ | with_reducible apply Hp.alloc | with_reducible apply Hp.allocMap | with_reducible apply Hp.drew | with_reducible apply Hp.drewN | with_reducible apply Hp.set)); (try any_goals (repeat (first | with_reducible exact Upd.head | with_reducible apply Upd.tail)))) ?_
        clear H; intro w3 H; (try simp only [size_drew_, size_drewN_, World.size_alloc, World.size_setCell, List.set_cons_zero, List.set_cons_succ] at H)
        refine wp_region_H 6 [false, false, false, false, false, false] [5] H (.cons (i := 1) rfl .nil) (by kernel_rfl) rfl rfl (fun H_ hR_ => ?_)
        (try clear H0_); have H0_ := H; clear H; have H := H_; clear H_
        refine wpL_reads (is := [(0, ?v1_0), (2, ?v1_1)]) (by kernel_rfl) (Nat.le_of_ble_eq_true rfl) (by intro _ _ d_ _ _ h_; cases d_ <;> exact h_) (by kernel_rfl) hR_ (fun w_ hw_ => ?h1_) ?_
        case h1_ =>
          have ho_ := hw_.old0.1; have hz_ := hw_.old0.2; have hr_ := hw_.rules; clear hw_; simp only [Rules, and_true] at hr_; go_split_ands
          (repeat (first | with_reducible exact RdOps.nil | (refine RdOps.run rfl (by rfl) ?_ ?_; (focus (first | (go_simp; done) | (go_simp; with_reducible rfl))); simp only [List.getElem_toArray, List.getElem_cons_zero, List.getElem_cons_succ, Act.put, List.setIfInBounds_toArray, List.set_cons_zero, List.set_cons_succ]) | (refine RdOps.skip rfl (by rfl) ?_; simp only [List.getElem_toArray, List.getElem_cons_zero, List.getElem_cons_succ, Act.put, List.setIfInBounds_toArray, List.set_cons_zero, List.set_cons_succ])))
        simp only [rdMark, rdAct, List.map_cons, List.map_nil, List.length_cons, List.length_nil, Nat.reduceAdd, Nat.reduceSub, Nat.zero_add, List.getElem?_toArray, List.getElem?_cons_zero, List.getElem?_cons_succ, Option.bind_some, Act.put, List.setIfInBounds_toArray, List.set_cons_zero, List.set_cons_succ]
        refine wpL_do (i := 1) rfl (by kernel_rfl) (by rfl) (fun K_ hK_ => ?_)
        go_simp
        have hrow := H.rowRd (e := 26) (z := 5) (ds := ls.map Tm.d) (v := .slice E1 ls.length e1) (by (repeat (first | with_reducible exact Pick.head | with_reducible apply Pick.tail)))
        have hcall := teleOwns (HT.out.ext H.ext) hrow rfl
        clear hrow
        refine hcall.mono ?_
        clear hcall
        rintro e w_ ⟨B1, Bc, rfl, hacc, hx⟩
        replace H := H.resSl hx hacc
        clear hx hacc
        refine hK_ _ _ (fun _ => H.sub (by simp)) (fun hR_ => ?_)
        replace hR_ := hR_ (by decide)
        refine wpL_do (i := 3) rfl (by kernel_rfl) (by rfl) (fun K_ hK_ => ?_)
        go_simp
        refine (teleOwn (HT.out.ext H.ext) ⟨_, _, _, _, rfl, HR.out.ext0 H.ext⟩).mono ?_
        rintro e w_ ⟨v, rfl, hto, hx⟩
        obtain ⟨C1, Cc, C2, Ck, rfl, H_⟩ := H.resTm hx hto
        clear H hx hto
        have H := H_
        clear H_
        refine hK_ _ _ (fun _ => H.sub (by simp)) (fun hR_ => ?_)
        replace hR_ := hR_ (by decide)
        refine wpL_reads (is := [(4, ?v2_0)]) (by kernel_rfl) (Nat.le_of_ble_eq_true rfl) (by intro _ _ d_ _ _ h_; cases d_ <;> exact h_) (by kernel_rfl) hR_ (fun w_ hw_ => ?h2_) ?_
        case h2_ =>
          have ho_ := hw_.old0.1; have hz_ := hw_.old0.2; have hr_ := hw_.rules; clear hw_; simp only [Rules, and_true] at hr_; go_split_ands
          (repeat (first | with_reducible exact RdOps.nil | (refine RdOps.run rfl (by rfl) ?_ ?_; (focus (first | (go_simp; done) | (go_simp; with_reducible rfl))); simp only [List.getElem_toArray, List.getElem_cons_zero, List.getElem_cons_succ, Act.put, List.setIfInBounds_toArray, List.set_cons_zero, List.set_cons_succ]) | (refine RdOps.skip rfl (by rfl) ?_; simp only [List.getElem_toArray, List.getElem_cons_zero, List.getElem_cons_succ, Act.put, List.setIfInBounds_toArray, List.set_cons_zero, List.set_cons_succ])))
        simp only [rdMark, rdAct, List.map_cons, List.map_nil, List.length_cons, List.length_nil, Nat.reduceAdd, Nat.reduceSub, Nat.zero_add, List.getElem?_toArray, List.getElem?_cons_zero, List.getElem?_cons_succ, Option.bind_some, Act.put, List.setIfInBounds_toArray, List.set_cons_zero, List.set_cons_succ]
        refine wpL_do (i := 5) rfl (by kernel_rfl) (by rfl) (fun K_ hK_ => ?_)
        refine wp_storeH rfl (by go_simp <;> first | rfl | exact ⟨rfl, rfl⟩) (by go_simp <;> first | rfl | exact ⟨rfl, rfl⟩) H (by (repeat (first | with_reducible exact Upd.head | with_reducible apply Upd.tail))) (by exact aggTerm) (by rfl) (by simp [Value.oneCell']) (fun w9 H_ => ?_)
        clear H; have H := H_; clear H_
        refine hK_ _ _ (fun h => absurd (by decide) h) (fun _ => ?_)
        refine wpL_done (by kernel_rfl) ?_ _
        go_wp2_with fail
        refine endH (by (repeat (first | with_reducible exact H | with_reducible exact H0_ | with_reducible apply Hp.alloc | with_reducible apply Hp.allocMap | with_reducible apply Hp.drew | with_reducible apply Hp.drewN | with_reducible apply Hp.set)); (try any_goals (repeat (first | with_reducible exact Upd.head | with_reducible apply Upd.tail)))) ?_
        clear H; intro w8 H; (try simp only [size_drew_, size_drewN_, World.size_alloc, World.size_setCell, List.set_cons_zero, List.set_cons_succ] at H)
        simp only [List.length_map] at H
        have hr_ := H.rules; simp only [Rules, and_true] at hr_; have hd_ := H.dif; simp only [Dif, Neq, and_true] at hd_; obtain ⟨ho_, hz_⟩ := H.old0
        refine bodyPost_ret (v := .tuple #[.slice B1 ls.length Bc, .agg #[.int .i64 u.k, .int .i64 u.n, .int .i64 u.a, .slice C1 u.ls.length Cc, .slice C2 u.ks.length Ck]]) (by simp [results, Tryz.results67, go_sem, hr_]) rfl ?_
        rw [HO2.out]
        exact ⟨_, _, _, _, _, _, rfl, (H.arr (by (repeat (first | with_reducible exact Arr.nil | refine Arr.cons (by (repeat (first | with_reducible exact Pick.head | with_reducible apply Pick.tail))) ?_)) <;> exact Arr.of_subl (by (repeat (first | with_reducible exact Subl.refl _ | with_reducible apply Subl.drop)))))⟩
end Go.Proofs.YtmedomglemllnaaGreatDoor
/- term: Put: what it computes; depths; no program in sight. No statement of the seat is proved here. -/
namespace Go.Proofs.YtmedomglemllnaaGreatDoor
set_option linter.unusedSimpArgs false
set_option linter.unusedVariables false
open Go.RowKit

mutual
def depthT : Tm → Nat
  | .mk _ _ _ _ ks => depthsT ks + 1
def depthsT : List Tm → Nat
  | [] => 0
  | t :: ts => max (depthT t) (depthsT ts)
end
theorem depthsT_get {ts : List Tm} {i : Nat} (h : i < ts.length) : depthT ts[i] ≤ depthsT ts := by
  induction ts generalizing i with
  | nil => simp at h
  | cons t ts ih =>
    rw [depthsT]
    cases i with
    | zero => simp; omega
    | succ i => have := ih (i := i) (by simpa using h); simp; omega
def GPut (b : Int) (t : Tm) : Prop := 0 ≤ b ∧ b + depthT t ≤ 4611686018427387904
theorem GPut.kid : ∀ b k n a ls ks, GPut b (.mk k n a ls ks) → ∀ (i : Nat) (h : i < ks.length), GPut (downI k i b) ks[i] := by
  rintro b k n a ls ks ⟨h0, h1⟩ i h
  have h2 := depthsT_get h
  rw [depthT] at h1
  push_cast at h1
  unfold GPut downI
  split
  · unfold wrap64; omega
  · omega
end Go.Proofs.YtmedomglemllnaaGreatDoor
/- What is read has one depth: a measure for loops that go down a term. No statement of the seat is proved here. -/
namespace Go.Proofs.YtmedomglemllnaaGreatDoor
set_option linter.unusedSimpArgs false
set_option linter.unusedVariables false
open Go.RowKit

theorem depthsT_congr : ∀ (xs ys : List Tm), xs.length = ys.length → (∀ (i : Nat) (h : i < xs.length) (h' : i < ys.length), depthT xs[i] = depthT ys[i]) → depthsT xs = depthsT ys
  | [], [], _, _ => rfl
  | [], _ :: _, h, _ => by simp at h
  | _ :: _, [], h, _ => by simp at h
  | x :: xs, y :: ys, h, hi => by
    rw [depthsT, depthsT, depthsT_congr xs ys (by simpa using h) (fun i h1 h2 => by have := hi (i + 1) (by simpa using h1) (by simpa using h2); simpa using this)]
    have := hi 0 (by simp) (by simp)
    simp only [List.getElem_cons_zero] at this
    rw [this]
theorem RC.depthEq : ∀ (u : Tm) {w : World} {S S' : Nat → Prop} {u' : Tm} {cs : List Value}, RC w S u.d cs → RC w S' u'.d cs → depthT u = depthT u' := by
  intro u
  induction u using Tm.ind_ with
  | h k n a ls ks ih =>
  intro w S S' u' cs h h'
  obtain ⟨A, ca, K, ck, rfl, _, _, _, _, hks⟩ := RC.tm.1 h
  obtain ⟨A', ca', K', ck', he, _, _, _, _, hks'⟩ := RC.tm.1 h'
  obtain ⟨k', n', a', ls', ks'⟩ := u'
  simp only [Tm.k_mk, Tm.n_mk, Tm.a_mk, Tm.ls_mk, Tm.ks_mk, List.cons.injEq, Value.slice.injEq, Value.int.injEq, and_true, true_and] at he hks hks'
  obtain ⟨_, _, _, _, rfl, hlen, rfl⟩ := he
  rw [depthT, depthT, depthsT_congr ks ks' hlen]
  intro i hi hi'
  obtain ⟨b, o, A1, ca1, K1, ck1, rfl, hb1, hS1, hd1, p0, p1, p2, p3, p4⟩ := hks.atTm hi
  obtain ⟨b', o', A2, ca2, K2, ck2, he2, hb2, hS2, hd2, q0, q1, q2, q3, q4⟩ := hks'.atTm hi'
  simp only [Option.some.injEq, Addr.mk.injEq, and_true] at he2
  obtain ⟨rfl, rfl⟩ := he2
  refine ih ks[i] (by simp) (S' := S') (u' := ks'[i]) hd1 ?_
  rw [p0] at q0; rw [p1] at q1; rw [p2] at q2; rw [p3] at q3; rw [p4] at q4
  simp only [Option.some.injEq] at q0 q1 q2 q3 q4
  rw [q0, q1, q2, q3, q4]
  exact hd2
instance : Nonempty Tm := ⟨.mk 0 0 0 [] []⟩
noncomputable def deepAt (w : World) (S : Nat → Prop) (g : Nat) (wr : World) : Nat :=
  depthT (Classical.epsilon fun u : Tm => ∃ cs : List Value, RC w S u.d cs ∧ ∀ j u, cs[j]? = some u → wr.cell? ⟨g, j, none⟩ = some u)
theorem deepAt_eq {w wr : World} {S : Nat → Prop} {g : Nat} {u : Tm} {cs : List Value} (h : RC w S u.d cs) (hc : ∀ j u, cs[j]? = some u → wr.cell? ⟨g, j, none⟩ = some u) : deepAt w S g wr = depthT u := by
  unfold deepAt
  obtain ⟨cs', h1, h2⟩ := Classical.epsilon_spec (p := fun u : Tm => ∃ cs : List Value, RC w S u.d cs ∧ ∀ j u, cs[j]? = some u → wr.cell? ⟨g, j, none⟩ = some u) ⟨u, cs, h, hc⟩
  have l1 : cs.length = 5 := by rw [RC.len _ _ h]; exact Tm.size_d u
  have l2 : cs'.length = 5 := by rw [RC.len _ _ h1]; exact Tm.size_d _
  have e : cs' = cs := by
    refine List.ext_getElem (by omega) fun j h3 h4 => ?_
    have e1 := hc j _ (List.getElem?_eq_getElem h4)
    have e2 := h2 j _ (List.getElem?_eq_getElem h3)
    rw [e1] at e2
    exact (Option.some.inj e2).symm
  subst e
  exact RC.depthEq _ h1 h
theorem deepAt_hp {X : Nat → Prop} {w0 w wr : World} {l l' : List Ch} {S : Nat → Prop} {g e : Nat} {u : Tm} {cs : List Value} (H : Hp X w0 wr l) (p : Pick l (.box g e cs) l') (h : RC w S u.d cs) : deepAt w S g wr = depthT u :=
  deepAt_eq h fun j u hu => by have := (H.blk p).cells j; rw [this]; simpa using hu
theorem depthT_kid {t : Tm} {i : Nat} (h : i < t.ks.length) : depthT t.ks[i] < depthT t := by
  obtain ⟨k, n, a, ls, ks⟩ := t
  have := depthsT_get (ts := ks) (i := i) h
  rw [depthT]
  simp only [Tm.ks_mk]
  omega
end Go.Proofs.YtmedomglemllnaaGreatDoor
/- tele: Open: contract. No statement of the seat is proved here. -/
namespace Go.Proofs.YtmedomglemllnaaGreatDoor
set_option linter.unusedSimpArgs false
set_option linter.unusedVariables false
open Go.RowKit

set_option maxRecDepth 100000 in
set_option maxHeartbeats 2000000 in
theorem open1_panicking {w0 w : World} {l : List Ch} {bt br bo : Nat} {v v0 v1 v2 v3 v4 : Value} {q : Bool} (H : Hp no w0 w (.box bt 22 [v] :: .box br 26 [v0, v1, v2, v3, v4] :: .box bo 4 [.bool q] :: l)) :
    CallsD Tryz.prog 66 #[.pointer (some ⟨bt, 0, none⟩), .pointer (some ⟨br, 0, none⟩), .pointer (some ⟨bo, 0, none⟩)] (.panicking fewP) w fun e u' w' =>
      e = .returned (.tuple #[]) ∧ u' = .panicking [{ v := .iface 93 (.agg #[]), recovered := true }] ∧ Hp no w0 w' (.box bt 22 [.slice none 0 0] :: .box br 26 [.int .i64 0, .int .i64 0, .int .i64 0, .slice none 0 0, .slice none 0 0] :: .box bo 4 [.bool false] :: l) := by
  refine callsD_of_wpS Tryz.func66 rfl fun c₀ cs hu => ?_
  have hta : ∀ w, (Instr.typeAssert (.iface 93 (.agg #[])) 20 93 true).run Tryz.prog w = .ok (.tuple #[.agg #[], .bool true]) w := fun w => run_assert_same Tryz.underlying93 rfl w
  simp only [Tryz.ntmps66, List.size_toArray, List.length_cons, List.length_nil, Nat.reduceAdd, Nat.reduceSub, Array.replicate_succ, Array.replicate_zero, List.push_toArray, List.append_toArray, List.nil_append, List.cons_append]
  apply wpS_seq
  apply wpS_region
  simp [wpOpsS, go_sem, recoverD, hu, fewP, Exit.thenS]
  refine wpS_of_wp ?_
  have hr_ := H.rules; simp only [Rules, and_true] at hr_; have hd_ := H.dif; simp only [Dif, Neq, and_true] at hd_; obtain ⟨ho_, hz_⟩ := H.old0
  go_wp2_with ((with_reducible refine atStore (t := 26) ?_); go_must (refine wpList_storeH (t := 26) rfl rfl (by go_simp <;> first | rfl | exact ⟨rfl, rfl⟩) (by go_simp <;> first | rfl | exact ⟨rfl, rfl⟩) (by exact Hp.norm (by (repeat (first | with_reducible exact H | with_reducible exact H0_ | with_reducible apply Hp.alloc | with_reducible apply Hp.allocMap | with_reducible apply Hp.drew | with_reducible apply Hp.drewN | with_reducible apply Hp.set)); (try any_goals (repeat (first | with_reducible exact Upd.head | with_reducible apply Upd.tail)))) (by ((try simp only [size_drew_, size_drewN_, World.size_alloc, World.size_setCell, List.set_cons_zero, List.set_cons_succ, List.nil_append, List.cons_append]) <;> rfl))) (by (repeat (first | with_reducible exact Upd.head | with_reducible apply Upd.tail))) (by exact aggTerm) (by rfl) (by simp [Value.oneCell']) ?_; clear H; intro w7 H; (try simp only [size_drew_, size_drewN_, World.size_alloc, World.size_setCell, List.set_cons_zero, List.set_cons_succ] at H); (try clear hr_ hd_ ho_ hz_); have hr_ := H.rules; simp only [Rules, and_true] at hr_; have hd_ := H.dif; simp only [Dif, Neq, and_true] at hd_; obtain ⟨ho_, hz_⟩ := H.old0))
  (try clear hr_ hd_ ho_ hz_)
  have H := H.set (g := bo) (t := 4) (i := 0) (cs := [.bool q]) (v := .bool false) (by (repeat (first | with_reducible exact Upd.head | with_reducible apply Upd.tail)))
  simp only [List.set_cons_zero] at H
  have H := H.only (.drop (Subl.refl _))
  have HH := Lib.hid H
  clear H hta
  cases c₀
  simp_all [bodyPostS, results, Tryz.results66]
  exact HH.out
set_option maxRecDepth 100000 in
set_option maxHeartbeats 1000000 in
theorem open1_idle {bt br bo : Nat} {w : World} :
    CallsD Tryz.prog 66 #[.pointer (some ⟨bt, 0, none⟩), .pointer (some ⟨br, 0, none⟩), .pointer (some ⟨bo, 0, none⟩)] .returning w fun e u' w' =>
      e = .returned (.tuple #[]) ∧ u' = .returning ∧ w' = w := by
  refine callsD_of_wpS Tryz.func66 rfl fun c₀ cs hu => ?_
  simp only [Tryz.ntmps66, List.size_toArray, List.length_cons, List.length_nil, Nat.reduceAdd, Nat.reduceSub, Array.replicate_succ, Array.replicate_zero, List.push_toArray, List.append_toArray, List.nil_append, List.cons_append]
  apply wpS_seq
  apply wpS_region
  simp [wpOpsS, go_sem, recoverD, hu, Exit.thenS]
  refine wpS_of_wp ?_
  go_wp2_with fail
  cases c₀
  simp_all [bodyPostS, results, Tryz.results66]
theorem Hp.res2 {X : Nat → Prop} {w0 w w1 : World} {l : List Ch} (H : Hp X w0 w l) {d1 d2 : D} {cs1 cs2 : List Value} (H2 : Hp no w w1 [.dat d1 cs1, .dat d2 cs2]) : Hp X w0 w1 (.dat d1 cs1 :: .dat d2 cs2 :: l) := by
  have hx := H2.ext
  obtain ⟨LL, h2, hk⟩ := H2.own
  simp only [Chs] at h2
  obtain ⟨K1, _, rfl, hr1, K2, _, rfl, hr2, rfl⟩ := h2
  obtain ⟨L', h', hn'⟩ := H.own
  have r1 : RO w1 w.heap.size d1 cs1 K1 := hr1
  have r2 : RO w1 w.heap.size d2 cs2 K2 := hr2
  refine ⟨(H.call hx).ext, K1 ++ (K2 ++ L'), ?_, ?_⟩
  · unfold Chs
    refine ⟨K1, K2 ++ L', rfl, r1.weaken _ _ _ (fun k hk => Nat.le_trans H.ext.size (RO.lt _ _ _ r1 k hk).1), ?_⟩
    unfold Chs
    exact ⟨K2, L', rfl, r2.weaken _ _ _ (fun k hk => Nat.le_trans H.ext.size (RO.lt _ _ _ r2 k hk).1), h'.frame H.ext.size hx.size (fun k hk _ => hx.block k (Nat.lt_of_lt_of_le hk H.ext.size) no_not) (fun k hk => hx.block k (h'.lt k hk).2 no_not)⟩
  · rw [← List.append_assoc]
    rw [List.append_nil] at hk
    refine List.nodup_append.2 ⟨hk, hn', fun x hx y hy e => ?_⟩
    have h2 := (h'.lt y hy).2
    rcases List.mem_append.1 hx with hx | hx
    · have := (RO.lt _ _ _ r1 x hx).1; omega
    · have := (RO.lt _ _ _ r2 x hx).1; omega
theorem onlyNormal {P : Program} {c : Code} {K : Act → World → Prop} {B : Exit → Act → World → Prop} {a : Act} {w : World} (h : c.wp P (Exit.then K fun _ _ _ => False) a w) : c.wp P (Exit.then K B) a w :=
  Code.wp_mono (fun e a w q => by cases e <;> first | exact q | exact q.elim) h
def PTaken (w : World) (o : Option (List Tm × Tm)) (e : Ending) (w' : World) : Prop :=
  ∃ A c B cb K kb ls r, (ls, r) = o.getD ([], .mk 0 0 0 [] []) ∧ e = .returned (.tuple #[.slice A ls.length c, .agg #[.int .i64 (Tm.k r), .int .i64 r.n, .int .i64 r.a, .slice B r.ls.length cb, .slice K r.ks.length kb], .bool o.isSome]) ∧
    Hp no w w' [.dat (.l 26 5 (ls.map Tm.d)) [.slice A ls.length c], .dat r.d [.int .i64 r.k, .int .i64 r.n, .int .i64 r.a, .slice B r.ls.length cb, .slice K r.ks.length kb]]
set_option maxRecDepth 100000 in
set_option maxHeartbeats 2000000 in
theorem teleOpen {S : Nat → Prop} {t : Tm} {w : World} {v : Value} (hT : Tab w) (h : TV w S t v) (n : Int) (hb : countT t ≤ 1000000000 ∨ n ≤ 1000000000) (hn : inI n) : Calls Tryz.prog 17 #[v, .int .i64 n] w (PTaken w (openN n t)) := by
  obtain ⟨A0, ca, K0, ck, rfl, hrc⟩ := h
  have HRC := Lib.hid hrc
  have HT := Lib.hid hT
  have HBB := Lib.hid hb
  clear hrc hT hb
  have hmf : ∀ (fn : Fn) (first cap : Array Value) (w : World), (Instr.makeFunc fn first cap).run Tryz.prog w = .ok (.func fn first cap) w := fun _ _ _ _ => rfl
  go_enter_defers Tryz.func17, Tryz.ntmps17
  have H := Hp.start no w
  go_wp2_with fail
  refine callsH (by (repeat (first | with_reducible exact H | with_reducible exact H0_ | with_reducible apply Hp.alloc | with_reducible apply Hp.allocMap | with_reducible apply Hp.drew | with_reducible apply Hp.drewN | with_reducible apply Hp.set)); (try any_goals (repeat (first | with_reducible exact Upd.head | with_reducible apply Upd.tail)))) ?_
  clear H; intro w1 H; (try simp only [size_drew_, size_drewN_, World.size_alloc, World.size_setCell, List.set_cons_zero, List.set_cons_succ] at H)
  refine (open_calls (HT.out.ext H.ext) ⟨_, _, _, _, rfl, HRC.out.ext0 H.ext⟩ n HBB.out hn).mono ?_
  cases hq : openN n t with
  | none =>
    rintro e w2 ⟨rfl, hx⟩
    replace H := H.call hx
    clear hx hq
    refine leaves_cons (f := 66) (args := #[.pointer (some ⟨w.heap.size + 1, 0, none⟩), .pointer (some ⟨w.heap.size + 1 + 1, 0, none⟩), .pointer (some ⟨w.heap.size + 1 + 1 + 1, 0, none⟩)]) (by simp) (by simp [go_sem]) ?_
    refine (open1_panicking (v := .slice none 0 0) (q := false) (H.arr (by (repeat (first | with_reducible exact Arr.nil | refine Arr.cons (by (repeat (first | with_reducible exact Pick.head | with_reducible apply Pick.tail))) ?_)) <;> exact Arr.of_subl (by (repeat (first | with_reducible exact Subl.refl _ | with_reducible apply Subl.drop)))))).mono ?_
    rintro e u' w'' ⟨rfl, rfl, H3⟩
    clear H
    have H := H3
    clear H3
    have hr_ := H.rules
    simp only [Rules, and_true] at hr_
    have HH := Lib.hid H
    clear H
    simp [Leaves, settle, results, Tryz.results17, go_sem, hr_]
    have H := (((HH.out.nil 26 5).nil 26 5).nil 47 1).tm (k := 0) (n := 0) (a := 0) (ls := []) (ks := []) .head .head (by unfold inI; omega) (by unfold inI; omega) (by unfold inI; omega)
    refine ⟨none, 0, none, 0, none, 0, [], .mk 0 0 0 [] [], rfl, rfl, ?_⟩
    simp only [Tm.k_mk, Tm.n_mk, Tm.a_mk, Tm.ls_mk, Tm.ks_mk, List.map_nil, List.length_nil]
    exact (H.arr (by (repeat (first | with_reducible exact Arr.nil | refine Arr.cons (by (repeat (first | with_reducible exact Pick.head | with_reducible apply Pick.tail))) ?_)) <;> exact Arr.of_subl (by (repeat (first | with_reducible exact Subl.refl _ | with_reducible apply Subl.drop)))))
  | some p =>
    obtain ⟨ls, r⟩ := p
    rintro e w2 ⟨B1, Bc, C1, Cc, C2, Ck, rfl, H2⟩
    replace H := H.res2 H2
    have HQ := Lib.hid hq
    clear H2 hq
    have hr_ := H.rules; simp only [Rules, and_true] at hr_; have hd_ := H.dif; simp only [Dif, Neq, and_true] at hd_; obtain ⟨ho_, hz_⟩ := H.old0
    go_wp2_with ((with_reducible refine atStore (t := 26) ?_); go_must (refine wpList_storeH (t := 26) rfl rfl (by go_simp <;> first | rfl | exact ⟨rfl, rfl⟩) (by go_simp <;> first | rfl | exact ⟨rfl, rfl⟩) (by exact Hp.norm (by (repeat (first | with_reducible exact H | with_reducible exact H0_ | with_reducible apply Hp.alloc | with_reducible apply Hp.allocMap | with_reducible apply Hp.drew | with_reducible apply Hp.drewN | with_reducible apply Hp.set)); (try any_goals (repeat (first | with_reducible exact Upd.head | with_reducible apply Upd.tail)))) (by ((try simp only [size_drew_, size_drewN_, World.size_alloc, World.size_setCell, List.set_cons_zero, List.set_cons_succ, List.nil_append, List.cons_append]) <;> rfl))) (by (repeat (first | with_reducible exact Upd.head | with_reducible apply Upd.tail))) (by exact aggTerm) (by rfl) (by simp [Value.oneCell']) ?_; clear H; intro w7 H; (try simp only [size_drew_, size_drewN_, World.size_alloc, World.size_setCell, List.set_cons_zero, List.set_cons_succ] at H); (try clear hr_ hd_ ho_ hz_); have hr_ := H.rules; simp only [Rules, and_true] at hr_; have hd_ := H.dif; simp only [Dif, Neq, and_true] at hd_; obtain ⟨ho_, hz_⟩ := H.old0))
    clear hr_ hd_ ho_ hz_
    refine onlyNormal ?_
    refine regionH (by (repeat (first | with_reducible exact H | with_reducible exact H0_ | with_reducible apply Hp.alloc | with_reducible apply Hp.allocMap | with_reducible apply Hp.drew | with_reducible apply Hp.drewN | with_reducible apply Hp.set)); (try any_goals (repeat (first | with_reducible exact Upd.head | with_reducible apply Upd.tail)))) ?_
    clear H; intro w8 H; (try simp only [size_drew_, size_drewN_, World.size_alloc, World.size_setCell, List.set_cons_zero, List.set_cons_succ] at H)
    have hrs_ := H.rules
    refine wp_region_H 5 [false, false, false, false, false] [] H (.cons (i := 3) rfl (.cons (i := 4) rfl .nil)) (by kernel_rfl) rfl rfl (fun H_ hR_ => ?_)
    (try clear H0_); have H0_ := H; clear H; have H := H_; clear H_
    refine wpL_reads (is := [(0, ?v1_0), (1, ?v1_1)]) (by kernel_rfl) (Nat.le_of_ble_eq_true rfl) (by intro _ _ d_ _ _ h_; cases d_ <;> exact h_) (by kernel_rfl) hR_ (fun w_ hw_ => ?h1_) ?_
    case h1_ =>
      have ho_ := hw_.old0.1; have hz_ := hw_.old0.2; have hr_ := hw_.rules; clear hw_; simp only [Rules, and_true] at hr_; go_split_ands
      (repeat (first | with_reducible exact RdOps.nil | (refine RdOps.run rfl (by rfl) ?_ ?_; (focus (first | (go_simp; done) | (go_simp; with_reducible rfl))); simp only [List.getElem_toArray, List.getElem_cons_zero, List.getElem_cons_succ, Act.put, List.setIfInBounds_toArray, List.set_cons_zero, List.set_cons_succ]) | (refine RdOps.skip rfl (by rfl) ?_; simp only [List.getElem_toArray, List.getElem_cons_zero, List.getElem_cons_succ, Act.put, List.setIfInBounds_toArray, List.set_cons_zero, List.set_cons_succ])))
    simp only [rdMark, rdAct, List.map_cons, List.map_nil, List.length_cons, List.length_nil, Nat.reduceAdd, Nat.reduceSub, Nat.zero_add, List.getElem?_toArray, List.getElem?_cons_zero, List.getElem?_cons_succ, Option.bind_some, Act.put, List.setIfInBounds_toArray, List.set_cons_zero, List.set_cons_succ]
    refine wpL_do (i := 2) rfl (by kernel_rfl) (by rfl) (fun K_ hK_ => ?_)
    simp only [Rules, and_true] at hrs_
    go_simp
    clear hrs_
    refine kontH (by (repeat (first | with_reducible exact H | with_reducible exact H0_ | with_reducible apply Hp.alloc | with_reducible apply Hp.allocMap | with_reducible apply Hp.drew | with_reducible apply Hp.drewN | with_reducible apply Hp.set)); (try any_goals (repeat (first | with_reducible exact Upd.head | with_reducible apply Upd.tail)))) ?_
    clear H; intro w9 H; (try simp only [size_drew_, size_drewN_, World.size_alloc, World.size_setCell, List.set_cons_zero, List.set_cons_succ] at H)
    refine hK_ _ _ (fun _ => H.sub (by simp)) (fun hR_ => ?_)
    replace hR_ := hR_ (by decide)
    refine wpL_do (i := 3) rfl (by kernel_rfl) (by rfl) (fun K_ hK_ => ?_)
    refine wp_storeH rfl (by go_simp <;> first | rfl | exact ⟨rfl, rfl⟩) (by go_simp <;> first | rfl | exact ⟨rfl, rfl⟩) H (by (repeat (first | with_reducible exact Upd.head | with_reducible apply Upd.tail))) (by exact aggTerm) (by rfl) (by simp [Value.oneCell']) (fun w10 H_ => ?_)
    clear H; have H := H_; clear H_
    refine hK_ _ _ (fun _ => H.sub (by simp)) (fun hR_ => ?_)
    replace hR_ := hR_ (by decide)
    refine wpL_do (i := 4) rfl (by kernel_rfl) (by rfl) (fun K_ hK_ => ?_)
    have hr_ := H.rules; simp only [Rules, and_true] at hr_; have hd_ := H.dif; simp only [Dif, Neq, and_true] at hd_; obtain ⟨ho_, hz_⟩ := H.old0
    go_simp
    clear hr_ hd_ ho_ hz_
    refine kontH (by (repeat (first | with_reducible exact H | with_reducible exact H0_ | with_reducible apply Hp.alloc | with_reducible apply Hp.allocMap | with_reducible apply Hp.drew | with_reducible apply Hp.drewN | with_reducible apply Hp.set)); (try any_goals (repeat (first | with_reducible exact Upd.head | with_reducible apply Upd.tail)))) ?_
    clear H; intro w11 H; (try simp only [size_drew_, size_drewN_, World.size_alloc, World.size_setCell, List.set_cons_zero, List.set_cons_succ] at H)
    refine hK_ _ _ (fun _ => H.sub (by simp)) (fun _ => ?_)
    refine wpL_done (by kernel_rfl) ?_ _
    go_wp2_with fail
    refine leaves_cons (f := 66) (args := #[.pointer (some ⟨w.heap.size + 1, 0, none⟩), .pointer (some ⟨w.heap.size + 1 + 1, 0, none⟩), .pointer (some ⟨w.heap.size + 1 + 1 + 1, 0, none⟩)]) (by simp) (by simp [go_sem]) ?_
    refine open1_idle.mono ?_
    rintro e u' w'' ⟨rfl, rfl, rfl⟩
    have hr_ := H.rules
    simp only [Rules, and_true] at hr_
    have HH := Lib.hid H
    clear H
    simp [Leaves, settle, results, Tryz.results17, go_sem, hr_]
    have H := HH.out
    rw [HQ.out]
    exact ⟨_, _, _, _, _, _, ls, r, rfl, rfl, (H.arr (by (repeat (first | with_reducible exact Arr.nil | refine Arr.cons (by (repeat (first | with_reducible exact Pick.head | with_reducible apply Pick.tail))) ?_)) <;> exact Arr.of_subl (by (repeat (first | with_reducible exact Subl.refl _ | with_reducible apply Subl.drop)))))⟩
end Go.Proofs.YtmedomglemllnaaGreatDoor
/- tele: spine: its closure, whatever the loop's body keeps: contract. No statement of the seat is proved here. -/
namespace Go.Proofs.YtmedomglemllnaaGreatDoor
set_option linter.unusedSimpArgs false
set_option linter.unusedVariables false
open Go.RowKit
attribute [local go_sem] Oper.semAt_some

theorem spine_calls {X : Nat → Prop} {w0 w : World} {l : List Ch} {g : Nat} (H : Hp X w0 w l) :
    Calls Tryz.prog 64 #[.pointer (some ⟨g, 0, none⟩)] w fun e w' => ∃ g1, e = .returned (.func (.func 139) #[] #[.pointer (some ⟨g1, 0, none⟩)]) ∧ Hp X w0 w' (.box g1 90 [.pointer (some ⟨g, 0, none⟩)] :: l) := by
  have hmf : ∀ (fn : Fn) (first cap : Array Value) (w : World), (Instr.makeFunc fn first cap).run Tryz.prog w = .ok (.func fn first cap) w := fun _ _ _ _ => rfl
  go_enter Tryz.func64, Tryz.ntmps64
  go_wp2_with fail
  go_ret
  exact ⟨_, rfl, H.alloc [.pointer (some ⟨g, 0, none⟩)] _⟩
set_option maxRecDepth 100000 in
set_option maxHeartbeats 4000000 in
theorem spine1 {w0 : World} {S : Nat → Prop} {L g g1 : Nat} (J : Tm → List Ch → Prop)
    (hY : ∀ (u : Tm) (h2 : u.ks.length = 2) (B K : Option Addr) (cb kb : Nat) (C D : Option Addr) (cc kc : Nat) (l : List Ch) (W : World), u.k = 6 → J u l →
      RC w0 S u.ks[0].d [.int .i64 u.ks[0].k, .int .i64 u.ks[0].n, .int .i64 u.ks[0].a, .slice B u.ks[0].ls.length cb, .slice K u.ks[0].ks.length kb] →
      RC w0 S u.ks[1].d [.int .i64 u.ks[1].k, .int .i64 u.ks[1].n, .int .i64 u.ks[1].a, .slice C u.ks[1].ls.length cc, .slice D u.ks[1].ks.length kc] →
      Hp no w0 W (.box g 26 [.int .i64 u.ks[0].k, .int .i64 u.ks[0].n, .int .i64 u.ks[0].a, .slice B u.ks[0].ls.length cb, .slice K u.ks[0].ks.length kb] :: .box g1 90 [.pointer (some ⟨g, 0, none⟩)] :: l) →
      YieldAt Fence.wide 0 Tryz.prog L #[.agg #[.int .i64 u.ks[1].k, .int .i64 u.ks[1].n, .int .i64 u.ks[1].a, .slice C u.ks[1].ls.length cc, .slice D u.ks[1].ks.length kc]] W fun e W' => e = .returned (.bool true) ∧
        ∃ l', J u.ks[0] l' ∧ Hp no w0 W' (.box g 26 [.int .i64 u.ks[0].k, .int .i64 u.ks[0].n, .int .i64 u.ks[0].a, .slice B u.ks[0].ls.length cb, .slice K u.ks[0].ks.length kb] :: .box g1 90 [.pointer (some ⟨g, 0, none⟩)] :: l'))
    {t : Tm} {B K : Option Addr} {cb kb : Nat} {l : List Ch} {W : World} (h0 : J t l) (hrc : RC w0 S t.d [.int .i64 t.k, .int .i64 t.n, .int .i64 t.a, .slice B t.ls.length cb, .slice K t.ks.length kb])
    (H : Hp no w0 W (.box g 26 [.int .i64 t.k, .int .i64 t.n, .int .i64 t.a, .slice B t.ls.length cb, .slice K t.ks.length kb] :: .box g1 90 [.pointer (some ⟨g, 0, none⟩)] :: l)) :
    CallsIn Fence.wide 0 Tryz.prog 139 #[.func (.yield L) #[] #[], .pointer (some ⟨g1, 0, none⟩)] W fun e W' => (∃ v, e = .returned v) ∧
      ∃ (u : Tm) (B K : Option Addr) (cb kb : Nat) (l' : List Ch), ¬ (u.k = 6 ∧ u.ks.length = 2) ∧ J u l' ∧ RC w0 S u.d [.int .i64 u.k, .int .i64 u.n, .int .i64 u.a, .slice B u.ls.length cb, .slice K u.ks.length kb] ∧
        Hp no w0 W' (.box g 26 [.int .i64 u.k, .int .i64 u.n, .int .i64 u.a, .slice B u.ls.length cb, .slice K u.ks.length kb] :: .box g1 90 [.pointer (some ⟨g, 0, none⟩)] :: l') := by
  have HRC := Lib.hid hrc
  have HJ := Lib.hid h0
  have HY := Lib.hid hY
  clear hrc h0 hY
  refine callsIn_of_wp Tryz.func139 rfl trivial ?_
  simp only [Tryz.ntmps139, List.size_toArray, List.length_cons, List.length_nil, Nat.reduceAdd, Nat.reduceSub, Array.replicate_succ, Array.replicate_zero, List.push_toArray, List.append_toArray, List.nil_append, List.cons_append]
  gi_wp2
  gi_loopw [] (fun wr => ∃ (u : Tm) (B K : Option Addr) (cb kb : Nat) (l' : List Ch), Hid (J u l') ∧ RC w0 S u.d [.int .i64 u.k, .int .i64 u.n, .int .i64 u.a, .slice B u.ls.length cb, .slice K u.ks.length kb] ∧ Hp no w0 wr (.box g 26 [.int .i64 u.k, .int .i64 u.n, .int .i64 u.a, .slice B u.ls.length cb, .slice K u.ks.length kb] :: .box g1 90 [.pointer (some ⟨g, 0, none⟩)] :: l')) (fun wr => deepAt w0 S g wr)
  case atStart => exact ⟨t, _, _, _, _, l, HJ, HRC.out, H⟩
  case round =>
    clear H HJ HRC
    obtain ⟨u, B, K, cb, kb, l', HJ, hrc, H⟩ := hrel
    have HR := Lib.hid hrc
    have HDP := Lib.hid (deepAt_hp (g := g) H (by (repeat (first | with_reducible exact Pick.head | with_reducible apply Pick.tail))) hrc)
    clear hrc
    by_cases h62 : u.k = 6 ∧ u.ks.length = 2
    · obtain ⟨h6, h2⟩ := h62
      obtain ⟨_, _, _, _, he, _, _, _, _, hks⟩ := RC.tm.1 HR.out
      simp only [List.cons.injEq, Value.slice.injEq, and_true, true_and] at he
      obtain ⟨⟨rfl, rfl⟩, rfl, rfl⟩ := he
      obtain ⟨b, o, A1, ca1, K1, ck1, rfl, hb, hS, hd, p0, p1, p2, p3, p4⟩ := hks.atTm (k := 0) (by omega)
      obtain ⟨b', o', A2, ca2, K2, ck2, he2, hb2, hS2, hd2, q0, q1, q2, q3, q4⟩ := hks.atTm (k := 1) (by omega)
      simp only [Option.some.injEq, Addr.mk.injEq, and_true] at he2
      obtain ⟨rfl, rfl⟩ := he2
      have HD := Lib.hid hd
      have HD2 := Lib.hid hd2
      have HK := Lib.hid (depthT_kid (t := u) (i := 0) (by omega))
      have H6 := Lib.hid h6
      have H2 := Lib.hid h2
      clear hd hd2 hks hb2 hS2
      simp only [Nat.zero_mul, Nat.add_zero, Nat.one_mul] at p0 p1 p2 p3 p4 q0 q1 q2 q3 q4
      have hr_ := H.rules; simp only [Rules, and_true] at hr_; have hd_ := H.dif; simp only [Dif, Neq, and_true] at hd_; obtain ⟨ho_, hz_⟩ := H.old0
      gi_wp2
      clear hr_ hd_ ho_ hz_
      refine wpIn_wide.2 ?_
      refine onlyNormal ?_
      refine regionH (by (repeat (first | with_reducible exact H | with_reducible exact H0_ | with_reducible apply Hp.alloc | with_reducible apply Hp.allocMap | with_reducible apply Hp.drew | with_reducible apply Hp.drewN | with_reducible apply Hp.set)); (try any_goals (repeat (first | with_reducible exact Upd.head | with_reducible apply Upd.tail)))) ?_
      clear H; intro w1 H; (try simp only [size_drew_, size_drewN_, World.size_alloc, World.size_setCell, List.set_cons_zero, List.set_cons_succ] at H)
      refine wp_region_H 9 [false, false, false, false, false, false, false, false, false] [8] H (.cons (i := 1) rfl (.cons (i := 2) rfl .nil)) (by kernel_rfl) rfl rfl (fun H_ hR_ => ?_)
      (try clear H0_); have H0_ := H; clear H; have H := H_; clear H_
      refine wpL_reads (is := [(0, ?v1_0), (1, ?v1_1), (2, ?v1_2), (3, ?v1_3), (4, ?v1_4), (5, ?v1_5), (6, ?v1_6), (7, ?v1_7)]) (by kernel_rfl) (Nat.le_of_ble_eq_true rfl) (by intro _ _ d_ _ _ h_; cases d_ <;> exact h_) (by kernel_rfl) hR_ (fun w_ hw_ => ?h1_) ?_
      case h1_ =>
        have ho_ := hw_.old0.1; have hz_ := hw_.old0.2; have hr_ := hw_.rules; clear hw_; simp only [Rules, and_true] at hr_; go_split_ands
        (repeat (first | with_reducible exact RdOps.nil | (refine RdOps.run rfl (by rfl) ?_ ?_; (focus (first | (go_simp; done) | (go_simp; with_reducible rfl))); simp only [List.getElem_toArray, List.getElem_cons_zero, List.getElem_cons_succ, Act.put, List.setIfInBounds_toArray, List.set_cons_zero, List.set_cons_succ]) | (refine RdOps.skip rfl (by rfl) ?_; simp only [List.getElem_toArray, List.getElem_cons_zero, List.getElem_cons_succ, Act.put, List.setIfInBounds_toArray, List.set_cons_zero, List.set_cons_succ])))
      simp only [rdMark, rdAct, List.map_cons, List.map_nil, List.length_cons, List.length_nil, Nat.reduceAdd, Nat.reduceSub, Nat.zero_add, List.getElem?_toArray, List.getElem?_cons_zero, List.getElem?_cons_succ, Option.bind_some, Act.put, List.setIfInBounds_toArray, List.set_cons_zero, List.set_cons_succ]
      refine wpL_do (i := 8) rfl (by kernel_rfl) (by rfl) (fun K_ hK_ => ?_)
      refine wp_storeH rfl (by go_simp <;> first | rfl | exact ⟨rfl, rfl⟩) (by go_simp <;> first | rfl | exact ⟨rfl, rfl⟩) H (by (repeat (first | with_reducible exact Upd.head | with_reducible apply Upd.tail))) (by exact aggTerm) (by rfl) (by simp [Value.oneCell']) (fun w2 H_ => ?_)
      clear H; have H := H_; clear H_
      refine hK_ _ _ (fun h => absurd (by decide) h) (fun _ => ?_)
      refine wpL_done (by kernel_rfl) ?_ _
      have hy := HY.out u (by omega) A1 K1 ca1 ck1 A2 K2 ca2 ck2 l' w2 H6.out HJ.out HD.out HD2.out (H.only (.drop (Subl.refl _)))
      obtain ⟨fn, tmps, assign, body, hy, hR⟩ := hy
      have hr_ := H.rules; simp only [Rules, and_true] at hr_; have hd_ := H.dif; simp only [Dif, Neq, and_true] at hd_; obtain ⟨ho_, hz_⟩ := H.old0
      gi_wp2
      clear hr_ hd_ ho_ hz_
      refine ⟨rfl, hR.mono ?_⟩
      rintro e W3 ⟨rfl, l3, hJ3, H3⟩
      clear hy hR H
      have HJ3 := Lib.hid hJ3
      clear hJ3
      gi_wp2
      go_roundw
      case rel =>
        exact ⟨u.ks[0], _, _, _, _, l3, HJ3, HD.out, H3⟩
      case measure =>
        have e := deepAt_hp (g := g) H3 (by (repeat (first | with_reducible exact Pick.head | with_reducible apply Pick.tail))) HD.out
        rw [e, HDP.out]
        exact HK.out
    · have HN := Lib.hid h62
      by_cases h6 : u.k = 6
      · have h2 : ¬ u.ks.length = 2 := fun e => h62 ⟨h6, e⟩
        clear h62
        have hr_ := H.rules; simp only [Rules, and_true] at hr_; have hd_ := H.dif; simp only [Dif, Neq, and_true] at hd_; obtain ⟨ho_, hz_⟩ := H.old0
        gi_wp2
        clear hr_ hd_ ho_ hz_
        go_end0
        exact ⟨⟨_, rfl⟩, u, _, _, _, _, l', HN.out, HJ.out, HR.out, H⟩
      · clear h62
        have hr_ := H.rules; simp only [Rules, and_true] at hr_; have hd_ := H.dif; simp only [Dif, Neq, and_true] at hd_; obtain ⟨ho_, hz_⟩ := H.old0
        gi_wp2
        clear hr_ hd_ ho_ hz_
        go_end0
        exact ⟨⟨_, rfl⟩, u, _, _, _, _, l', HN.out, HJ.out, HR.out, H⟩
end Go.Proofs.YtmedomglemllnaaGreatDoor
