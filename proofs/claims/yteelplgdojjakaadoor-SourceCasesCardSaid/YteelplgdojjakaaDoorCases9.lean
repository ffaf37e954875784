/- SourceCases: its beginning; the whole law. No statement of the seat is proved here. -/
import Derived.Test.YteelplgdojjakaaDoorMgCases8
namespace Go.Proofs.YteelplgdojjakaaDoor
set_option linter.unusedSimpArgs false
set_option linter.unusedVariables false
open Go.RowKit

set_option maxRecDepth 100000 in
set_option maxHeartbeats 2000000 in
theorem term0O_calls {w : World} : Calls Tryd.prog 35 #[.int .i64 8, .int .i64 0, .int .i64 0, .int .i64 0] w (PTm w (.mk 8 0 0 [] [])) := by
  have hmk := fun w => makeLv 0 (by omega) w
  simp only [show ((0 : Nat) : Int) = 0 from rfl, List.replicate_zero, List.flatten_nil] at hmk
  go_enter Tryd.func35, Tryd.ntmps35
  have H := Hp.start no w
  go_wp2_with ((with_reducible refine atStore (t := 30) ?_); go_must (refine wpList_storeH (t := 30) rfl rfl (by go_simp <;> first | rfl | exact ⟨rfl, rfl⟩) (by go_simp <;> first | rfl | exact ⟨rfl, rfl⟩) (by exact Hp.norm (by (repeat (first | with_reducible exact H | with_reducible exact H0_ | with_reducible apply Hp.alloc | with_reducible apply Hp.allocMap | with_reducible apply Hp.drew | with_reducible apply Hp.drewN | with_reducible apply Hp.set)); (try any_goals (repeat (first | with_reducible exact Upd.head | with_reducible apply Upd.tail)))) (by ((try simp only [size_drew_, size_drewN_, World.size_alloc, World.size_setCell, List.set_cons_zero, List.set_cons_succ, List.nil_append, List.cons_append]) <;> rfl))) (by (repeat (first | with_reducible exact Upd.head | with_reducible apply Upd.tail))) (by exact aggTerm) (by rfl) (by simp [Value.oneCell']) ?_; clear H; intro w7 H; (try simp only [size_drew_, size_drewN_, World.size_alloc, World.size_setCell, List.set_cons_zero, List.set_cons_succ] at H); (try clear hr_ hd_ ho_ hz_); have hr_ := H.rules; simp only [Rules, and_true] at hr_; have hd_ := H.dif; simp only [Dif, Neq, and_true] at hd_; obtain ⟨ho_, hz_⟩ := H.old0))
  (try clear hr_ hd_ ho_ hz_)
  have H1 := (H.noS.nil 30 5)
  have H2 := H1.boxrow (g := w.heap.size + 1) (e := 38) (z := 1) (n := 0) (ds := []) (cs := []) (.tail (.tail .head)) (.tail .head) rfl (by simp) (by unfold M; omega)
  have H3 := H2.tm (k := 8) (n := 0) (a := 0) (ls := []) (ks := []) .head .head (by unfold inI; omega) inI0 inI0
  exact bodyPost_ret (v := .agg #[.int .i64 8, .int .i64 0, .int .i64 0, .slice (some ⟨w.heap.size + 1, 0, none⟩) 0 0, .slice none 0 0]) (Res.one Tryd.results35 (H.resBox (by (repeat (first | with_reducible exact Pick.head | with_reducible apply Pick.tail))) aggTerm rfl rfl)) rfl (H3.ptmk .head rfl rfl)
def dcZ (k n : Int) : Dc := ⟨k, n, tmZ, tmZ, [], [], [], []⟩
theorem dcZ_rc {w : World} {S : Nat → Prop} {k n : Int} (hk : inI k) (hn : inI n) : RC w S (dcZ k n).d [.int .i64 k, .int .i64 n, .int .i64 0, .int .i64 0, .int .i64 0, .slice none 0 0, .slice none 0 0, .int .i64 0, .int .i64 0, .int .i64 0, .slice none 0 0, .slice none 0 0, .slice none 0 0, .slice none 0 0, .slice none 0 0, .slice none 0 0] :=
  RC.dc.2 ⟨none, 0, none, 0, none, 0, none, 0, none, 0, none, 0, none, 0, none, 0, rfl, hk, hn, tmZ_rc inI0, tmZ_rc inI0, RC.nil, RC.nil, RC.nil, RC.nil⟩
theorem RCs.consX {w : World} {S : Nat → Prop} {a : D} {b : List D} {c1 c2 : List Value} (h : RC w S a c1) (k : RCs w S b c2) : RCs w S (a :: b) (c1 ++ c2) := by
  unfold RCs
  exact ⟨c1, c2, rfl, h, k⟩
def dcTwo : Dc := ⟨3, 2, tmZ, tmZ, [], [], [⟨[]⟩, ⟨[.mk 8 0 0 [] []]⟩], [⟨0, tmS 0⟩, ⟨0, piT⟩]⟩
set_option maxRecDepth 100000 in
set_option maxHeartbeats 8000000 in
theorem sourceCases_calls {w : World} (hT : Tab w) : Calls Tryd.prog 6 #[] w (PV w (.bool true)) := by
  have HT := Lib.hid hT
  clear hT
  go_enter Tryd.func6, Tryd.ntmps6
  go_wp2_with fail
  refine natP_calls.mono ?_
  rintro e w1 ⟨g1, g2, g3, rfl, H⟩
  dsimp only
  have hr_ := H.rules; simp only [Rules, and_true] at hr_; have hd_ := H.dif; simp only [Dif, Neq, and_true] at hd_; obtain ⟨ho_, hz_⟩ := H.old0
  repeat ((fail_if_success (with_reducible (first | show Code.wp _ (Code.seq (Code.region 2 _ _) _) _ _ _ | show Code.wp _ (Code.region 2 _ _) _ _ _))); (first | ((with_reducible refine atStore (t := 42) ?_); go_must (refine wpList_storeH (t := 42) rfl rfl (by go_simp <;> first | rfl | exact ⟨rfl, rfl⟩) (by go_simp <;> first | rfl | exact ⟨rfl, rfl⟩) (by exact Hp.norm (by (repeat (first | with_reducible exact H | with_reducible exact H0_ | with_reducible apply Hp.alloc | with_reducible apply Hp.allocMap | with_reducible apply Hp.drew | with_reducible apply Hp.drewN | with_reducible apply Hp.set)); (try any_goals (repeat (first | with_reducible exact Upd.head | with_reducible apply Upd.tail)))) (by ((try simp only [size_drew_, size_drewN_, World.size_alloc, World.size_setCell, List.set_cons_zero, List.set_cons_succ, List.nil_append, List.cons_append]) <;> rfl))) (by (repeat (first | with_reducible exact Upd.head | with_reducible apply Upd.tail))) (by exact aggDecl) (by rfl) (by simp [Value.oneCell']) ?_; clear H; intro w3 H; (try simp only [size_drew_, size_drewN_, World.size_alloc, World.size_setCell, List.set_cons_zero, List.set_cons_succ] at H); (try clear hr_ hd_ ho_ hz_); have hr_ := H.rules; simp only [Rules, and_true] at hr_; have hd_ := H.dif; simp only [Dif, Neq, and_true] at hd_; obtain ⟨ho_, hz_⟩ := H.old0)) | go_step))
  (try clear hr_ hd_ ho_ hz_)
  have hr_ := H.rules; simp only [Rules, and_true] at hr_; have hd_ := H.dif; simp only [Dif, Neq, and_true] at hd_; obtain ⟨ho_, hz_⟩ := H.old0
  repeat ((fail_if_success (with_reducible (show Code.wp _ (Code.region 3 _ _) _ _ _))); go_step)
  (try clear hr_ hd_ ho_ hz_)
  refine regionH (by (repeat (first | with_reducible exact H | with_reducible exact H0_ | with_reducible apply Hp.alloc | with_reducible apply Hp.allocMap | with_reducible apply Hp.drew | with_reducible apply Hp.drewN | with_reducible apply Hp.set)); (try any_goals (repeat (first | with_reducible exact Upd.head | with_reducible apply Upd.tail)))) ?_
  clear H; intro w4 H; (try simp only [size_drew_, size_drewN_, World.size_alloc, World.size_setCell, List.set_cons_zero, List.set_cons_succ] at H)
  have H2 := (((H.nil 30 5).one).one).boxrow (g := g1) (e := 64) (z := 1) (n := 1) (ds := [Mb.d ⟨[]⟩]) (cs := [.slice none 0 0]) (.tail (by (repeat (first | with_reducible exact Pick.head | with_reducible apply Pick.tail)))) .head rfl (by simp [Mb.size_d]) (by unfold M; omega)
  clear H
  have H := H2
  clear H2
  refine wp_region_H 9 [false, false, false, false, false, false, false, false, false] [8] H (.cons (i := 1) rfl .nil) (by kernel_rfl) rfl rfl (fun H_ hR_ => ?_)
  (try clear H0_); have H0_ := H; clear H; have H := H_; clear H_
  refine wpL_reads (is := [(0, ?v1_0), (1, ?v1_1)]) (by kernel_rfl) (Nat.le_of_ble_eq_true rfl) (by intro _ _ d_ _ _ h_; cases d_ <;> exact h_) (by kernel_rfl) hR_ (fun w_ hw_ => ?h1_) ?_
  case h1_ =>
    have ho_ := hw_.old0.1; have hz_ := hw_.old0.2; have hr_ := hw_.rules; clear hw_; simp only [Rules, and_true] at hr_; go_split_ands
    (repeat (first | with_reducible exact RdOps.nil | (refine RdOps.run rfl (by rfl) ?_ ?_; (focus (first | (go_simp; done) | (go_simp; with_reducible rfl))); simp only [List.getElem_toArray, List.getElem_cons_zero, List.getElem_cons_succ, Act.put, List.setIfInBounds_toArray, List.set_cons_zero, List.set_cons_succ]) | (refine RdOps.skip rfl (by rfl) ?_ ?_; (focus (with_reducible rfl)); simp only [List.getElem_toArray, List.getElem_cons_zero, List.getElem_cons_succ, Act.put, List.setIfInBounds_toArray, List.set_cons_zero, List.set_cons_succ])))
  simp only [rdMark, rdAct, List.map_cons, List.map_nil, List.length_cons, List.length_nil, Nat.reduceAdd, Nat.reduceSub, Nat.zero_add, List.getElem?_toArray, List.getElem?_cons_zero, List.getElem?_cons_succ, Option.bind_some, Act.put, List.setIfInBounds_toArray, List.set_cons_zero, List.set_cons_succ]
  refine wpL_do (i := 2) rfl (by kernel_rfl) (by rfl) (fun K_ hK_ => ?_)
  go_simp
  refine term0O_calls.mono ?_
  rintro e w_ ⟨v, rfl, hto, hx⟩
  obtain ⟨E1, Ec, E2, Ek, rfl, H_⟩ := H.resTm hx hto
  clear H hx hto
  have H := H_
  clear H_
  refine hK_ _ _ (fun _ => H.sub (by simp)) (fun hR_ => ?_)
  replace hR_ := hR_ (by decide)
  refine wpL_do (i := 3) rfl (by kernel_rfl) (by rfl) (fun K_ hK_ => ?_)
  go_simp
  refine kontH (by (repeat (first | with_reducible exact H | with_reducible exact H0_ | with_reducible apply Hp.alloc | with_reducible apply Hp.allocMap | with_reducible apply Hp.drew | with_reducible apply Hp.drewN | with_reducible apply Hp.set)); (try any_goals (repeat (first | with_reducible exact Upd.head | with_reducible apply Upd.tail)))) ?_
  clear H; intro wb H; (try simp only [size_drew_, size_drewN_, World.size_alloc, World.size_setCell, List.set_cons_zero, List.set_cons_succ] at H)
  have H2 := (H.one1 (d := (Tm.mk 8 0 0 [] []).d) (by (repeat (first | with_reducible exact Pick.head | with_reducible apply Pick.tail)))).boxrow (g := w_.heap.size) (e := 30) (z := 5) (n := 1) (.tail (by (repeat (first | with_reducible exact Pick.head | with_reducible apply Pick.tail)))) .head rfl (by simp [Tm.size_d]) (by unfold M; omega)
  clear H
  have H := H2.one
  clear H2
  refine hK_ _ _ (fun _ => H.sub (by simp)) (fun hR_ => ?_)
  replace hR_ := hR_ (by decide)
  refine wpL_reads (is := [(4, ?v2_0)]) (by kernel_rfl) (Nat.le_of_ble_eq_true rfl) (by intro _ _ d_ _ _ h_; cases d_ <;> exact h_) (by kernel_rfl) hR_ (fun w_ hw_ => ?h2_) ?_
  case h2_ =>
    have ho_ := hw_.old0.1; have hz_ := hw_.old0.2; have hr_ := hw_.rules; clear hw_; simp only [Rules, and_true] at hr_; go_split_ands
    (repeat (first | with_reducible exact RdOps.nil | (refine RdOps.run rfl (by rfl) ?_ ?_; (focus (first | (go_simp; done) | (go_simp; with_reducible rfl))); simp only [List.getElem_toArray, List.getElem_cons_zero, List.getElem_cons_succ, Act.put, List.setIfInBounds_toArray, List.set_cons_zero, List.set_cons_succ]) | (refine RdOps.skip rfl (by rfl) ?_ ?_; (focus (with_reducible rfl)); simp only [List.getElem_toArray, List.getElem_cons_zero, List.getElem_cons_succ, Act.put, List.setIfInBounds_toArray, List.set_cons_zero, List.set_cons_succ])))
  simp only [rdMark, rdAct, List.map_cons, List.map_nil, List.length_cons, List.length_nil, Nat.reduceAdd, Nat.reduceSub, Nat.zero_add, List.getElem?_toArray, List.getElem?_cons_zero, List.getElem?_cons_succ, Option.bind_some, Act.put, List.setIfInBounds_toArray, List.set_cons_zero, List.set_cons_succ]
  refine wpL_do (i := 5) rfl (by kernel_rfl) (by rfl) (fun K_ hK_ => ?_)
  go_simp
  refine kontH (by (repeat (first | with_reducible exact H | with_reducible exact H0_ | with_reducible apply Hp.alloc | with_reducible apply Hp.allocMap | with_reducible apply Hp.drew | with_reducible apply Hp.drewN | with_reducible apply Hp.set)); (try any_goals (repeat (first | with_reducible exact Upd.head | with_reducible apply Upd.tail)))) ?_
  clear H; intro wc H; (try simp only [size_drew_, size_drewN_, World.size_alloc, World.size_setCell, List.set_cons_zero, List.set_cons_succ] at H)
  rw [show D.s [D.l 30 5 [(Tm.mk 8 0 0 [] []).d]] = Mb.d ⟨[.mk 8 0 0 [] []]⟩ from rfl] at H
  refine hK_ _ _ (fun _ => H.sub (by simp)) (fun hR_ => ?_)
  replace hR_ := hR_ (by decide)
  refine wpL_do (i := 6) rfl (by kernel_rfl) (by rfl) (fun K_ hK_ => ?_)
  refine wp_pushH (.tmp 21) (.tmp 25) 39 rfl stMbs (by go_simp <;> first | rfl | exact ⟨rfl, rfl⟩) (by go_simp <;> first | rfl | exact ⟨rfl, rfl⟩) H (by (repeat (first | with_reducible exact Pick.head | with_reducible apply Pick.tail))) (by (repeat (first | with_reducible exact Pick.head | with_reducible apply Pick.tail))) (by (repeat (first | with_reducible exact Pick.head | with_reducible apply Pick.tail))) (Mb.size_d _) ?_ ?_
  focus (simp [M])
  clear H; intro v' w6 H
  obtain ⟨A5, c6, rfl, _, _, _⟩ := H.slice (e := 64) (z := 1) (v := v') (by (repeat (first | with_reducible exact Pick.head | with_reducible apply Pick.tail)))
  rw [show ([Mb.d ⟨[]⟩] ++ [Mb.d ⟨[.mk 8 0 0 [] []]⟩]).length = 2 from rfl] at H ⊢
  refine hK_ _ _ (fun _ => H.sub (by simp)) (fun hR_ => ?_)
  replace hR_ := hR_ (by decide)
  simp only [List.getElem_toArray, List.getElem_cons_zero, List.getElem_cons_succ, Act.put, List.setIfInBounds_toArray, List.set_cons_zero, List.set_cons_succ]
  refine wpL_takeF (i := 7) (v := .pointer (some ⟨w1.heap.size, 14, none⟩)) rfl (by kernel_rfl) (fun _ _ _ h => h) (by rfl) (fun w_ => by go_simp) ?_
  simp only [List.getElem_toArray, List.getElem_cons_zero, List.getElem_cons_succ, Act.put, List.setIfInBounds_toArray, List.set_cons_zero, List.set_cons_succ]
  refine wpL_do (i := 8) rfl (by kernel_rfl) (by rfl) (fun K_ hK_ => ?_)
  have hrs_ := H.rules
  simp only [Rules, and_true] at hrs_
  go_simp
  clear hrs_
  refine kontH (by (repeat (first | with_reducible exact H | with_reducible exact H0_ | with_reducible apply Hp.alloc | with_reducible apply Hp.allocMap | with_reducible apply Hp.drew | with_reducible apply Hp.drewN | with_reducible apply Hp.set)); (try any_goals (repeat (first | with_reducible exact Upd.head | with_reducible apply Upd.tail)))) ?_
  clear H; intro w7 H; (try simp only [size_drew_, size_drewN_, World.size_alloc, World.size_setCell, List.set_cons_zero, List.set_cons_succ] at H)
  refine hK_ _ _ (fun h => absurd (by decide) h) (fun _ => ?_)
  refine wpL_done (by kernel_rfl) ?_ _
  go_wp2_with fail
  refine regionH (by (repeat (first | with_reducible exact H | with_reducible exact H0_ | with_reducible apply Hp.alloc | with_reducible apply Hp.allocMap | with_reducible apply Hp.drew | with_reducible apply Hp.drewN | with_reducible apply Hp.set)); (try any_goals (repeat (first | with_reducible exact Upd.head | with_reducible apply Upd.tail)))) ?_
  clear H; intro w8 H; (try simp only [size_drew_, size_drewN_, World.size_alloc, World.size_setCell, List.set_cons_zero, List.set_cons_succ] at H)
  refine wp_region_H 7 [false, false, false, false, false, false, false] [] H (.cons (i := 1) rfl .nil) (by kernel_rfl) rfl rfl (fun H_ hR_ => ?_)
  (try clear H0_); have H0_ := H; clear H; have H := H_; clear H_
  refine wpL_reads (is := [(1, ?v3_0), (2, ?v3_1), (3, ?v3_2), (4, ?v3_3)]) (by kernel_rfl) (Nat.le_of_ble_eq_true rfl) (by intro _ _ d_ _ _ h_; cases d_ <;> exact h_) (by kernel_rfl) hR_ (fun w_ hw_ => ?h3_) ?_
  case h3_ =>
    have ho_ := hw_.old0.1; have hz_ := hw_.old0.2; have hr_ := hw_.rules; clear hw_; simp only [Rules, and_true] at hr_; go_split_ands
    (repeat (first | with_reducible exact RdOps.nil | (refine RdOps.run rfl (by rfl) ?_ ?_; (focus (first | (go_simp; done) | (go_simp; with_reducible rfl))); simp only [List.getElem_toArray, List.getElem_cons_zero, List.getElem_cons_succ, Act.put, List.setIfInBounds_toArray, List.set_cons_zero, List.set_cons_succ]) | (refine RdOps.skip rfl (by rfl) ?_ ?_; (focus (with_reducible rfl)); simp only [List.getElem_toArray, List.getElem_cons_zero, List.getElem_cons_succ, Act.put, List.setIfInBounds_toArray, List.set_cons_zero, List.set_cons_succ])))
  simp only [rdMark, rdAct, List.map_cons, List.map_nil, List.length_cons, List.length_nil, Nat.reduceAdd, Nat.reduceSub, Nat.zero_add, List.getElem?_toArray, List.getElem?_cons_zero, List.getElem?_cons_succ, Option.bind_some, Act.put, List.setIfInBounds_toArray, List.set_cons_zero, List.set_cons_succ]
  refine wpL_do (i := 0) rfl (by kernel_rfl) (by rfl) (fun K_ hK_ => ?_)
  go_simp
  refine nat11_calls.mono ?_
  rintro e w9 ⟨cs9, rfl, hk9, hx9⟩
  obtain ⟨Aty, cty, Kty, kty, Abody, cbody, Kbody, kbody, Aparams, cparams, Asort, csort, Amembers, cmembers, Actors, cctors, rfl, -⟩ := RC.dc.1 hk9
  obtain ⟨K9, H2⟩ := H.resR hx9 hk9
  clear H hx9 hk9
  have H := H2
  clear H2
  refine hK_ _ _ (fun _ => H.sub (by simp)) (fun hR_ => ?_)
  replace hR_ := hR_ (by decide)
  refine wpL_do (i := 5) rfl (by kernel_rfl) (by rfl) (fun K_ hK_ => ?_)
  go_simp
  refine kontH (by (repeat (first | with_reducible exact H | with_reducible exact H0_ | with_reducible apply Hp.alloc | with_reducible apply Hp.allocMap | with_reducible apply Hp.drew | with_reducible apply Hp.drewN | with_reducible apply Hp.set)); (try any_goals (repeat (first | with_reducible exact Upd.head | with_reducible apply Upd.tail)))) ?_
  clear H; intro w10 H; (try simp only [size_drew_, size_drewN_, World.size_alloc, World.size_setCell, List.set_cons_zero, List.set_cons_succ] at H)
  refine hK_ _ _ (fun _ => H.sub (by simp)) (fun hR_ => ?_)
  replace hR_ := hR_ (by decide)
  refine wpL_reads (is := [(6, ?v4_0)]) (by kernel_rfl) (Nat.le_of_ble_eq_true rfl) (by intro _ _ d_ _ _ h_; cases d_ <;> exact h_) (by kernel_rfl) hR_ (fun w_ hw_ => ?h4_) ?_
  case h4_ =>
    have ho_ := hw_.old0.1; have hz_ := hw_.old0.2; have hr_ := hw_.rules; clear hw_; simp only [Rules, and_true] at hr_; go_split_ands
    (repeat (first | with_reducible exact RdOps.nil | (refine RdOps.run rfl (by rfl) ?_ ?_; (focus (first | (go_simp; done) | (go_simp; with_reducible rfl))); simp only [List.getElem_toArray, List.getElem_cons_zero, List.getElem_cons_succ, Act.put, List.setIfInBounds_toArray, List.set_cons_zero, List.set_cons_succ]) | (refine RdOps.skip rfl (by rfl) ?_ ?_; (focus (with_reducible rfl)); simp only [List.getElem_toArray, List.getElem_cons_zero, List.getElem_cons_succ, Act.put, List.setIfInBounds_toArray, List.set_cons_zero, List.set_cons_succ])))
  simp only [rdMark, rdAct, List.map_cons, List.map_nil, List.length_cons, List.length_nil, Nat.reduceAdd, Nat.reduceSub, Nat.zero_add, List.getElem?_toArray, List.getElem?_cons_zero, List.getElem?_cons_succ, Option.bind_some, Act.put, List.setIfInBounds_toArray, List.set_cons_zero, List.set_cons_succ]
  refine wpL_done (by kernel_rfl) ?_ _
  have hp := H.gh (p := fun w' => RC w' (fun k => w.heap.size ≤ k) natDc.d [.int .i64 natDc.kind, .int .i64 natDc.levels, .int .i64 natDc.ty.k, .int .i64 natDc.ty.n, .int .i64 natDc.ty.a, .slice Aty natDc.ty.ls.length cty, .slice Kty natDc.ty.ks.length kty, .int .i64 natDc.body.k, .int .i64 natDc.body.n, .int .i64 natDc.body.a, .slice Abody natDc.body.ls.length cbody, .slice Kbody natDc.body.ks.length kbody, .slice Aparams natDc.params.length cparams, .slice Asort natDc.sort.length csort, .slice Amembers natDc.members.length cmembers, .slice Actors natDc.ctors.length cctors]) (by (repeat (first | with_reducible exact Pick.head | with_reducible apply Pick.tail)))
  have hm := H.rd (d := .l 64 1 ([Mb.d ⟨[]⟩] ++ [Mb.d ⟨[.mk 8 0 0 [] []]⟩])) (cs := [.slice A5 2 c6]) (by (repeat (first | with_reducible exact Pick.head | with_reducible apply Pick.tail)))
  have kTwo : RC w10 (fun _ => True) dcTwo.d [.int .i64 3, .int .i64 2, .int .i64 0, .int .i64 0, .int .i64 0, .slice none 0 0, .slice none 0 0, .int .i64 0, .int .i64 0, .int .i64 0, .slice none 0 0, .slice none 0 0, .slice none 0 0, .slice none 0 0, .slice A5 2 c6, .slice (some ⟨g2, 0, none⟩) 2 2] := RC.dc.2 ⟨none, 0, none, 0, none, 0, none, 0, none, 0, none, 0, A5, c6, some ⟨g2, 0, none⟩, 2, rfl, by show inI 3; unfold inI; omega, by show inI 2; unfold inI; omega, tmZ_rc inI0, tmZ_rc inI0, RC.nil, RC.nil, tru hm, natCt (g3 := g3) (H.blk (g := g2) (by (repeat (first | with_reducible exact Pick.head | with_reducible apply Pick.tail)))) (H.blk (g := g3) (by (repeat (first | with_reducible exact Pick.head | with_reducible apply Pick.tail)))) inI0 inI0 (by unfold inI; omega)⟩
  have kall : RCs w10 (fun _ => True) ([natDc, dcZ 1 1, dcZ 2 0, dcTwo, dcZ 0 0].map Dc.d) _ := RCs.consX (tru hp) (RCs.consX (dcZ_rc (by unfold inI; omega) (by unfold inI; omega)) (RCs.consX (dcZ_rc (by unfold inI; omega) inI0) (RCs.consX kTwo (RCs.single (dcZ_rc inI0 inI0)))))
  have hb := H.blk (g := w9.heap.size) (t := 42) (by (repeat (first | with_reducible exact Pick.head | with_reducible apply Pick.tail)))
  have k5 : RC w10 (fun _ => True) (.l 42 16 ([natDc, dcZ 1 1, dcZ 2 0, dcTwo, dcZ 0 0].map Dc.d)) [.slice (some ⟨w9.heap.size, 0, none⟩) 5 5] := rowOf hb trivial (by exact kall) (by simp [Dc.size_d]) rfl (by simp)
  clear hp hm kTwo kall hb
  repeat ((fail_if_success (with_reducible (first | show Code.wp _ (Code.seq (Code.region 5 _ _) _) _ _ _ | show Code.wp _ (Code.seq (Code.seq (Code.region 5 _ _) _) _) _ _ _))); go_step)
  exact scB (ds := [natDc, dcZ 1 1, dcZ 2 0, dcTwo, dcZ 0 0]) (A := some ⟨w9.heap.size, 0, none⟩) (c := 5) (HT.out.ext H.ext) k5 H.ext
end Go.Proofs.YteelplgdojjakaaDoor
