/- SourceDecls: the walk. No statement of the seat is proved here. -/
import Derived.Test.YteelplgdojjakaaGreatDoorMgAwake11b
import Derived.Test.YteelplgdojjakaaGreatDoorMgKept3
import Derived.Test.YteelplgdojjakaaGreatDoorMgPushRs
namespace Go.Proofs.YteelplgdojjakaaGreatDoor
set_option linter.unusedSimpArgs false
set_option linter.unusedVariables false
open Go.RowKit

section
variable {X : Nat → Prop} {w0 w w1 : World} {l l' l1 l2 l3 : List Ch}
variable {P : Program} {ops : Array Oper} {rest : List Oper} {o : Oper} {a : Act} {Q : Exit → Act → World → Prop}
theorem RC.oldP11 {w w' : World} {S : Nat → Prop} {d : D} {cs : List Value} (h : RC w S d cs) (hx : Ext no w w') : RC w' (fun k => k < w.heap.size ∧ ¬ no k) d cs :=
  RC.frame hx.size (fun k _ hS => ⟨hS.2, no_not⟩) (fun k hk _ => hx.block k hk no_not) _ _ h.bd
/-- A box as a row of one element, which is read in old memory. -/
theorem Hp.boxRow {g e z : Nat} {d : D} {cs : List Value} {S : Nat → Prop} (H : Hp no w0 w l) (p : Pick l (.box g e cs) l') (h : RC w0 S d cs) (hz : d.size = z) : Hp no w0 w (.row e z [d] (.slice (some ⟨g, 0, none⟩) 1 1) :: l') := by
  have hl := RC.len _ _ h
  have H1 := H.boxraw (z := z) (n := 1) p (by omega) (by unfold maxLen; omega)
  refine Hp.turn1 (ds' := [_]) H1 .head fun L hL => ?_
  obtain ⟨rfl, hown⟩ := hL
  simp only [Chs]
  refine ⟨_, [], by simp, ⟨rfl, by unfold M; simp, by simpa using hz, cs, hown, ?_⟩, rfl⟩
  have hg : w0.heap.size ≤ g := (hown.lt g (by simp [Value.ownBlock])).1
  unfold RCs
  refine ⟨cs, [], by simp, RC.frame (Nat.le_refl _) (fun k hk hS => ⟨hS, fun e => ?_⟩) (fun _ _ _ => rfl) _ _ (h.oldP11 H.ext), by unfold RCs; rfl⟩
  simp only [Value.ownBlock, Option.some.injEq] at e
  have := hS.1
  omega
/-- A row of old elements is read. -/
theorem Hp.rowRd11 {e z : Nat} {ds : List D} {v : Value} (H : Hp X w0 w l) (p : Pick l (.row e z ds v) l') : RC w (fun k => (k < w0.heap.size ∧ ¬ X k) ∨ w0.heap.size ≤ k) (.l e z ds) [v] := by
  obtain ⟨L, hL, _⟩ := (H.pick p).own
  simp only [Chs] at hL
  obtain ⟨L1, _, rfl, ⟨rfl, h1⟩, _⟩ := hL
  exact h1.rc
end
set_option maxRecDepth 100000 in
set_option maxHeartbeats 8000000 in
/-- The lent ones and the copy asked, the law's end. -/
theorem decls4 {w W : World} {S S1 : Nat → Prop} {ds : List Dc} {d : Dc} {A A1 : Option Addr} {c c1 gx gd : Nat} {Aty Kty Abody Kbody Aparams Asort Amembers Actors pAty pKty pAbody pKbody pAparams pAsort pAmembers pActors : Option Addr} {cty kty cbody kbody cparams csort cmembers cctors pcty pkty pcbody pkbody pcparams pcsort pcmembers pcctors : Nat} {G1 G2 : List Nat} {x1 x2 x4 x7 x8 x9 x10 x11 x12 x13 x14 x15 x16 x17 x18 x19 x20 x21 x22 x23 x24 x25 x26 x27 x28 x29 x30 x31 x32 x33 x34 x35 x36 : Value} (hT : Tab w) (h : RC w S (.l 42 16 (ds.map Dc.d)) [.slice A ds.length c]) (hd : RC w S1 d.d (dC d Aty Kty Abody Kbody Aparams Asort Amembers Actors cty kty cbody kbody cparams csort cmembers cctors))
    (H : Hp no w W [.box gx 42 (dC d pAty pKty pAbody pKbody pAparams pAsort pAmembers pActors pcty pkty pcbody pkbody pcparams pcsort pcmembers pcctors), .box gd 42 (dC d Aty Kty Abody Kbody Aparams Asort Amembers Actors cty kty cbody kbody cparams csort cmembers cctors), .gh G1 (fun w' => KC mkD w' (fun k => w.heap.size ≤ k) (.l 42 16 (ds.map Dc.d)) [.slice A1 ds.length c1]), .gh G2 (fun w' => RC w' (fun k => w.heap.size ≤ k) d.d (dC d pAty pKty pAbody pKbody pAparams pAsort pAmembers pActors pcty pkty pcbody pkbody pcparams pcsort pcmembers pcctors))]) :
    (fromN 4 (Tryz.f7.body.getD .skip)).wp Tryz.prog (bodyPost Tryz.prog Tryz.f7 (PV w (.bool true))) { tmps := #[.slice A ds.length c, x1, x2, .pointer (some ⟨gd, 0, none⟩), x4, .slice A1 ds.length c1, .pointer (some ⟨gx, 0, none⟩), x7, x8, x9, x10, x11, x12, x13, x14, x15, x16, x17, x18, x19, x20, x21, x22, x23, x24, x25, x26, x27, x28, x29, x30, x31, x32, x33, x34, x35, x36], defers := [] } W := by
  have HT := Lib.hid hT
  have HH := Lib.hid h
  have HV := Lib.hid hd
  clear hT h hd
  conv => arg 2; whnf
  have hr_ := H.rules; simp only [Rules, and_true] at hr_; have hd_ := H.dif; simp only [Dif, Neq, and_true] at hd_; obtain ⟨ho_, hz_⟩ := H.old0
  go_wp2_with fail
  (try clear hr_ hd_ ho_ hz_)
  refine regionH (by (repeat (first | with_reducible exact H | with_reducible exact H0_ | with_reducible apply Hp.alloc | with_reducible apply Hp.allocMap | with_reducible apply Hp.drew | with_reducible apply Hp.drewN | with_reducible apply Hp.set)); (try any_goals (repeat (first | with_reducible exact Upd.head | with_reducible apply Upd.tail)))) ?_
  clear H; intro w2 H; (try simp only [size_drew_, size_drewN_, World.size_alloc, World.size_setCell, List.set_cons_zero, List.set_cons_succ] at H)
  refine wp_region_H 21 [false, false, false, false, false, false, false, false, false, false, false, false, false, false, false, false, false, false, false, false, false] [] H (.cons (i := 0) rfl (.cons (i := 1) rfl .nil)) (by kernel_rfl) rfl rfl (fun H_ hR_ => ?_)
  (try clear H0_); have H0_ := H; clear H; have H := H_; clear H_
  refine wpL_reads (is := [(0, ?v1_0), (1, ?v1_1), (3, ?v1_2), (4, ?v1_3)]) (by kernel_rfl) (Nat.le_of_ble_eq_true rfl) (by intro _ _ d_ _ _ h_; cases d_ <;> exact h_) (by kernel_rfl) hR_ (fun w_ hw_ => ?h1_) ?_
  case h1_ =>
    have ho_ := hw_.old0.1; have hz_ := hw_.old0.2; have hr_ := hw_.rules; clear hw_; simp only [Rules, and_true] at hr_; go_split_ands
    (repeat (first | with_reducible exact RdOps.nil | (refine RdOps.run rfl (by rfl) ?_ ?_; (focus (first | (go_simp; done) | (go_simp; with_reducible rfl))); simp only [List.getElem_toArray, List.getElem_cons_zero, List.getElem_cons_succ, Act.put, List.setIfInBounds_toArray, List.set_cons_zero, List.set_cons_succ]) | (refine RdOps.skip rfl (by rfl) ?_ ?_; (focus (with_reducible rfl)); simp only [List.getElem_toArray, List.getElem_cons_zero, List.getElem_cons_succ, Act.put, List.setIfInBounds_toArray, List.set_cons_zero, List.set_cons_succ])))
  simp only [rdMark, rdAct, List.map_cons, List.map_nil, List.length_cons, List.length_nil, Nat.reduceAdd, Nat.reduceSub, Nat.zero_add, List.getElem?_toArray, List.getElem?_cons_zero, List.getElem?_cons_succ, Option.bind_some, Act.put, List.setIfInBounds_toArray, List.set_cons_zero, List.set_cons_succ]
  refine wpL_do (i := 2) rfl (by kernel_rfl) (by rfl) (fun K_ hK_ => ?_)
  go_simp
  have k1 := H.gh (p := fun w' => KC mkD w' (fun k => w.heap.size ≤ k) (.l 42 16 (ds.map Dc.d)) [.slice A1 ds.length c1]) (by (repeat (first | with_reducible exact Pick.head | with_reducible apply Pick.tail)))
  have k2 := H.gh (p := fun w' => RC w' (fun k => w.heap.size ≤ k) d.d (dC d pAty pKty pAbody pKbody pAparams pAsort pAmembers pActors pcty pkty pcbody pkbody pcparams pcsort pcmembers pcctors)) (by (repeat (first | with_reducible exact Pick.head | with_reducible apply Pick.tail)))
  refine (srcDecl_calls (ds := ds) (d := d) (HT.out.ext H.ext) k1.rc rfl k2).mono ?_
  clear k1 k2
  rintro e w_ ⟨rfl, hx⟩
  replace H := H.call hx
  clear hx
  obtain ⟨q, hq⟩ : ∃ q, q = declQ ds d := ⟨_, rfl⟩
  rw [← hq]
  have HQ := Lib.hid hq
  clear hq
  refine hK_ _ _ (fun _ => H.sub (by simp)) (fun hR_ => ?_)
  replace hR_ := hR_ (by decide)
  refine wpL_do (i := 5) rfl (by kernel_rfl) (by rfl) (fun K_ hK_ => ?_)
  go_simp
  refine (ref11Decl_calls (ds := ds) (d := d) (HH.out.ext0 H.ext) rfl (HV.out.ext0 H.ext)).mono ?_
  rw [← HQ.out]
  rintro e w_ ⟨rfl, hx⟩
  replace H := H.call hx
  clear hx
  refine hK_ _ _ (fun _ => H.sub (by simp)) (fun hR_ => ?_)
  replace hR_ := hR_ (by decide)
  refine wpL_reads (is := [(6, ?v2_0), (7, ?v2_1), (8, ?v2_2), (9, ?v2_3)]) (by kernel_rfl) (Nat.le_of_ble_eq_true rfl) (by intro _ _ d_ _ _ h_; cases d_ <;> exact h_) (by kernel_rfl) hR_ (fun w_ hw_ => ?h2_) ?_
  case h2_ =>
    have ho_ := hw_.old0.1; have hz_ := hw_.old0.2; have hr_ := hw_.rules; clear hw_; simp only [Rules, and_true] at hr_; go_split_ands
    (repeat (first | with_reducible exact RdOps.nil | (refine RdOps.run rfl (by rfl) ?_ ?_; (focus (first | (go_simp; done) | (go_simp; with_reducible rfl))); simp only [List.getElem_toArray, List.getElem_cons_zero, List.getElem_cons_succ, Act.put, List.setIfInBounds_toArray, List.set_cons_zero, List.set_cons_succ]) | (refine RdOps.skip rfl (by rfl) ?_ ?_; (focus (with_reducible rfl)); simp only [List.getElem_toArray, List.getElem_cons_zero, List.getElem_cons_succ, Act.put, List.setIfInBounds_toArray, List.set_cons_zero, List.set_cons_succ])))
  simp only [rdMark, rdAct, List.map_cons, List.map_nil, List.length_cons, List.length_nil, Nat.reduceAdd, Nat.reduceSub, Nat.zero_add, List.getElem?_toArray, List.getElem?_cons_zero, List.getElem?_cons_succ, Option.bind_some, Act.put, List.setIfInBounds_toArray, List.set_cons_zero, List.set_cons_succ]
  refine wpL_do (i := 10) rfl (by kernel_rfl) (by rfl) (fun K_ hK_ => ?_)
  go_simp
  have k1 := H.gh (p := fun w' => KC mkD w' (fun k => w.heap.size ≤ k) (.l 42 16 (ds.map Dc.d)) [.slice A1 ds.length c1]) (by (repeat (first | with_reducible exact Pick.head | with_reducible apply Pick.tail)))
  refine (keptDecls (xs := ds) k1 (HH.out.ext0 H.ext) rfl).mono ?_
  clear k1
  rintro e w_ ⟨rfl, hx⟩
  replace H := H.call hx
  clear hx
  refine hK_ _ _ (fun _ => H.sub (by simp)) (fun hR_ => ?_)
  replace hR_ := hR_ (by decide)
  refine wpL_reads (is := [(11, ?v3_0), (12, ?v3_1), (13, ?v3_2), (14, ?v3_3)]) (by kernel_rfl) (Nat.le_of_ble_eq_true rfl) (by intro _ _ d_ _ _ h_; cases d_ <;> exact h_) (by kernel_rfl) hR_ (fun w_ hw_ => ?h3_) ?_
  case h3_ =>
    have ho_ := hw_.old0.1; have hz_ := hw_.old0.2; have hr_ := hw_.rules; clear hw_; simp only [Rules, and_true] at hr_; go_split_ands
    (repeat (first | with_reducible exact RdOps.nil | (refine RdOps.run rfl (by rfl) ?_ ?_; (focus (first | (go_simp; done) | (go_simp; with_reducible rfl))); simp only [List.getElem_toArray, List.getElem_cons_zero, List.getElem_cons_succ, Act.put, List.setIfInBounds_toArray, List.set_cons_zero, List.set_cons_succ]) | (refine RdOps.skip rfl (by rfl) ?_ ?_; (focus (with_reducible rfl)); simp only [List.getElem_toArray, List.getElem_cons_zero, List.getElem_cons_succ, Act.put, List.setIfInBounds_toArray, List.set_cons_zero, List.set_cons_succ])))
  simp only [rdMark, rdAct, List.map_cons, List.map_nil, List.length_cons, List.length_nil, Nat.reduceAdd, Nat.reduceSub, Nat.zero_add, List.getElem?_toArray, List.getElem?_cons_zero, List.getElem?_cons_succ, Option.bind_some, Act.put, List.setIfInBounds_toArray, List.set_cons_zero, List.set_cons_succ]
  refine wpL_do (i := 15) rfl (by kernel_rfl) (by rfl) (fun K_ hK_ => ?_)
  go_simp
  have k2 := H.gh (p := fun w' => RC w' (fun k => w.heap.size ≤ k) d.d (dC d pAty pKty pAbody pKbody pAparams pAsort pAmembers pActors pcty pkty pcbody pkbody pcparams pcsort pcmembers pcctors)) (by (repeat (first | with_reducible exact Pick.head | with_reducible apply Pick.tail)))
  refine (sameDcK d _ _ _ _ _ k2 (HV.out.ext0 H.ext)).mono ?_
  clear k2
  rintro e w_ ⟨rfl, hx⟩
  replace H := H.call hx
  clear hx
  refine hK_ _ _ (fun _ => H.sub (by simp)) (fun hR_ => ?_)
  replace hR_ := hR_ (by decide)
  refine wpL_reads (is := [(16, ?v4_0), (17, ?v4_1)]) (by kernel_rfl) (Nat.le_of_ble_eq_true rfl) (by intro _ _ d_ _ _ h_; cases d_ <;> exact h_) (by kernel_rfl) hR_ (fun w_ hw_ => ?h4_) ?_
  case h4_ =>
    have ho_ := hw_.old0.1; have hz_ := hw_.old0.2; have hr_ := hw_.rules; clear hw_; simp only [Rules, and_true] at hr_; go_split_ands
    (repeat (first | with_reducible exact RdOps.nil | (refine RdOps.run rfl (by rfl) ?_ ?_; (focus (first | (go_simp; done) | (go_simp; with_reducible rfl))); simp only [List.getElem_toArray, List.getElem_cons_zero, List.getElem_cons_succ, Act.put, List.setIfInBounds_toArray, List.set_cons_zero, List.set_cons_succ]) | (refine RdOps.skip rfl (by rfl) ?_ ?_; (focus (with_reducible rfl)); simp only [List.getElem_toArray, List.getElem_cons_zero, List.getElem_cons_succ, Act.put, List.setIfInBounds_toArray, List.set_cons_zero, List.set_cons_succ])))
  simp only [rdMark, rdAct, List.map_cons, List.map_nil, List.length_cons, List.length_nil, Nat.reduceAdd, Nat.reduceSub, Nat.zero_add, List.getElem?_toArray, List.getElem?_cons_zero, List.getElem?_cons_succ, Option.bind_some, Act.put, List.setIfInBounds_toArray, List.set_cons_zero, List.set_cons_succ]
  refine wpL_do (i := 18) rfl (by kernel_rfl) (by rfl) (fun K_ hK_ => ?_)
  go_simp
  refine (awake11_calls (HT.out.ext H.ext)).mono ?_
  rintro e w_ ⟨rfl, hx⟩
  replace H := H.call hx
  clear hx
  refine hK_ _ _ (fun _ => H.sub (by simp)) (fun hR_ => ?_)
  replace hR_ := hR_ (by decide)
  refine wpL_reads (is := [(19, ?v5_0), (20, ?v5_1)]) (by kernel_rfl) (Nat.le_of_ble_eq_true rfl) (by intro _ _ d_ _ _ h_; cases d_ <;> exact h_) (by kernel_rfl) hR_ (fun w_ hw_ => ?h5_) ?_
  case h5_ =>
    have ho_ := hw_.old0.1; have hz_ := hw_.old0.2; have hr_ := hw_.rules; clear hw_; simp only [Rules, and_true] at hr_; go_split_ands
    (repeat (first | with_reducible exact RdOps.nil | (refine RdOps.run rfl (by rfl) ?_ ?_; (focus (first | (go_simp; done) | (go_simp; with_reducible rfl))); simp only [List.getElem_toArray, List.getElem_cons_zero, List.getElem_cons_succ, Act.put, List.setIfInBounds_toArray, List.set_cons_zero, List.set_cons_succ]) | (refine RdOps.skip rfl (by rfl) ?_ ?_; (focus (with_reducible rfl)); simp only [List.getElem_toArray, List.getElem_cons_zero, List.getElem_cons_succ, Act.put, List.setIfInBounds_toArray, List.set_cons_zero, List.set_cons_succ])))
  simp only [rdMark, rdAct, List.map_cons, List.map_nil, List.length_cons, List.length_nil, Nat.reduceAdd, Nat.reduceSub, Nat.zero_add, List.getElem?_toArray, List.getElem?_cons_zero, List.getElem?_cons_succ, Option.bind_some, Act.put, List.setIfInBounds_toArray, List.set_cons_zero, List.set_cons_succ]
  refine wpL_done (by kernel_rfl) ?_ _
  go_wp2_with fail
  go_ret
  exact ⟨rfl, H.ext⟩
set_option maxRecDepth 100000 in
set_option maxHeartbeats 8000000 in
theorem sourceDecls_calls {w : World} {S S1 : Nat → Prop} {ds : List Dc} {d : Dc} {cs : List Value} {A : Option Addr} {m c : Nat} (hT : Tab w) (h : RC w S (.l 42 16 (ds.map Dc.d)) [.slice A m c]) (hm : m = ds.length) (hb : ds.length ≤ 4000000000) (hd : RC w S1 d.d cs) :
    Calls Tryz.prog 7 #[.slice A m c, .agg cs.toArray] w (PV w (.bool true)) := by
  subst hm
  have HV := Lib.hid hd
  obtain ⟨Aty, cty, Kty, kty, Abody, cbody, Kbody, kbody, Aparams, cparams, Asort, csort, Amembers, cmembers, Actors, cctors, rfl, _⟩ := RC.dc.1 hd
  have HT := Lib.hid hT
  have HH := Lib.hid h
  clear hT h hd
  go_enter Tryz.func7, Tryz.ntmps7
  have H := Hp.start no w
  go_wp2_with (at_builtin; go_must (refine listH (by (repeat (first | with_reducible exact H | with_reducible exact H0_ | with_reducible apply Hp.alloc | with_reducible apply Hp.allocMap | with_reducible apply Hp.drew | with_reducible apply Hp.drewN | with_reducible apply Hp.set)); (try any_goals (repeat (first | with_reducible exact Upd.head | with_reducible apply Upd.tail)))) ?_; clear H; intro w2 H; (try simp only [size_drew_, size_drewN_, World.size_alloc, World.size_setCell, List.set_cons_zero, List.set_cons_succ] at H); refine wpList_pushRs rfl (.tmp 8) (.tmp 9) 22 rfl stDcs rfl rfl (H.boxRow .head HV.out (Dc.size_d _)) .head (HH.out.oldP11 H.ext) ?_ ?_; (focus (simp [M]; omega)); clear H; intro v1 w5 H))
  obtain ⟨A', c', rfl, _, _, _⟩ := (H.rowRd11 .head).slice
  have rr := Lib.hid (H.rowRd11 .head)
  refine (great11_calls (S2 := fun _ => True) (ds := d :: ds) (ts := []) rr.out (by simp) RC.nil rfl).mono ?_
  clear rr
  rintro e w_ ⟨q, rfl, hx⟩
  replace H := H.call hx
  clear hx
  have H := H.arr (l' := [.box w.heap.size 42 (dC d Aty Kty Abody Kbody Aparams Asort Amembers Actors cty kty cbody kbody cparams csort cmembers cctors)]) (.cons (.tail .head) .nil)
  cases q
  · have hr_ := H.rules; simp only [Rules, and_true] at hr_; have hd_ := H.dif; simp only [Dif, Neq, and_true] at hd_; obtain ⟨ho_, hz_⟩ := H.old0
    go_wp2_with fail
    (try clear hr_ hd_ ho_ hz_)
    refine regionH (by (repeat (first | with_reducible exact H | with_reducible exact H0_ | with_reducible apply Hp.alloc | with_reducible apply Hp.allocMap | with_reducible apply Hp.drew | with_reducible apply Hp.drewN | with_reducible apply Hp.set)); (try any_goals (repeat (first | with_reducible exact Upd.head | with_reducible apply Upd.tail)))) ?_
    clear H; intro w3 H; (try simp only [size_drew_, size_drewN_, World.size_alloc, World.size_setCell, List.set_cons_zero, List.set_cons_succ] at H)
    refine wp_region_H 7 [false, false, false, false, false, false, false] [] H (.cons (i := 0) rfl .nil) (by kernel_rfl) rfl rfl (fun H_ hR_ => ?_)
    (try clear H0_); have H0_ := H; clear H; have H := H_; clear H_
    refine wpL_reads (is := [(0, ?v6_0), (2, ?v6_1)]) (by kernel_rfl) (Nat.le_of_ble_eq_true rfl) (by intro _ _ d_ _ _ h_; cases d_ <;> exact h_) (by kernel_rfl) hR_ (fun w_ hw_ => ?h6_) ?_
    case h6_ =>
      have ho_ := hw_.old0.1; have hz_ := hw_.old0.2; have hr_ := hw_.rules; clear hw_; simp only [Rules, and_true] at hr_; go_split_ands
      (repeat (first | with_reducible exact RdOps.nil | (refine RdOps.run rfl (by rfl) ?_ ?_; (focus (first | (go_simp; done) | (go_simp; with_reducible rfl))); simp only [List.getElem_toArray, List.getElem_cons_zero, List.getElem_cons_succ, Act.put, List.setIfInBounds_toArray, List.set_cons_zero, List.set_cons_succ]) | (refine RdOps.skip rfl (by rfl) ?_ ?_; (focus (with_reducible rfl)); simp only [List.getElem_toArray, List.getElem_cons_zero, List.getElem_cons_succ, Act.put, List.setIfInBounds_toArray, List.set_cons_zero, List.set_cons_succ])))
    simp only [rdMark, rdAct, List.map_cons, List.map_nil, List.length_cons, List.length_nil, Nat.reduceAdd, Nat.reduceSub, Nat.zero_add, List.getElem?_toArray, List.getElem?_cons_zero, List.getElem?_cons_succ, Option.bind_some, Act.put, List.setIfInBounds_toArray, List.set_cons_zero, List.set_cons_succ]
    refine wpL_many (is := [1, 4]) (by kernel_rfl) (by simp) ?_
    simp only [List.forall_mem_cons]
    refine ⟨?_, ?_, fun _ h => by cases h⟩
    · refine wpOp_do (i := 1) rfl (by rfl) (fun K_ hK_ => ?_)
      go_simp
      refine (lentDecls (xs := ds) (HH.out.ext0 H.ext) rfl).mono ?_
      rintro e w5_ ⟨A1, c1, rfl, hk, hx⟩
      simp only [List.length_map] at hk ⊢
      obtain ⟨G1, H2⟩ := H.resK hx hk
      clear H hx hk
      have H := H2
      clear H2
      refine hK_ _ _ (fun _ => H.sub (by simp)) (fun hR_ => ?_)
      replace hR_ := hR_ (by decide)
      refine wpL_many (is := [3, 4]) (by kernel_rfl) (by simp) ?_
      simp only [List.forall_mem_cons]
      refine ⟨?_, ?_, fun _ h => by cases h⟩
      · refine wpOp_do (i := 3) rfl (by rfl) (fun K_ hK_ => ?_)
        go_simp
        refine (copyDecl d _ _ _ (HV.out.ext0 H.ext)).mono ?_
        rintro e w6_ ⟨cs2, rfl, hk, hx⟩
        obtain ⟨pAty, pcty, pKty, pkty, pAbody, pcbody, pKbody, pkbody, pAparams, pcparams, pAsort, pcsort, pAmembers, pcmembers, pActors, pcctors, rfl, _⟩ := RC.dc.1 hk
        obtain ⟨G2, H2⟩ := H.resR hx hk
        clear H hx hk
        have H := H2
        clear H2
        refine hK_ _ _ (fun _ => H.sub (by simp)) (fun hR_ => ?_)
        replace hR_ := hR_ (by decide)
        refine wpL_do (i := 4) rfl (by kernel_rfl) (by rfl) (fun K_ hK_ => ?_)
        go_simp
        refine kontH (by (repeat (first | with_reducible exact H | with_reducible exact H0_ | with_reducible apply Hp.alloc | with_reducible apply Hp.allocMap | with_reducible apply Hp.drew | with_reducible apply Hp.drewN | with_reducible apply Hp.set)); (try any_goals (repeat (first | with_reducible exact Upd.head | with_reducible apply Upd.tail)))) ?_
        clear H; intro wb_ H; (try simp only [size_drew_, size_drewN_, World.size_alloc, World.size_setCell, List.set_cons_zero, List.set_cons_succ] at H)
        refine hK_ _ _ (fun _ => H.sub (by simp)) (fun hR_ => ?_)
        replace hR_ := hR_ (by decide)
        refine wpL_reads (is := [(5, ?v7_0)]) (by kernel_rfl) (Nat.le_of_ble_eq_true rfl) (by intro _ _ d_ _ _ h_; cases d_ <;> exact h_) (by kernel_rfl) hR_ (fun w_ hw_ => ?h7_) ?_
        case h7_ =>
          have ho_ := hw_.old0.1; have hz_ := hw_.old0.2; have hr_ := hw_.rules; clear hw_; simp only [Rules, and_true] at hr_; go_split_ands
          (repeat (first | with_reducible exact RdOps.nil | (refine RdOps.run rfl (by rfl) ?_ ?_; (focus (first | (go_simp; done) | (go_simp; with_reducible rfl))); simp only [List.getElem_toArray, List.getElem_cons_zero, List.getElem_cons_succ, Act.put, List.setIfInBounds_toArray, List.set_cons_zero, List.set_cons_succ]) | (refine RdOps.skip rfl (by rfl) ?_ ?_; (focus (with_reducible rfl)); simp only [List.getElem_toArray, List.getElem_cons_zero, List.getElem_cons_succ, Act.put, List.setIfInBounds_toArray, List.set_cons_zero, List.set_cons_succ])))
        simp only [rdMark, rdAct, List.map_cons, List.map_nil, List.length_cons, List.length_nil, Nat.reduceAdd, Nat.reduceSub, Nat.zero_add, List.getElem?_toArray, List.getElem?_cons_zero, List.getElem?_cons_succ, Option.bind_some, Act.put, List.setIfInBounds_toArray, List.set_cons_zero, List.set_cons_succ]
        refine wpL_do (i := 6) rfl (by kernel_rfl) (by rfl) (fun K_ hK_ => ?_)
        refine wp_storeH rfl (by go_simp <;> first | rfl | exact ⟨rfl, rfl⟩) (by go_simp <;> first | rfl | exact ⟨rfl, rfl⟩) H (by (repeat (first | with_reducible exact Upd.head | with_reducible apply Upd.tail))) (by exact aggDecl) (by rfl) (by simp [Value.oneCell']) (fun w9 H_ => ?_)
        clear H; have H := H_; clear H_
        refine hK_ _ _ (fun _ => H.sub (by simp)) (fun _ => ?_)
        refine wpL_done (by kernel_rfl) ?_ _
        repeat ((fail_if_success (with_reducible (show Code.wp _ (Code.seq (Code.region 4 _ _) _) _ _ _))); go_step)
        exact decls4 HT.out HH.out HV.out (H.arr (by (repeat (first | with_reducible exact Arr.nil | refine Arr.cons (by (repeat (first | with_reducible exact Pick.head | with_reducible apply Pick.tail))) ?_)) <;> exact Arr.of_subl (by (repeat (first | with_reducible exact Subl.refl _ | with_reducible apply Subl.drop)))))
      · refine wpOp_do (i := 4) rfl (by rfl) (fun K_ hK_ => ?_)
        go_simp
        refine kontH (by (repeat (first | with_reducible exact H | with_reducible exact H0_ | with_reducible apply Hp.alloc | with_reducible apply Hp.allocMap | with_reducible apply Hp.drew | with_reducible apply Hp.drewN | with_reducible apply Hp.set)); (try any_goals (repeat (first | with_reducible exact Upd.head | with_reducible apply Upd.tail)))) ?_
        clear H; intro wb_ H; (try simp only [size_drew_, size_drewN_, World.size_alloc, World.size_setCell, List.set_cons_zero, List.set_cons_succ] at H)
        refine hK_ _ _ (fun _ => H.sub (by simp)) (fun hR_ => ?_)
        replace hR_ := hR_ (by decide)
        refine wpL_do (i := 3) rfl (by kernel_rfl) (by rfl) (fun K_ hK_ => ?_)
        go_simp
        refine (copyDecl d _ _ _ (HV.out.ext0 H.ext)).mono ?_
        rintro e w6_ ⟨cs2, rfl, hk, hx⟩
        obtain ⟨pAty, pcty, pKty, pkty, pAbody, pcbody, pKbody, pkbody, pAparams, pcparams, pAsort, pcsort, pAmembers, pcmembers, pActors, pcctors, rfl, _⟩ := RC.dc.1 hk
        obtain ⟨G2, H2⟩ := H.resR hx hk
        clear H hx hk
        have H := H2
        clear H2
        refine hK_ _ _ (fun _ => H.sub (by simp)) (fun hR_ => ?_)
        replace hR_ := hR_ (by decide)
        refine wpL_reads (is := [(5, ?v8_0)]) (by kernel_rfl) (Nat.le_of_ble_eq_true rfl) (by intro _ _ d_ _ _ h_; cases d_ <;> exact h_) (by kernel_rfl) hR_ (fun w_ hw_ => ?h8_) ?_
        case h8_ =>
          have ho_ := hw_.old0.1; have hz_ := hw_.old0.2; have hr_ := hw_.rules; clear hw_; simp only [Rules, and_true] at hr_; go_split_ands
          (repeat (first | with_reducible exact RdOps.nil | (refine RdOps.run rfl (by rfl) ?_ ?_; (focus (first | (go_simp; done) | (go_simp; with_reducible rfl))); simp only [List.getElem_toArray, List.getElem_cons_zero, List.getElem_cons_succ, Act.put, List.setIfInBounds_toArray, List.set_cons_zero, List.set_cons_succ]) | (refine RdOps.skip rfl (by rfl) ?_ ?_; (focus (with_reducible rfl)); simp only [List.getElem_toArray, List.getElem_cons_zero, List.getElem_cons_succ, Act.put, List.setIfInBounds_toArray, List.set_cons_zero, List.set_cons_succ])))
        simp only [rdMark, rdAct, List.map_cons, List.map_nil, List.length_cons, List.length_nil, Nat.reduceAdd, Nat.reduceSub, Nat.zero_add, List.getElem?_toArray, List.getElem?_cons_zero, List.getElem?_cons_succ, Option.bind_some, Act.put, List.setIfInBounds_toArray, List.set_cons_zero, List.set_cons_succ]
        refine wpL_do (i := 6) rfl (by kernel_rfl) (by rfl) (fun K_ hK_ => ?_)
        refine wp_storeH rfl (by go_simp <;> first | rfl | exact ⟨rfl, rfl⟩) (by go_simp <;> first | rfl | exact ⟨rfl, rfl⟩) H (by (repeat (first | with_reducible exact Upd.head | with_reducible apply Upd.tail))) (by exact aggDecl) (by rfl) (by simp [Value.oneCell']) (fun w9 H_ => ?_)
        clear H; have H := H_; clear H_
        refine hK_ _ _ (fun _ => H.sub (by simp)) (fun _ => ?_)
        refine wpL_done (by kernel_rfl) ?_ _
        repeat ((fail_if_success (with_reducible (show Code.wp _ (Code.seq (Code.region 4 _ _) _) _ _ _))); go_step)
        exact decls4 HT.out HH.out HV.out (H.arr (by (repeat (first | with_reducible exact Arr.nil | refine Arr.cons (by (repeat (first | with_reducible exact Pick.head | with_reducible apply Pick.tail))) ?_)) <;> exact Arr.of_subl (by (repeat (first | with_reducible exact Subl.refl _ | with_reducible apply Subl.drop)))))
    · refine wpOp_do (i := 4) rfl (by rfl) (fun K_ hK_ => ?_)
      go_simp
      refine kontH (by (repeat (first | with_reducible exact H | with_reducible exact H0_ | with_reducible apply Hp.alloc | with_reducible apply Hp.allocMap | with_reducible apply Hp.drew | with_reducible apply Hp.drewN | with_reducible apply Hp.set)); (try any_goals (repeat (first | with_reducible exact Upd.head | with_reducible apply Upd.tail)))) ?_
      clear H; intro wb_ H; (try simp only [size_drew_, size_drewN_, World.size_alloc, World.size_setCell, List.set_cons_zero, List.set_cons_succ] at H)
      refine hK_ _ _ (fun _ => H.sub (by simp)) (fun hR_ => ?_)
      replace hR_ := hR_ (by decide)
      refine wpL_do (i := 1) rfl (by kernel_rfl) (by rfl) (fun K_ hK_ => ?_)
      go_simp
      refine (lentDecls (xs := ds) (HH.out.ext0 H.ext) rfl).mono ?_
      rintro e w5_ ⟨A1, c1, rfl, hk, hx⟩
      simp only [List.length_map] at hk ⊢
      obtain ⟨G1, H2⟩ := H.resK hx hk
      clear H hx hk
      have H := H2
      clear H2
      refine hK_ _ _ (fun _ => H.sub (by simp)) (fun hR_ => ?_)
      replace hR_ := hR_ (by decide)
      refine wpL_do (i := 3) rfl (by kernel_rfl) (by rfl) (fun K_ hK_ => ?_)
      go_simp
      refine (copyDecl d _ _ _ (HV.out.ext0 H.ext)).mono ?_
      rintro e w6_ ⟨cs2, rfl, hk, hx⟩
      obtain ⟨pAty, pcty, pKty, pkty, pAbody, pcbody, pKbody, pkbody, pAparams, pcparams, pAsort, pcsort, pAmembers, pcmembers, pActors, pcctors, rfl, _⟩ := RC.dc.1 hk
      obtain ⟨G2, H2⟩ := H.resR hx hk
      clear H hx hk
      have H := H2
      clear H2
      refine hK_ _ _ (fun _ => H.sub (by simp)) (fun hR_ => ?_)
      replace hR_ := hR_ (by decide)
      refine wpL_reads (is := [(5, ?v9_0)]) (by kernel_rfl) (Nat.le_of_ble_eq_true rfl) (by intro _ _ d_ _ _ h_; cases d_ <;> exact h_) (by kernel_rfl) hR_ (fun w_ hw_ => ?h9_) ?_
      case h9_ =>
        have ho_ := hw_.old0.1; have hz_ := hw_.old0.2; have hr_ := hw_.rules; clear hw_; simp only [Rules, and_true] at hr_; go_split_ands
        (repeat (first | with_reducible exact RdOps.nil | (refine RdOps.run rfl (by rfl) ?_ ?_; (focus (first | (go_simp; done) | (go_simp; with_reducible rfl))); simp only [List.getElem_toArray, List.getElem_cons_zero, List.getElem_cons_succ, Act.put, List.setIfInBounds_toArray, List.set_cons_zero, List.set_cons_succ]) | (refine RdOps.skip rfl (by rfl) ?_ ?_; (focus (with_reducible rfl)); simp only [List.getElem_toArray, List.getElem_cons_zero, List.getElem_cons_succ, Act.put, List.setIfInBounds_toArray, List.set_cons_zero, List.set_cons_succ])))
      simp only [rdMark, rdAct, List.map_cons, List.map_nil, List.length_cons, List.length_nil, Nat.reduceAdd, Nat.reduceSub, Nat.zero_add, List.getElem?_toArray, List.getElem?_cons_zero, List.getElem?_cons_succ, Option.bind_some, Act.put, List.setIfInBounds_toArray, List.set_cons_zero, List.set_cons_succ]
      refine wpL_do (i := 6) rfl (by kernel_rfl) (by rfl) (fun K_ hK_ => ?_)
      refine wp_storeH rfl (by go_simp <;> first | rfl | exact ⟨rfl, rfl⟩) (by go_simp <;> first | rfl | exact ⟨rfl, rfl⟩) H (by (repeat (first | with_reducible exact Upd.head | with_reducible apply Upd.tail))) (by exact aggDecl) (by rfl) (by simp [Value.oneCell']) (fun w9 H_ => ?_)
      clear H; have H := H_; clear H_
      refine hK_ _ _ (fun _ => H.sub (by simp)) (fun _ => ?_)
      refine wpL_done (by kernel_rfl) ?_ _
      repeat ((fail_if_success (with_reducible (show Code.wp _ (Code.seq (Code.region 4 _ _) _) _ _ _))); go_step)
      exact decls4 HT.out HH.out HV.out (H.arr (by (repeat (first | with_reducible exact Arr.nil | refine Arr.cons (by (repeat (first | with_reducible exact Pick.head | with_reducible apply Pick.tail))) ?_)) <;> exact Arr.of_subl (by (repeat (first | with_reducible exact Subl.refl _ | with_reducible apply Subl.drop)))))
  · go_wp2_with fail
    refine (awake11_calls (HT.out.ext H.ext)).mono ?_
    rintro e w_ ⟨rfl, hx⟩
    replace H := H.call hx
    clear hx
    go_wp2_with fail
    go_ret
    exact ⟨rfl, H.ext⟩
end Go.Proofs.YteelplgdojjakaaGreatDoor
