/- StrictParams: contract. No statement of the seat is proved here. -/
import Derived.Test.YtmedomglemllnaaDoorSp2
import Derived.Test.YtmedomglemllnaaDoorRead
import Derived.Test.YtmedomglemllnaaDoorMgSelf
namespace Go.Proofs.YtmedomglemllnaaDoor
set_option linter.unusedSimpArgs false
set_option linter.unusedVariables false
open Go.RowKit

theorem bulk_tmP (k n a : Int) (ls : List Lv) (ks : List Tm) : D.bulks (ks.map Tm.d) + 1 ≤ (Tm.mk k n a ls ks).d.bulk := by
  rw [Tm.d]
  simp only [D.bulk, D.bulks, Tm.ds_eq]
  omega
theorem sizesT_bulkP {ks : List Tm} (h : ∀ t ∈ ks, sizeT t ≤ t.d.bulk) : sizesT ks ≤ D.bulks (ks.map Tm.d) := by
  induction ks with
  | nil => simp [sizesT]
  | cons t ks ih =>
    have h1 := h t (by simp)
    have h2 := ih fun t ht => h t (by simp [ht])
    simp only [sizesT, List.map_cons, D.bulks]
    omega
theorem sizeT_bulkP : ∀ t : Tm, sizeT t ≤ t.d.bulk := by
  intro t
  induction t using Tm.ind_ with
  | h k n a ls ks ih =>
    have h1 := bulk_tmP k n a ls ks
    have h2 := sizesT_bulkP ih
    rw [sizeT]
    omega
theorem bulks_memP {ds : List D} {d : D} (h : d ∈ ds) : d.bulk ≤ D.bulks ds := by
  induction ds with
  | nil => cases h
  | cons e ds ih =>
    simp only [D.bulks]
    rcases List.mem_cons.1 h with rfl | h
    · omega
    · have := ih h
      omega
theorem bulks_lenP {ds : List D} (h : ∀ d ∈ ds, 1 ≤ d.bulk) : ds.length ≤ D.bulks ds := by
  induction ds with
  | nil => simp
  | cons d ds ih =>
    have h1 := h d (by simp)
    have h2 := ih fun x hx => h x (by simp [hx])
    simp only [D.bulks, List.length_cons]
    omega
theorem depth_sizeP : ∀ t : Tm, depthT t ≤ sizeT t := by
  intro t
  induction t using Tm.ind_ with
  | h k n a ls ks ih =>
    have key : ∀ ts : List Tm, (∀ t ∈ ts, depthT t ≤ sizeT t) → depthsT ts ≤ sizesT ts := by
      intro ts
      induction ts with
      | nil => intro _; simp [depthsT, sizesT]
      | cons t ts ihs =>
        intro h
        have h1 := h t (by simp)
        have h2 := ihs fun x hx => h x (by simp [hx])
        rw [depthsT, sizesT]
        omega
    have := key ks ih
    rw [depthT, sizeT]
    omega
/-- What a bound of a declaration's bulk says. -/
theorem smDc_bulk {d : Dc} (h : d.d.bulk ≤ 1048576) : SmDc d ∧ (d.params.length ≤ 4000000 ∧ ∀ m ∈ d.members, m.index.length ≤ 4000000) ∧ d.ctors.length ≤ 4000000 ∧ ∀ c ∈ d.ctors, depthT c.ty ≤ 1000000000 := by
  have hp : D.bulks (d.params.map Tm.d) ≤ d.d.bulk := by simp only [Dc.d, D.bulk, D.bulks]; omega
  have hm : D.bulks (d.members.map Mb.d) ≤ d.d.bulk := by simp only [Dc.d, D.bulk, D.bulks]; omega
  have hc : D.bulks (d.ctors.map Ct.d) ≤ d.d.bulk := by simp only [Dc.d, D.bulk, D.bulks]; omega
  have tb : ∀ t : Tm, 1 ≤ t.d.bulk := fun t => by cases t; rw [Tm.d]; simp only [D.bulk]; omega
  have lp := bulks_lenP (ds := d.params.map Tm.d) (by intro x hx; obtain ⟨t, _, rfl⟩ := List.mem_map.1 hx; exact tb t)
  have lc := bulks_lenP (ds := d.ctors.map Ct.d) (by intro x hx; obtain ⟨t, _, rfl⟩ := List.mem_map.1 hx; simp only [Ct.d, D.bulk]; omega)
  rw [List.length_map] at lp lc
  have mi : ∀ m ∈ d.members, D.bulks (m.index.map Tm.d) ≤ 1048576 := fun m hm2 => by
    have h3 := bulks_memP (List.mem_map_of_mem (f := Mb.d) hm2)
    have h5 : D.bulks (m.index.map Tm.d) ≤ m.d.bulk := by simp only [Mb.d, D.bulk, D.bulks]; omega
    omega
  have ml : ∀ m ∈ d.members, m.index.length ≤ 1048576 := fun m hm2 => by
    have l := bulks_lenP (ds := m.index.map Tm.d) (by intro x hx; obtain ⟨t, _, rfl⟩ := List.mem_map.1 hx; exact tb t)
    rw [List.length_map] at l
    have := mi m hm2
    omega
  have ct : ∀ c ∈ d.ctors, sizeT c.ty ≤ 1048576 := fun c hc2 => by
    have h3 := bulks_memP (List.mem_map_of_mem (f := Ct.d) hc2)
    have h4 := sizeT_bulkP c.ty
    have h5 : c.ty.d.bulk ≤ c.d.bulk := by simp only [Ct.d, D.bulk, D.bulks]; omega
    omega
  refine ⟨⟨fun c hc2 => by have := ct c hc2; omega, fun m hm2 => ⟨by have := ml m hm2; omega, fun t ht => ?_⟩, by omega⟩, ⟨by omega, fun m hm2 => by have := ml m hm2; omega⟩, by omega, fun c hc2 => by have := ct c hc2; have := depth_sizeP c.ty; omega⟩
  have h3 := bulks_memP (List.mem_map_of_mem (f := Tm.d) ht)
  have h4 := sizeT_bulkP t
  have := mi m hm2
  omega
section
variable {w0 w : World} {l l' : List Ch}
/-- An empty box as a row of none. -/
theorem Hp.boxRow0P {g e z : Nat} (H : Hp no w0 w l) (p : Pick l (.box g e []) l') : Hp no w0 w (.row e z [] (.slice (some ⟨g, 0, none⟩) 0 0) :: l') := by
  have H1 := H.boxraw (z := z) (n := 0) p (by simp) (by unfold maxLen; omega)
  refine Hp.turn1 (ds' := [_]) H1 .head fun L hL => ?_
  obtain ⟨rfl, hown⟩ := hL
  simp only [Chs]
  exact ⟨_, [], by simp, ⟨rfl, by unfold M; simp, by simp, [], hown, by unfold RCs; rfl⟩, rfl⟩
end

theorem Hp.neRow {X : Nat → Prop} {w0 w : World} {l l1 l2 : List Ch} {g t gA e z n c : Nat} {cs : List Value} {ds : List D} (H : Hp X w0 w l) (p : Pick l (.box g t cs) l1) (q : Pick l1 (.row e z ds (.slice (some ⟨gA, 0, none⟩) n c)) l2) : g ≠ gA := by
  obtain ⟨L, h, hn⟩ := ((H.pick p).pick (.tail q)).own
  unfold Chs at h
  obtain ⟨L1, L2, rfl, ⟨h1, _⟩, h2⟩ := h
  unfold Chs at h2
  obtain ⟨L3, L4, rfl, ⟨h3, _⟩, _⟩ := h2
  subst h1 h3
  intro e
  subst e
  exact (List.nodup_append.1 hn).2.2 g (by simp [Value.ownBlock]) g (by simp) rfl
set_option maxRecDepth 100000 in
set_option maxHeartbeats 16000000 in
theorem strictParams_calls {w : World} {S S1 : Nat → Prop} {ds : List Dc} {d : Dc} {A0 : Option Addr} {c : Nat} {cs : List Value} {ai drop : Int} (hT : Tab w) (hds : RC w S (.l 37 16 (ds.map Dc.d)) [.slice A0 ds.length c]) (hd : RC w S1 d.d cs) (hi1 : inI drop) (hln : ds.length ≤ 1048576) (hbs : ∀ x ∈ ds, x.d.bulk ≤ 1048576) (hbd : d.d.bulk ≤ 1048576) :
    Calls Tryd.prog 4 #[.slice A0 ds.length c, .agg cs.toArray, .int .i64 ai, .int .i64 drop] w (PV w (.bool true)) := by
  obtain ⟨Aty, cty, Kty, kty, Abody, cbody, Kbody, kbody, Aparams, cparams, Asort, csort, Amembers, cmembers, Actors, cctors, rfl, hdc⟩ := RC.dc.1 hd
  obtain ⟨s1, s2, s3, s4⟩ := smDc_bulk hbd
  have HOK : Hid (∀ ct ∈ d.ctors, TmOK ct.ty ∧ depthT ct.ty ≤ 1000000000) := Lib.hid (fun ct hct => ⟨by
    obtain ⟨j, hj, rfl⟩ := List.getElem_of_mem hct
    have h9 := hdc.2.2.2.2.2.2.2
    obtain ⟨b, o, A1, a1, K1, k1, _, _, _, hcd, _⟩ := h9.atCt hj
    obtain ⟨_, _, _, _, _, _, hty⟩ := RC.ct.1 hcd
    exact RC.ok _ hty, s4 ct hct⟩)
  have HSMD := Lib.hid s1
  have HCL := Lib.hid s3
  have HSM : Hid (∀ x ∈ ds, SmDc x) := Lib.hid (fun x hx => (smDc_bulk (hbs x hx)).1)
  have HPP : Hid (∀ x ∈ ds ++ [d], x.params.length ≤ 4000000 ∧ ∀ m ∈ x.members, m.index.length ≤ 4000000) := Lib.hid (fun x hx => by
    rcases List.mem_append.1 hx with hx | hx
    · exact (smDc_bulk (hbs x hx)).2.1
    · rw [List.mem_singleton.1 hx]; exact s2)
  have HT := Lib.hid hT
  have HH := Lib.hid hds
  have HD := Lib.hid hd
  have HI1 := Lib.hid hi1
  have HLN := Lib.hid hln
  have hM := hds.lenM
  clear hT hds hd hi1 hln hbs hbd hdc s1 s2 s3 s4
  go_enter Tryd.func4, Tryd.ntmps4
  have H := Hp.start no w
  have hr_ := H.rules; simp only [Rules, and_true] at hr_; have hd_ := H.dif; simp only [Dif, Neq, and_true] at hd_; obtain ⟨ho_, hz_⟩ := H.old0
  go_wp2_with fail
  (try clear hr_ hd_ ho_ hz_)
  refine callsH (by (repeat (first | with_reducible exact H | with_reducible exact H0_ | with_reducible apply Hp.alloc | with_reducible apply Hp.allocMap | with_reducible apply Hp.drew | with_reducible apply Hp.drewN | with_reducible apply Hp.set)); (try any_goals (repeat (first | with_reducible exact Upd.head | with_reducible apply Upd.tail)))) ?_
  clear H; intro w1 H; (try simp only [size_drew_, size_drewN_, World.size_alloc, World.size_setCell, List.set_cons_zero, List.set_cons_succ] at H)
  refine (awake18_calls (HT.out.ext H.ext)).mono ?_
  rintro e w_ ⟨rfl, hx⟩
  replace H := H.call hx
  clear hx
  have hr_ := H.rules; simp only [Rules, and_true] at hr_; have hd_ := H.dif; simp only [Dif, Neq, and_true] at hd_; obtain ⟨ho_, hz_⟩ := H.old0
  go_wp2_with fail
  (try clear hr_ hd_ ho_ hz_)
  refine regionH (by (repeat (first | with_reducible exact H | with_reducible exact H0_ | with_reducible apply Hp.alloc | with_reducible apply Hp.allocMap | with_reducible apply Hp.drew | with_reducible apply Hp.drewN | with_reducible apply Hp.set)); (try any_goals (repeat (first | with_reducible exact Upd.head | with_reducible apply Upd.tail)))) ?_
  clear H; intro w2 H; (try simp only [size_drew_, size_drewN_, World.size_alloc, World.size_setCell, List.set_cons_zero, List.set_cons_succ] at H)
  refine wp_region_H 7 [false, false, false, false, false, false, false] [] H (.cons (i := 0) rfl .nil) (by kernel_rfl) rfl rfl (fun H_ hR_ => ?_)
  (try clear H0_); have H0_ := H; clear H; have H := H_; clear H_
  refine wpL_reads (is := [(1, ?v1_0), (3, ?v1_1)]) (by kernel_rfl) (Nat.le_of_ble_eq_true rfl) (by intro _ _ d_ _ _ h_; cases d_ <;> exact h_) (by kernel_rfl) hR_ (fun w_ hw_ => ?h1_) ?_
  case h1_ =>
    have ho_ := hw_.old0.1; have hz_ := hw_.old0.2; have hr_ := hw_.rules; clear hw_; simp only [Rules, and_true] at hr_; go_split_ands
    (repeat (first | with_reducible exact RdOps.nil | (refine RdOps.run rfl (by rfl) ?_ ?_; (focus (first | (go_simp; done) | (go_simp; with_reducible rfl))); simp only [List.getElem_toArray, List.getElem_cons_zero, List.getElem_cons_succ, Act.put, List.setIfInBounds_toArray, List.set_cons_zero, List.set_cons_succ]) | (refine RdOps.skip rfl (by rfl) ?_ ?_; (focus (with_reducible rfl)); simp only [List.getElem_toArray, List.getElem_cons_zero, List.getElem_cons_succ, Act.put, List.setIfInBounds_toArray, List.set_cons_zero, List.set_cons_succ])))
  simp only [rdMark, rdAct, List.map_cons, List.map_nil, List.length_cons, List.length_nil, Nat.reduceAdd, Nat.reduceSub, Nat.zero_add, List.getElem?_toArray, List.getElem?_cons_zero, List.getElem?_cons_succ, Option.bind_some, Act.put, List.setIfInBounds_toArray, List.set_cons_zero, List.set_cons_succ]
  refine wpL_many (is := [0, 4]) (by kernel_rfl) (by simp) ?_
  simp only [List.forall_mem_cons]
  refine ⟨?_, ?_, fun _ h => by cases h⟩
  · refine wpOp_do (i := 0) rfl (by rfl) (fun K_ hK_ => ?_)
    go_simp
    refine kontH (by (repeat (first | with_reducible exact H | with_reducible exact H0_ | with_reducible apply Hp.alloc | with_reducible apply Hp.allocMap | with_reducible apply Hp.drew | with_reducible apply Hp.drewN | with_reducible apply Hp.set)); (try any_goals (repeat (first | with_reducible exact Upd.head | with_reducible apply Upd.tail)))) ?_
    clear H; intro wb_ H; (try simp only [size_drew_, size_drewN_, World.size_alloc, World.size_setCell, List.set_cons_zero, List.set_cons_succ] at H)
    replace H := H.boxRow0P (e := 37) (z := 16) (by (repeat (first | with_reducible exact Pick.head | with_reducible apply Pick.tail)))
    refine hK_ _ _ (fun _ => H.sub (by simp)) (fun hR_ => ?_)
    replace hR_ := hR_ (by decide)
    refine wpL_many (is := [2, 4]) (by kernel_rfl) (by simp) ?_
    simp only [List.forall_mem_cons]
    refine ⟨?_, ?_, fun _ h => by cases h⟩
    · refine wpOp_do (i := 2) rfl (by rfl) (fun K_ hK_ => ?_)
      refine wp_pushRs (.tmp 24) (.tmp 25) 44 rfl stDcs (by go_simp <;> first | rfl | exact ⟨rfl, rfl⟩) (by go_simp <;> first | rfl | exact ⟨rfl, rfl⟩) H (by (repeat (first | with_reducible exact Pick.head | with_reducible apply Pick.tail))) (HH.out.oldP H.ext) ?_ ?_
      focus (have := HLN.out; simp [M]; omega)
      clear H; intro v1 w5 H
      obtain ⟨P1, p1_, rfl, _, _, _⟩ := (H.rowRd (by (repeat (first | with_reducible exact Pick.head | with_reducible apply Pick.tail)))).slice
      rw [List.nil_append, List.length_map] at H
      (try rw [List.nil_append, List.length_map])
      refine hK_ _ _ (fun _ => H.sub (by simp)) (fun hR_ => ?_)
      replace hR_ := hR_ (by decide)
      simp only [List.getElem_toArray, List.getElem_cons_zero, List.getElem_cons_succ, Act.put, List.setIfInBounds_toArray, List.set_cons_zero, List.set_cons_succ]
      refine wpL_do (i := 4) rfl (by kernel_rfl) (by rfl) (fun K_ hK_ => ?_)
      go_simp
      refine kontH (by (repeat (first | with_reducible exact H | with_reducible exact H0_ | with_reducible apply Hp.alloc | with_reducible apply Hp.allocMap | with_reducible apply Hp.drew | with_reducible apply Hp.drewN | with_reducible apply Hp.set)); (try any_goals (repeat (first | with_reducible exact Upd.head | with_reducible apply Upd.tail)))) ?_
      clear H; intro wb_ H; (try simp only [size_drew_, size_drewN_, World.size_alloc, World.size_setCell, List.set_cons_zero, List.set_cons_succ] at H)
      refine hK_ _ _ (fun _ => H.sub (by simp)) (fun hR_ => ?_)
      replace hR_ := hR_ (by decide)
      refine wpL_do (i := 5) rfl (by kernel_rfl) (by rfl) (fun K_ hK_ => ?_)
      refine wp_pushR (.tmp 26) (.tmp 28) 44 rfl stDcs (by go_simp <;> first | rfl | exact ⟨rfl, rfl⟩) (by go_simp <;> first | rfl | exact ⟨rfl, rfl⟩) H (by (repeat (first | with_reducible exact Pick.head | with_reducible apply Pick.tail))) (by (repeat (first | with_reducible exact Pick.head | with_reducible apply Pick.tail))) (HD.out.oldP H.ext) (Dc.size_d _) ?_ ?_
      focus (have := HLN.out; simp [M]; omega)
      clear H; intro v2 w6 H
      rw [show ds.map Dc.d ++ [d.d] = (ds ++ [d]).map Dc.d by simp] at H
      obtain ⟨P2, p2_, rfl, _, _, _⟩ := (H.rowRd (by (repeat (first | with_reducible exact Pick.head | with_reducible apply Pick.tail)))).slice
      rw [show ((ds ++ [d]).map Dc.d).length = ds.length + 1 by simp] at H
      (try rw [show ((ds ++ [d]).map Dc.d).length = ds.length + 1 by simp])
      obtain ⟨gA, rfl, hgA, hgA2, _, hall⟩ := AllR.of H (by (repeat (first | with_reducible exact Pick.head | with_reducible apply Pick.tail)))
      have bd := H.blk (g := w.heap.size) (t := 37) (cs := [.int .i64 d.kind, .int .i64 d.levels, .int .i64 d.ty.k, .int .i64 d.ty.n, .int .i64 d.ty.a, .slice Aty d.ty.ls.length cty, .slice Kty d.ty.ks.length kty, .int .i64 d.body.k, .int .i64 d.body.n, .int .i64 d.body.a, .slice Abody d.body.ls.length cbody, .slice Kbody d.body.ks.length kbody, .slice Aparams d.params.length cparams, .slice Asort d.sort.length csort, .slice Amembers d.members.length cmembers, .slice Actors d.ctors.length cctors]) (by (repeat (first | with_reducible exact Pick.head | with_reducible apply Pick.tail)))
      have hne : w.heap.size ≠ gA := H.neRow (by (repeat (first | with_reducible exact Pick.head | with_reducible apply Pick.tail))) (by (repeat (first | with_reducible exact Pick.head | with_reducible apply Pick.tail)))
      refine hK_ _ _ (fun _ => H.sub (by simp)) (fun hR_ => ?_)
      replace hR_ := hR_ (by decide)
      simp only [List.getElem_toArray, List.getElem_cons_zero, List.getElem_cons_succ, Act.put, List.setIfInBounds_toArray, List.set_cons_zero, List.set_cons_succ]
      refine wpL_reads (is := [(6, ?v2_0)]) (by kernel_rfl) (Nat.le_of_ble_eq_true rfl) (by intro _ _ d_ _ _ h_; cases d_ <;> exact h_) (by kernel_rfl) hR_ (fun w_ hw_ => ?h2_) ?_
      case h2_ =>
        have ho_ := hw_.old0.1; have hz_ := hw_.old0.2; have hr_ := hw_.rules; clear hw_; simp only [Rules, and_true] at hr_; go_split_ands
        (repeat (first | with_reducible exact RdOps.nil | (refine RdOps.run rfl (by rfl) ?_ ?_; (focus (first | (go_simp; done) | (go_simp; with_reducible rfl))); simp only [List.getElem_toArray, List.getElem_cons_zero, List.getElem_cons_succ, Act.put, List.setIfInBounds_toArray, List.set_cons_zero, List.set_cons_succ]) | (refine RdOps.skip rfl (by rfl) ?_ ?_; (focus (with_reducible rfl)); simp only [List.getElem_toArray, List.getElem_cons_zero, List.getElem_cons_succ, Act.put, List.setIfInBounds_toArray, List.set_cons_zero, List.set_cons_succ])))
      simp only [rdMark, rdAct, List.map_cons, List.map_nil, List.length_cons, List.length_nil, Nat.reduceAdd, Nat.reduceSub, Nat.zero_add, List.getElem?_toArray, List.getElem?_cons_zero, List.getElem?_cons_succ, Option.bind_some, Act.put, List.setIfInBounds_toArray, List.set_cons_zero, List.set_cons_succ]
      refine wpL_done (by kernel_rfl) ?_ _
      repeat ((fail_if_success (with_reducible (first | show Code.wp _ (Code.seq (Code.region 4 _ _) _) _ _ _ | show Code.wp _ (Code.seq (Code.seq (Code.region 4 _ _) _) _) _ _ _))); go_step)
      exact spB HT.out H.ext hall hgA hgA2 (Nat.le_refl _) hne HCL.out HD.out bd HSM.out HSMD.out HI1.out HLN.out HPP.out HOK.out
    · refine wpOp_do (i := 4) rfl (by rfl) (fun K_ hK_ => ?_)
      go_simp
      refine kontH (by (repeat (first | with_reducible exact H | with_reducible exact H0_ | with_reducible apply Hp.alloc | with_reducible apply Hp.allocMap | with_reducible apply Hp.drew | with_reducible apply Hp.drewN | with_reducible apply Hp.set)); (try any_goals (repeat (first | with_reducible exact Upd.head | with_reducible apply Upd.tail)))) ?_
      clear H; intro wb_ H; (try simp only [size_drew_, size_drewN_, World.size_alloc, World.size_setCell, List.set_cons_zero, List.set_cons_succ] at H)
      refine hK_ _ _ (fun _ => H.sub (by simp)) (fun hR_ => ?_)
      replace hR_ := hR_ (by decide)
      refine wpL_do (i := 2) rfl (by kernel_rfl) (by rfl) (fun K_ hK_ => ?_)
      refine wp_pushRs (.tmp 24) (.tmp 25) 44 rfl stDcs (by go_simp <;> first | rfl | exact ⟨rfl, rfl⟩) (by go_simp <;> first | rfl | exact ⟨rfl, rfl⟩) H (by (repeat (first | with_reducible exact Pick.head | with_reducible apply Pick.tail))) (HH.out.oldP H.ext) ?_ ?_
      focus (have := HLN.out; simp [M]; omega)
      clear H; intro v1 w5 H
      obtain ⟨P1, p1_, rfl, _, _, _⟩ := (H.rowRd (by (repeat (first | with_reducible exact Pick.head | with_reducible apply Pick.tail)))).slice
      rw [List.nil_append, List.length_map] at H
      (try rw [List.nil_append, List.length_map])
      refine hK_ _ _ (fun _ => H.sub (by simp)) (fun hR_ => ?_)
      replace hR_ := hR_ (by decide)
      simp only [List.getElem_toArray, List.getElem_cons_zero, List.getElem_cons_succ, Act.put, List.setIfInBounds_toArray, List.set_cons_zero, List.set_cons_succ]
      refine wpL_do (i := 5) rfl (by kernel_rfl) (by rfl) (fun K_ hK_ => ?_)
      refine wp_pushR (.tmp 26) (.tmp 28) 44 rfl stDcs (by go_simp <;> first | rfl | exact ⟨rfl, rfl⟩) (by go_simp <;> first | rfl | exact ⟨rfl, rfl⟩) H (by (repeat (first | with_reducible exact Pick.head | with_reducible apply Pick.tail))) (by (repeat (first | with_reducible exact Pick.head | with_reducible apply Pick.tail))) (HD.out.oldP H.ext) (Dc.size_d _) ?_ ?_
      focus (have := HLN.out; simp [M]; omega)
      clear H; intro v2 w6 H
      rw [show ds.map Dc.d ++ [d.d] = (ds ++ [d]).map Dc.d by simp] at H
      obtain ⟨P2, p2_, rfl, _, _, _⟩ := (H.rowRd (by (repeat (first | with_reducible exact Pick.head | with_reducible apply Pick.tail)))).slice
      rw [show ((ds ++ [d]).map Dc.d).length = ds.length + 1 by simp] at H
      (try rw [show ((ds ++ [d]).map Dc.d).length = ds.length + 1 by simp])
      obtain ⟨gA, rfl, hgA, hgA2, _, hall⟩ := AllR.of H (by (repeat (first | with_reducible exact Pick.head | with_reducible apply Pick.tail)))
      have bd := H.blk (g := w.heap.size) (t := 37) (cs := [.int .i64 d.kind, .int .i64 d.levels, .int .i64 d.ty.k, .int .i64 d.ty.n, .int .i64 d.ty.a, .slice Aty d.ty.ls.length cty, .slice Kty d.ty.ks.length kty, .int .i64 d.body.k, .int .i64 d.body.n, .int .i64 d.body.a, .slice Abody d.body.ls.length cbody, .slice Kbody d.body.ks.length kbody, .slice Aparams d.params.length cparams, .slice Asort d.sort.length csort, .slice Amembers d.members.length cmembers, .slice Actors d.ctors.length cctors]) (by (repeat (first | with_reducible exact Pick.head | with_reducible apply Pick.tail)))
      have hne : w.heap.size ≠ gA := H.neRow (by (repeat (first | with_reducible exact Pick.head | with_reducible apply Pick.tail))) (by (repeat (first | with_reducible exact Pick.head | with_reducible apply Pick.tail)))
      refine hK_ _ _ (fun _ => H.sub (by simp)) (fun hR_ => ?_)
      replace hR_ := hR_ (by decide)
      simp only [List.getElem_toArray, List.getElem_cons_zero, List.getElem_cons_succ, Act.put, List.setIfInBounds_toArray, List.set_cons_zero, List.set_cons_succ]
      refine wpL_reads (is := [(6, ?v3_0)]) (by kernel_rfl) (Nat.le_of_ble_eq_true rfl) (by intro _ _ d_ _ _ h_; cases d_ <;> exact h_) (by kernel_rfl) hR_ (fun w_ hw_ => ?h3_) ?_
      case h3_ =>
        have ho_ := hw_.old0.1; have hz_ := hw_.old0.2; have hr_ := hw_.rules; clear hw_; simp only [Rules, and_true] at hr_; go_split_ands
        (repeat (first | with_reducible exact RdOps.nil | (refine RdOps.run rfl (by rfl) ?_ ?_; (focus (first | (go_simp; done) | (go_simp; with_reducible rfl))); simp only [List.getElem_toArray, List.getElem_cons_zero, List.getElem_cons_succ, Act.put, List.setIfInBounds_toArray, List.set_cons_zero, List.set_cons_succ]) | (refine RdOps.skip rfl (by rfl) ?_ ?_; (focus (with_reducible rfl)); simp only [List.getElem_toArray, List.getElem_cons_zero, List.getElem_cons_succ, Act.put, List.setIfInBounds_toArray, List.set_cons_zero, List.set_cons_succ])))
      simp only [rdMark, rdAct, List.map_cons, List.map_nil, List.length_cons, List.length_nil, Nat.reduceAdd, Nat.reduceSub, Nat.zero_add, List.getElem?_toArray, List.getElem?_cons_zero, List.getElem?_cons_succ, Option.bind_some, Act.put, List.setIfInBounds_toArray, List.set_cons_zero, List.set_cons_succ]
      refine wpL_done (by kernel_rfl) ?_ _
      repeat ((fail_if_success (with_reducible (first | show Code.wp _ (Code.seq (Code.region 4 _ _) _) _ _ _ | show Code.wp _ (Code.seq (Code.seq (Code.region 4 _ _) _) _) _ _ _))); go_step)
      exact spB HT.out H.ext hall hgA hgA2 (Nat.le_refl _) hne HCL.out HD.out bd HSM.out HSMD.out HI1.out HLN.out HPP.out HOK.out
  · refine wpOp_do (i := 4) rfl (by rfl) (fun K_ hK_ => ?_)
    go_simp
    refine kontH (by (repeat (first | with_reducible exact H | with_reducible exact H0_ | with_reducible apply Hp.alloc | with_reducible apply Hp.allocMap | with_reducible apply Hp.drew | with_reducible apply Hp.drewN | with_reducible apply Hp.set)); (try any_goals (repeat (first | with_reducible exact Upd.head | with_reducible apply Upd.tail)))) ?_
    clear H; intro wb_ H; (try simp only [size_drew_, size_drewN_, World.size_alloc, World.size_setCell, List.set_cons_zero, List.set_cons_succ] at H)
    refine hK_ _ _ (fun _ => H.sub (by simp)) (fun hR_ => ?_)
    replace hR_ := hR_ (by decide)
    refine wpL_do (i := 0) rfl (by kernel_rfl) (by rfl) (fun K_ hK_ => ?_)
    go_simp
    refine kontH (by (repeat (first | with_reducible exact H | with_reducible exact H0_ | with_reducible apply Hp.alloc | with_reducible apply Hp.allocMap | with_reducible apply Hp.drew | with_reducible apply Hp.drewN | with_reducible apply Hp.set)); (try any_goals (repeat (first | with_reducible exact Upd.head | with_reducible apply Upd.tail)))) ?_
    clear H; intro wb_ H; (try simp only [size_drew_, size_drewN_, World.size_alloc, World.size_setCell, List.set_cons_zero, List.set_cons_succ] at H)
    replace H := H.boxRow0P (e := 37) (z := 16) (by (repeat (first | with_reducible exact Pick.head | with_reducible apply Pick.tail)))
    refine hK_ _ _ (fun _ => H.sub (by simp)) (fun hR_ => ?_)
    replace hR_ := hR_ (by decide)
    refine wpL_do (i := 2) rfl (by kernel_rfl) (by rfl) (fun K_ hK_ => ?_)
    refine wp_pushRs (.tmp 24) (.tmp 25) 44 rfl stDcs (by go_simp <;> first | rfl | exact ⟨rfl, rfl⟩) (by go_simp <;> first | rfl | exact ⟨rfl, rfl⟩) H (by (repeat (first | with_reducible exact Pick.head | with_reducible apply Pick.tail))) (HH.out.oldP H.ext) ?_ ?_
    focus (have := HLN.out; simp [M]; omega)
    clear H; intro v1 w5 H
    obtain ⟨P1, p1_, rfl, _, _, _⟩ := (H.rowRd (by (repeat (first | with_reducible exact Pick.head | with_reducible apply Pick.tail)))).slice
    rw [List.nil_append, List.length_map] at H
    (try rw [List.nil_append, List.length_map])
    refine hK_ _ _ (fun _ => H.sub (by simp)) (fun hR_ => ?_)
    replace hR_ := hR_ (by decide)
    simp only [List.getElem_toArray, List.getElem_cons_zero, List.getElem_cons_succ, Act.put, List.setIfInBounds_toArray, List.set_cons_zero, List.set_cons_succ]
    refine wpL_do (i := 5) rfl (by kernel_rfl) (by rfl) (fun K_ hK_ => ?_)
    refine wp_pushR (.tmp 26) (.tmp 28) 44 rfl stDcs (by go_simp <;> first | rfl | exact ⟨rfl, rfl⟩) (by go_simp <;> first | rfl | exact ⟨rfl, rfl⟩) H (by (repeat (first | with_reducible exact Pick.head | with_reducible apply Pick.tail))) (by (repeat (first | with_reducible exact Pick.head | with_reducible apply Pick.tail))) (HD.out.oldP H.ext) (Dc.size_d _) ?_ ?_
    focus (have := HLN.out; simp [M]; omega)
    clear H; intro v2 w6 H
    rw [show ds.map Dc.d ++ [d.d] = (ds ++ [d]).map Dc.d by simp] at H
    obtain ⟨P2, p2_, rfl, _, _, _⟩ := (H.rowRd (by (repeat (first | with_reducible exact Pick.head | with_reducible apply Pick.tail)))).slice
    rw [show ((ds ++ [d]).map Dc.d).length = ds.length + 1 by simp] at H
    (try rw [show ((ds ++ [d]).map Dc.d).length = ds.length + 1 by simp])
    obtain ⟨gA, rfl, hgA, hgA2, _, hall⟩ := AllR.of H (by (repeat (first | with_reducible exact Pick.head | with_reducible apply Pick.tail)))
    have bd := H.blk (g := w.heap.size) (t := 37) (cs := [.int .i64 d.kind, .int .i64 d.levels, .int .i64 d.ty.k, .int .i64 d.ty.n, .int .i64 d.ty.a, .slice Aty d.ty.ls.length cty, .slice Kty d.ty.ks.length kty, .int .i64 d.body.k, .int .i64 d.body.n, .int .i64 d.body.a, .slice Abody d.body.ls.length cbody, .slice Kbody d.body.ks.length kbody, .slice Aparams d.params.length cparams, .slice Asort d.sort.length csort, .slice Amembers d.members.length cmembers, .slice Actors d.ctors.length cctors]) (by (repeat (first | with_reducible exact Pick.head | with_reducible apply Pick.tail)))
    have hne : w.heap.size ≠ gA := H.neRow (by (repeat (first | with_reducible exact Pick.head | with_reducible apply Pick.tail))) (by (repeat (first | with_reducible exact Pick.head | with_reducible apply Pick.tail)))
    refine hK_ _ _ (fun _ => H.sub (by simp)) (fun hR_ => ?_)
    replace hR_ := hR_ (by decide)
    simp only [List.getElem_toArray, List.getElem_cons_zero, List.getElem_cons_succ, Act.put, List.setIfInBounds_toArray, List.set_cons_zero, List.set_cons_succ]
    refine wpL_reads (is := [(6, ?v4_0)]) (by kernel_rfl) (Nat.le_of_ble_eq_true rfl) (by intro _ _ d_ _ _ h_; cases d_ <;> exact h_) (by kernel_rfl) hR_ (fun w_ hw_ => ?h4_) ?_
    case h4_ =>
      have ho_ := hw_.old0.1; have hz_ := hw_.old0.2; have hr_ := hw_.rules; clear hw_; simp only [Rules, and_true] at hr_; go_split_ands
      (repeat (first | with_reducible exact RdOps.nil | (refine RdOps.run rfl (by rfl) ?_ ?_; (focus (first | (go_simp; done) | (go_simp; with_reducible rfl))); simp only [List.getElem_toArray, List.getElem_cons_zero, List.getElem_cons_succ, Act.put, List.setIfInBounds_toArray, List.set_cons_zero, List.set_cons_succ]) | (refine RdOps.skip rfl (by rfl) ?_ ?_; (focus (with_reducible rfl)); simp only [List.getElem_toArray, List.getElem_cons_zero, List.getElem_cons_succ, Act.put, List.setIfInBounds_toArray, List.set_cons_zero, List.set_cons_succ])))
    simp only [rdMark, rdAct, List.map_cons, List.map_nil, List.length_cons, List.length_nil, Nat.reduceAdd, Nat.reduceSub, Nat.zero_add, List.getElem?_toArray, List.getElem?_cons_zero, List.getElem?_cons_succ, Option.bind_some, Act.put, List.setIfInBounds_toArray, List.set_cons_zero, List.set_cons_succ]
    refine wpL_done (by kernel_rfl) ?_ _
    repeat ((fail_if_success (with_reducible (first | show Code.wp _ (Code.seq (Code.region 4 _ _) _) _ _ _ | show Code.wp _ (Code.seq (Code.seq (Code.region 4 _ _) _) _) _ _ _))); go_step)
    exact spB HT.out H.ext hall hgA hgA2 (Nat.le_refl _) hne HCL.out HD.out bd HSM.out HSMD.out HI1.out HLN.out HPP.out HOK.out
end Go.Proofs.YtmedomglemllnaaDoor
