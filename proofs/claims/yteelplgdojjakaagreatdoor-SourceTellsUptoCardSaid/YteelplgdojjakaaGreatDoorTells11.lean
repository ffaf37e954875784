/- SourceTells: the walk. No statement of the seat is proved here. -/
import Derived.Test.YteelplgdojjakaaGreatDoorMgAwake11b
import Derived.Test.YteelplgdojjakaaGreatDoorMgKept3
import Derived.Test.YteelplgdojjakaaGreatDoorKept8
namespace Go.Proofs.YteelplgdojjakaaGreatDoor
set_option linter.unusedSimpArgs false
set_option linter.unusedVariables false
open Go.RowKit

theorem RC.tru11 {w : World} {S : Nat → Prop} {d : D} {cs : List Value} (h : RC w S d cs) : RC w (fun _ => True) d cs := RC.frame (Nat.le_refl _) (fun _ _ _ => trivial) (fun _ _ _ => rfl) _ _ h
abbrev tC (t : Tm) (A K : Option Addr) (c k : Nat) : List Value := [.int .i64 t.k, .int .i64 t.n, .int .i64 t.a, .slice A t.ls.length c, .slice K t.ks.length k]
set_option maxRecDepth 100000 in
set_option maxHeartbeats 8000000 in
/-- The lent ones asked, the law's end. -/
theorem tells4 {w W : World} {S S1 : Nat → Prop} {ds : List Dc} {t : Tm} {A A0 K0 A1 T1 T2 : Option Addr} {c ca ck c1 t1 t2 gx gt : Nat} {n sc sf : Int} {G1 G2 : List Nat} {x4 x5 x6 x7 x8 x10 x13 x14 x15 x16 x17 x18 x19 x20 x21 x22 x23 x24 x25 x26 x27 x28 x29 x30 x31 x32 x33 x34 x35 x36 x37 x38 x39 x40 x41 x42 x43 x44 x45 x46 x47 : Value} (hT : Tab w) (h : RC w S (.l 42 16 (ds.map Dc.d)) [.slice A ds.length c]) (hv : RC w S1 t.d (tC t A0 K0 ca ck))
    (H : Hp no w W [.box gx 35 (tC t T1 T2 t1 t2), .box gt 35 (tC t A0 K0 ca ck), .gh G1 (fun w' => KC mkD w' (fun k => w.heap.size ≤ k) (.l 42 16 (ds.map Dc.d)) [.slice A1 ds.length c1]), .gh G2 (fun w' => KC mkD w' (fun k => w.heap.size ≤ k) t.d (tC t T1 T2 t1 t2))]) :
    (fromN 4 (Tryz.f6.body.getD .skip)).wp Tryz.prog (bodyPost Tryz.prog Tryz.f6 (PV w (.bool true))) { tmps := #[.slice A ds.length c, .int .i64 n, .int .i64 sc, .int .i64 sf, x4, x5, x6, x7, x8, .pointer (some ⟨gt, 0, none⟩), x10, .slice A1 ds.length c1, .pointer (some ⟨gx, 0, none⟩), x13, x14, x15, x16, x17, x18, x19, x20, x21, x22, x23, x24, x25, x26, x27, x28, x29, x30, x31, x32, x33, x34, x35, x36, x37, x38, x39, x40, x41, x42, x43, x44, x45, x46, x47], defers := [] } W := by
  have HT := Lib.hid hT
  have HH := Lib.hid h
  have HV := Lib.hid hv
  clear hT h hv
  conv => arg 2; whnf
  have hr_ := H.rules; simp only [Rules, and_true] at hr_; have hd_ := H.dif; simp only [Dif, Neq, and_true] at hd_; obtain ⟨ho_, hz_⟩ := H.old0
  go_wp2_with fail
  (try clear hr_ hd_ ho_ hz_)
  refine regionH (by (repeat (first | with_reducible exact H | with_reducible exact H0_ | with_reducible apply Hp.alloc | with_reducible apply Hp.allocMap | with_reducible apply Hp.drew | with_reducible apply Hp.drewN | with_reducible apply Hp.set)); (try any_goals (repeat (first | with_reducible exact Upd.head | with_reducible apply Upd.tail)))) ?_
  clear H; intro w2 H; (try simp only [size_drew_, size_drewN_, World.size_alloc, World.size_setCell, List.set_cons_zero, List.set_cons_succ] at H)
  refine wp_region_H 27 [false, false, false, false, false, false, false, false, false, false, false, false, false, false, false, false, false, false, false, false, false, false, false, false, false, false, false] [] H (.cons (i := 0) rfl (.cons (i := 1) rfl .nil)) (by kernel_rfl) rfl rfl (fun H_ hR_ => ?_)
  (try clear H0_); have H0_ := H; clear H; have H := H_; clear H_
  refine wpL_reads (is := [(0, ?v1_0), (1, ?v1_1), (2, ?v1_2), (3, ?v1_3), (4, ?v1_4), (6, ?v1_5), (7, ?v1_6), (8, ?v1_7), (9, ?v1_8), (10, ?v1_9)]) (by kernel_rfl) (Nat.le_of_ble_eq_true rfl) (by intro _ _ d_ _ _ h_; cases d_ <;> exact h_) (by kernel_rfl) hR_ (fun w_ hw_ => ?h1_) ?_
  case h1_ =>
    have ho_ := hw_.old0.1; have hz_ := hw_.old0.2; have hr_ := hw_.rules; clear hw_; simp only [Rules, and_true] at hr_; go_split_ands
    (repeat (first | with_reducible exact RdOps.nil | (refine RdOps.run rfl (by rfl) ?_ ?_; (focus (first | (go_simp; done) | (go_simp; with_reducible rfl))); simp only [List.getElem_toArray, List.getElem_cons_zero, List.getElem_cons_succ, Act.put, List.setIfInBounds_toArray, List.set_cons_zero, List.set_cons_succ]) | (refine RdOps.skip rfl (by rfl) ?_ ?_; (focus (with_reducible rfl)); simp only [List.getElem_toArray, List.getElem_cons_zero, List.getElem_cons_succ, Act.put, List.setIfInBounds_toArray, List.set_cons_zero, List.set_cons_succ])))
  simp only [rdMark, rdAct, List.map_cons, List.map_nil, List.length_cons, List.length_nil, Nat.reduceAdd, Nat.reduceSub, Nat.zero_add, List.getElem?_toArray, List.getElem?_cons_zero, List.getElem?_cons_succ, Option.bind_some, Act.put, List.setIfInBounds_toArray, List.set_cons_zero, List.set_cons_succ]
  refine wpL_do (i := 5) rfl (by kernel_rfl) (by rfl) (fun K_ hK_ => ?_)
  go_simp
  have k1 := H.gh (p := fun w' => KC mkD w' (fun k => w.heap.size ≤ k) (.l 42 16 (ds.map Dc.d)) [.slice A1 ds.length c1]) (by (repeat (first | with_reducible exact Pick.head | with_reducible apply Pick.tail)))
  have k2 := H.gh (p := fun w' => KC mkD w' (fun k => w.heap.size ≤ k) t.d (tC t T1 T2 t1 t2)) (by (repeat (first | with_reducible exact Pick.head | with_reducible apply Pick.tail)))
  refine (srcRight_calls (ds := ds) (t := t) (HT.out.ext H.ext) k1.rc rfl ⟨_, _, _, _, rfl, k2.rc⟩).mono ?_
  clear k1 k2
  rintro e w_ ⟨rfl, hx⟩
  replace H := H.call hx
  clear hx
  obtain ⟨q, hq⟩ : ∃ q, q = srcQ ds n sc sf t := ⟨_, rfl⟩
  rw [← hq]
  have HQ := Lib.hid hq
  clear hq
  refine hK_ _ _ (fun _ => H.sub (by simp)) (fun hR_ => ?_)
  replace hR_ := hR_ (by decide)
  refine wpL_do (i := 11) rfl (by kernel_rfl) (by rfl) (fun K_ hK_ => ?_)
  go_simp
  refine (ref11Right_calls (ds := ds) (t := t) (HH.out.ext0 H.ext) rfl ⟨_, _, _, _, rfl, HV.out.ext0 H.ext⟩).mono ?_
  rw [← HQ.out]
  rintro e w_ ⟨rfl, hx⟩
  replace H := H.call hx
  clear hx
  refine hK_ _ _ (fun _ => H.sub (by simp)) (fun hR_ => ?_)
  replace hR_ := hR_ (by decide)
  refine wpL_reads (is := [(12, ?v2_0), (13, ?v2_1), (14, ?v2_2), (15, ?v2_3)]) (by kernel_rfl) (Nat.le_of_ble_eq_true rfl) (by intro _ _ d_ _ _ h_; cases d_ <;> exact h_) (by kernel_rfl) hR_ (fun w_ hw_ => ?h2_) ?_
  case h2_ =>
    have ho_ := hw_.old0.1; have hz_ := hw_.old0.2; have hr_ := hw_.rules; clear hw_; simp only [Rules, and_true] at hr_; go_split_ands
    (repeat (first | with_reducible exact RdOps.nil | (refine RdOps.run rfl (by rfl) ?_ ?_; (focus (first | (go_simp; done) | (go_simp; with_reducible rfl))); simp only [List.getElem_toArray, List.getElem_cons_zero, List.getElem_cons_succ, Act.put, List.setIfInBounds_toArray, List.set_cons_zero, List.set_cons_succ]) | (refine RdOps.skip rfl (by rfl) ?_ ?_; (focus (with_reducible rfl)); simp only [List.getElem_toArray, List.getElem_cons_zero, List.getElem_cons_succ, Act.put, List.setIfInBounds_toArray, List.set_cons_zero, List.set_cons_succ])))
  simp only [rdMark, rdAct, List.map_cons, List.map_nil, List.length_cons, List.length_nil, Nat.reduceAdd, Nat.reduceSub, Nat.zero_add, List.getElem?_toArray, List.getElem?_cons_zero, List.getElem?_cons_succ, Option.bind_some, Act.put, List.setIfInBounds_toArray, List.set_cons_zero, List.set_cons_succ]
  refine wpL_do (i := 16) rfl (by kernel_rfl) (by rfl) (fun K_ hK_ => ?_)
  go_simp
  have k1 := H.gh (p := fun w' => KC mkD w' (fun k => w.heap.size ≤ k) (.l 42 16 (ds.map Dc.d)) [.slice A1 ds.length c1]) (by (repeat (first | with_reducible exact Pick.head | with_reducible apply Pick.tail)))
  refine (keptDecls (xs := ds) k1 (HH.out.ext0 H.ext) rfl).mono ?_
  clear k1
  rintro e w_ ⟨rfl, hx⟩
  replace H := H.call hx
  clear hx
  refine hK_ _ _ (fun _ => H.sub (by simp)) (fun hR_ => ?_)
  replace hR_ := hR_ (by decide)
  refine wpL_reads (is := [(17, ?v3_0), (18, ?v3_1), (19, ?v3_2), (20, ?v3_3)]) (by kernel_rfl) (Nat.le_of_ble_eq_true rfl) (by intro _ _ d_ _ _ h_; cases d_ <;> exact h_) (by kernel_rfl) hR_ (fun w_ hw_ => ?h3_) ?_
  case h3_ =>
    have ho_ := hw_.old0.1; have hz_ := hw_.old0.2; have hr_ := hw_.rules; clear hw_; simp only [Rules, and_true] at hr_; go_split_ands
    (repeat (first | with_reducible exact RdOps.nil | (refine RdOps.run rfl (by rfl) ?_ ?_; (focus (first | (go_simp; done) | (go_simp; with_reducible rfl))); simp only [List.getElem_toArray, List.getElem_cons_zero, List.getElem_cons_succ, Act.put, List.setIfInBounds_toArray, List.set_cons_zero, List.set_cons_succ]) | (refine RdOps.skip rfl (by rfl) ?_ ?_; (focus (with_reducible rfl)); simp only [List.getElem_toArray, List.getElem_cons_zero, List.getElem_cons_succ, Act.put, List.setIfInBounds_toArray, List.set_cons_zero, List.set_cons_succ])))
  simp only [rdMark, rdAct, List.map_cons, List.map_nil, List.length_cons, List.length_nil, Nat.reduceAdd, Nat.reduceSub, Nat.zero_add, List.getElem?_toArray, List.getElem?_cons_zero, List.getElem?_cons_succ, Option.bind_some, Act.put, List.setIfInBounds_toArray, List.set_cons_zero, List.set_cons_succ]
  refine wpL_do (i := 21) rfl (by kernel_rfl) (by rfl) (fun K_ hK_ => ?_)
  go_simp
  have k2 := H.gh (p := fun w' => KC mkD w' (fun k => w.heap.size ≤ k) t.d (tC t T1 T2 t1 t2)) (by (repeat (first | with_reducible exact Pick.head | with_reducible apply Pick.tail)))
  refine (keptTerm t _ _ _ _ _ k2 (HV.out.ext0 H.ext)).mono ?_
  clear k2
  rintro e w_ ⟨rfl, hx⟩
  replace H := H.call hx
  clear hx
  refine hK_ _ _ (fun _ => H.sub (by simp)) (fun hR_ => ?_)
  replace hR_ := hR_ (by decide)
  refine wpL_reads (is := [(22, ?v4_0), (23, ?v4_1)]) (by kernel_rfl) (Nat.le_of_ble_eq_true rfl) (by intro _ _ d_ _ _ h_; cases d_ <;> exact h_) (by kernel_rfl) hR_ (fun w_ hw_ => ?h4_) ?_
  case h4_ =>
    have ho_ := hw_.old0.1; have hz_ := hw_.old0.2; have hr_ := hw_.rules; clear hw_; simp only [Rules, and_true] at hr_; go_split_ands
    (repeat (first | with_reducible exact RdOps.nil | (refine RdOps.run rfl (by rfl) ?_ ?_; (focus (first | (go_simp; done) | (go_simp; with_reducible rfl))); simp only [List.getElem_toArray, List.getElem_cons_zero, List.getElem_cons_succ, Act.put, List.setIfInBounds_toArray, List.set_cons_zero, List.set_cons_succ]) | (refine RdOps.skip rfl (by rfl) ?_ ?_; (focus (with_reducible rfl)); simp only [List.getElem_toArray, List.getElem_cons_zero, List.getElem_cons_succ, Act.put, List.setIfInBounds_toArray, List.set_cons_zero, List.set_cons_succ])))
  simp only [rdMark, rdAct, List.map_cons, List.map_nil, List.length_cons, List.length_nil, Nat.reduceAdd, Nat.reduceSub, Nat.zero_add, List.getElem?_toArray, List.getElem?_cons_zero, List.getElem?_cons_succ, Option.bind_some, Act.put, List.setIfInBounds_toArray, List.set_cons_zero, List.set_cons_succ]
  refine wpL_do (i := 24) rfl (by kernel_rfl) (by rfl) (fun K_ hK_ => ?_)
  go_simp
  refine (awake11_calls (HT.out.ext H.ext)).mono ?_
  rintro e w_ ⟨rfl, hx⟩
  replace H := H.call hx
  clear hx
  refine hK_ _ _ (fun _ => H.sub (by simp)) (fun hR_ => ?_)
  replace hR_ := hR_ (by decide)
  refine wpL_reads (is := [(25, ?v5_0), (26, ?v5_1)]) (by kernel_rfl) (Nat.le_of_ble_eq_true rfl) (by intro _ _ d_ _ _ h_; cases d_ <;> exact h_) (by kernel_rfl) hR_ (fun w_ hw_ => ?h5_) ?_
  case h5_ =>
    have ho_ := hw_.old0.1; have hz_ := hw_.old0.2; have hr_ := hw_.rules; clear hw_; simp only [Rules, and_true] at hr_; go_split_ands
    (repeat (first | with_reducible exact RdOps.nil | (refine RdOps.run rfl (by rfl) ?_ ?_; (focus (first | (go_simp; done) | (go_simp; with_reducible rfl))); simp only [List.getElem_toArray, List.getElem_cons_zero, List.getElem_cons_succ, Act.put, List.setIfInBounds_toArray, List.set_cons_zero, List.set_cons_succ]) | (refine RdOps.skip rfl (by rfl) ?_ ?_; (focus (with_reducible rfl)); simp only [List.getElem_toArray, List.getElem_cons_zero, List.getElem_cons_succ, Act.put, List.setIfInBounds_toArray, List.set_cons_zero, List.set_cons_succ])))
  simp only [rdMark, rdAct, List.map_cons, List.map_nil, List.length_cons, List.length_nil, Nat.reduceAdd, Nat.reduceSub, Nat.zero_add, List.getElem?_toArray, List.getElem?_cons_zero, List.getElem?_cons_succ, Option.bind_some, Act.put, List.setIfInBounds_toArray, List.set_cons_zero, List.set_cons_succ]
  refine wpL_done (by kernel_rfl) ?_ _
  go_wp2_with fail
  go_ret
  exact ⟨rfl, H.ext⟩
set_option maxRecDepth 100000 in
set_option maxHeartbeats 8000000 in
theorem sourceTells_calls {w : World} {S S1 : Nat → Prop} {ds : List Dc} {t : Tm} {v : Value} {A : Option Addr} {m c : Nat} {n sf sc : Int} (hT : Tab w) (h : RC w S (.l 42 16 (ds.map Dc.d)) [.slice A m c]) (hm : m = ds.length) (ht : TV w S1 t v) :
    Calls Tryz.prog 6 #[.slice A m c, .int .i64 n, .int .i64 sc, .int .i64 sf, v] w (PV w (.bool true)) := by
  subst hm
  obtain ⟨A0, ca, K0, ck, rfl, hrc⟩ := ht
  have HV := Lib.hid hrc
  have HT := Lib.hid hT
  have HH := Lib.hid h
  clear hrc hT h
  go_enter Tryz.func6, Tryz.ntmps6
  go_wp2_with fail
  have H := Hp.start no w
  refine callsH (by (repeat (first | with_reducible exact H | with_reducible exact H0_ | with_reducible apply Hp.alloc | with_reducible apply Hp.allocMap | with_reducible apply Hp.drew | with_reducible apply Hp.drewN | with_reducible apply Hp.set)); (try any_goals (repeat (first | with_reducible exact Upd.head | with_reducible apply Upd.tail)))) ?_
  clear H; intro w1 H; (try simp only [size_drew_, size_drewN_, World.size_alloc, World.size_setCell, List.set_cons_zero, List.set_cons_succ] at H)
  have b1 := H.blk (g := w.heap.size + 1) (by (repeat (first | with_reducible exact Pick.head | with_reducible apply Pick.tail)))
  refine (great11_calls (ts := [t]) (HH.out.ext0 H.ext) rfl (one_row (S := fun _ => True) b1 trivial ((HV.out.ext0 H.ext).tru11) (Tm.size_d _)) rfl).mono ?_
  clear b1
  rintro e w_ ⟨q, rfl, hx⟩
  replace H := H.call hx
  clear hx
  cases q
  · have hr_ := H.rules; simp only [Rules, and_true] at hr_; have hd_ := H.dif; simp only [Dif, Neq, and_true] at hd_; obtain ⟨ho_, hz_⟩ := H.old0
    go_wp2_with fail
    (try clear hr_ hd_ ho_ hz_)
    refine regionH (by (repeat (first | with_reducible exact H | with_reducible exact H0_ | with_reducible apply Hp.alloc | with_reducible apply Hp.allocMap | with_reducible apply Hp.drew | with_reducible apply Hp.drewN | with_reducible apply Hp.set)); (try any_goals (repeat (first | with_reducible exact Upd.head | with_reducible apply Upd.tail)))) ?_
    clear H; intro w3 H; (try simp only [size_drew_, size_drewN_, World.size_alloc, World.size_setCell, List.set_cons_zero, List.set_cons_succ] at H)
    refine wp_region_H 7 [false, false, false, false, false, false, false] [] H (.cons (i := 1) rfl .nil) (by kernel_rfl) rfl rfl (fun H_ hR_ => ?_)
    (try clear H0_); have H0_ := H; clear H; have H := H_; clear H_
    refine wpL_reads (is := [(0, ?v6_0), (2, ?v6_1)]) (by kernel_rfl) (Nat.le_of_ble_eq_true rfl) (by intro _ _ d_ _ _ h_; cases d_ <;> exact h_) (by kernel_rfl) hR_ (fun w_ hw_ => ?h6_) ?_
    case h6_ =>
      have ho_ := hw_.old0.1; have hz_ := hw_.old0.2; have hr_ := hw_.rules; clear hw_; simp only [Rules, and_true] at hr_; go_split_ands
      (repeat (first | with_reducible exact RdOps.nil | (refine RdOps.run rfl (by rfl) ?_ ?_; (focus (first | (go_simp; done) | (go_simp; with_reducible rfl))); simp only [List.getElem_toArray, List.getElem_cons_zero, List.getElem_cons_succ, Act.put, List.setIfInBounds_toArray, List.set_cons_zero, List.set_cons_succ]) | (refine RdOps.skip rfl (by rfl) ?_ ?_; (focus (with_reducible rfl)); simp only [List.getElem_toArray, List.getElem_cons_zero, List.getElem_cons_succ, Act.put, List.setIfInBounds_toArray, List.set_cons_zero, List.set_cons_succ])))
    simp only [rdMark, rdAct, List.map_cons, List.map_nil, List.length_cons, List.length_nil, Nat.reduceAdd, Nat.reduceSub, Nat.zero_add, List.getElem?_toArray, List.getElem?_cons_zero, List.getElem?_cons_succ, Option.bind_some, Act.put, List.setIfInBounds_toArray, List.set_cons_zero, List.set_cons_succ]
    refine wpL_many (is := [1, 4]) (by kernel_rfl) (by simp) ?_
    simp only [List.forall_mem_cons]
    refine ⟨?_, ?_, fun _ h => by cases h⟩
    · refine wpOp_do (i := 1) rfl (by rfl) (fun K_ hK_ => ?_)
      go_simp
      refine (lentDecls (xs := ds) (HH.out.ext0 H.ext) rfl).mono ?_
      rintro e w5_ ⟨A1, c1, rfl, hk, hx⟩
      simp only [List.length_map] at hk ⊢
      obtain ⟨G1, H2⟩ := H.resK hx hk
      clear H hx hk
      have H := H2
      clear H2
      refine hK_ _ _ (fun _ => H.sub (by simp)) (fun hR_ => ?_)
      replace hR_ := hR_ (by decide)
      refine wpL_many (is := [3, 4]) (by kernel_rfl) (by simp) ?_
      simp only [List.forall_mem_cons]
      refine ⟨?_, ?_, fun _ h => by cases h⟩
      · refine wpOp_do (i := 3) rfl (by rfl) (fun K_ hK_ => ?_)
        go_simp
        refine (lentTerm t _ _ _ (HV.out.ext0 H.ext)).mono ?_
        rintro e w6_ ⟨cs2, rfl, hk, hx⟩
        obtain ⟨T1, t1, T2, t2, rfl⟩ := hk.tmE
        obtain ⟨G2, H2⟩ := H.resK hx hk
        clear H hx hk
        have H := H2
        clear H2
        refine hK_ _ _ (fun _ => H.sub (by simp)) (fun hR_ => ?_)
        replace hR_ := hR_ (by decide)
        refine wpL_do (i := 4) rfl (by kernel_rfl) (by rfl) (fun K_ hK_ => ?_)
        go_simp
        refine kontH (by (repeat (first | with_reducible exact H | with_reducible exact H0_ | with_reducible apply Hp.alloc | with_reducible apply Hp.allocMap | with_reducible apply Hp.drew | with_reducible apply Hp.drewN | with_reducible apply Hp.set)); (try any_goals (repeat (first | with_reducible exact Upd.head | with_reducible apply Upd.tail)))) ?_
        clear H; intro wb_ H; (try simp only [size_drew_, size_drewN_, World.size_alloc, World.size_setCell, List.set_cons_zero, List.set_cons_succ] at H)
        refine hK_ _ _ (fun _ => H.sub (by simp)) (fun hR_ => ?_)
        replace hR_ := hR_ (by decide)
        refine wpL_reads (is := [(5, ?v7_0)]) (by kernel_rfl) (Nat.le_of_ble_eq_true rfl) (by intro _ _ d_ _ _ h_; cases d_ <;> exact h_) (by kernel_rfl) hR_ (fun w_ hw_ => ?h7_) ?_
        case h7_ =>
          have ho_ := hw_.old0.1; have hz_ := hw_.old0.2; have hr_ := hw_.rules; clear hw_; simp only [Rules, and_true] at hr_; go_split_ands
          (repeat (first | with_reducible exact RdOps.nil | (refine RdOps.run rfl (by rfl) ?_ ?_; (focus (first | (go_simp; done) | (go_simp; with_reducible rfl))); simp only [List.getElem_toArray, List.getElem_cons_zero, List.getElem_cons_succ, Act.put, List.setIfInBounds_toArray, List.set_cons_zero, List.set_cons_succ]) | (refine RdOps.skip rfl (by rfl) ?_ ?_; (focus (with_reducible rfl)); simp only [List.getElem_toArray, List.getElem_cons_zero, List.getElem_cons_succ, Act.put, List.setIfInBounds_toArray, List.set_cons_zero, List.set_cons_succ])))
        simp only [rdMark, rdAct, List.map_cons, List.map_nil, List.length_cons, List.length_nil, Nat.reduceAdd, Nat.reduceSub, Nat.zero_add, List.getElem?_toArray, List.getElem?_cons_zero, List.getElem?_cons_succ, Option.bind_some, Act.put, List.setIfInBounds_toArray, List.set_cons_zero, List.set_cons_succ]
        refine wpL_do (i := 6) rfl (by kernel_rfl) (by rfl) (fun K_ hK_ => ?_)
        refine wp_storeH rfl (by go_simp <;> first | rfl | exact ⟨rfl, rfl⟩) (by go_simp <;> first | rfl | exact ⟨rfl, rfl⟩) H (by (repeat (first | with_reducible exact Upd.head | with_reducible apply Upd.tail))) (by exact aggTerm) (by rfl) (by simp [Value.oneCell']) (fun w9 H_ => ?_)
        clear H; have H := H_; clear H_
        refine hK_ _ _ (fun _ => H.sub (by simp)) (fun _ => ?_)
        refine wpL_done (by kernel_rfl) ?_ _
        repeat ((fail_if_success (with_reducible (show Code.wp _ (Code.seq (Code.region 4 _ _) _) _ _ _))); go_step)
        exact tells4 HT.out HH.out HV.out (H.arr (by (repeat (first | with_reducible exact Arr.nil | refine Arr.cons (by (repeat (first | with_reducible exact Pick.head | with_reducible apply Pick.tail))) ?_)) <;> exact Arr.of_subl (by (repeat (first | with_reducible exact Subl.refl _ | with_reducible apply Subl.drop)))))
      · refine wpOp_do (i := 4) rfl (by rfl) (fun K_ hK_ => ?_)
        go_simp
        refine kontH (by (repeat (first | with_reducible exact H | with_reducible exact H0_ | with_reducible apply Hp.alloc | with_reducible apply Hp.allocMap | with_reducible apply Hp.drew | with_reducible apply Hp.drewN | with_reducible apply Hp.set)); (try any_goals (repeat (first | with_reducible exact Upd.head | with_reducible apply Upd.tail)))) ?_
        clear H; intro wb_ H; (try simp only [size_drew_, size_drewN_, World.size_alloc, World.size_setCell, List.set_cons_zero, List.set_cons_succ] at H)
        refine hK_ _ _ (fun _ => H.sub (by simp)) (fun hR_ => ?_)
        replace hR_ := hR_ (by decide)
        refine wpL_do (i := 3) rfl (by kernel_rfl) (by rfl) (fun K_ hK_ => ?_)
        go_simp
        refine (lentTerm t _ _ _ (HV.out.ext0 H.ext)).mono ?_
        rintro e w6_ ⟨cs2, rfl, hk, hx⟩
        obtain ⟨T1, t1, T2, t2, rfl⟩ := hk.tmE
        obtain ⟨G2, H2⟩ := H.resK hx hk
        clear H hx hk
        have H := H2
        clear H2
        refine hK_ _ _ (fun _ => H.sub (by simp)) (fun hR_ => ?_)
        replace hR_ := hR_ (by decide)
        refine wpL_reads (is := [(5, ?v8_0)]) (by kernel_rfl) (Nat.le_of_ble_eq_true rfl) (by intro _ _ d_ _ _ h_; cases d_ <;> exact h_) (by kernel_rfl) hR_ (fun w_ hw_ => ?h8_) ?_
        case h8_ =>
          have ho_ := hw_.old0.1; have hz_ := hw_.old0.2; have hr_ := hw_.rules; clear hw_; simp only [Rules, and_true] at hr_; go_split_ands
          (repeat (first | with_reducible exact RdOps.nil | (refine RdOps.run rfl (by rfl) ?_ ?_; (focus (first | (go_simp; done) | (go_simp; with_reducible rfl))); simp only [List.getElem_toArray, List.getElem_cons_zero, List.getElem_cons_succ, Act.put, List.setIfInBounds_toArray, List.set_cons_zero, List.set_cons_succ]) | (refine RdOps.skip rfl (by rfl) ?_ ?_; (focus (with_reducible rfl)); simp only [List.getElem_toArray, List.getElem_cons_zero, List.getElem_cons_succ, Act.put, List.setIfInBounds_toArray, List.set_cons_zero, List.set_cons_succ])))
        simp only [rdMark, rdAct, List.map_cons, List.map_nil, List.length_cons, List.length_nil, Nat.reduceAdd, Nat.reduceSub, Nat.zero_add, List.getElem?_toArray, List.getElem?_cons_zero, List.getElem?_cons_succ, Option.bind_some, Act.put, List.setIfInBounds_toArray, List.set_cons_zero, List.set_cons_succ]
        refine wpL_do (i := 6) rfl (by kernel_rfl) (by rfl) (fun K_ hK_ => ?_)
        refine wp_storeH rfl (by go_simp <;> first | rfl | exact ⟨rfl, rfl⟩) (by go_simp <;> first | rfl | exact ⟨rfl, rfl⟩) H (by (repeat (first | with_reducible exact Upd.head | with_reducible apply Upd.tail))) (by exact aggTerm) (by rfl) (by simp [Value.oneCell']) (fun w9 H_ => ?_)
        clear H; have H := H_; clear H_
        refine hK_ _ _ (fun _ => H.sub (by simp)) (fun _ => ?_)
        refine wpL_done (by kernel_rfl) ?_ _
        repeat ((fail_if_success (with_reducible (show Code.wp _ (Code.seq (Code.region 4 _ _) _) _ _ _))); go_step)
        exact tells4 HT.out HH.out HV.out (H.arr (by (repeat (first | with_reducible exact Arr.nil | refine Arr.cons (by (repeat (first | with_reducible exact Pick.head | with_reducible apply Pick.tail))) ?_)) <;> exact Arr.of_subl (by (repeat (first | with_reducible exact Subl.refl _ | with_reducible apply Subl.drop)))))
    · refine wpOp_do (i := 4) rfl (by rfl) (fun K_ hK_ => ?_)
      go_simp
      refine kontH (by (repeat (first | with_reducible exact H | with_reducible exact H0_ | with_reducible apply Hp.alloc | with_reducible apply Hp.allocMap | with_reducible apply Hp.drew | with_reducible apply Hp.drewN | with_reducible apply Hp.set)); (try any_goals (repeat (first | with_reducible exact Upd.head | with_reducible apply Upd.tail)))) ?_
      clear H; intro wb_ H; (try simp only [size_drew_, size_drewN_, World.size_alloc, World.size_setCell, List.set_cons_zero, List.set_cons_succ] at H)
      refine hK_ _ _ (fun _ => H.sub (by simp)) (fun hR_ => ?_)
      replace hR_ := hR_ (by decide)
      refine wpL_do (i := 1) rfl (by kernel_rfl) (by rfl) (fun K_ hK_ => ?_)
      go_simp
      refine (lentDecls (xs := ds) (HH.out.ext0 H.ext) rfl).mono ?_
      rintro e w5_ ⟨A1, c1, rfl, hk, hx⟩
      simp only [List.length_map] at hk ⊢
      obtain ⟨G1, H2⟩ := H.resK hx hk
      clear H hx hk
      have H := H2
      clear H2
      refine hK_ _ _ (fun _ => H.sub (by simp)) (fun hR_ => ?_)
      replace hR_ := hR_ (by decide)
      refine wpL_do (i := 3) rfl (by kernel_rfl) (by rfl) (fun K_ hK_ => ?_)
      go_simp
      refine (lentTerm t _ _ _ (HV.out.ext0 H.ext)).mono ?_
      rintro e w6_ ⟨cs2, rfl, hk, hx⟩
      obtain ⟨T1, t1, T2, t2, rfl⟩ := hk.tmE
      obtain ⟨G2, H2⟩ := H.resK hx hk
      clear H hx hk
      have H := H2
      clear H2
      refine hK_ _ _ (fun _ => H.sub (by simp)) (fun hR_ => ?_)
      replace hR_ := hR_ (by decide)
      refine wpL_reads (is := [(5, ?v9_0)]) (by kernel_rfl) (Nat.le_of_ble_eq_true rfl) (by intro _ _ d_ _ _ h_; cases d_ <;> exact h_) (by kernel_rfl) hR_ (fun w_ hw_ => ?h9_) ?_
      case h9_ =>
        have ho_ := hw_.old0.1; have hz_ := hw_.old0.2; have hr_ := hw_.rules; clear hw_; simp only [Rules, and_true] at hr_; go_split_ands
        (repeat (first | with_reducible exact RdOps.nil | (refine RdOps.run rfl (by rfl) ?_ ?_; (focus (first | (go_simp; done) | (go_simp; with_reducible rfl))); simp only [List.getElem_toArray, List.getElem_cons_zero, List.getElem_cons_succ, Act.put, List.setIfInBounds_toArray, List.set_cons_zero, List.set_cons_succ]) | (refine RdOps.skip rfl (by rfl) ?_ ?_; (focus (with_reducible rfl)); simp only [List.getElem_toArray, List.getElem_cons_zero, List.getElem_cons_succ, Act.put, List.setIfInBounds_toArray, List.set_cons_zero, List.set_cons_succ])))
      simp only [rdMark, rdAct, List.map_cons, List.map_nil, List.length_cons, List.length_nil, Nat.reduceAdd, Nat.reduceSub, Nat.zero_add, List.getElem?_toArray, List.getElem?_cons_zero, List.getElem?_cons_succ, Option.bind_some, Act.put, List.setIfInBounds_toArray, List.set_cons_zero, List.set_cons_succ]
      refine wpL_do (i := 6) rfl (by kernel_rfl) (by rfl) (fun K_ hK_ => ?_)
      refine wp_storeH rfl (by go_simp <;> first | rfl | exact ⟨rfl, rfl⟩) (by go_simp <;> first | rfl | exact ⟨rfl, rfl⟩) H (by (repeat (first | with_reducible exact Upd.head | with_reducible apply Upd.tail))) (by exact aggTerm) (by rfl) (by simp [Value.oneCell']) (fun w9 H_ => ?_)
      clear H; have H := H_; clear H_
      refine hK_ _ _ (fun _ => H.sub (by simp)) (fun _ => ?_)
      refine wpL_done (by kernel_rfl) ?_ _
      repeat ((fail_if_success (with_reducible (show Code.wp _ (Code.seq (Code.region 4 _ _) _) _ _ _))); go_step)
      exact tells4 HT.out HH.out HV.out (H.arr (by (repeat (first | with_reducible exact Arr.nil | refine Arr.cons (by (repeat (first | with_reducible exact Pick.head | with_reducible apply Pick.tail))) ?_)) <;> exact Arr.of_subl (by (repeat (first | with_reducible exact Subl.refl _ | with_reducible apply Subl.drop)))))
  · go_wp2_with fail
    refine (awake11_calls (HT.out.ext H.ext)).mono ?_
    rintro e w_ ⟨rfl, hx⟩
    replace H := H.call hx
    clear hx
    go_wp2_with fail
    go_ret
    exact ⟨rfl, H.ext⟩
end Go.Proofs.YteelplgdojjakaaGreatDoor
