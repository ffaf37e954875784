/- SourceGrows: the whole law. No statement of the seat is proved here. -/
import Derived.Test.YtgbokmphbimihaaDoorGrowsR
namespace Go.Proofs.YtgbokmphbimihaaDoor
set_option linter.unusedSimpArgs false
set_option linter.unusedVariables false
open Go.RowKit

/-- A box of two terms as a row. -/
theorem Hp.twoRd {w0 w : World} {l l' : List Ch} {g e : Nat} {t u : Tm} {A1 K1 A2 K2 : Option Addr} {c1 k1 c2 k2 : Nat} {S S1 : Nat → Prop} (H : Hp no w0 w l) (p : Pick l (.box g e [.int .i64 t.k, .int .i64 t.n, .int .i64 t.a, .slice A1 t.ls.length c1, .slice K1 t.ks.length k1, .int .i64 u.k, .int .i64 u.n, .int .i64 u.a, .slice A2 u.ls.length c2, .slice K2 u.ks.length k2]) l') (h : RC w0 S t.d (tcL t A1 K1 c1 k1)) (k : RC w0 S1 u.d (tcL u A2 K2 c2 k2)) : ∃ S', RC w S' (.l 26 5 ([t, u].map Tm.d)) [.slice (some ⟨g, 0, none⟩) 2 2] :=
  ⟨fun _ => True, rowOf (cs := tcL t A1 K1 c1 k1 ++ tcL u A2 K2 c2 k2) (H.blk p) trivial (RCs.two (RC.frame (Nat.le_refl _) (fun _ _ _ => trivial) (fun _ _ _ => rfl) _ _ (h.ext0 H.ext)) (RC.frame (Nat.le_refl _) (fun _ _ _ => trivial) (fun _ _ _ => rfl) _ _ (k.ext0 H.ext))) (by simp [Tm.size_d]) rfl (by simp)⟩
set_option maxRecDepth 100000 in
set_option maxHeartbeats 16000000 in
theorem sourceGrows_calls {w : World} {S S1 S2 S3 : Nat → Prop} {ds es : List Dc} {t a : Tm} {vt va : Value} {n sc sf more : Int} {A Ae : Option Addr} {c ce dl el : Nat} (hT : Tab w) (h : RC w S (.l 37 16 (ds.map Dc.d)) [.slice A dl c]) (hdl : dl = ds.length) (he : RC w S3 (.l 37 16 (es.map Dc.d)) [.slice Ae el ce]) (hel : el = es.length)
    (hM : ds.length + es.length ≤ 4000000000) (in1 : inI n) (in2 : inI sf) (ht : TV w S1 t vt) (ha : TV w S2 a va) :
    Calls Tryd.prog 5 #[.slice A dl c, .slice Ae el ce, .int .i64 n, .int .i64 sc, .int .i64 sf, vt, va, .int .i64 more] w (PV w (.bool true)) := by
  subst hdl hel
  obtain ⟨A1, d1, K1, k1, rfl, ht⟩ := ht
  obtain ⟨A2, d2, K2, k2, rfl, ha⟩ := ha
  have HT := Lib.hid hT
  have HH := Lib.hid h
  have HE := Lib.hid he
  have HTM := Lib.hid ht
  have HA := Lib.hid ha
  have HML := Lib.hid hM
  have HN1 := Lib.hid in1
  have HN2 := Lib.hid in2
  have hM1 : ds.length ≤ 4000000000 := by omega
  have hM2 := hM
  clear hT h he ht ha in1 in2 hM
  go_enter Tryd.func5, Tryd.ntmps5
  have H := Hp.start no w
  have hr_ := H.rules; simp only [Rules, and_true] at hr_; have hd_ := H.dif; simp only [Dif, Neq, and_true] at hd_; obtain ⟨ho_, hz_⟩ := H.old0
  go_wp2_with fail
  (try clear hr_ hd_ ho_ hz_)
  refine callsH (by (repeat (first | with_reducible exact H | with_reducible exact H0_ | with_reducible apply Hp.alloc | with_reducible apply Hp.allocMap | with_reducible apply Hp.drew | with_reducible apply Hp.drewN | with_reducible apply Hp.set)); (try any_goals (repeat (first | with_reducible exact Upd.head | with_reducible apply Upd.tail)))) ?_
  clear H; intro w1 H; (try simp only [size_drew_, size_drewN_, World.size_alloc, World.size_setCell, List.set_cons_zero, List.set_cons_succ] at H)
  refine (awake11_calls (HT.out.ext H.ext)).mono ?_
  rintro e w_ ⟨rfl, hx⟩
  replace H := H.call hx
  clear hx
  have hr_ := H.rules; simp only [Rules, and_true] at hr_; have hd_ := H.dif; simp only [Dif, Neq, and_true] at hd_; obtain ⟨ho_, hz_⟩ := H.old0
  go_wp2_with fail
  (try clear hr_ hd_ ho_ hz_)
  refine regionH (by (repeat (first | with_reducible exact H | with_reducible exact H0_ | with_reducible apply Hp.alloc | with_reducible apply Hp.allocMap | with_reducible apply Hp.drew | with_reducible apply Hp.drewN | with_reducible apply Hp.set)); (try any_goals (repeat (first | with_reducible exact Upd.head | with_reducible apply Upd.tail)))) ?_
  clear H; intro w2 H; (try simp only [size_drew_, size_drewN_, World.size_alloc, World.size_setCell, List.set_cons_zero, List.set_cons_succ] at H)
  refine wp_region_H 42 [false, false, false, false, false, false, false, false, false, false, false, false, false, false, false, false, false, false, false, false, false, false, false, false, false, false, false, false, false, false, false, false, false, false, false, false, false, false, false, false, false, false] [] H (.cons (i := 0) rfl (.cons (i := 1) rfl .nil)) (by kernel_rfl) rfl rfl (fun H_ hR_ => ?_)
  (try clear H0_); have H0_ := H; clear H; have H := H_; clear H_
  refine wpL_reads (is := [(1, ?v1_0), (3, ?v1_1), (5, ?v1_2), (6, ?v1_3)]) (by kernel_rfl) (Nat.le_of_ble_eq_true rfl) (by intro _ _ d_ _ _ h_; cases d_ <;> exact h_) (by kernel_rfl) hR_ (fun w_ hw_ => ?h1_) ?_
  case h1_ =>
    have ho_ := hw_.old0.1; have hz_ := hw_.old0.2; have hr_ := hw_.rules; clear hw_; simp only [Rules, and_true] at hr_; go_split_ands
    (repeat (first | with_reducible exact RdOps.nil | (refine RdOps.run rfl (by rfl) ?_ ?_; (focus (first | (go_simp; done) | (go_simp; with_reducible rfl))); simp only [List.getElem_toArray, List.getElem_cons_zero, List.getElem_cons_succ, Act.put, List.setIfInBounds_toArray, List.set_cons_zero, List.set_cons_succ]) | (refine RdOps.skip rfl (by rfl) ?_ ?_; (focus (with_reducible rfl)); simp only [List.getElem_toArray, List.getElem_cons_zero, List.getElem_cons_succ, Act.put, List.setIfInBounds_toArray, List.set_cons_zero, List.set_cons_succ])))
  simp only [rdMark, rdAct, List.map_cons, List.map_nil, List.length_cons, List.length_nil, Nat.reduceAdd, Nat.reduceSub, Nat.zero_add, List.getElem?_toArray, List.getElem?_cons_zero, List.getElem?_cons_succ, Option.bind_some, Act.put, List.setIfInBounds_toArray, List.set_cons_zero, List.set_cons_succ]
  refine wpL_many (is := [0, 7]) (by kernel_rfl) (by simp) ?_
  simp only [List.forall_mem_cons]
  refine ⟨?_, ?_, fun _ h => by cases h⟩
  · refine wpOp_do (i := 0) rfl (by rfl) (fun K_ hK_ => ?_)
    go_simp
    refine kontH (by (repeat (first | with_reducible exact H | with_reducible exact H0_ | with_reducible apply Hp.alloc | with_reducible apply Hp.allocMap | with_reducible apply Hp.drew | with_reducible apply Hp.drewN | with_reducible apply Hp.set)); (try any_goals (repeat (first | with_reducible exact Upd.head | with_reducible apply Upd.tail)))) ?_
    clear H; intro wb_ H; (try simp only [size_drew_, size_drewN_, World.size_alloc, World.size_setCell, List.set_cons_zero, List.set_cons_succ] at H)
    replace H := H.boxRow0 (e := 37) (z := 16) (by (repeat (first | with_reducible exact Pick.head | with_reducible apply Pick.tail)))
    refine hK_ _ _ (fun _ => H.sub (by simp)) (fun hR_ => ?_)
    replace hR_ := hR_ (by decide)
    refine wpL_many (is := [2, 7]) (by kernel_rfl) (by simp) ?_
    simp only [List.forall_mem_cons]
    refine ⟨?_, ?_, fun _ h => by cases h⟩
    · refine wpOp_do (i := 2) rfl (by rfl) (fun K_ hK_ => ?_)
      refine wp_pushRs (.tmp 21) (.tmp 22) 44 rfl stDcs (by go_simp <;> first | rfl | exact ⟨rfl, rfl⟩) (by go_simp <;> first | rfl | exact ⟨rfl, rfl⟩) H (by (repeat (first | with_reducible exact Pick.head | with_reducible apply Pick.tail))) (HH.out.oldPG H.ext) ?_ ?_
      focus (simp [M]; omega)
      clear H; intro v1 w5 H
      obtain ⟨P1, p1_, rfl, _, _, _⟩ := (H.rowRdG (by (repeat (first | with_reducible exact Pick.head | with_reducible apply Pick.tail)))).slice
      rw [List.nil_append, List.length_map] at H
      (try rw [List.nil_append, List.length_map])
      refine hK_ _ _ (fun _ => H.sub (by simp)) (fun hR_ => ?_)
      replace hR_ := hR_ (by decide)
      refine wpL_many (is := [4, 7]) (by kernel_rfl) (by simp) ?_
      simp only [List.forall_mem_cons]
      refine ⟨?_, ?_, fun _ h => by cases h⟩
      · refine wpOp_do (i := 4) rfl (by rfl) (fun K_ hK_ => ?_)
        refine wp_pushRs (.tmp 23) (.tmp 24) 44 rfl stDcs (by go_simp <;> first | rfl | exact ⟨rfl, rfl⟩) (by go_simp <;> first | rfl | exact ⟨rfl, rfl⟩) H (by (repeat (first | with_reducible exact Pick.head | with_reducible apply Pick.tail))) (HE.out.oldPG H.ext) ?_ ?_
        focus (simp [M]; omega)
        clear H; intro v2 w6 H
        obtain ⟨P2, p2_, rfl, _, _, _⟩ := (H.rowRdG (by (repeat (first | with_reducible exact Pick.head | with_reducible apply Pick.tail)))).slice
        refine hK_ _ _ (fun _ => H.sub (by simp)) (fun hR_ => ?_)
        replace hR_ := hR_ (by decide)
        refine wpL_do (i := 7) rfl (by kernel_rfl) (by rfl) (fun K_ hK_ => ?_)
        go_simp
        refine kontH (by (repeat (first | with_reducible exact H | with_reducible exact H0_ | with_reducible apply Hp.alloc | with_reducible apply Hp.allocMap | with_reducible apply Hp.drew | with_reducible apply Hp.drewN | with_reducible apply Hp.set)); (try any_goals (repeat (first | with_reducible exact Upd.head | with_reducible apply Upd.tail)))) ?_
        clear H; intro wb_ H; (try simp only [size_drew_, size_drewN_, World.size_alloc, World.size_setCell, List.set_cons_zero, List.set_cons_succ] at H)
        refine hK_ _ _ (fun _ => H.sub (by simp)) (fun hR_ => ?_)
        replace hR_ := hR_ (by decide)
        refine wpL_do (i := 8) rfl (by kernel_rfl) (by rfl) (fun K_ hK_ => ?_)
        go_simp
        have hrow := H.rowRdG (e := 37) (z := 16) (by (repeat (first | with_reducible exact Pick.head | with_reducible apply Pick.tail)))
        rw [← List.map_append] at hrow
        (try rw [show ((ds ++ es).map Dc.d).length = ds.length + es.length by simp] at hrow)
        obtain ⟨S5, htwo⟩ := H.twoRd (t := t) (u := a) (by (repeat (first | with_reducible exact Pick.head | with_reducible apply Pick.tail))) HTM.out HA.out
        refine (great11_calls (ds := ds ++ es) (ts := [t, a]) hrow (by simp) htwo rfl).mono ?_
        clear hrow htwo
        rintro e w_ ⟨q, rfl, hx⟩
        replace H := H.call hx
        clear hx
        refine hK_ _ _ (fun _ => H.sub (by simp)) (fun hR_ => ?_)
        replace hR_ := hR_ (by decide)
        refine growsR (S2 := S2) (S3 := S3) HT.out HH.out HTM.out H hR_ (fun w_ h_ => (h_.sub (by simp)).2) (by intro _ _ d_ _ _ h_; cases d_ <;> exact h_) ?_
        intro y30 y31 y32 y33 y34 y35 y36 y37 y38 y39 y40 y41 y42 y43 y44 y45 y46 y47 y48 y49 y50 y51 y52 y53 y54 y55 y56 y57 y58 y59 y60 y61 b W6 H6 hb
        clear H hR_
        cases b
        · obtain ⟨b0, b1, b2, b3, b4, b5, b6⟩ := hb rfl
          repeat ((fail_if_success (with_reducible (first | show Code.wp _ (Code.seq (Code.region 5 _ _) _) _ _ _ | show Code.wp _ (Code.seq (Code.seq (Code.region 5 _ _) _) _) _ _ _))); go_step)
          exact growsB (HT.out.ext H6.ext) H6.ext (HH.out.ext0 H6.ext) (HE.out.ext0 H6.ext) HML.out HN1.out HN2.out (HTM.out.ext0 H6.ext) (HA.out.ext0 H6.ext) (H6.blk (by (repeat (first | with_reducible exact Pick.head | with_reducible apply Pick.tail)))) (H6.blk (by (repeat (first | with_reducible exact Pick.head | with_reducible apply Pick.tail)))) b0 b1 b2 b3 b4 b5 b6
        · go_wp2_with fail
          refine endH (by (repeat (first | with_reducible exact H6 | with_reducible exact H0_ | with_reducible apply Hp.alloc | with_reducible apply Hp.allocMap | with_reducible apply Hp.drew | with_reducible apply Hp.drewN | with_reducible apply Hp.set)); (try any_goals (repeat (first | with_reducible exact Upd.head | with_reducible apply Upd.tail)))) ?_
          clear H6; intro w10 H6; (try simp only [size_drew_, size_drewN_, World.size_alloc, World.size_setCell, List.set_cons_zero, List.set_cons_succ] at H6)
          go_ret
          exact ⟨rfl, H6.ext⟩
      · refine wpOp_do (i := 7) rfl (by rfl) (fun K_ hK_ => ?_)
        go_simp
        refine kontH (by (repeat (first | with_reducible exact H | with_reducible exact H0_ | with_reducible apply Hp.alloc | with_reducible apply Hp.allocMap | with_reducible apply Hp.drew | with_reducible apply Hp.drewN | with_reducible apply Hp.set)); (try any_goals (repeat (first | with_reducible exact Upd.head | with_reducible apply Upd.tail)))) ?_
        clear H; intro wb_ H; (try simp only [size_drew_, size_drewN_, World.size_alloc, World.size_setCell, List.set_cons_zero, List.set_cons_succ] at H)
        refine hK_ _ _ (fun _ => H.sub (by simp)) (fun hR_ => ?_)
        replace hR_ := hR_ (by decide)
        refine wpL_do (i := 4) rfl (by kernel_rfl) (by rfl) (fun K_ hK_ => ?_)
        refine wp_pushRs (.tmp 23) (.tmp 24) 44 rfl stDcs (by go_simp <;> first | rfl | exact ⟨rfl, rfl⟩) (by go_simp <;> first | rfl | exact ⟨rfl, rfl⟩) H (by (repeat (first | with_reducible exact Pick.head | with_reducible apply Pick.tail))) (HE.out.oldPG H.ext) ?_ ?_
        focus (simp [M]; omega)
        clear H; intro v2 w6 H
        obtain ⟨P2, p2_, rfl, _, _, _⟩ := (H.rowRdG (by (repeat (first | with_reducible exact Pick.head | with_reducible apply Pick.tail)))).slice
        refine hK_ _ _ (fun _ => H.sub (by simp)) (fun hR_ => ?_)
        replace hR_ := hR_ (by decide)
        refine wpL_do (i := 8) rfl (by kernel_rfl) (by rfl) (fun K_ hK_ => ?_)
        go_simp
        have hrow := H.rowRdG (e := 37) (z := 16) (by (repeat (first | with_reducible exact Pick.head | with_reducible apply Pick.tail)))
        rw [← List.map_append] at hrow
        (try rw [show ((ds ++ es).map Dc.d).length = ds.length + es.length by simp] at hrow)
        obtain ⟨S5, htwo⟩ := H.twoRd (t := t) (u := a) (by (repeat (first | with_reducible exact Pick.head | with_reducible apply Pick.tail))) HTM.out HA.out
        refine (great11_calls (ds := ds ++ es) (ts := [t, a]) hrow (by simp) htwo rfl).mono ?_
        clear hrow htwo
        rintro e w_ ⟨q, rfl, hx⟩
        replace H := H.call hx
        clear hx
        refine hK_ _ _ (fun _ => H.sub (by simp)) (fun hR_ => ?_)
        replace hR_ := hR_ (by decide)
        refine growsR (S2 := S2) (S3 := S3) HT.out HH.out HTM.out H hR_ (fun w_ h_ => (h_.sub (by simp)).2) (by intro _ _ d_ _ _ h_; cases d_ <;> exact h_) ?_
        intro y30 y31 y32 y33 y34 y35 y36 y37 y38 y39 y40 y41 y42 y43 y44 y45 y46 y47 y48 y49 y50 y51 y52 y53 y54 y55 y56 y57 y58 y59 y60 y61 b W6 H6 hb
        clear H hR_
        cases b
        · obtain ⟨b0, b1, b2, b3, b4, b5, b6⟩ := hb rfl
          repeat ((fail_if_success (with_reducible (first | show Code.wp _ (Code.seq (Code.region 5 _ _) _) _ _ _ | show Code.wp _ (Code.seq (Code.seq (Code.region 5 _ _) _) _) _ _ _))); go_step)
          exact growsB (HT.out.ext H6.ext) H6.ext (HH.out.ext0 H6.ext) (HE.out.ext0 H6.ext) HML.out HN1.out HN2.out (HTM.out.ext0 H6.ext) (HA.out.ext0 H6.ext) (H6.blk (by (repeat (first | with_reducible exact Pick.head | with_reducible apply Pick.tail)))) (H6.blk (by (repeat (first | with_reducible exact Pick.head | with_reducible apply Pick.tail)))) b0 b1 b2 b3 b4 b5 b6
        · go_wp2_with fail
          refine endH (by (repeat (first | with_reducible exact H6 | with_reducible exact H0_ | with_reducible apply Hp.alloc | with_reducible apply Hp.allocMap | with_reducible apply Hp.drew | with_reducible apply Hp.drewN | with_reducible apply Hp.set)); (try any_goals (repeat (first | with_reducible exact Upd.head | with_reducible apply Upd.tail)))) ?_
          clear H6; intro w10 H6; (try simp only [size_drew_, size_drewN_, World.size_alloc, World.size_setCell, List.set_cons_zero, List.set_cons_succ] at H6)
          go_ret
          exact ⟨rfl, H6.ext⟩
    · refine wpOp_do (i := 7) rfl (by rfl) (fun K_ hK_ => ?_)
      go_simp
      refine kontH (by (repeat (first | with_reducible exact H | with_reducible exact H0_ | with_reducible apply Hp.alloc | with_reducible apply Hp.allocMap | with_reducible apply Hp.drew | with_reducible apply Hp.drewN | with_reducible apply Hp.set)); (try any_goals (repeat (first | with_reducible exact Upd.head | with_reducible apply Upd.tail)))) ?_
      clear H; intro wb_ H; (try simp only [size_drew_, size_drewN_, World.size_alloc, World.size_setCell, List.set_cons_zero, List.set_cons_succ] at H)
      refine hK_ _ _ (fun _ => H.sub (by simp)) (fun hR_ => ?_)
      replace hR_ := hR_ (by decide)
      refine wpL_do (i := 2) rfl (by kernel_rfl) (by rfl) (fun K_ hK_ => ?_)
      refine wp_pushRs (.tmp 21) (.tmp 22) 44 rfl stDcs (by go_simp <;> first | rfl | exact ⟨rfl, rfl⟩) (by go_simp <;> first | rfl | exact ⟨rfl, rfl⟩) H (by (repeat (first | with_reducible exact Pick.head | with_reducible apply Pick.tail))) (HH.out.oldPG H.ext) ?_ ?_
      focus (simp [M]; omega)
      clear H; intro v1 w5 H
      obtain ⟨P1, p1_, rfl, _, _, _⟩ := (H.rowRdG (by (repeat (first | with_reducible exact Pick.head | with_reducible apply Pick.tail)))).slice
      rw [List.nil_append, List.length_map] at H
      (try rw [List.nil_append, List.length_map])
      refine hK_ _ _ (fun _ => H.sub (by simp)) (fun hR_ => ?_)
      replace hR_ := hR_ (by decide)
      refine wpL_do (i := 4) rfl (by kernel_rfl) (by rfl) (fun K_ hK_ => ?_)
      refine wp_pushRs (.tmp 23) (.tmp 24) 44 rfl stDcs (by go_simp <;> first | rfl | exact ⟨rfl, rfl⟩) (by go_simp <;> first | rfl | exact ⟨rfl, rfl⟩) H (by (repeat (first | with_reducible exact Pick.head | with_reducible apply Pick.tail))) (HE.out.oldPG H.ext) ?_ ?_
      focus (simp [M]; omega)
      clear H; intro v2 w6 H
      obtain ⟨P2, p2_, rfl, _, _, _⟩ := (H.rowRdG (by (repeat (first | with_reducible exact Pick.head | with_reducible apply Pick.tail)))).slice
      refine hK_ _ _ (fun _ => H.sub (by simp)) (fun hR_ => ?_)
      replace hR_ := hR_ (by decide)
      refine wpL_do (i := 8) rfl (by kernel_rfl) (by rfl) (fun K_ hK_ => ?_)
      go_simp
      have hrow := H.rowRdG (e := 37) (z := 16) (by (repeat (first | with_reducible exact Pick.head | with_reducible apply Pick.tail)))
      rw [← List.map_append] at hrow
      (try rw [show ((ds ++ es).map Dc.d).length = ds.length + es.length by simp] at hrow)
      obtain ⟨S5, htwo⟩ := H.twoRd (t := t) (u := a) (by (repeat (first | with_reducible exact Pick.head | with_reducible apply Pick.tail))) HTM.out HA.out
      refine (great11_calls (ds := ds ++ es) (ts := [t, a]) hrow (by simp) htwo rfl).mono ?_
      clear hrow htwo
      rintro e w_ ⟨q, rfl, hx⟩
      replace H := H.call hx
      clear hx
      refine hK_ _ _ (fun _ => H.sub (by simp)) (fun hR_ => ?_)
      replace hR_ := hR_ (by decide)
      refine growsR (S2 := S2) (S3 := S3) HT.out HH.out HTM.out H hR_ (fun w_ h_ => (h_.sub (by simp)).2) (by intro _ _ d_ _ _ h_; cases d_ <;> exact h_) ?_
      intro y30 y31 y32 y33 y34 y35 y36 y37 y38 y39 y40 y41 y42 y43 y44 y45 y46 y47 y48 y49 y50 y51 y52 y53 y54 y55 y56 y57 y58 y59 y60 y61 b W6 H6 hb
      clear H hR_
      cases b
      · obtain ⟨b0, b1, b2, b3, b4, b5, b6⟩ := hb rfl
        repeat ((fail_if_success (with_reducible (first | show Code.wp _ (Code.seq (Code.region 5 _ _) _) _ _ _ | show Code.wp _ (Code.seq (Code.seq (Code.region 5 _ _) _) _) _ _ _))); go_step)
        exact growsB (HT.out.ext H6.ext) H6.ext (HH.out.ext0 H6.ext) (HE.out.ext0 H6.ext) HML.out HN1.out HN2.out (HTM.out.ext0 H6.ext) (HA.out.ext0 H6.ext) (H6.blk (by (repeat (first | with_reducible exact Pick.head | with_reducible apply Pick.tail)))) (H6.blk (by (repeat (first | with_reducible exact Pick.head | with_reducible apply Pick.tail)))) b0 b1 b2 b3 b4 b5 b6
      · go_wp2_with fail
        refine endH (by (repeat (first | with_reducible exact H6 | with_reducible exact H0_ | with_reducible apply Hp.alloc | with_reducible apply Hp.allocMap | with_reducible apply Hp.drew | with_reducible apply Hp.drewN | with_reducible apply Hp.set)); (try any_goals (repeat (first | with_reducible exact Upd.head | with_reducible apply Upd.tail)))) ?_
        clear H6; intro w10 H6; (try simp only [size_drew_, size_drewN_, World.size_alloc, World.size_setCell, List.set_cons_zero, List.set_cons_succ] at H6)
        go_ret
        exact ⟨rfl, H6.ext⟩
  · refine wpOp_do (i := 7) rfl (by rfl) (fun K_ hK_ => ?_)
    go_simp
    refine kontH (by (repeat (first | with_reducible exact H | with_reducible exact H0_ | with_reducible apply Hp.alloc | with_reducible apply Hp.allocMap | with_reducible apply Hp.drew | with_reducible apply Hp.drewN | with_reducible apply Hp.set)); (try any_goals (repeat (first | with_reducible exact Upd.head | with_reducible apply Upd.tail)))) ?_
    clear H; intro wb_ H; (try simp only [size_drew_, size_drewN_, World.size_alloc, World.size_setCell, List.set_cons_zero, List.set_cons_succ] at H)
    refine hK_ _ _ (fun _ => H.sub (by simp)) (fun hR_ => ?_)
    replace hR_ := hR_ (by decide)
    refine wpL_do (i := 0) rfl (by kernel_rfl) (by rfl) (fun K_ hK_ => ?_)
    go_simp
    refine kontH (by (repeat (first | with_reducible exact H | with_reducible exact H0_ | with_reducible apply Hp.alloc | with_reducible apply Hp.allocMap | with_reducible apply Hp.drew | with_reducible apply Hp.drewN | with_reducible apply Hp.set)); (try any_goals (repeat (first | with_reducible exact Upd.head | with_reducible apply Upd.tail)))) ?_
    clear H; intro wb_ H; (try simp only [size_drew_, size_drewN_, World.size_alloc, World.size_setCell, List.set_cons_zero, List.set_cons_succ] at H)
    replace H := H.boxRow0 (e := 37) (z := 16) (by (repeat (first | with_reducible exact Pick.head | with_reducible apply Pick.tail)))
    refine hK_ _ _ (fun _ => H.sub (by simp)) (fun hR_ => ?_)
    replace hR_ := hR_ (by decide)
    refine wpL_do (i := 2) rfl (by kernel_rfl) (by rfl) (fun K_ hK_ => ?_)
    refine wp_pushRs (.tmp 21) (.tmp 22) 44 rfl stDcs (by go_simp <;> first | rfl | exact ⟨rfl, rfl⟩) (by go_simp <;> first | rfl | exact ⟨rfl, rfl⟩) H (by (repeat (first | with_reducible exact Pick.head | with_reducible apply Pick.tail))) (HH.out.oldPG H.ext) ?_ ?_
    focus (simp [M]; omega)
    clear H; intro v1 w5 H
    obtain ⟨P1, p1_, rfl, _, _, _⟩ := (H.rowRdG (by (repeat (first | with_reducible exact Pick.head | with_reducible apply Pick.tail)))).slice
    rw [List.nil_append, List.length_map] at H
    (try rw [List.nil_append, List.length_map])
    refine hK_ _ _ (fun _ => H.sub (by simp)) (fun hR_ => ?_)
    replace hR_ := hR_ (by decide)
    refine wpL_do (i := 4) rfl (by kernel_rfl) (by rfl) (fun K_ hK_ => ?_)
    refine wp_pushRs (.tmp 23) (.tmp 24) 44 rfl stDcs (by go_simp <;> first | rfl | exact ⟨rfl, rfl⟩) (by go_simp <;> first | rfl | exact ⟨rfl, rfl⟩) H (by (repeat (first | with_reducible exact Pick.head | with_reducible apply Pick.tail))) (HE.out.oldPG H.ext) ?_ ?_
    focus (simp [M]; omega)
    clear H; intro v2 w6 H
    obtain ⟨P2, p2_, rfl, _, _, _⟩ := (H.rowRdG (by (repeat (first | with_reducible exact Pick.head | with_reducible apply Pick.tail)))).slice
    refine hK_ _ _ (fun _ => H.sub (by simp)) (fun hR_ => ?_)
    replace hR_ := hR_ (by decide)
    refine wpL_do (i := 8) rfl (by kernel_rfl) (by rfl) (fun K_ hK_ => ?_)
    go_simp
    have hrow := H.rowRdG (e := 37) (z := 16) (by (repeat (first | with_reducible exact Pick.head | with_reducible apply Pick.tail)))
    rw [← List.map_append] at hrow
    (try rw [show ((ds ++ es).map Dc.d).length = ds.length + es.length by simp] at hrow)
    obtain ⟨S5, htwo⟩ := H.twoRd (t := t) (u := a) (by (repeat (first | with_reducible exact Pick.head | with_reducible apply Pick.tail))) HTM.out HA.out
    refine (great11_calls (ds := ds ++ es) (ts := [t, a]) hrow (by simp) htwo rfl).mono ?_
    clear hrow htwo
    rintro e w_ ⟨q, rfl, hx⟩
    replace H := H.call hx
    clear hx
    refine hK_ _ _ (fun _ => H.sub (by simp)) (fun hR_ => ?_)
    replace hR_ := hR_ (by decide)
    refine growsR (S2 := S2) (S3 := S3) HT.out HH.out HTM.out H hR_ (fun w_ h_ => (h_.sub (by simp)).2) (by intro _ _ d_ _ _ h_; cases d_ <;> exact h_) ?_
    intro y30 y31 y32 y33 y34 y35 y36 y37 y38 y39 y40 y41 y42 y43 y44 y45 y46 y47 y48 y49 y50 y51 y52 y53 y54 y55 y56 y57 y58 y59 y60 y61 b W6 H6 hb
    clear H hR_
    cases b
    · obtain ⟨b0, b1, b2, b3, b4, b5, b6⟩ := hb rfl
      repeat ((fail_if_success (with_reducible (first | show Code.wp _ (Code.seq (Code.region 5 _ _) _) _ _ _ | show Code.wp _ (Code.seq (Code.seq (Code.region 5 _ _) _) _) _ _ _))); go_step)
      exact growsB (HT.out.ext H6.ext) H6.ext (HH.out.ext0 H6.ext) (HE.out.ext0 H6.ext) HML.out HN1.out HN2.out (HTM.out.ext0 H6.ext) (HA.out.ext0 H6.ext) (H6.blk (by (repeat (first | with_reducible exact Pick.head | with_reducible apply Pick.tail)))) (H6.blk (by (repeat (first | with_reducible exact Pick.head | with_reducible apply Pick.tail)))) b0 b1 b2 b3 b4 b5 b6
    · go_wp2_with fail
      refine endH (by (repeat (first | with_reducible exact H6 | with_reducible exact H0_ | with_reducible apply Hp.alloc | with_reducible apply Hp.allocMap | with_reducible apply Hp.drew | with_reducible apply Hp.drewN | with_reducible apply Hp.set)); (try any_goals (repeat (first | with_reducible exact Upd.head | with_reducible apply Upd.tail)))) ?_
      clear H6; intro w10 H6; (try simp only [size_drew_, size_drewN_, World.size_alloc, World.size_setCell, List.set_cons_zero, List.set_cons_succ] at H6)
      go_ret
      exact ⟨rfl, H6.ext⟩
end Go.Proofs.YtgbokmphbimihaaDoor
