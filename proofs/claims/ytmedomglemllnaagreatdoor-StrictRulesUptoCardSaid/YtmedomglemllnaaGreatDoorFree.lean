/- term: Free: contract. No statement of the seat is proved here. -/
import Derived.Test.YtmedomglemllnaaGreatDoorMgSpine
import Derived.Test.YtmedomglemllnaaGreatDoorMgTeleLaw
namespace Go.Proofs.YtmedomglemllnaaGreatDoor
set_option linter.unusedSimpArgs false
set_option linter.unusedVariables false
open Go.RowKit

mutual
def freeT (fr tt b : Int) : Tm → Bool
  | .mk k n _ _ ks => (decide (k = 1) && decide (b ≤ n) && decide (fr ≤ wrap64 (n - b)) && decide (wrap64 (n - b) < tt)) || freesT fr tt k b 0 ks
def freesT (fr tt k b : Int) (i : Nat) : List Tm → Bool
  | [] => false
  | t :: ts => freeT fr tt (downI k i b) t || freesT fr tt k b (i + 1) ts
end
theorem freesT_drop {fr tt k b : Int} {ks : List Tm} {j : Nat} (h : j < ks.length) : freesT fr tt k b j (ks.drop j) = (freeT fr tt (downI k (j : Int) b) ks[j] || freesT fr tt k b (j + 1) (ks.drop (j + 1))) := by
  rw [List.drop_eq_getElem_cons h, freesT]
def fromF (n : Nat) : Code → Code
  | .seq (.region id ops d) b => if id = n then .seq (.region id ops d) b else fromF n b
  | .seq (.seq (.region id ops d) y) b => if id = n then .seq (.seq (.region id ops d) y) b else fromF n b
  | .seq _ b => fromF n b
  | c => c
set_option maxHeartbeats 400000 in
theorem belowN_calls {w : World} (hT : Tab w) (b k kid : Int) : Calls Tryz.prog 230 #[.agg #[.int .i64 b, .nilFunc], .int .i64 k, .int .i64 kid] w (PV w (.agg #[.int .i64 (downI k kid b), .nilFunc])) := by
  go_enter Tryz.func230, Tryz.ntmps230
  go_wp2_with fail
  refine (binds_calls (hT.ext (((Ext.refl _ _).alloc _).alloc _)) k kid).mono ?_
  rintro e w1 ⟨rfl, hx1⟩
  have b1 := ((Blk.new rfl).alloc _).ext0 hx1
  have b2 := (Blk.new (g := w.heap.size + 1) (by simp)).ext0 hx1
  have c1 := b1.cells
  have f1 := b1.frz
  have c2 := b2.cells
  have f2 := b2.frz
  have hx0 := ((((Ext.refl no w).alloc _).alloc _).seq hx1)
  clear hT b1 b2 hx1
  cases hb : binds k kid
  · have E := Lib.hid (show downI k kid b = b by simp [downI, hb])
    clear hb
    go_wp2_with fail
    refine bodyPost_ret (v := .agg #[.int .i64 b, .nilFunc]) (by simp [results, Tryz.results230, go_sem, c2]) rfl ⟨by rw [E.out], (hx0.setCell (by simp) _).setCell (by simp) _⟩
  · have E := Lib.hid (show downI k kid b = wrap64 (b + 1) by simp [downI, hb])
    clear hb
    go_wp2_with fail
    refine bodyPost_ret (v := .agg #[.int .i64 (wrap64 (b + 1)), .nilFunc]) (by simp [results, Tryz.results230, go_sem, c2]) rfl ⟨by rw [E.out], ((hx0.setCell (by simp) _).setCell (by simp) _).setCell (by simp) _⟩
def FreeOK (t : Tm) : Prop := ∀ (w : World) (S : Nat → Prop) (v : Value) (b fr tt : Int), Tab w → TV w S t v →
  Calls Tryz.prog 277 #[.agg #[.int .i64 b, .nilFunc], v, .int .i64 fr, .int .i64 tt] w (PV w (.bool (freeT fr tt b t)))
set_option maxRecDepth 100000 in
set_option maxHeartbeats 4000000 in
theorem free4 {w W : World} {S : Nat → Prop} {k n a b fr tt : Int} {nl : Nat} {ks : List Tm} {A0 K0 : Option Addr} {ca ck gw gt : Nat} {x0 x1 x6 x7 x8 x9 x10 x11 x12 x13 x14 x15 x16 x17 x18 x19 x20 x21 x22 x23 x24 x25 x26 x27 x28 x29 x30 x31 x32 x33 x34 x35 x36 x37 x38 x39 x40 x41 x42 x43 x44 x45 x46 x47 x48 x49 x50 x51 x52 x53 x54 : Value} (IH : Hid (∀ t ∈ ks, FreeOK t)) (hT : Tab w)
    (hks : RC w S (.l 26 5 (ks.map Tm.d)) [.slice K0 ks.length ck]) {R : Bool} (hR : R = freesT fr tt k b 0 ks)
    (H : Hp no w W [.box gt 26 [.int .i64 k, .int .i64 n, .int .i64 a, .slice A0 nl ca, .slice K0 ks.length ck], .box gw 195 [.int .i64 b, .nilFunc]]) :
    (fromF 4 (Tryz.f277.body.getD .skip)).wp Tryz.prog (bodyPost Tryz.prog Tryz.f277 (PV w (.bool R))) { tmps := #[x0, x1, .int .i64 fr, .int .i64 tt, .pointer (some ⟨gw, 0, none⟩), .pointer (some ⟨gt, 0, none⟩), x6, x7, x8, x9, x10, x11, x12, x13, x14, x15, x16, x17, x18, x19, x20, x21, x22, x23, x24, x25, x26, x27, x28, x29, x30, x31, x32, x33, x34, x35, x36, x37, x38, x39, x40, x41, x42, x43, x44, x45, x46, x47, x48, x49, x50, x51, x52, x53, x54], defers := [] } W := by
  have hM := hks.lenM
  have HT := Lib.hid hT
  have HR := Lib.hid hR
  clear hT hR
  conv => arg 2; whnf
  have hr_ := H.rules; simp only [Rules, and_true] at hr_; have hd_ := H.dif; simp only [Dif, Neq, and_true] at hd_; obtain ⟨ho_, hz_⟩ := H.old0
  go_wp2_with fail
  clear hr_ hd_ ho_ hz_
  go_loopw [40] (fun i wr => ∃ j : Nat, j ≤ ks.length ∧ i = .int .i64 j ∧ Hid (freesT fr tt k b j (ks.drop j) = freesT fr tt k b 0 ks) ∧ Hp no w wr [.box gt 26 [.int .i64 k, .int .i64 n, .int .i64 a, .slice A0 nl ca, .slice K0 ks.length ck], .box gw 195 [.int .i64 b, .nilFunc]]) (fun i _ => ks.length - (intOf i).toNat)
  case atStart => exact ⟨0, Nat.zero_le _, rfl, Lib.hid (by simp), (H.arr (by (repeat (first | with_reducible exact Arr.nil | refine Arr.cons (by (repeat (first | with_reducible exact Pick.head | with_reducible apply Pick.tail))) ?_)) <;> exact Arr.of_subl (by (repeat (first | with_reducible exact Subl.refl _ | with_reducible apply Subl.drop)))))⟩
  case round =>
    clear H
    obtain ⟨j, hj, rfl, HS, H⟩ := hrel
    by_cases hlt : j < ks.length
    · obtain ⟨b_, o, A1, ca1, K1, ck1, rfl, hb, hS, hd, p0, p1, p2, p3, p4⟩ := hks.atTm hlt
      have HD := Lib.hid hd
      have HE := Lib.hid (freesT_drop (fr := fr) (tt := tt) (k := k) (b := b) hlt)
      clear hd
      have hr_ := H.rules; simp only [Rules, and_true] at hr_; have hd_ := H.dif; simp only [Dif, Neq, and_true] at hd_; obtain ⟨ho_, hz_⟩ := H.old0
      go_wp2_with ((with_reducible refine atStore (t := 26) ?_); go_must (refine wpList_storeH (t := 26) rfl rfl (by go_simp <;> first | rfl | exact ⟨rfl, rfl⟩) (by go_simp <;> first | rfl | exact ⟨rfl, rfl⟩) (by exact Hp.norm (by (repeat (first | with_reducible exact H | with_reducible exact H0_ | with_reducible apply Hp.alloc | with_reducible apply Hp.allocMap | with_reducible apply Hp.drew | with_reducible apply Hp.drewN | with_reducible apply Hp.set)); (try any_goals (repeat (first | with_reducible exact Upd.head | with_reducible apply Upd.tail)))) (by ((try simp only [size_drew_, size_drewN_, World.size_alloc, World.size_setCell, List.set_cons_zero, List.set_cons_succ, List.nil_append, List.cons_append]) <;> rfl))) (by (repeat (first | with_reducible exact Upd.head | with_reducible apply Upd.tail))) (by exact aggTerm) (by rfl) (by simp [Value.oneCell']) ?_; clear H; intro w7 H; (try simp only [size_drew_, size_drewN_, World.size_alloc, World.size_setCell, List.set_cons_zero, List.set_cons_succ] at H); (try clear hr_ hd_ ho_ hz_); have hr_ := H.rules; simp only [Rules, and_true] at hr_; have hd_ := H.dif; simp only [Dif, Neq, and_true] at hd_; obtain ⟨ho_, hz_⟩ := H.old0))
      (try clear hr_ hd_ ho_ hz_)
      refine onlyNormal ?_
      refine regionH (by (repeat (first | with_reducible exact H | with_reducible exact H0_ | with_reducible apply Hp.alloc | with_reducible apply Hp.allocMap | with_reducible apply Hp.drew | with_reducible apply Hp.drewN | with_reducible apply Hp.set)); (try any_goals (repeat (first | with_reducible exact Upd.head | with_reducible apply Upd.tail)))) ?_
      clear H; intro w9 H; (try simp only [size_drew_, size_drewN_, World.size_alloc, World.size_setCell, List.set_cons_zero, List.set_cons_succ] at H)
      refine wp_region_H 9 [false, false, false, false, false, false, false, false, false] [] H (.cons (i := 0) rfl (.cons (i := 1) rfl (.cons (i := 2) rfl .nil))) (by kernel_rfl) rfl rfl (fun H_ hR_ => ?_)
      (try clear H0_); have H0_ := H; clear H; have H := H_; clear H_
      refine wpL_reads (is := [(0, ?v1_0), (1, ?v1_1), (2, ?v1_2), (3, ?v1_3), (5, ?v1_4), (6, ?v1_5), (7, ?v1_6)]) (by kernel_rfl) (Nat.le_of_ble_eq_true rfl) (by intro _ _ d_ _ _ h_; cases d_ <;> exact h_) (by kernel_rfl) hR_ (fun w_ hw_ => ?h1_) ?_
      case h1_ =>
        have ho_ := hw_.old0.1; have hz_ := hw_.old0.2; have hr_ := hw_.rules; clear hw_; simp only [Rules, and_true] at hr_; go_split_ands
        (repeat (first | with_reducible exact RdOps.nil | (refine RdOps.run rfl (by rfl) ?_ ?_; (focus (first | (go_simp; done) | (go_simp; with_reducible rfl))); simp only [List.getElem_toArray, List.getElem_cons_zero, List.getElem_cons_succ, Act.put, List.setIfInBounds_toArray, List.set_cons_zero, List.set_cons_succ]) | (refine RdOps.skip rfl (by rfl) ?_ ?_; (focus (with_reducible rfl)); simp only [List.getElem_toArray, List.getElem_cons_zero, List.getElem_cons_succ, Act.put, List.setIfInBounds_toArray, List.set_cons_zero, List.set_cons_succ])))
      simp only [rdMark, rdAct, List.map_cons, List.map_nil, List.length_cons, List.length_nil, Nat.reduceAdd, Nat.reduceSub, Nat.zero_add, List.getElem?_toArray, List.getElem?_cons_zero, List.getElem?_cons_succ, Option.bind_some, Act.put, List.setIfInBounds_toArray, List.set_cons_zero, List.set_cons_succ]
      refine wpL_do (i := 4) rfl (by kernel_rfl) (by rfl) (fun K_ hK_ => ?_)
      go_simp
      refine (belowN_calls (HT.out.ext H.ext) b k (j : Int)).mono ?_
      rintro e w_ ⟨rfl, hx⟩
      replace H := H.call hx
      clear hx
      refine hK_ _ _ (fun _ => H.sub (by simp)) (fun hR_ => ?_)
      replace hR_ := hR_ (by decide)
      refine wpL_do (i := 8) rfl (by kernel_rfl) (by rfl) (fun K_ hK_ => ?_)
      go_simp
      obtain ⟨q, hq⟩ : ∃ q, q = freeT fr tt (downI k (j : Int) b) ks[j] := ⟨_, rfl⟩
      have hcall := IH.out ks[j] (List.getElem_mem hlt) _ _ _ (downI k (j : Int) b) fr tt (HT.out.ext H.ext) ⟨_, _, _, _, rfl, HD.out.ext0 H.ext⟩
      rw [← hq] at hcall
      have HQ := Lib.hid hq
      clear hq
      refine (hcall).mono ?_
      rintro e w_ ⟨rfl, hx⟩
      replace H := H.call hx
      clear hx
      clear hcall
      refine hK_ _ _ (fun _ => H.sub (by simp)) (fun _ => ?_)
      refine wpL_done (by kernel_rfl) ?_ _
      cases q
      · go_wp2_with fail
        go_roundw
        case rel => exact ⟨j + 1, by omega, by first | go_num | rfl | simp, Lib.hid (by rw [← HS.out, HE.out, ← HQ.out]; rfl), (H.arr (by (repeat (first | with_reducible exact Arr.nil | refine Arr.cons (by (repeat (first | with_reducible exact Pick.head | with_reducible apply Pick.tail))) ?_)) <;> exact Arr.of_subl (by (repeat (first | with_reducible exact Subl.refl _ | with_reducible apply Subl.drop)))))⟩
        case measure => simp [intOf]; omega
      · go_wp2_with fail
        go_ret
        exact ⟨by rw [HR.out, ← HS.out, HE.out, ← HQ.out]; rfl, H.ext⟩
    · go_wp2_with fail
      go_ret
      exact ⟨by rw [HR.out, ← HS.out, List.drop_eq_nil_of_le (by omega), freesT]; rfl, H.ext⟩
set_option maxRecDepth 100000 in
set_option maxHeartbeats 4000000 in
theorem wfree_calls : ∀ t : Tm, FreeOK t := by
  intro t
  induction t using Tm.ind_ with
  | h k n a ls ks ih =>
  rintro w S v b fr tt hT ⟨A0, ca, K0, ck, rfl, hrc⟩
  obtain ⟨_, _, _, _, he, _, i2, _, hls, hks⟩ := RC.tm.1 hrc
  simp only [Tm.ls_mk, Tm.ks_mk, Tm.k_mk, Tm.n_mk, Tm.a_mk, List.cons.injEq, Value.slice.injEq, and_true, true_and] at he hls hks i2 ⊢
  obtain ⟨⟨rfl, rfl⟩, rfl, rfl⟩ := he
  have IH := Lib.hid ih
  have HT := Lib.hid hT
  have HKS := Lib.hid hks
  clear ih hT hks hls hrc
  have hF : freeT fr tt b (.mk k n a ls ks) = ((decide (k = 1) && decide (b ≤ n) && decide (fr ≤ wrap64 (n - b)) && decide (wrap64 (n - b) < tt)) || freesT fr tt k b 0 ks) := by rw [freeT]
  have HF := Lib.hid hF
  clear hF
  have hcase : (k = 1 ∧ b ≤ n ∧ fr ≤ wrap64 (n - b) ∧ wrap64 (n - b) < tt) ∨ ¬ (k = 1 ∧ b ≤ n ∧ fr ≤ wrap64 (n - b) ∧ wrap64 (n - b) < tt) := by exact Classical.em _
  go_enter Tryz.func277, Tryz.ntmps277
  have H := Hp.start no w
  go_wp2_with fail
  refine callsH (by (repeat (first | with_reducible exact H | with_reducible exact H0_ | with_reducible apply Hp.alloc | with_reducible apply Hp.allocMap | with_reducible apply Hp.drew | with_reducible apply Hp.drewN | with_reducible apply Hp.set)); (try any_goals (repeat (first | with_reducible exact Upd.head | with_reducible apply Upd.tail)))) ?_
  clear H; intro w1 H; (try simp only [size_drew_, size_drewN_, World.size_alloc, World.size_setCell, List.set_cons_zero, List.set_cons_succ] at H)
  obtain ⟨m, hm⟩ : ∃ m, m = wrap64 (n - b) := ⟨_, rfl⟩
  obtain ⟨q, hq⟩ : ∃ q, q = decide (b ≤ n) := ⟨_, rfl⟩
  have hcall := means_calls (w := w1) b n
  rw [← hm, ← hq] at hcall
  refine (hcall).mono ?_
  rintro e w_ ⟨rfl, hx⟩
  replace H := H.call hx
  clear hx
  clear hcall
  rw [← hm] at hcase
  have HM := Lib.hid hm
  have HQ := Lib.hid hq
  clear hm hq
  have fin : freeT fr tt b (.mk k n a ls ks) = freesT fr tt k b 0 ks → ∀ {x0 x1 x6 x7 x8 x9 x10 x11 x12 x13 x14 x15 x16 x17 x18 x19 x20 x21 x22 x23 x24 x25 x26 x27 x28 x29 x30 x31 x32 x33 x34 x35 x36 x37 x38 x39 x40 x41 x42 x43 x44 x45 x46 x47 x48 x49 x50 x51 x52 x53 x54 : Value}, (fromF 4 (Tryz.f277.body.getD .skip)).wp Tryz.prog (bodyPost Tryz.prog Tryz.f277 (PV w (.bool (freeT fr tt b (.mk k n a ls ks))))) { tmps := #[x0, x1, .int .i64 fr, .int .i64 tt, .pointer (some ⟨w.heap.size, 0, none⟩), .pointer (some ⟨w.heap.size + 1, 0, none⟩), x6, x7, x8, x9, x10, x11, x12, x13, x14, x15, x16, x17, x18, x19, x20, x21, x22, x23, x24, x25, x26, x27, x28, x29, x30, x31, x32, x33, x34, x35, x36, x37, x38, x39, x40, x41, x42, x43, x44, x45, x46, x47, x48, x49, x50, x51, x52, x53, x54], defers := [] } w_ := by
    intro hR
    intros
    exact free4 IH HT.out HKS.out hR (H.arr (by (repeat (first | with_reducible exact Arr.nil | refine Arr.cons (by (repeat (first | with_reducible exact Pick.head | with_reducible apply Pick.tail))) ?_)) <;> exact Arr.of_subl (by (repeat (first | with_reducible exact Subl.refl _ | with_reducible apply Subl.drop)))))
  by_cases h1 : k = 1
  · cases q
    · have HR := @fin (by rw [HF.out, ← HQ.out]; simp)
      clear fin
      have h1' : (k == 1) = true := by simpa using h1
      clear h1 hcase
      have hr_ := H.rules; simp only [Rules, and_true] at hr_; have hd_ := H.dif; simp only [Dif, Neq, and_true] at hd_; obtain ⟨ho_, hz_⟩ := H.old0
      dsimp only
      repeat (first | exact HR | go_step)
    · by_cases h2 : fr ≤ m
      · by_cases h3 : m < tt
        · have HR : Hid (freeT fr tt b (.mk k n a ls ks) = true) := by
            unfold Hid
            rw [HF.out, ← HQ.out, ← HM.out]
            simp [h1, h2, h3]
          clear fin hcase
          have hr_ := H.rules; simp only [Rules, and_true] at hr_; have hd_ := H.dif; simp only [Dif, Neq, and_true] at hd_; obtain ⟨ho_, hz_⟩ := H.old0
          go_wp2_with fail
          go_ret
          exact ⟨by rw [HR.out]; rfl, H.ext⟩
        · have HR := @fin (by rw [HF.out, ← HQ.out, ← HM.out]; simp [h3])
          clear fin hcase
          have hr_ := H.rules; simp only [Rules, and_true] at hr_; have hd_ := H.dif; simp only [Dif, Neq, and_true] at hd_; obtain ⟨ho_, hz_⟩ := H.old0
          dsimp only
          repeat (first | exact HR | go_step)
      · have HR := @fin (by rw [HF.out, ← HQ.out, ← HM.out]; simp [h2])
        clear fin hcase
        have hr_ := H.rules; simp only [Rules, and_true] at hr_; have hd_ := H.dif; simp only [Dif, Neq, and_true] at hd_; obtain ⟨ho_, hz_⟩ := H.old0
        dsimp only
        repeat (first | exact HR | go_step)
  · have HR := @fin (by rw [HF.out]; simp [h1])
    clear fin hcase
    have hr_ := H.rules; simp only [Rules, and_true] at hr_; have hd_ := H.dif; simp only [Dif, Neq, and_true] at hd_; obtain ⟨ho_, hz_⟩ := H.old0
    dsimp only
    repeat (first | exact HR | go_step)
theorem free_calls {S : Nat → Prop} {t : Tm} {w : World} {v : Value} (hT : Tab w) (h : TV w S t v) (fr tt : Int) : Calls Tryz.prog 252 #[v, .int .i64 fr, .int .i64 tt] w (PV w (.bool (freeT fr tt 0 t))) := by
  obtain ⟨A0, ca, K0, ck, rfl, hrc⟩ := h
  have HT := Lib.hid hT
  have HRC := Lib.hid hrc
  clear hT hrc
  go_enter Tryz.func252, Tryz.ntmps252
  have H := Hp.start no w
  go_wp2_with fail
  refine callsH (by (repeat (first | with_reducible exact H | with_reducible exact H0_ | with_reducible apply Hp.alloc | with_reducible apply Hp.allocMap | with_reducible apply Hp.drew | with_reducible apply Hp.drewN | with_reducible apply Hp.set)); (try any_goals (repeat (first | with_reducible exact Upd.head | with_reducible apply Upd.tail)))) ?_
  clear H; intro w1 H; (try simp only [size_drew_, size_drewN_, World.size_alloc, World.size_setCell, List.set_cons_zero, List.set_cons_succ] at H)
  refine (wfree_calls t _ _ _ 0 fr tt (HT.out.ext H.ext) ⟨_, _, _, _, rfl, HRC.out.ext0 H.ext⟩).mono ?_
  rintro e w_ ⟨rfl, hx⟩
  replace H := H.call hx
  clear hx
  go_wp2_with fail
  go_ret
  exact ⟨rfl, H.ext⟩
end Go.Proofs.YtmedomglemllnaaGreatDoor
