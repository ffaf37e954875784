/- term: node: contract. No statement of the seat is proved here. -/
import Derived.Deep.DeepCutAuto
import Derived.Test.YtmedomglemllnaaGreatDoorNode0
import Derived.Test.YtmedomglemllnaaGreatDoorMgBack
namespace Go.Proofs.YtmedomglemllnaaGreatDoor
set_option linter.unusedSimpArgs false
set_option linter.unusedVariables false
open Go.RowKit

theorem aggHas : AggT Tryz.prog 299 5 := ⟨_, Tryz.underlying299, rfl, by kernel_rfl⟩
set_option maxRecDepth 100000 in
set_option maxHeartbeats 8000000 in
theorem node_calls {w : World} {S : Nat → Prop} {t : Tm} {v : Value} (hT : Tab w) (h : TV w S t v) : Calls Tryz.prog 271 #[v] w (PV w (.bool (nodeQ t))) := by
  obtain ⟨A0, ca, K0, ck, rfl, hrc⟩ := h
  obtain ⟨k, m, a, ls, ks⟩ := t
  obtain ⟨_, _, _, _, he, _, _, _, hls, hks⟩ := RC.tm.1 hrc
  simp only [Tm.ls_mk, Tm.ks_mk, Tm.k_mk, Tm.n_mk, Tm.a_mk, List.cons.injEq, Value.slice.injEq, and_true, true_and] at he hls hks ⊢
  obtain ⟨⟨rfl, rfl⟩, rfl, rfl⟩ := he
  have HLS := Lib.hid hls
  have hM := hks.lenM
  have HT := Lib.hid hT
  clear hls hks hrc hT
  by_cases h1 : k < 1
  · have HB : Hid (nodeQ (.mk k m a ls ks) = false) := by unfold Hid; rw [nodeQ_mk, nodeB_mk, decide_eq_false (show ¬ 1 ≤ k by omega)]; rfl
    go_enter Tryz.func271, Tryz.ntmps271
    go_wp2_with fail
    go_ret
    exact ⟨by rw [HB.out]; rfl, (Ext.refl _ _).alloc _⟩
  by_cases h2 : 24 < k
  · have HB : Hid (nodeQ (.mk k m a ls ks) = false) := by unfold Hid; rw [nodeQ_mk, nodeB_mk, decide_eq_false (show ¬ k ≤ 24 by omega)]; simp
    go_enter Tryz.func271, Tryz.ntmps271
    go_wp2_with fail
    go_ret
    exact ⟨by rw [HB.out]; rfl, (Ext.refl _ _).alloc _⟩
  cases ho : outI m || outI a
  · obtain ⟨n, rfl⟩ := Int.eq_ofNat_of_zero_le (show 0 ≤ k by omega)
    have h3 : n < 25 := by omega
    obtain ⟨q0, q1, q2, q3, q4, hk⟩ : ∃ q0 q1 q2 q3 q4, kindAt n = (q0, q1, q2, q3, q4) := ⟨_, _, _, _, _, rfl⟩
    have HK := Lib.hid hk
    have HO := Lib.hid ho
    have hN : nodeQ (.mk (n : Int) m a ls ks) = (decide ((ks.length : Int) = q3 + (if (n : Int) = 24 then a else 0)) && (decide (m = 0) || q0) && (decide (a = 0) || q1) && (decide (q2 < 0) || decide ((ls.length : Int) = q2)) && decide ((ls.length : Int) ≤ (if (n : Int) = 10 then 10 else 8)) && !(ls.any fun x => !lvRight 9 x)) := by
      rw [nodeQ_mk, nodeB_mk, Int.toNat_natCast, hk, ho, decide_eq_true (show (1 : Int) ≤ n by omega), decide_eq_true (show (n : Int) ≤ 24 by omega)]
      simp only [Bool.true_and, Bool.not_false]
    obtain ⟨R, hR⟩ : ∃ R, R = nodeQ (.mk (n : Int) m a ls ks) := ⟨_, rfl⟩
    rw [← hR] at hN ⊢
    have HN := Lib.hid hN
    clear hR
    have hL8 : Hid (decide ((ls.length : Int) ≤ 8) = decide (ls.length ≤ 8)) := by unfold Hid; rw [decide_eq_decide]; omega
    have hL10 : Hid (decide ((ls.length : Int) ≤ 10) = decide (ls.length ≤ 10)) := by unfold Hid; rw [decide_eq_decide]; omega
    clear hk ho hN
    by_cases k24 : (n : Int) = 24
    · have k10 : ¬ (n : Int) = 10 := by omega
      obtain ⟨K, hK⟩ : ∃ K, K = q3 + a := ⟨_, rfl⟩
      have hw : IntKind.i64.wrap (q3 + a) = K := by
        obtain rfl : n = 24 := by omega
        have h1 := HK.out
        have h2 := HO.out
        simp only [kindAt, kindsL, List.getD_cons_succ, List.getD_cons_zero, Prod.mk.injEq] at h1
        simp only [outI, Bool.or_eq_false_iff, decide_eq_false_iff_not] at h2
        rw [IntKind.wrap_i64]
        omega
      have HKK := Lib.hid hK
      clear hK
      obtain rfl : n = 24 := by omega
      rw [show R = tailQ m a ls ks.length q0 q1 q2 K 8 from by rw [HN.out, if_pos k24, if_neg k10, ← HKK.out, hL8.out]; rfl]
      go_enter Tryz.func271, Tryz.ntmps271
      go_wp2_with fail
      have H := Hp.start no w
      refine callsH (by (repeat (first | with_reducible exact H | with_reducible exact H0_ | with_reducible apply Hp.alloc | with_reducible apply Hp.allocMap | with_reducible apply Hp.drew | with_reducible apply Hp.drewN | with_reducible apply Hp.set)); (try any_goals (repeat (first | with_reducible exact Upd.head | with_reducible apply Upd.tail)))) ?_
      clear H; intro w1 H; (try simp only [size_drew_, size_drewN_, World.size_alloc, World.size_setCell, List.set_cons_zero, List.set_cons_succ] at H)
      refine (within_calls11 (a := m) (b := a) ((H.blk .head).cells 0) ((H.blk .head).cells 1)).mono ?_
      rintro e w2 ⟨rfl, hx⟩
      replace H := H.call hx
      clear hx
      rw [HO.out]
      obtain ⟨c0, c1, c2, c3, c4⟩ := (HT.out.ext H.ext).row (k := 24) (by omega)
      rw [HK.out] at c0 c1 c2 c3 c4
      (try dsimp only at c0 c1 c2 c3 c4)
      (try simp only [Nat.reduceMul, Nat.reduceAdd] at c0 c1 c2 c3 c4)
      have hr_ := H.rules; simp only [Rules, and_true] at hr_; have hd_ := H.dif; simp only [Dif, Neq, and_true] at hd_; obtain ⟨ho_, hz_⟩ := H.old0
      go_upto_region 6 with ((with_reducible refine atStore (t := 299) ?_); go_must (refine wpList_storeH (t := 299) rfl rfl (by go_simp <;> first | rfl | exact ⟨rfl, rfl⟩) (by go_simp <;> first | rfl | exact ⟨rfl, rfl⟩) (by exact Hp.norm (by (repeat (first | with_reducible exact H | with_reducible exact H0_ | with_reducible apply Hp.alloc | with_reducible apply Hp.allocMap | with_reducible apply Hp.drew | with_reducible apply Hp.drewN | with_reducible apply Hp.set)); (try any_goals (repeat (first | with_reducible exact Upd.head | with_reducible apply Upd.tail)))) (by ((try simp only [size_drew_, size_drewN_, World.size_alloc, World.size_setCell, List.set_cons_zero, List.set_cons_succ, List.nil_append, List.cons_append]) <;> rfl))) (by (repeat (first | with_reducible exact Upd.head | with_reducible apply Upd.tail))) (by exact aggHas) (by rfl) (by simp [Value.oneCell']) ?_; clear H; intro w7 H; (try simp only [size_drew_, size_drewN_, World.size_alloc, World.size_setCell, List.set_cons_zero, List.set_cons_succ] at H); (try clear hr_ hd_ ho_ hz_); have hr_ := H.rules; simp only [Rules, and_true] at hr_; have hd_ := H.dif; simp only [Dif, Neq, and_true] at hd_; obtain ⟨ho_, hz_⟩ := H.old0))
      repeat ((fail_if_success (with_reducible (show Code.wp _ (Code.seq (Code.seq (Code.region 9 _ _) _) _) _ _ _))); go_step)
      (try clear hr_ hd_ ho_ hz_)
      refine codeH (by (repeat (first | with_reducible exact H | with_reducible exact H0_ | with_reducible apply Hp.alloc | with_reducible apply Hp.allocMap | with_reducible apply Hp.drew | with_reducible apply Hp.drewN | with_reducible apply Hp.set)); (try any_goals (repeat (first | with_reducible exact Upd.head | with_reducible apply Upd.tail)))) ?_
      clear H; intro w8 H; (try simp only [size_drew_, size_drewN_, World.size_alloc, World.size_setCell, List.set_cons_zero, List.set_cons_succ] at H)
      exact node9 (most := 8) HLS.out (H.arr (by (repeat (first | with_reducible exact Arr.nil | refine Arr.cons (by (repeat (first | with_reducible exact Pick.head | with_reducible apply Pick.tail))) ?_)) <;> exact Arr.of_subl (by (repeat (first | with_reducible exact Subl.refl _ | with_reducible apply Subl.drop)))))
    · by_cases k10 : (n : Int) = 10
      · obtain rfl : n = 10 := by omega
        rw [show R = tailQ m a ls ks.length q0 q1 q2 q3 10 from by rw [HN.out, if_neg k24, if_pos k10, Int.add_zero, hL10.out]; rfl]
        go_enter Tryz.func271, Tryz.ntmps271
        go_wp2_with fail
        have H := Hp.start no w
        refine callsH (by (repeat (first | with_reducible exact H | with_reducible exact H0_ | with_reducible apply Hp.alloc | with_reducible apply Hp.allocMap | with_reducible apply Hp.drew | with_reducible apply Hp.drewN | with_reducible apply Hp.set)); (try any_goals (repeat (first | with_reducible exact Upd.head | with_reducible apply Upd.tail)))) ?_
        clear H; intro w1 H; (try simp only [size_drew_, size_drewN_, World.size_alloc, World.size_setCell, List.set_cons_zero, List.set_cons_succ] at H)
        refine (within_calls11 (a := m) (b := a) ((H.blk .head).cells 0) ((H.blk .head).cells 1)).mono ?_
        rintro e w2 ⟨rfl, hx⟩
        replace H := H.call hx
        clear hx
        rw [HO.out]
        obtain ⟨c0, c1, c2, c3, c4⟩ := (HT.out.ext H.ext).row (k := 10) (by omega)
        rw [HK.out] at c0 c1 c2 c3 c4
        (try dsimp only at c0 c1 c2 c3 c4)
        (try simp only [Nat.reduceMul, Nat.reduceAdd] at c0 c1 c2 c3 c4)
        have hr_ := H.rules; simp only [Rules, and_true] at hr_; have hd_ := H.dif; simp only [Dif, Neq, and_true] at hd_; obtain ⟨ho_, hz_⟩ := H.old0
        go_upto_region 8 with ((with_reducible refine atStore (t := 299) ?_); go_must (refine wpList_storeH (t := 299) rfl rfl (by go_simp <;> first | rfl | exact ⟨rfl, rfl⟩) (by go_simp <;> first | rfl | exact ⟨rfl, rfl⟩) (by exact Hp.norm (by (repeat (first | with_reducible exact H | with_reducible exact H0_ | with_reducible apply Hp.alloc | with_reducible apply Hp.allocMap | with_reducible apply Hp.drew | with_reducible apply Hp.drewN | with_reducible apply Hp.set)); (try any_goals (repeat (first | with_reducible exact Upd.head | with_reducible apply Upd.tail)))) (by ((try simp only [size_drew_, size_drewN_, World.size_alloc, World.size_setCell, List.set_cons_zero, List.set_cons_succ, List.nil_append, List.cons_append]) <;> rfl))) (by (repeat (first | with_reducible exact Upd.head | with_reducible apply Upd.tail))) (by exact aggHas) (by rfl) (by simp [Value.oneCell']) ?_; clear H; intro w7 H; (try simp only [size_drew_, size_drewN_, World.size_alloc, World.size_setCell, List.set_cons_zero, List.set_cons_succ] at H); (try clear hr_ hd_ ho_ hz_); have hr_ := H.rules; simp only [Rules, and_true] at hr_; have hd_ := H.dif; simp only [Dif, Neq, and_true] at hd_; obtain ⟨ho_, hz_⟩ := H.old0))
        repeat ((fail_if_success (with_reducible (show Code.wp _ (Code.seq (Code.seq (Code.region 9 _ _) _) _) _ _ _))); go_step)
        (try clear hr_ hd_ ho_ hz_)
        refine codeH (by (repeat (first | with_reducible exact H | with_reducible exact H0_ | with_reducible apply Hp.alloc | with_reducible apply Hp.allocMap | with_reducible apply Hp.drew | with_reducible apply Hp.drewN | with_reducible apply Hp.set)); (try any_goals (repeat (first | with_reducible exact Upd.head | with_reducible apply Upd.tail)))) ?_
        clear H; intro w8 H; (try simp only [size_drew_, size_drewN_, World.size_alloc, World.size_setCell, List.set_cons_zero, List.set_cons_succ] at H)
        exact node9 (most := 10) HLS.out (H.arr (by (repeat (first | with_reducible exact Arr.nil | refine Arr.cons (by (repeat (first | with_reducible exact Pick.head | with_reducible apply Pick.tail))) ?_)) <;> exact Arr.of_subl (by (repeat (first | with_reducible exact Subl.refl _ | with_reducible apply Subl.drop)))))
      · have g24 : ((n : Int) == 24) = false := by simpa using k24
        have g10 : ((n : Int) == 10) = false := by simpa using k10
        rw [show R = tailQ m a ls ks.length q0 q1 q2 q3 8 from by rw [HN.out, if_neg k24, if_neg k10, Int.add_zero, hL8.out]; rfl]
        go_enter Tryz.func271, Tryz.ntmps271
        go_wp2_with fail
        have H := Hp.start no w
        refine callsH (by (repeat (first | with_reducible exact H | with_reducible exact H0_ | with_reducible apply Hp.alloc | with_reducible apply Hp.allocMap | with_reducible apply Hp.drew | with_reducible apply Hp.drewN | with_reducible apply Hp.set)); (try any_goals (repeat (first | with_reducible exact Upd.head | with_reducible apply Upd.tail)))) ?_
        clear H; intro w1 H; (try simp only [size_drew_, size_drewN_, World.size_alloc, World.size_setCell, List.set_cons_zero, List.set_cons_succ] at H)
        refine (within_calls11 (a := m) (b := a) ((H.blk .head).cells 0) ((H.blk .head).cells 1)).mono ?_
        rintro e w2 ⟨rfl, hx⟩
        replace H := H.call hx
        clear hx
        rw [HO.out]
        obtain ⟨c0, c1, c2, c3, c4⟩ := (HT.out.ext H.ext).row (k := n) (by omega)
        rw [HK.out] at c0 c1 c2 c3 c4
        (try dsimp only at c0 c1 c2 c3 c4)
        (try simp only [Nat.reduceMul, Nat.reduceAdd] at c0 c1 c2 c3 c4)
        have hr_ := H.rules; simp only [Rules, and_true] at hr_; have hd_ := H.dif; simp only [Dif, Neq, and_true] at hd_; obtain ⟨ho_, hz_⟩ := H.old0
        go_upto_region 7 with ((with_reducible refine atStore (t := 299) ?_); go_must (refine wpList_storeH (t := 299) rfl rfl (by go_simp <;> first | rfl | exact ⟨rfl, rfl⟩) (by go_simp <;> first | rfl | exact ⟨rfl, rfl⟩) (by exact Hp.norm (by (repeat (first | with_reducible exact H | with_reducible exact H0_ | with_reducible apply Hp.alloc | with_reducible apply Hp.allocMap | with_reducible apply Hp.drew | with_reducible apply Hp.drewN | with_reducible apply Hp.set)); (try any_goals (repeat (first | with_reducible exact Upd.head | with_reducible apply Upd.tail)))) (by ((try simp only [size_drew_, size_drewN_, World.size_alloc, World.size_setCell, List.set_cons_zero, List.set_cons_succ, List.nil_append, List.cons_append]) <;> rfl))) (by (repeat (first | with_reducible exact Upd.head | with_reducible apply Upd.tail))) (by exact aggHas) (by rfl) (by simp [Value.oneCell']) ?_; clear H; intro w7 H; (try simp only [size_drew_, size_drewN_, World.size_alloc, World.size_setCell, List.set_cons_zero, List.set_cons_succ] at H); (try clear hr_ hd_ ho_ hz_); have hr_ := H.rules; simp only [Rules, and_true] at hr_; have hd_ := H.dif; simp only [Dif, Neq, and_true] at hd_; obtain ⟨ho_, hz_⟩ := H.old0))
        repeat ((fail_if_success (with_reducible (show Code.wp _ (Code.seq (Code.seq (Code.region 9 _ _) _) _) _ _ _))); go_step)
        (try clear hr_ hd_ ho_ hz_)
        refine codeH (by (repeat (first | with_reducible exact H | with_reducible exact H0_ | with_reducible apply Hp.alloc | with_reducible apply Hp.allocMap | with_reducible apply Hp.drew | with_reducible apply Hp.drewN | with_reducible apply Hp.set)); (try any_goals (repeat (first | with_reducible exact Upd.head | with_reducible apply Upd.tail)))) ?_
        clear H; intro w8 H; (try simp only [size_drew_, size_drewN_, World.size_alloc, World.size_setCell, List.set_cons_zero, List.set_cons_succ] at H)
        exact node9 (most := 8) HLS.out (H.arr (by (repeat (first | with_reducible exact Arr.nil | refine Arr.cons (by (repeat (first | with_reducible exact Pick.head | with_reducible apply Pick.tail))) ?_)) <;> exact Arr.of_subl (by (repeat (first | with_reducible exact Subl.refl _ | with_reducible apply Subl.drop)))))
  · have HB : Hid (nodeQ (.mk k m a ls ks) = false) := by unfold Hid; rw [nodeQ_mk, nodeB_mk, ho]; simp
    have HO := Lib.hid ho
    clear ho
    go_enter Tryz.func271, Tryz.ntmps271
    go_wp2_with fail
    have H := Hp.start no w
    refine callsH (by (repeat (first | with_reducible exact H | with_reducible exact H0_ | with_reducible apply Hp.alloc | with_reducible apply Hp.allocMap | with_reducible apply Hp.drew | with_reducible apply Hp.drewN | with_reducible apply Hp.set)); (try any_goals (repeat (first | with_reducible exact Upd.head | with_reducible apply Upd.tail)))) ?_
    clear H; intro w1 H; (try simp only [size_drew_, size_drewN_, World.size_alloc, World.size_setCell, List.set_cons_zero, List.set_cons_succ] at H)
    refine (within_calls11 (a := m) (b := a) ((H.blk .head).cells 0) ((H.blk .head).cells 1)).mono ?_
    rintro e w2 ⟨rfl, hx⟩
    replace H := H.call hx
    clear hx
    rw [HO.out]
    go_wp2_with fail
    go_ret
    exact ⟨by rw [HB.out]; rfl, H.ext⟩
end Go.Proofs.YtmedomglemllnaaGreatDoor
/- term: count, Right: contracts. No statement of the seat is proved here. -/
namespace Go.Proofs.YtmedomglemllnaaGreatDoor
set_option linter.unusedSimpArgs false
set_option linter.unusedVariables false
open Go.RowKit

def PCnt (w0 : World) (l : List Ch) (bo : Nat) (r : Bool × Int) (q : Bool) (e : Ending) (w' : World) : Prop := e = .returned (.bool q) ∧ Hp no w0 w' (.box bo 3 [.int .i64 r.2] :: l)
def CntOK (t : Tm) : Prop := ∀ (w0 w : World) (l : List Ch) (S : Nat → Prop) (v : Value) (d n : Int) (bo : Nat), Tab w0 → TV w0 S t v → Hp no w0 w (.box bo 3 [.int .i64 n] :: l) → 0 ≤ n → n ≤ 20000 → 0 ≤ d → d ≤ 401 →
  Calls Tryz.prog 238 #[v, .int .i64 d, .pointer (some ⟨bo, 0, none⟩)] w (PCnt w0 l bo (cntT d n t) (cntT d n t).1)
abbrev cntB (bo gd gp : Nat) (d n : Int) (l : List Ch) : List Ch := .box bo 3 [.int .i64 n] :: .box gd 3 [.int .i64 d] :: .box gp 274 [.pointer (some ⟨bo, 0, none⟩)] :: l
set_option maxRecDepth 100000 in
set_option maxHeartbeats 4000000 in
theorem count1_calls {t : Tm} (IH : CntOK t) {w0 w : World} {l : List Ch} {S : Nat → Prop} {v : Value} {d n : Int} {bo gd gp : Nat} (hT : Tab w0) (hv : TV w0 S t v) (H : Hp no w0 w (cntB bo gd gp d n l)) (h0 : 0 ≤ n) (h1 : n ≤ 20000) (h2 : 0 ≤ d) (h3 : d ≤ 400) :
    Calls Tryz.prog 272 #[v, .pointer (some ⟨gd, 0, none⟩), .pointer (some ⟨gp, 0, none⟩)] w (PCnt w0 (.box gd 3 [.int .i64 d] :: .box gp 274 [.pointer (some ⟨bo, 0, none⟩)] :: l) bo (cntT (d + 1) n t) (!(cntT (d + 1) n t).1)) := by
  obtain ⟨A0, ca, K0, ck, rfl, hrc⟩ := hv
  have HV := Lib.hid hrc
  have HT := Lib.hid hT
  have HI := Lib.hid IH
  have hw : IntKind.i64.wrap (d + 1) = d + 1 := by rw [IntKind.wrap_i64]; omega
  have B := Lib.hid (And.intro h0 (And.intro h1 (And.intro h2 h3)))
  clear hrc hT IH h0 h1 h2 h3
  go_enter Tryz.func272, Tryz.ntmps272
  have hr_ := H.rules; simp only [Rules, and_true] at hr_; have hd_ := H.dif; simp only [Dif, Neq, and_true] at hd_; obtain ⟨ho_, hz_⟩ := H.old0
  go_wp2_with fail
  clear hr_ hd_ ho_ hz_ hw
  refine callsH (by (repeat (first | with_reducible exact H | with_reducible exact H0_ | with_reducible apply Hp.alloc | with_reducible apply Hp.allocMap | with_reducible apply Hp.drew | with_reducible apply Hp.drewN | with_reducible apply Hp.set)); (try any_goals (repeat (first | with_reducible exact Upd.head | with_reducible apply Upd.tail)))) ?_
  clear H; intro w1 H; (try simp only [size_drew_, size_drewN_, World.size_alloc, World.size_setCell, List.set_cons_zero, List.set_cons_succ] at H)
  refine (HI.out w0 w1 _ S _ (d + 1) n bo HT.out ⟨A0, ca, K0, ck, rfl, HV.out⟩ (H.pick (c := .box bo 3 [.int .i64 n]) (by (repeat (first | with_reducible exact Pick.head | with_reducible apply Pick.tail)))) B.out.1 B.out.2.1 (by have := B.out; omega) (by have := B.out; omega)).mono ?_
  rintro e w2 ⟨rfl, H2⟩
  clear H
  have H := H2
  clear H2
  go_wp2_with fail
  go_ret
  exact ⟨rfl, (H.arr (by (repeat (first | with_reducible exact Arr.nil | refine Arr.cons (by (repeat (first | with_reducible exact Pick.head | with_reducible apply Pick.tail))) ?_)) <;> exact Arr.of_subl (by (repeat (first | with_reducible exact Subl.refl _ | with_reducible apply Subl.drop)))))⟩
theorem cntsT_drop {ts : List Tm} {d n : Int} {j : Nat} (h : j < ts.length) : cntsT d n (ts.drop j) = if (cntT d n ts[j]).1 = true then cntsT d (cntT d n ts[j]).2 (ts.drop (j + 1)) else (false, (cntT d n ts[j]).2) := by
  rw [List.drop_eq_getElem_cons h, cntsT]
set_option maxRecDepth 100000 in
set_option maxHeartbeats 4000000 in
theorem cntIndex {ts : List Tm} (IH : ∀ t ∈ ts, CntOK t) {w0 w : World} {l : List Ch} {S : Nat → Prop} {A : Option Addr} {k c : Nat} {d n : Int} {bo gd gp : Nat} (hT : Tab w0) (hv : RC w0 S (.l 26 5 (ts.map Tm.d)) [.slice A k c]) (hk : k = ts.length) (H : Hp no w0 w (cntB bo gd gp d n l)) (h0 : 0 ≤ n) (h1 : n ≤ 20000) (h2 : 0 ≤ d) (h3 : d ≤ 400) :
    Calls Tryz.prog 276 #[.slice A k c, .func (.func 272) #[] #[.pointer (some ⟨gd, 0, none⟩), .pointer (some ⟨gp, 0, none⟩)]] w
      fun e w' => ∃ i : Int, e = .returned (.int .i64 i) ∧ ((0 ≤ i) = ((cntsT (d + 1) n ts).1 = false)) ∧ Hp no w0 w' (cntB bo gd gp d (cntsT (d + 1) n ts).2 l) := by
  subst hk
  have hM := hv.lenM
  have HT := Lib.hid hT
  have HI := Lib.hid IH
  have B := Lib.hid (And.intro h0 (And.intro h1 (And.intro h2 h3)))
  have eg := enters_of Tryz.func272 (by kernel_rfl) rfl
  clear hT IH h0 h1 h2 h3
  go_enter Tryz.func276, Tryz.ntmps276
  have hr_ := H.rules; simp only [Rules, and_true] at hr_; have hd_ := H.dif; simp only [Dif, Neq, and_true] at hd_; obtain ⟨ho_, hz_⟩ := H.old0
  go_wp2_with fail
  clear hr_ hd_ ho_ hz_
  go_loopw [5, 8] (fun u i wr => ∃ (j : Nat) (nj : Int), j ≤ ts.length ∧ i = .int .i64 j ∧ Hid (cntsT (d + 1) nj (ts.drop j) = cntsT (d + 1) n ts) ∧ Hid (0 ≤ nj ∧ nj ≤ 20000) ∧ Hp no w0 wr (cntB bo gd gp d nj l)) (fun _ i _ => ts.length - (intOf i).toNat)
  case atStart => exact ⟨0, n, Nat.zero_le _, rfl, Lib.hid (by simp), Lib.hid ⟨B.out.1, B.out.2.1⟩, H⟩
  case round =>
    clear H
    obtain ⟨j, nj, hj, rfl, HS, HB, H⟩ := hrel
    by_cases hlt : j < ts.length
    · obtain ⟨b, o, A1, ca1, K1, ck1, rfl, hb, hS, hd, p0, p1, p2, p3, p4⟩ := hv.atTm hlt
      have HD := Lib.hid hd
      have HE := Lib.hid (cntsT_drop (d := d + 1) (n := nj) hlt)
      clear hd
      have hr_ := H.rules; simp only [Rules, and_true] at hr_; have hd_ := H.dif; simp only [Dif, Neq, and_true] at hd_; obtain ⟨ho_, hz_⟩ := H.old0
      go_wp2_with fail
      clear hr_ hd_ ho_ hz_
      refine callsH (by (repeat (first | with_reducible exact H | with_reducible exact H0_ | with_reducible apply Hp.alloc | with_reducible apply Hp.allocMap | with_reducible apply Hp.drew | with_reducible apply Hp.drewN | with_reducible apply Hp.set)); (try any_goals (repeat (first | with_reducible exact Upd.head | with_reducible apply Upd.tail)))) ?_
      clear H; intro w1 H; (try simp only [size_drew_, size_drewN_, World.size_alloc, World.size_setCell, List.set_cons_zero, List.set_cons_succ] at H)
      refine (count1_calls (HI.out ts[j] (List.getElem_mem hlt)) HT.out ⟨_, _, _, _, rfl, HD.out⟩ H HB.out.1 HB.out.2 B.out.2.2.1 B.out.2.2.2).mono ?_
      rintro e w2 ⟨rfl, H2⟩
      clear H
      have H := H2
      clear H2
      have hce := (cnt_eq ts[j] (d + 1) nj HB.out.1)
      cases hq : (cntT (d + 1) nj ts[j]).1
      · have HQ := Lib.hid hq
        clear hq hce
        obtain ⟨n', hn'⟩ : ∃ n', n' = (cntT (d + 1) nj ts[j]).2 := ⟨_, rfl⟩
        rw [← hn'] at H
        have HN := Lib.hid hn'
        clear hn'
        go_wp2_with fail
        go_ret
        have e : cntsT (d + 1) n ts = (false, n') := by rw [← HS.out, HE.out, HQ.out, HN.out]; rfl
        exact ⟨j, rfl, by rw [e]; simp, by rw [e]; exact H⟩
      · have hb2 : (cntT (d + 1) nj ts[j]).2 = nj + nodesT ts[j] ∧ nj + nodesT ts[j] ≤ 20000 := by
          refine ⟨hce.2 hq, ?_⟩
          have := hce.1
          rw [hq] at this
          have h9 := this.symm
          rw [Bool.and_eq_true] at h9
          exact of_decide_eq_true h9.2
        have HQ := Lib.hid hq
        clear hq hce
        obtain ⟨n', hn'⟩ : ∃ n', n' = (cntT (d + 1) nj ts[j]).2 := ⟨_, rfl⟩
        rw [← hn'] at H hb2
        have HN := Lib.hid hn'
        have HB2 : Hid (0 ≤ n' ∧ n' ≤ 20000) := Lib.hid (by have := HB.out; omega)
        clear hn' hb2
        go_wp2_with fail
        go_roundw
        case rel => exact ⟨j + 1, n', by omega, by first | go_num | rfl | simp, Lib.hid (by rw [← HS.out, HE.out, HQ.out, HN.out]; rfl), HB2, H⟩
        case measure => simp [intOf]; omega
    · have e : cntsT (d + 1) n ts = (true, nj) := by rw [← HS.out, List.drop_eq_nil_of_le (by omega), cntsT]
      have E := Lib.hid e
      clear e
      go_wp2_with fail
      go_ret
      exact ⟨-1, rfl, by rw [E.out]; simp, by rw [E.out]; exact H⟩
set_option maxRecDepth 100000 in
set_option maxHeartbeats 4000000 in
theorem cntSome {ts : List Tm} (IH : ∀ t ∈ ts, CntOK t) {w0 w : World} {l : List Ch} {S : Nat → Prop} {A : Option Addr} {k c : Nat} {d n : Int} {bo gd gp : Nat} (hT : Tab w0) (hv : RC w0 S (.l 26 5 (ts.map Tm.d)) [.slice A k c]) (hk : k = ts.length) (H : Hp no w0 w (cntB bo gd gp d n l)) (h0 : 0 ≤ n) (h1 : n ≤ 20000) (h2 : 0 ≤ d) (h3 : d ≤ 400) :
    Calls Tryz.prog 251 #[.slice A k c, .func (.func 272) #[] #[.pointer (some ⟨gd, 0, none⟩), .pointer (some ⟨gp, 0, none⟩)]] w
      fun e w' => e = .returned (.bool (!(cntsT (d + 1) n ts).1)) ∧ Hp no w0 w' (cntB bo gd gp d (cntsT (d + 1) n ts).2 l) := by
  have HI := Lib.hid (cntIndex IH hT hv hk H h0 h1 h2 h3)
  clear IH hT hv h0 h1 h2 h3 hk H
  go_enter Tryz.func251, Tryz.ntmps251
  go_wp2_with fail
  refine HI.out.mono ?_
  rintro e w1 ⟨i, rfl, hi, H⟩
  cases hq : (cntsT (d + 1) n ts).1
  · have g : decide (0 ≤ i) = true := by rw [hq] at hi; simpa using hi
    have HQ := Lib.hid hq
    clear hi hq
    go_wp2_with fail
    go_ret
    exact ⟨by rw [HQ.out]; rfl, H⟩
  · have g : decide (0 ≤ i) = false := by rw [hq] at hi; simpa using hi
    have HQ := Lib.hid hq
    clear hi hq
    go_wp2_with fail
    go_ret
    exact ⟨by rw [HQ.out]; rfl, H⟩
set_option maxRecDepth 100000 in
set_option maxHeartbeats 8000000 in
theorem count_calls : ∀ t : Tm, CntOK t := by
  intro t
  induction t using Tm.ind_ with
  | h k m a ls ks ih =>
  rintro w0 w l S v d n bo hT ⟨A0, ca, K0, ck, rfl, hrc⟩ H h0 h1 h2 h3
  obtain ⟨_, _, _, _, he, _, _, _, hls, hks⟩ := RC.tm.1 hrc
  simp only [Tm.ls_mk, Tm.ks_mk, Tm.k_mk, Tm.n_mk, Tm.a_mk, List.cons.injEq, Value.slice.injEq, and_true, true_and] at he hls hks hrc ⊢
  obtain ⟨⟨rfl, rfl⟩, rfl, rfl⟩ := he
  have HV := Lib.hid hrc
  have HK := Lib.hid hks
  have HT := Lib.hid hT
  have HI := Lib.hid ih
  have hmf : ∀ (fn : Fn) (first cap : Array Value) (w : World), (Instr.makeFunc fn first cap).run Tryz.prog w = .ok (.func fn first cap) w := fun _ _ _ _ => rfl
  have hw : IntKind.i64.wrap (n + 1) = n + 1 := by rw [IntKind.wrap_i64]; omega
  have B := Lib.hid (And.intro h0 (And.intro h1 (And.intro h2 h3)))
  clear hrc hks hls hT ih h0 h1 h2 h3
  go_enter Tryz.func238, Tryz.ntmps238
  go_upto_region 1 with fail
  refine codeH (by (repeat (first | with_reducible exact H | with_reducible exact H0_ | with_reducible apply Hp.alloc | with_reducible apply Hp.allocMap | with_reducible apply Hp.drew | with_reducible apply Hp.drewN | with_reducible apply Hp.set)); (try any_goals (repeat (first | with_reducible exact Upd.head | with_reducible apply Upd.tail)))) ?_
  clear H; intro w1_ H; (try simp only [size_drew_, size_drewN_, World.size_alloc, World.size_setCell, List.set_cons_zero, List.set_cons_succ] at H)
  by_cases c1 : d ≤ 400
  · by_cases c2 : n + 1 ≤ 20000
    · have hr_ := H.rules; simp only [Rules, and_true] at hr_; have hd_ := H.dif; simp only [Dif, Neq, and_true] at hd_; obtain ⟨ho_, hz_⟩ := H.old0
      go_wp2_with fail
      clear hr_ hd_ ho_ hz_
      refine callsH (by (repeat (first | with_reducible exact H | with_reducible exact H0_ | with_reducible apply Hp.alloc | with_reducible apply Hp.allocMap | with_reducible apply Hp.drew | with_reducible apply Hp.drewN | with_reducible apply Hp.set)); (try any_goals (repeat (first | with_reducible exact Upd.head | with_reducible apply Upd.tail)))) ?_
      clear H; intro w1 H; (try simp only [size_drew_, size_drewN_, World.size_alloc, World.size_setCell, List.set_cons_zero, List.set_cons_succ] at H)
      refine (node_calls (t := .mk k m a ls ks) (HT.out.ext H.ext) ⟨A0, ca, K0, ck, rfl, HV.out.ext0 H.ext⟩).mono ?_
      rintro e w_ ⟨rfl, hx⟩
      replace H := H.call hx
      clear hx
      cases hq : nodeQ (.mk k m a ls ks)
      · have HQ := Lib.hid hq
        clear hq
        have HE : Hid (cntT d n (.mk k m a ls ks) = (false, n + 1)) := by unfold Hid; rw [cntT, if_neg (by rw [HQ.out]; simp)]
        have hr_ := H.rules; simp only [Rules, and_true] at hr_; have hd_ := H.dif; simp only [Dif, Neq, and_true] at hd_; obtain ⟨ho_, hz_⟩ := H.old0
        go_wp2_with fail
        (try clear hr_ hd_ ho_ hz_)
        refine endH (by (repeat (first | with_reducible exact H | with_reducible exact H0_ | with_reducible apply Hp.alloc | with_reducible apply Hp.allocMap | with_reducible apply Hp.drew | with_reducible apply Hp.drewN | with_reducible apply Hp.set)); (try any_goals (repeat (first | with_reducible exact Upd.head | with_reducible apply Upd.tail)))) ?_
        clear H; intro w9_ H; (try simp only [size_drew_, size_drewN_, World.size_alloc, World.size_setCell, List.set_cons_zero, List.set_cons_succ] at H)
        go_ret
        exact ⟨by rw [HE.out]; (first | done | rfl), by rw [HE.out]; exact (H.arr (by (repeat (first | with_reducible exact Arr.nil | refine Arr.cons (by (repeat (first | with_reducible exact Pick.head | with_reducible apply Pick.tail))) ?_)) <;> exact Arr.of_subl (by (repeat (first | with_reducible exact Subl.refl _ | with_reducible apply Subl.drop)))))⟩
      · have HE : Hid (cntT d n (.mk k m a ls ks) = cntsT (d + 1) (n + 1) ks) := by unfold Hid; rw [cntT, if_pos ⟨c1, c2, hq⟩]
        clear hq
        have hr_ := H.rules; simp only [Rules, and_true] at hr_; have hd_ := H.dif; simp only [Dif, Neq, and_true] at hd_; obtain ⟨ho_, hz_⟩ := H.old0
        go_wp2_with fail
        clear hr_ hd_ ho_ hz_ hw
        have C := Lib.hid (And.intro c1 c2)
        clear c1 c2
        refine (cntSome (d := d) (n := n + 1) HI.out HT.out HK.out rfl (H.arr (by (repeat (first | with_reducible exact Arr.nil | refine Arr.cons (by (repeat (first | with_reducible exact Pick.head | with_reducible apply Pick.tail))) ?_)) <;> exact Arr.of_subl (by (repeat (first | with_reducible exact Subl.refl _ | with_reducible apply Subl.drop))))) (by have := B.out; omega) C.out.2 B.out.2.2.1 C.out.1).mono ?_
        rintro e w2 ⟨rfl, H2⟩
        clear H
        have H := H2
        clear H2
        go_wp2_with fail
        go_ret
        exact ⟨by rw [HE.out]; simp, by rw [HE.out]; exact (H.arr (by (repeat (first | with_reducible exact Arr.nil | refine Arr.cons (by (repeat (first | with_reducible exact Pick.head | with_reducible apply Pick.tail))) ?_)) <;> exact Arr.of_subl (by (repeat (first | with_reducible exact Subl.refl _ | with_reducible apply Subl.drop)))))⟩
    ·
      have HE : Hid (cntT d n (.mk k m a ls ks) = (false, n + 1)) := by unfold Hid; rw [cntT, if_neg (by rintro ⟨_, h, _⟩; exact c2 h)]
      have hr_ := H.rules; simp only [Rules, and_true] at hr_; have hd_ := H.dif; simp only [Dif, Neq, and_true] at hd_; obtain ⟨ho_, hz_⟩ := H.old0
      go_wp2_with fail
      (try clear hr_ hd_ ho_ hz_)
      refine endH (by (repeat (first | with_reducible exact H | with_reducible exact H0_ | with_reducible apply Hp.alloc | with_reducible apply Hp.allocMap | with_reducible apply Hp.drew | with_reducible apply Hp.drewN | with_reducible apply Hp.set)); (try any_goals (repeat (first | with_reducible exact Upd.head | with_reducible apply Upd.tail)))) ?_
      clear H; intro w9_ H; (try simp only [size_drew_, size_drewN_, World.size_alloc, World.size_setCell, List.set_cons_zero, List.set_cons_succ] at H)
      go_ret
      exact ⟨by rw [HE.out]; (first | done | rfl), by rw [HE.out]; exact (H.arr (by (repeat (first | with_reducible exact Arr.nil | refine Arr.cons (by (repeat (first | with_reducible exact Pick.head | with_reducible apply Pick.tail))) ?_)) <;> exact Arr.of_subl (by (repeat (first | with_reducible exact Subl.refl _ | with_reducible apply Subl.drop)))))⟩
  ·
    have HE : Hid (cntT d n (.mk k m a ls ks) = (false, n + 1)) := by unfold Hid; rw [cntT, if_neg (by rintro ⟨h, _⟩; exact c1 h)]
    have hr_ := H.rules; simp only [Rules, and_true] at hr_; have hd_ := H.dif; simp only [Dif, Neq, and_true] at hd_; obtain ⟨ho_, hz_⟩ := H.old0
    go_wp2_with fail
    (try clear hr_ hd_ ho_ hz_)
    refine endH (by (repeat (first | with_reducible exact H | with_reducible exact H0_ | with_reducible apply Hp.alloc | with_reducible apply Hp.allocMap | with_reducible apply Hp.drew | with_reducible apply Hp.drewN | with_reducible apply Hp.set)); (try any_goals (repeat (first | with_reducible exact Upd.head | with_reducible apply Upd.tail)))) ?_
    clear H; intro w9_ H; (try simp only [size_drew_, size_drewN_, World.size_alloc, World.size_setCell, List.set_cons_zero, List.set_cons_succ] at H)
    go_ret
    exact ⟨by rw [HE.out]; (first | done | rfl), by rw [HE.out]; exact (H.arr (by (repeat (first | with_reducible exact Arr.nil | refine Arr.cons (by (repeat (first | with_reducible exact Pick.head | with_reducible apply Pick.tail))) ?_)) <;> exact Arr.of_subl (by (repeat (first | with_reducible exact Subl.refl _ | with_reducible apply Subl.drop)))))⟩
set_option maxRecDepth 100000 in
set_option maxHeartbeats 2000000 in
theorem tmRight_calls {w : World} {S : Nat → Prop} {t : Tm} {v : Value} (hT : Tab w) (h : TV w S t v) : Calls Tryz.prog 175 #[v] w (PV w (.bool (rightQ t))) := by
  obtain ⟨A0, ca, K0, ck, rfl, hrc⟩ := h
  have HV := Lib.hid hrc
  have HT := Lib.hid hT
  clear hrc hT
  go_enter Tryz.func175, Tryz.ntmps175
  go_wp2_with fail
  have H := Hp.start no w
  refine callsH (by (repeat (first | with_reducible exact H | with_reducible exact H0_ | with_reducible apply Hp.alloc | with_reducible apply Hp.allocMap | with_reducible apply Hp.drew | with_reducible apply Hp.drewN | with_reducible apply Hp.set)); (try any_goals (repeat (first | with_reducible exact Upd.head | with_reducible apply Upd.tail)))) ?_
  clear H; intro w1 H; (try simp only [size_drew_, size_drewN_, World.size_alloc, World.size_setCell, List.set_cons_zero, List.set_cons_succ] at H)
  refine (count_calls t w w1 _ S _ 1 0 _ HT.out ⟨A0, ca, K0, ck, rfl, HV.out⟩ H (by omega) (by omega) (by omega) (by omega)).mono ?_
  rintro e w2 ⟨rfl, H2⟩
  clear H
  have H := H2
  clear H2
  have HR := Lib.hid (show (cntT 1 0 t).1 = rightQ t from rfl)
  rw [HR.out]
  go_wp2_with fail
  go_ret
  exact ⟨rfl, H.ext⟩
end Go.Proofs.YtmedomglemllnaaGreatDoor
