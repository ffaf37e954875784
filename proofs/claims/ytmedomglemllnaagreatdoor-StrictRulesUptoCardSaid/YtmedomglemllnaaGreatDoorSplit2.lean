/- split: fits, arg: contracts. No statement of the seat is proved here. -/
import Derived.Test.YtmedomglemllnaaGreatDoorMgSplitSpec
namespace Go.Proofs.YtmedomglemllnaaGreatDoor
set_option linter.unusedSimpArgs false
set_option linter.unusedVariables false
open Go.RowKit

theorem inIz : inI 0 := by unfold inI; omega
def PArg (w : World) (r : Except Int Ar) (e : Ending) (w' : World) : Prop := match r with
  | .ok a => ∃ cs : List Value, e = .returned (.agg cs.toArray) ∧ Hp no w w' [.dat a.d cs]
  | .error c => e = .panicked (errP c) ∧ Ext no w w'
section
variable {X : Nat → Prop} {w0 w : World} {l l1 l2 : List Ch}
theorem Hp.arT {t : Tm} {v4 v5 : Value} (H : Hp X w0 w l) (p : Pick l (.dat t.d [.int .i64 t.k, .int .i64 t.n, .int .i64 t.a, v4, v5]) l1) :
    Hp X w0 w (.dat (Ar.mk false t [] 0 []).d [.bool false, .int .i64 t.k, .int .i64 t.n, .int .i64 t.a, v4, v5, .slice none 0 0, .int .i64 0, .slice none 0 0] :: l1) := by
  refine Hp.turn (ds := [_]) (ds' := [_]) (H.pick p) ?_
  intro L h
  simp only [Chs] at h ⊢
  obtain ⟨L1, _, rfl, h1, rfl⟩ := h
  exact ⟨L1, [], by simp, RO.ar.2 ⟨v4, v5, L1, _, [], _, [], rfl, by simp, h1, RO.nil, inIz, RO.nil⟩, rfl⟩
theorem Hp.arR {m : Int} {row ix : List Tm} {v6 v8 : Value} (H : Hp X w0 w l) (p1 : Pick l (.dat (.l 26 5 (row.map Tm.d)) [v6]) l1) (p2 : Pick l1 (.dat (.l 26 5 (ix.map Tm.d)) [v8]) l2) (i : inI m) :
    Hp X w0 w (.dat (Ar.mk true zT row m ix).d [.bool true, .int .i64 0, .int .i64 0, .int .i64 0, .slice none 0 0, .slice none 0 0, v6, .int .i64 m, v8] :: l2) := by
  have H2 := ((H.pick p1).pick (.tail p2)).swap
  refine Hp.turn (ds := [_, _]) (ds' := [_]) H2 ?_
  intro L h
  simp only [Chs] at h ⊢
  obtain ⟨L1, _, rfl, h1, L2, _, rfl, h2, rfl⟩ := h
  exact ⟨L1 ++ L2, [], by simp, RO.ar.2 ⟨_, _, [], v6, L1, v8, L2, rfl, by simp, RO.tm.2 ⟨_, _, [], [], rfl, rfl, inIz, inIz, inIz, RO.nil, RO.nil⟩, h1, i, h2⟩, rfl⟩
end
theorem Hp.oneRd {w0 w : World} {l l' : List Ch} {g e : Nat} {t : Tm} {cs : List Value} {S : Nat → Prop} (H : Hp no w0 w l) (p : Pick l (.box g e cs) l') (h : RC w0 S t.d cs) : ∃ S', RC w S' (.l e 5 ([t].map Tm.d)) [.slice (some ⟨g, 0, none⟩) 1 1] :=
  ⟨_, (H.boxRowO p h (Tm.size_d t)).rowRd .head⟩
set_option maxRecDepth 100000 in
set_option maxHeartbeats 2000000 in
theorem fits_calls {S1 : Nat → Prop} {w : World} {ms : List Mb} {Am A : Option Addr} {cm gw m n c : Nat} (hms : RC w S1 (.l 73 1 (ms.map Mb.d)) [.slice Am ms.length cm]) (hc : w.cell? ⟨gw, 3, none⟩ = some (.slice Am ms.length cm)) (hm : m < ms.length) :
    Calls Tryz.prog 194 #[.pointer (some ⟨gw, 0, none⟩), .int .i64 (m : Int), .slice A n c] w (PV w (.bool (decide (n = ms[m].index.length)))) := by
  have lc := cell_lt hc
  have hM := hms.lenM
  obtain ⟨b, o, A1, c1, rfl, hb, hS, hd, p0⟩ := hms.atMb hm
  obtain ⟨_, _, he, hix⟩ := RC.mb.1 hd
  simp only [List.cons.injEq, Value.slice.injEq, and_true, true_and] at he
  obtain ⟨rfl, rfl⟩ := he
  have hM2 := hix.lenM
  clear hms hd hix
  by_cases hn : n = ms[m].index.length
  · have HN := Lib.hid hn
    have hn2 : ((n : Int) == (ms[m].index.length : Int)) = true := by rw [beq_iff_eq]; omega
    clear hn
    go_enter Tryz.func194, Tryz.ntmps194
    go_wp2_with fail
    go_ret
    exact ⟨by simp [HN.out], Ext.refl _ _⟩
  · have HN := Lib.hid hn
    have hn2 : ((n : Int) == (ms[m].index.length : Int)) = false := by rw [beq_eq_false_iff_ne]; omega
    clear hn
    go_enter Tryz.func194, Tryz.ntmps194
    go_wp2_with fail
    go_ret
    exact ⟨by simp [HN.out], Ext.refl _ _⟩
set_option maxRecDepth 100000 in
set_option maxHeartbeats 4000000 in
theorem arg_calls {S S1 : Nat → Prop} {t : Tm} {w : World} {v : Value} {ms : List Mb} {Am : Option Addr} {cm gw : Nat} (hT : Tab w) (h : TV w S t v) (hms : RC w S1 (.l 73 1 (ms.map Mb.d)) [.slice Am ms.length cm]) (hc : w.cell? ⟨gw, 3, none⟩ = some (.slice Am ms.length cm)) (hb : sizeT t ≤ 4000000) :
    Calls Tryz.prog 192 #[.pointer (some ⟨gw, 0, none⟩), v] w (PArg w (argQ ms t)) := by
  obtain ⟨A0, ca, K0, ck, rfl, hrc⟩ := h
  have lc := cell_lt hc
  have hM := hms.lenM
  have HT := Lib.hid hT
  have HRC := Lib.hid hrc
  have HMS := Lib.hid hms
  have HB := Lib.hid hb
  have hok := RC.ok _ hrc
  have hl0 := Lib.hid (liftT0 hok)
  obtain ⟨R, hR⟩ : ∃ R, R = argQ ms t := ⟨_, rfl⟩
  rw [← hR]
  have HR := Lib.hid hR
  clear hT hrc hms hb hok hR
  go_enter Tryz.func192, Tryz.ntmps192
  have H := Hp.start no w
  go_wp2_with fail
  refine callsH (by (repeat (first | with_reducible exact H | with_reducible exact H0_ | with_reducible apply Hp.alloc | with_reducible apply Hp.allocMap | with_reducible apply Hp.drew | with_reducible apply Hp.drewN | with_reducible apply Hp.set)); (try any_goals (repeat (first | with_reducible exact Upd.head | with_reducible apply Upd.tail)))) ?_
  clear H; intro w1 H; (try simp only [size_drew_, size_drewN_, World.size_alloc, World.size_setCell, List.set_cons_zero, List.set_cons_succ] at H)
  obtain ⟨q, hq⟩ : ∃ q, q = selfT t := ⟨_, rfl⟩
  obtain ⟨S', hone⟩ := H.oneRd (t := t) .head HRC.out
  have hcall := sfree_calls (xs := [t]) hone rfl (by simpa [sizesT] using Nat.le_trans HB.out (by omega))
  rw [show (![t].any selfT) = !q by rw [hq]; simp] at hcall
  have HQ := Lib.hid hq
  clear hq hone
  refine (hcall).mono ?_
  rintro e w_ ⟨rfl, hx⟩
  replace H := H.call hx
  clear hx
  clear hcall
  cases q
  · have HR2 : Hid (R = .ok ⟨false, t, [], 0, []⟩) := by
      unfold Hid
      rw [HR.out, argQ, if_pos HQ.out.symm]
    have hr_ := H.rules; simp only [Rules, and_true] at hr_; have hd_ := H.dif; simp only [Dif, Neq, and_true] at hd_; obtain ⟨ho_, hz_⟩ := H.old0
    go_wp2_with fail
    clear hr_ hd_ ho_ hz_
    refine callsH (by (repeat (first | with_reducible exact H | with_reducible exact H0_ | with_reducible apply Hp.alloc | with_reducible apply Hp.allocMap | with_reducible apply Hp.drew | with_reducible apply Hp.drewN | with_reducible apply Hp.set)); (try any_goals (repeat (first | with_reducible exact Upd.head | with_reducible apply Upd.tail)))) ?_
    clear H; intro w2 H; (try simp only [size_drew_, size_drewN_, World.size_alloc, World.size_setCell, List.set_cons_zero, List.set_cons_succ] at H)
    have hlift := lift_calls (HT.out.ext H.ext) 0 0 ⟨_, _, _, _, rfl, HRC.out.ext0 H.ext⟩
    rw [hl0.out] at hlift
    refine hlift.mono ?_
    clear hlift
    rintro e w_ ⟨v, rfl, hto, hx⟩
    obtain ⟨D1, Dc, D2, Dk, rfl, H_⟩ := H.resTm hx hto
    clear H hx hto
    have H := H_
    clear H_
    have hr_ := H.rules; simp only [Rules, and_true] at hr_; have hd_ := H.dif; simp only [Dif, Neq, and_true] at hd_; obtain ⟨ho_, hz_⟩ := H.old0
    go_wp2_with ((with_reducible refine atStore (t := 145) ?_); go_must (refine wpList_storeH (t := 145) rfl rfl (by go_simp <;> first | rfl | exact ⟨rfl, rfl⟩) (by go_simp <;> first | rfl | exact ⟨rfl, rfl⟩) (by exact Hp.norm (by (repeat (first | with_reducible exact H | with_reducible exact H0_ | with_reducible apply Hp.alloc | with_reducible apply Hp.allocMap | with_reducible apply Hp.drew | with_reducible apply Hp.drewN | with_reducible apply Hp.set)); (try any_goals (repeat (first | with_reducible exact Upd.head | with_reducible apply Upd.tail)))) (by ((try simp only [size_drew_, size_drewN_, World.size_alloc, World.size_setCell, List.set_cons_zero, List.set_cons_succ, List.nil_append, List.cons_append]) <;> rfl))) (by (repeat (first | with_reducible exact Upd.head | with_reducible apply Upd.tail))) (by exact aggArg) (by rfl) (by simp [Value.oneCell']) ?_; clear H; intro w3 H; (try simp only [size_drew_, size_drewN_, World.size_alloc, World.size_setCell, List.set_cons_zero, List.set_cons_succ] at H); (try clear hr_ hd_ ho_ hz_); have hr_ := H.rules; simp only [Rules, and_true] at hr_; have hd_ := H.dif; simp only [Dif, Neq, and_true] at hd_; obtain ⟨ho_, hz_⟩ := H.old0))
    (try clear hr_ hd_ ho_ hz_)
    rw [HR2.out]
    exact bodyPost_ret (v := .agg #[_, _, _, _, _, _, _, _, _]) (Res.one Tryz.results192 (H.resBox (by (repeat (first | with_reducible exact Pick.head | with_reducible apply Pick.tail))) aggArg rfl rfl)) rfl ⟨_, rfl, (H.arT (t := t) .head).only (.keep (by (repeat (first | with_reducible exact Subl.nil | with_reducible apply Subl.drop))))⟩
  · dsimp only [Bool.not_true]
    clear hl0
    have hcs := countT_size t
    have hct : countT t ≤ 4000000 := Nat.le_trans hcs HB.out
    obtain ⟨N, hN⟩ : ∃ N, N = countT t := ⟨_, rfl⟩
    have hR2 : R = argQ ms t := HR.out
    rw [argQ, if_neg (by rw [← HQ.out]; simp)] at hR2
    rw [← hN] at hct hR2
    have HR2 := Lib.hid hR2
    have HN := Lib.hid hN
    clear hR2 hcs
    have hr_ := H.rules; simp only [Rules, and_true] at hr_; have hd_ := H.dif; simp only [Dif, Neq, and_true] at hd_; obtain ⟨ho_, hz_⟩ := H.old0
    go_wp2_with fail
    clear hr_ hd_ ho_ hz_
    refine callsH (by (repeat (first | with_reducible exact H | with_reducible exact H0_ | with_reducible apply Hp.alloc | with_reducible apply Hp.allocMap | with_reducible apply Hp.drew | with_reducible apply Hp.drewN | with_reducible apply Hp.set)); (try any_goals (repeat (first | with_reducible exact Upd.head | with_reducible apply Upd.tail)))) ?_
    clear H; intro w2 H; (try simp only [size_drew_, size_drewN_, World.size_alloc, World.size_setCell, List.set_cons_zero, List.set_cons_succ] at H)
    have hcall := teleCount (t := t) ⟨_, _, _, _, rfl, HRC.out.ext0 H.ext⟩ (by omega)
    rw [← hN] at hcall
    clear hN
    refine (hcall).mono ?_
    rintro e w_ ⟨rfl, hx⟩
    replace H := H.call hx
    clear hx
    clear hcall
    go_wp2_with fail
    refine callsH (by (repeat (first | with_reducible exact H | with_reducible exact H0_ | with_reducible apply Hp.alloc | with_reducible apply Hp.allocMap | with_reducible apply Hp.drew | with_reducible apply Hp.drewN | with_reducible apply Hp.set)); (try any_goals (repeat (first | with_reducible exact Upd.head | with_reducible apply Upd.tail)))) ?_
    clear H; intro w3 H; (try simp only [size_drew_, size_drewN_, World.size_alloc, World.size_setCell, List.set_cons_zero, List.set_cons_succ] at H)
    refine (xmust1 3 H (by (repeat (first | with_reducible exact Pick.head | with_reducible apply Pick.tail)))).mono ?_
    rintro e w4_ hm
    have hx := hm.2
    have HM := Lib.hid hm
    clear hm
    replace H := H.call hx
    clear hx
    by_cases h6 : (N : Int) ≤ 6
    · obtain rfl := HM.out.yes (by simpa using h6)
      have hR3 := HR2.out
      rw [if_pos h6] at hR3
      have HR3 := Lib.hid hR3
      have hN6 : N ≤ 6 := by omega
      clear hR3 h6 HM
      have hr_ := H.rules; simp only [Rules, and_true] at hr_; have hd_ := H.dif; simp only [Dif, Neq, and_true] at hd_; obtain ⟨ho_, hz_⟩ := H.old0
      go_wp2_with fail
      clear hr_ hd_ ho_ hz_
      refine callsH (by (repeat (first | with_reducible exact H | with_reducible exact H0_ | with_reducible apply Hp.alloc | with_reducible apply Hp.allocMap | with_reducible apply Hp.drew | with_reducible apply Hp.drewN | with_reducible apply Hp.set)); (try any_goals (repeat (first | with_reducible exact Upd.head | with_reducible apply Upd.tail)))) ?_
      clear H; intro w5 H; (try simp only [size_drew_, size_drewN_, World.size_alloc, World.size_setCell, List.set_cons_zero, List.set_cons_succ] at H)
      refine (teleOpen (t := t) (HT.out.ext H.ext) ⟨_, _, _, _, rfl, HRC.out.ext0 H.ext⟩ (N : Int) (.inr (by omega)) (by unfold inI; omega)).mono ?_
      rintro e w6 ⟨A1, c1, B1, cb1, K1, kb1, ls, r, hlr, rfl, H2⟩
      have ho : openN (N : Int) t = some (openAll t) := by
        unfold openN
        rw [if_neg (by omega), Int.toNat_natCast, HN.out]
        exact openAll_eq t
      rw [ho] at hlr ⊢
      simp only [Option.getD_some, Option.isSome_some] at hlr ⊢
      have e1 : ls = (openAll t).1 := congrArg Prod.fst hlr
      have e2 : r = (openAll t).2 := congrArg Prod.snd hlr
      have hsz := openAll_size t
      rw [← e1, ← e2] at hsz
      have hsp := spineT_size r
      have hR4 := HR3.out
      rw [← e1, ← e2] at hR4
      obtain ⟨hd, hhd⟩ : ∃ hd, hd = (spineT r).1 := ⟨_, rfl⟩
      obtain ⟨l, hl⟩ : ∃ l, l = (spineT r).2 := ⟨_, rfl⟩
      rw [← hhd, ← hl] at hR4 hsp
      have HR4 := Lib.hid hR4
      have hb := HB.out
      have HSL := Lib.hid (show sizesT l ≤ 4000000 by omega)
      have HSR := Lib.hid (show sizesT ls ≤ 4000000 by omega)
      have HHD := Lib.hid hhd
      have HL := Lib.hid hl
      have hll := length_sizes l
      have HLL := Lib.hid (show l.length ≤ 4000000000 by omega)
      clear ho hlr e1 e2 hsz hsp hR4 hhd hl hb hll HR3 HR2
      replace H := H.res2 H2
      clear H2
      have hr_ := H.rules; simp only [Rules, and_true] at hr_; have hd_ := H.dif; simp only [Dif, Neq, and_true] at hd_; obtain ⟨ho_, hz_⟩ := H.old0
      go_wp2_with ((with_reducible refine atStore (t := 26) ?_); go_must (refine wpList_storeH (t := 26) rfl rfl (by go_simp <;> first | rfl | exact ⟨rfl, rfl⟩) (by go_simp <;> first | rfl | exact ⟨rfl, rfl⟩) (by exact Hp.norm (by (repeat (first | with_reducible exact H | with_reducible exact H0_ | with_reducible apply Hp.alloc | with_reducible apply Hp.allocMap | with_reducible apply Hp.drew | with_reducible apply Hp.drewN | with_reducible apply Hp.set)); (try any_goals (repeat (first | with_reducible exact Upd.head | with_reducible apply Upd.tail)))) (by ((try simp only [size_drew_, size_drewN_, World.size_alloc, World.size_setCell, List.set_cons_zero, List.set_cons_succ, List.nil_append, List.cons_append]) <;> rfl))) (by (repeat (first | with_reducible exact Upd.head | with_reducible apply Upd.tail))) (by exact aggTerm) (by rfl) (by simp [Value.oneCell']) ?_; clear H; intro w7 H; (try simp only [size_drew_, size_drewN_, World.size_alloc, World.size_setCell, List.set_cons_zero, List.set_cons_succ] at H); (try clear hr_ hd_ ho_ hz_); have hr_ := H.rules; simp only [Rules, and_true] at hr_; have hd_ := H.dif; simp only [Dif, Neq, and_true] at hd_; obtain ⟨ho_, hz_⟩ := H.old0))
      (try clear hr_ hd_ ho_ hz_)
      refine callsH (by (repeat (first | with_reducible exact H | with_reducible exact H0_ | with_reducible apply Hp.alloc | with_reducible apply Hp.allocMap | with_reducible apply Hp.drew | with_reducible apply Hp.drewN | with_reducible apply Hp.set)); (try any_goals (repeat (first | with_reducible exact Upd.head | with_reducible apply Upd.tail)))) ?_
      clear H; intro w8 H; (try simp only [size_drew_, size_drewN_, World.size_alloc, World.size_setCell, List.set_cons_zero, List.set_cons_succ] at H)
      refine (teleSpine (t := r) (HT.out.ext H.ext) ⟨_, _, _, _, rfl, H.rd (by (repeat (first | with_reducible exact Pick.head | with_reducible apply Pick.tail)))⟩ (by rw [← HL.out]; exact HLL.out)).mono ?_
      rw [show spineT r = (hd, l) by rw [HHD.out, HL.out]]
      rintro e w9 ⟨B2, cb2, K2, kb2, A3, c3, rfl, H2⟩
      replace H := H.res2 H2
      clear H2
      dsimp only at H ⊢
      have hr_ := H.rules; simp only [Rules, and_true] at hr_; have hd_ := H.dif; simp only [Dif, Neq, and_true] at hd_; obtain ⟨ho_, hz_⟩ := H.old0
      go_wp2_with ((with_reducible refine atStore (t := 26) ?_); go_must (refine wpList_storeH (t := 26) rfl rfl (by go_simp <;> first | rfl | exact ⟨rfl, rfl⟩) (by go_simp <;> first | rfl | exact ⟨rfl, rfl⟩) (by exact Hp.norm (by (repeat (first | with_reducible exact H | with_reducible exact H0_ | with_reducible apply Hp.alloc | with_reducible apply Hp.allocMap | with_reducible apply Hp.drew | with_reducible apply Hp.drewN | with_reducible apply Hp.set)); (try any_goals (repeat (first | with_reducible exact Upd.head | with_reducible apply Upd.tail)))) (by ((try simp only [size_drew_, size_drewN_, World.size_alloc, World.size_setCell, List.set_cons_zero, List.set_cons_succ, List.nil_append, List.cons_append]) <;> rfl))) (by (repeat (first | with_reducible exact Upd.head | with_reducible apply Upd.tail))) (by exact aggTerm) (by rfl) (by simp [Value.oneCell']) ?_; clear H; intro w10 H; (try simp only [size_drew_, size_drewN_, World.size_alloc, World.size_setCell, List.set_cons_zero, List.set_cons_succ] at H); (try clear hr_ hd_ ho_ hz_); have hr_ := H.rules; simp only [Rules, and_true] at hr_; have hd_ := H.dif; simp only [Dif, Neq, and_true] at hd_; obtain ⟨ho_, hz_⟩ := H.old0))
      (try clear hr_ hd_ ho_ hz_)
      refine regionH (by (repeat (first | with_reducible exact H | with_reducible exact H0_ | with_reducible apply Hp.alloc | with_reducible apply Hp.allocMap | with_reducible apply Hp.drew | with_reducible apply Hp.drewN | with_reducible apply Hp.set)); (try any_goals (repeat (first | with_reducible exact Upd.head | with_reducible apply Upd.tail)))) ?_
      clear H; intro w11 H; (try simp only [size_drew_, size_drewN_, World.size_alloc, World.size_setCell, List.set_cons_zero, List.set_cons_succ] at H)
      refine wp_region_H 20 [false, false, false, false, false, false, false, false, false, false, false, false, false, false, false, false, false, false, false, false] [] H (.cons (i := 0) rfl .nil) (by kernel_rfl) rfl rfl (fun H_ hR_ => ?_)
      (try clear H0_); have H0_ := H; clear H; have H := H_; clear H_
      refine wpL_reads (is := [(0, ?v1_0), (2, ?v1_1), (3, ?v1_2), (4, ?v1_3), (5, ?v1_4), (6, ?v1_5), (7, ?v1_6), (8, ?v1_7), (9, ?v1_8), (10, ?v1_9), (11, ?v1_10), (12, ?v1_11), (13, ?v1_12), (14, ?v1_13), (15, ?v1_14), (16, ?v1_15)]) (by kernel_rfl) (Nat.le_of_ble_eq_true rfl) (by intro _ _ d_ _ _ h_; cases d_ <;> exact h_) (by kernel_rfl) hR_ (fun w_ hw_ => ?h1_) ?_
      case h1_ =>
        have ho_ := hw_.old0.1; have hz_ := hw_.old0.2; have hr_ := hw_.rules; clear hw_; simp only [Rules, and_true] at hr_; go_split_ands
        (repeat (first | with_reducible exact RdOps.nil | (refine RdOps.run rfl (by rfl) ?_ ?_; (focus (first | (go_simp; done) | (go_simp; with_reducible rfl))); simp only [List.getElem_toArray, List.getElem_cons_zero, List.getElem_cons_succ, Act.put, List.setIfInBounds_toArray, List.set_cons_zero, List.set_cons_succ]) | (refine RdOps.skip rfl (by rfl) ?_ ?_; (focus (with_reducible rfl)); simp only [List.getElem_toArray, List.getElem_cons_zero, List.getElem_cons_succ, Act.put, List.setIfInBounds_toArray, List.set_cons_zero, List.set_cons_succ])))
      simp only [rdMark, rdAct, List.map_cons, List.map_nil, List.length_cons, List.length_nil, Nat.reduceAdd, Nat.reduceSub, Nat.zero_add, List.getElem?_toArray, List.getElem?_cons_zero, List.getElem?_cons_succ, Option.bind_some, Act.put, List.setIfInBounds_toArray, List.set_cons_zero, List.set_cons_succ]
      refine wpL_do (i := 1) rfl (by kernel_rfl) (by rfl) (fun K_ hK_ => ?_)
      go_simp
      obtain ⟨q1, hq1⟩ : ∃ q1, q1 = ls.any selfT := ⟨_, rfl⟩
      have hcall := sfree_calls (xs := ls) (H.rd (by (repeat (first | with_reducible exact Pick.head | with_reducible apply Pick.tail)))) rfl (Nat.le_trans HSR.out (by omega))
      rw [← hq1] at hcall
      have HQ1 := Lib.hid hq1
      clear hq1
      refine (hcall).mono ?_
      rintro e w_ ⟨rfl, hx⟩
      replace H := H.call hx
      clear hx
      clear hcall
      refine hK_ _ _ (fun _ => H.sub (by simp)) (fun hR_ => ?_)
      replace hR_ := hR_ (by decide)
      refine wpL_do (i := 17) rfl (by kernel_rfl) (by rfl) (fun K_ hK_ => ?_)
      go_simp
      obtain ⟨q2, hq2⟩ : ∃ q2, q2 = l.any selfT := ⟨_, rfl⟩
      have hcall := sfree_calls (xs := l) (H.rd (by (repeat (first | with_reducible exact Pick.head | with_reducible apply Pick.tail)))) rfl (Nat.le_trans HSL.out (by omega))
      rw [← hq2] at hcall
      have HQ2 := Lib.hid hq2
      clear hq2
      refine (hcall).mono ?_
      rintro e w_ ⟨rfl, hx⟩
      replace H := H.call hx
      clear hx
      clear hcall
      refine hK_ _ _ (fun _ => H.sub (by simp)) (fun hR_ => ?_)
      replace hR_ := hR_ (by decide)
      refine wpL_do (i := 18) rfl (by kernel_rfl) (by rfl) (fun K_ hK_ => ?_)
      go_simp
      refine kontH (by (repeat (first | with_reducible exact H | with_reducible exact H0_ | with_reducible apply Hp.alloc | with_reducible apply Hp.allocMap | with_reducible apply Hp.drew | with_reducible apply Hp.drewN | with_reducible apply Hp.set)); (try any_goals (repeat (first | with_reducible exact Upd.head | with_reducible apply Upd.tail)))) ?_
      clear H; intro wb_ H; (try simp only [size_drew_, size_drewN_, World.size_alloc, World.size_setCell, List.set_cons_zero, List.set_cons_succ] at H)
      refine hK_ _ _ (fun _ => H.sub (by simp)) (fun hR_ => ?_)
      replace hR_ := hR_ (by decide)
      refine wpL_do (i := 19) rfl (by kernel_rfl) (by rfl) (fun K_ hK_ => ?_)
      go_simp
      refine (xmust5 16 H (by (repeat (first | with_reducible exact Pick.head | with_reducible apply Pick.tail)))).mono ?_
      rintro e w4_ hm
      have hx := hm.2
      have HM := Lib.hid hm
      clear hm
      replace H := H.call hx
      clear hx
      have h4 := HR4.out
      rw [← HQ1.out, ← HQ2.out, show decide (hd.k = 11) = (hd.k == 11) from rfl] at h4
      cases hz : (!q1 && (hd.k == 11 && (decide (0 ≤ hd.a) && (decide (hd.a < ms.length) && !q2))))
      · obtain rfl := HM.out.no hz
        rw [hz] at h4
        simp only [Bool.false_eq_true, if_false] at h4
        exact ⟨rfl, by rw [h4]; exact ⟨rfl, H.ext⟩⟩
      · obtain rfl := HM.out.yes hz
        rw [hz, if_pos rfl] at h4
        simp only [Bool.and_eq_true, decide_eq_true_eq, beq_iff_eq] at hz
        obtain ⟨m, hm⟩ : ∃ m : Nat, hd.a = m := ⟨hd.a.toNat, by omega⟩
        have hml : m < ms.length := by omega
        rw [hm, Int.toNat_natCast, show ms.getD m ⟨[]⟩ = ms[m] by simp [List.getD, hml]] at h4
        have H4 := Lib.hid h4
        have hm4 : (m : Int) ≤ 4294967296 := by omega
        clear h4 hz HM
        refine hK_ _ _ (fun _ => H.sub (by simp)) (fun _ => ?_)
        refine wpL_done (by kernel_rfl) ?_ _
        have hr_ := H.rules; simp only [Rules, and_true] at hr_; have hd_ := H.dif; simp only [Dif, Neq, and_true] at hd_; obtain ⟨ho_, hz_⟩ := H.old0
        go_wp2_with fail
        (try clear hr_ hd_ ho_ hz_)
        rw [hm] at H ⊢
        refine callsH (by (repeat (first | with_reducible exact H | with_reducible exact H0_ | with_reducible apply Hp.alloc | with_reducible apply Hp.allocMap | with_reducible apply Hp.drew | with_reducible apply Hp.drewN | with_reducible apply Hp.set)); (try any_goals (repeat (first | with_reducible exact Upd.head | with_reducible apply Upd.tail)))) ?_
        clear H; intro w12 H; (try simp only [size_drew_, size_drewN_, World.size_alloc, World.size_setCell, List.set_cons_zero, List.set_cons_succ] at H)
        obtain ⟨q3, hq3⟩ : ∃ q3, q3 = decide (l.length = ms[m].index.length) := ⟨_, rfl⟩
        have hcall := fits_calls (n := l.length) (c := c3) (A := A3) (HMS.out.ext0 H.ext) (H.ext.keep hc) hml
        rw [← hq3] at hcall
        have HQ3 := Lib.hid hq3
        clear hq3
        refine (hcall).mono ?_
        rintro e w_ ⟨rfl, hx⟩
        replace H := H.call hx
        clear hx
        clear hcall
        go_wp2_with fail
        refine callsH (by (repeat (first | with_reducible exact H | with_reducible exact H0_ | with_reducible apply Hp.alloc | with_reducible apply Hp.allocMap | with_reducible apply Hp.drew | with_reducible apply Hp.drewN | with_reducible apply Hp.set)); (try any_goals (repeat (first | with_reducible exact Upd.head | with_reducible apply Upd.tail)))) ?_
        clear H; intro w13 H; (try simp only [size_drew_, size_drewN_, World.size_alloc, World.size_setCell, List.set_cons_zero, List.set_cons_succ] at H)
        refine (xmust1 17 H (by (repeat (first | with_reducible exact Pick.head | with_reducible apply Pick.tail)))).mono ?_
        rintro e w4_ hm
        have hx := hm.2
        have HM := Lib.hid hm
        clear hm
        replace H := H.call hx
        clear hx
        have h5 := H4.out
        rw [← HQ3.out] at h5
        cases q3
        · obtain rfl := HM.out.no rfl
          exact ⟨rfl, by rw [h5]; exact ⟨rfl, H.ext⟩⟩
        · obtain rfl := HM.out.yes rfl
          have H5 := Lib.hid h5
          clear h5 HM
          have hr_ := H.rules; simp only [Rules, and_true] at hr_; have hd_ := H.dif; simp only [Dif, Neq, and_true] at hd_; obtain ⟨ho_, hz_⟩ := H.old0
          go_wp2_with ((with_reducible refine atStore (t := 145) ?_); go_must (refine wpList_storeH (t := 145) rfl rfl (by go_simp <;> first | rfl | exact ⟨rfl, rfl⟩) (by go_simp <;> first | rfl | exact ⟨rfl, rfl⟩) (by exact Hp.norm (by (repeat (first | with_reducible exact H | with_reducible exact H0_ | with_reducible apply Hp.alloc | with_reducible apply Hp.allocMap | with_reducible apply Hp.drew | with_reducible apply Hp.drewN | with_reducible apply Hp.set)); (try any_goals (repeat (first | with_reducible exact Upd.head | with_reducible apply Upd.tail)))) (by ((try simp only [size_drew_, size_drewN_, World.size_alloc, World.size_setCell, List.set_cons_zero, List.set_cons_succ, List.nil_append, List.cons_append]) <;> rfl))) (by (repeat (first | with_reducible exact Upd.head | with_reducible apply Upd.tail))) (by exact aggArg) (by rfl) (by simp [Value.oneCell']) ?_; clear H; intro w14 H; (try simp only [size_drew_, size_drewN_, World.size_alloc, World.size_setCell, List.set_cons_zero, List.set_cons_succ] at H); (try clear hr_ hd_ ho_ hz_); have hr_ := H.rules; simp only [Rules, and_true] at hr_; have hd_ := H.dif; simp only [Dif, Neq, and_true] at hd_; obtain ⟨ho_, hz_⟩ := H.old0))
          (try clear hr_ hd_ ho_ hz_)
          rw [H5.out]
          exact bodyPost_ret (v := .agg #[_, _, _, _, _, _, _, _, _]) (Res.one Tryz.results192 (H.resBox (by (repeat (first | with_reducible exact Pick.head | with_reducible apply Pick.tail))) aggArg rfl rfl)) rfl ⟨_, rfl, (H.arR (row := ls) (ix := l) (m := m) (by (repeat (first | with_reducible exact Pick.head | with_reducible apply Pick.tail))) (by (repeat (first | with_reducible exact Pick.head | with_reducible apply Pick.tail))) (by unfold inI; omega)).only (.keep (by (repeat (first | with_reducible exact Subl.nil | with_reducible apply Subl.drop))))⟩
    · obtain rfl := HM.out.no (by simpa using h6)
      have HR3 : Hid (R = .error 3) := by
        unfold Hid
        rw [HR2.out, if_neg h6]
      exact ⟨rfl, by rw [HR3.out]; exact ⟨rfl, H.ext⟩⟩
end Go.Proofs.YtmedomglemllnaaGreatDoor
