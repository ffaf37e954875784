/- strict: the marks; an asker of another mark; what is free of a mark: contracts. No statement of the seat is proved here. -/
import Derived.Test.YtmedomglemllnaaGreatDoorMgPairT
import Derived.Test.YtmedomglemllnaaGreatDoorFree
namespace Go.Proofs.YtmedomglemllnaaGreatDoor
set_option linter.unusedSimpArgs false
set_option linter.unusedVariables false
open Go.RowKit

theorem aggMark : AggT Tryz.prog 157 2 := ⟨_, Tryz.underlying157, rfl, by kernel_rfl⟩
theorem aggAsker : AggT Tryz.prog 161 4 := ⟨_, Tryz.underlying161, rfl, by kernel_rfl⟩
theorem aggPlace : AggT Tryz.prog 231 2 := ⟨_, Tryz.underlying231, rfl, by kernel_rfl⟩
def MkOK (mk : Mk) : Prop := ∀ n, mk = some n → 0 ≤ n ∧ n ≤ 1000000000
def StM (W : World) (g : Nat) (mk : Mk) (v : Value) : Prop := ∃ F caps, v = .func (.func F) #[] caps ∧ (∀ args w, (callFunc F args).run Tryz.prog w = .ok (.enter F args) w) ∧
  ∀ w', Ext (fun k => k = g) W w' → Tab w' → ∀ (S : Nat → Prop) (t : Tm) (u : Value) (below : Int), TV w' S t u → sizeT t ≤ 4000000 → 0 ≤ below → below ≤ 1000000000 → Calls Tryz.prog F (#[u, .int .i64 below] ++ caps) w' (PV w' (.bool (standsM (upM mk below) t)))
def IsM (W : World) (g : Nat) (mk : Mk) (v : Value) : Prop := ∃ F caps, v = .func (.func F) #[] caps ∧ (∀ args w, (callFunc F args).run Tryz.prog w = .ok (.enter F args) w) ∧
  ∀ w', Ext (fun k => k = g) W w' → ∀ (S : Nat → Prop) (t : Tm) (u : Value) (below : Int), TV w' S t u → 0 ≤ below → below ≤ 1000000000 → Calls Tryz.prog F (#[u, .int .i64 below] ++ caps) w' (PV w' (.bool (isM (upM mk below) t)))
theorem Ext.also {X Y : Nat → Prop} {a b c : World} (h : Ext X a b) (k : Ext Y b c) (hXY : ∀ i, Y i → X i) : Ext X a c := h.trans k (fun _ _ h => h) (fun _ _ h => hXY _ h)
theorem StM.turn {W w : World} {g : Nat} {mk : Mk} {v : Value} (h : StM W g mk v) (hx : Ext (fun k => k = g) W w) : StM w g mk v := by
  obtain ⟨F, caps, h1, h2, h3⟩ := h
  exact ⟨F, caps, h1, h2, fun w' hx' => h3 w' (hx.also hx' fun _ h => h)⟩
theorem IsM.turn {W w : World} {g : Nat} {mk : Mk} {v : Value} (h : IsM W g mk v) (hx : Ext (fun k => k = g) W w) : IsM w g mk v := by
  obtain ⟨F, caps, h1, h2, h3⟩ := h
  exact ⟨F, caps, h1, h2, fun w' hx' => h3 w' (hx.also hx' fun _ h => h)⟩
theorem Ext.noX {X : Nat → Prop} {a b : World} (h : Ext no a b) : Ext X a b := h.mono fun _ _ h => h.elim
set_option maxHeartbeats 1000000 in
theorem members1_calls {S : Nat → Prop} {t : Tm} {w : World} {v : Value} (h : TV w S t v) (hb : sizeT t ≤ 4000000) (below : Int) : Calls Tryz.prog 204 #[v, .int .i64 below] w (PV w (.bool (selfT t))) := by
  obtain ⟨A0, ca, K0, ck, rfl, hrc⟩ := h
  have HRC := Lib.hid hrc
  have HB := Lib.hid hb
  clear hrc hb
  go_enter Tryz.func204, Tryz.ntmps204
  have H := Hp.start no w
  go_wp2_with fail
  refine callsH (by (repeat (first | with_reducible exact H | with_reducible exact H0_ | with_reducible apply Hp.alloc | with_reducible apply Hp.allocMap | with_reducible apply Hp.drew | with_reducible apply Hp.drewN | with_reducible apply Hp.set)); (try any_goals (repeat (first | with_reducible exact Upd.head | with_reducible apply Upd.tail)))) ?_
  clear H; intro w1 H; (try simp only [size_drew_, size_drewN_, World.size_alloc, World.size_setCell, List.set_cons_zero, List.set_cons_succ] at H)
  refine (self_calls (t := t) ⟨_, _, _, _, rfl, HRC.out.ext0 H.ext⟩ (Nat.le_trans HB.out (by omega))).mono ?_
  rintro e w2 ⟨rfl, hx⟩
  replace H := H.call hx
  obtain ⟨q, hq⟩ : ∃ q, q = selfT t := ⟨_, rfl⟩
  rw [← hq]
  have HX := H.ext
  have HQ := Lib.hid hq
  clear hq hx H
  go_wp2_with fail
  go_ret
  exact ⟨by rw [← HQ.out]; rfl, HX⟩
set_option maxHeartbeats 1000000 in
theorem members2_calls {S : Nat → Prop} {t : Tm} {w : World} {v : Value} (h : TV w S t v) (below : Int) : Calls Tryz.prog 206 #[v, .int .i64 below] w (PV w (.bool (decide (t.k = 11)))) := by
  obtain ⟨A0, ca, K0, ck, rfl, hrc⟩ := h
  clear hrc
  go_enter Tryz.func206, Tryz.ntmps206
  go_wp2_with fail
  go_ret
  exact ⟨rfl, (Ext.refl _ _).alloc _⟩
set_option maxHeartbeats 1000000 in
theorem variable1_calls {S : Nat → Prop} {t : Tm} {w : World} {v : Value} {bn : Nat} {n below : Int} (hT : Tab w) (h : TV w S t v) (hc : w.cell? ⟨bn, 0, none⟩ = some (.int .i64 n)) (h0 : 0 ≤ n) (h1 : n ≤ 1000000000) (b0 : 0 ≤ below) (b1 : below ≤ 1000000000) :
    Calls Tryz.prog 260 #[v, .int .i64 below, .pointer (some ⟨bn, 0, none⟩)] w (PV w (.bool (freeT (n + below) (n + below + 1) 0 t))) := by
  obtain ⟨A0, ca, K0, ck, rfl, hrc⟩ := h
  have HRC := Lib.hid hrc
  have HT := Lib.hid hT
  have lc := cell_lt hc
  have e1 : wrap64 (n + below) = n + below := by unfold wrap64; omega
  have e2 : wrap64 (n + below + 1) = n + below + 1 := by unfold wrap64; omega
  have E1 := Lib.hid e1
  have E2 := Lib.hid e2
  clear hrc hT h0 h1 b0 b1 e1 e2
  go_enter Tryz.func260, Tryz.ntmps260
  have H := Hp.start no w
  go_wp2_with fail
  refine callsH (by (repeat (first | with_reducible exact H | with_reducible exact H0_ | with_reducible apply Hp.alloc | with_reducible apply Hp.allocMap | with_reducible apply Hp.drew | with_reducible apply Hp.drewN | with_reducible apply Hp.set)); (try any_goals (repeat (first | with_reducible exact Upd.head | with_reducible apply Upd.tail)))) ?_
  clear H; intro w1 H; (try simp only [size_drew_, size_drewN_, World.size_alloc, World.size_setCell, List.set_cons_zero, List.set_cons_succ] at H)
  rw [E1.out, E2.out]
  refine (free_calls (t := t) (HT.out.ext H.ext) ⟨_, _, _, _, rfl, HRC.out.ext0 H.ext⟩ _ _).mono ?_
  rintro e w2 ⟨rfl, hx⟩
  replace H := H.call hx
  obtain ⟨q, hq⟩ : ∃ q, q = freeT (n + below) (n + below + 1) 0 t := ⟨_, rfl⟩
  rw [← hq]
  have HX := H.ext
  have HQ := Lib.hid hq
  clear hq hx H
  go_wp2_with fail
  go_ret
  exact ⟨by rw [← HQ.out]; rfl, HX⟩
set_option maxHeartbeats 1000000 in
theorem variable2_calls {S : Nat → Prop} {t : Tm} {w : World} {v : Value} {bn : Nat} {n below : Int} (h : TV w S t v) (hc : w.cell? ⟨bn, 0, none⟩ = some (.int .i64 n)) (h0 : 0 ≤ n) (h1 : n ≤ 1000000000) (b0 : 0 ≤ below) (b1 : below ≤ 1000000000) :
    Calls Tryz.prog 261 #[v, .int .i64 below, .pointer (some ⟨bn, 0, none⟩)] w (PV w (.bool (decide (t.k = 1) && decide (t.n = n + below)))) := by
  obtain ⟨A0, ca, K0, ck, rfl, hrc⟩ := h
  have lc := cell_lt hc
  have e1 : wrap64 (n + below) = n + below := by unfold wrap64; omega
  have E1 := Lib.hid e1
  clear hrc h0 h1 b0 b1 e1
  by_cases hk : t.k = 1
  · have hk2 : (t.k == 1) = true := by simpa using hk
    have HK := Lib.hid hk
    clear hk
    go_enter Tryz.func261, Tryz.ntmps261
    go_wp2_with fail
    go_ret
    rw [E1.out]
    exact ⟨by simp [HK.out]; rfl, (Ext.refl _ _).alloc _⟩
  · have hk2 : (t.k == 1) = false := by simpa using hk
    have HK := Lib.hid hk
    clear hk
    go_enter Tryz.func261, Tryz.ntmps261
    go_wp2_with fail
    go_ret
    exact ⟨by simp [HK.out], (Ext.refl _ _).alloc _⟩
theorem members_st {W : World} {g : Nat} : StM W g none (.func (.func 204) #[] #[]) ∧ IsM W g none (.func (.func 206) #[] #[]) :=
  ⟨⟨_, _, rfl, enters_of Tryz.func204 (by kernel_rfl) rfl, fun w' _ _ S t u below h hs _ _ => members1_calls h hs below⟩,
   ⟨_, _, rfl, enters_of Tryz.func206 (by kernel_rfl) rfl, fun w' _ S t u below h _ _ => members2_calls h below⟩⟩
theorem variable_st {W : World} {g bn : Nat} {n : Int} (hg : bn ≠ g) (hc : W.cell? ⟨bn, 0, none⟩ = some (.int .i64 n)) (h0 : 0 ≤ n) (h1 : n ≤ 1000000000) :
    StM W g (some n) (.func (.func 260) #[] #[.pointer (some ⟨bn, 0, none⟩)]) ∧ IsM W g (some n) (.func (.func 261) #[] #[.pointer (some ⟨bn, 0, none⟩)]) :=
  ⟨⟨_, _, rfl, enters_of Tryz.func260 (by kernel_rfl) rfl, fun w' hx hT S t u below h hs b0 b1 => variable1_calls hT h ((hx.cell (cell_lt hc) hg).trans hc) h0 h1 b0 b1⟩,
   ⟨_, _, rfl, enters_of Tryz.func261 (by kernel_rfl) rfl, fun w' hx S t u below h b0 b1 => variable2_calls h ((hx.cell (cell_lt hc) hg).trans hc) h0 h1 b0 b1⟩⟩
set_option maxHeartbeats 1000000 in
theorem members_calls {w : World} : Calls Tryz.prog 124 #[] w (PV w (.agg #[.func (.func 204) #[] #[], .func (.func 206) #[] #[]])) := by
  go_enter Tryz.func124, Tryz.ntmps124
  have H := Hp.start no w
  go_wp2_with ((with_reducible refine atStore (t := 157) ?_); go_must (refine wpList_storeH (t := 157) rfl rfl (by go_simp <;> first | rfl | exact ⟨rfl, rfl⟩) (by go_simp <;> first | rfl | exact ⟨rfl, rfl⟩) (by exact Hp.norm (by (repeat (first | with_reducible exact H | with_reducible exact H0_ | with_reducible apply Hp.alloc | with_reducible apply Hp.allocMap | with_reducible apply Hp.drew | with_reducible apply Hp.drewN | with_reducible apply Hp.set)); (try any_goals (repeat (first | with_reducible exact Upd.head | with_reducible apply Upd.tail)))) (by ((try simp only [size_drew_, size_drewN_, World.size_alloc, World.size_setCell, List.set_cons_zero, List.set_cons_succ, List.nil_append, List.cons_append]) <;> rfl))) (by (repeat (first | with_reducible exact Upd.head | with_reducible apply Upd.tail))) (by exact aggMark) (by rfl) (by simp [Value.oneCell']) ?_; clear H; intro w1 H; (try simp only [size_drew_, size_drewN_, World.size_alloc, World.size_setCell, List.set_cons_zero, List.set_cons_succ] at H); (try clear hr_ hd_ ho_ hz_); have hr_ := H.rules; simp only [Rules, and_true] at hr_; have hd_ := H.dif; simp only [Dif, Neq, and_true] at hd_; obtain ⟨ho_, hz_⟩ := H.old0))
  exact bodyPost_ret (v := .agg #[_, _]) (Res.one Tryz.results124 (H.resBox (by (repeat (first | with_reducible exact Pick.head | with_reducible apply Pick.tail))) aggMark rfl rfl)) rfl ⟨rfl, H.ext⟩
set_option maxHeartbeats 1000000 in
theorem tvariable_calls {w : World} {n : Int} : Calls Tryz.prog 211 #[.int .i64 n] w (fun e w' => ∃ bn, w.heap.size ≤ bn ∧ w'.cell? ⟨bn, 0, none⟩ = some (.int .i64 n) ∧ e = .returned (.agg #[.func (.func 260) #[] #[.pointer (some ⟨bn, 0, none⟩)], .func (.func 261) #[] #[.pointer (some ⟨bn, 0, none⟩)]]) ∧ Hp no w w' [.box bn 3 [.int .i64 n]]) := by
  have hmf : ∀ (fn : Fn) (first cap : Array Value) (w : World), (Instr.makeFunc fn first cap).run Tryz.prog w = .ok (.func fn first cap) w := fun _ _ _ _ => rfl
  go_enter Tryz.func211, Tryz.ntmps211
  have H := Hp.start no w
  go_wp2_with ((with_reducible refine atStore (t := 157) ?_); go_must (refine wpList_storeH (t := 157) rfl rfl (by go_simp <;> first | rfl | exact ⟨rfl, rfl⟩) (by go_simp <;> first | rfl | exact ⟨rfl, rfl⟩) (by exact Hp.norm (by (repeat (first | with_reducible exact H | with_reducible exact H0_ | with_reducible apply Hp.alloc | with_reducible apply Hp.allocMap | with_reducible apply Hp.drew | with_reducible apply Hp.drewN | with_reducible apply Hp.set)); (try any_goals (repeat (first | with_reducible exact Upd.head | with_reducible apply Upd.tail)))) (by ((try simp only [size_drew_, size_drewN_, World.size_alloc, World.size_setCell, List.set_cons_zero, List.set_cons_succ, List.nil_append, List.cons_append]) <;> rfl))) (by (repeat (first | with_reducible exact Upd.head | with_reducible apply Upd.tail))) (by exact aggMark) (by rfl) (by simp [Value.oneCell']) ?_; clear H; intro w1 H; (try simp only [size_drew_, size_drewN_, World.size_alloc, World.size_setCell, List.set_cons_zero, List.set_cons_succ] at H); (try clear hr_ hd_ ho_ hz_); have hr_ := H.rules; simp only [Rules, and_true] at hr_; have hd_ := H.dif; simp only [Dif, Neq, and_true] at hd_; obtain ⟨ho_, hz_⟩ := H.old0))
  exact bodyPost_ret (v := .agg #[_, _]) (Res.one Tryz.results211 (H.resBox (by (repeat (first | with_reducible exact Pick.head | with_reducible apply Pick.tail))) aggMark rfl rfl)) rfl ⟨w.heap.size, Nat.le_refl _, (H.blk (g := w.heap.size) (t := 3) (cs := [.int .i64 n]) (by (repeat (first | with_reducible exact Pick.head | with_reducible apply Pick.tail)))).cells 0, rfl, H.only (.drop (.keep .nil))⟩
set_option maxHeartbeats 2000000 in
theorem mfree_calls {w : World} {S : Nat → Prop} {g : Nat} {mk : Mk} {fs fi : Value} {ts : List Tm} {A0 : Option Addr} {c : Nat} {below : Int} (hT : Tab w) (hst : StM w g mk fs) (h : RC w S (.l 26 5 (ts.map Tm.d)) [.slice A0 ts.length c]) (hz : ∀ t ∈ ts, sizeT t ≤ 4000000) (h0 : 0 ≤ below) (h1 : below ≤ 1000000000) :
    Calls Tryz.prog 129 #[.agg #[fs, fi], .int .i64 below, .slice A0 ts.length c] w (PLs w (ts.all fun t => !standsM (upM mk below) t)) := by
  obtain ⟨F, caps, rfl, eg, hst⟩ := hst
  have hM := h.lenM
  have HS := Lib.hid hst
  have HT := Lib.hid hT
  have HZ := Lib.hid hz
  have HH := Lib.hid h
  have HB := Lib.hid (And.intro h0 h1)
  clear hst hT hz h0 h1 h
  go_enter Tryz.func129, Tryz.ntmps129
  have H := Hp.start no w
  go_wp2_with fail
  go_loopw [10] (fun i wr => ∃ j : Nat, j ≤ ts.length ∧ i = .int .i64 j ∧ Hid ((ts.take j).all (fun t => !standsM (upM mk below) t) = true) ∧ Hp no w wr [.box w.heap.size 157 [.func (.func F) #[] caps, fi]]) (fun i _ => ts.length - (intOf i).toNat)
  case atStart => exact ⟨0, Nat.zero_le _, rfl, Lib.hid (by simp), by (repeat (first | with_reducible exact H | with_reducible exact H0_ | with_reducible apply Hp.alloc | with_reducible apply Hp.allocMap | with_reducible apply Hp.drew | with_reducible apply Hp.drewN | with_reducible apply Hp.set)); (try any_goals (repeat (first | with_reducible exact Upd.head | with_reducible apply Upd.tail)))⟩
  case round =>
    clear H
    obtain ⟨j, hj, rfl, HA, H⟩ := hrel
    by_cases hlt : j < ts.length
    · obtain ⟨b_, o, B1, ca1, L1, ck1, rfl, hb, hS, hd, p0, p1, p2, p3, p4⟩ := HH.out.atTm hlt
      have HD := Lib.hid hd
      have HE := Lib.hid (List.take_succ_eq_append_getElem hlt)
      have HZJ := Lib.hid (HZ.out _ (List.getElem_mem hlt))
      clear hd
      have hr_ := H.rules; simp only [Rules, and_true] at hr_; have hd_ := H.dif; simp only [Dif, Neq, and_true] at hd_; obtain ⟨ho_, hz_⟩ := H.old0
      go_wp2_with ((with_reducible refine atStore (t := 26) ?_); go_must (refine wpList_storeH (t := 26) rfl rfl (by go_simp <;> first | rfl | exact ⟨rfl, rfl⟩) (by go_simp <;> first | rfl | exact ⟨rfl, rfl⟩) (by exact Hp.norm (by (repeat (first | with_reducible exact H | with_reducible exact H0_ | with_reducible apply Hp.alloc | with_reducible apply Hp.allocMap | with_reducible apply Hp.drew | with_reducible apply Hp.drewN | with_reducible apply Hp.set)); (try any_goals (repeat (first | with_reducible exact Upd.head | with_reducible apply Upd.tail)))) (by ((try simp only [size_drew_, size_drewN_, World.size_alloc, World.size_setCell, List.set_cons_zero, List.set_cons_succ, List.nil_append, List.cons_append]) <;> rfl))) (by (repeat (first | with_reducible exact Upd.head | with_reducible apply Upd.tail))) (by exact aggTerm) (by rfl) (by simp [Value.oneCell']) ?_; clear H; intro w7 H; (try simp only [size_drew_, size_drewN_, World.size_alloc, World.size_setCell, List.set_cons_zero, List.set_cons_succ] at H); (try clear hr_ hd_ ho_ hz_); have hr_ := H.rules; simp only [Rules, and_true] at hr_; have hd_ := H.dif; simp only [Dif, Neq, and_true] at hd_; obtain ⟨ho_, hz_⟩ := H.old0))
      (try clear hr_ hd_ ho_ hz_)
      refine callsH (by (repeat (first | with_reducible exact H | with_reducible exact H0_ | with_reducible apply Hp.alloc | with_reducible apply Hp.allocMap | with_reducible apply Hp.drew | with_reducible apply Hp.drewN | with_reducible apply Hp.set)); (try any_goals (repeat (first | with_reducible exact Upd.head | with_reducible apply Upd.tail)))) ?_
      clear H; intro w9 H; (try simp only [size_drew_, size_drewN_, World.size_alloc, World.size_setCell, List.set_cons_zero, List.set_cons_succ] at H)
      obtain ⟨z, hz⟩ : ∃ z, z = standsM (upM mk below) ts[j] := ⟨_, rfl⟩
      have hcall := HS.out _ H.ext.noX (HT.out.ext H.ext) _ ts[j] _ below ⟨_, _, _, _, rfl, HD.out.ext0 H.ext⟩ HZJ.out HB.out.1 HB.out.2
      rw [← hz] at hcall
      have HZ2 := Lib.hid hz
      clear hz
      refine (hcall).mono ?_
      rintro e w_ ⟨rfl, hx⟩
      replace H := H.call hx
      clear hx
      clear hcall
      go_wp2_with fail
      refine callsH (by (repeat (first | with_reducible exact H | with_reducible exact H0_ | with_reducible apply Hp.alloc | with_reducible apply Hp.allocMap | with_reducible apply Hp.drew | with_reducible apply Hp.drewN | with_reducible apply Hp.set)); (try any_goals (repeat (first | with_reducible exact Upd.head | with_reducible apply Upd.tail)))) ?_
      clear H; intro w10 H; (try simp only [size_drew_, size_drewN_, World.size_alloc, World.size_setCell, List.set_cons_zero, List.set_cons_succ] at H)
      refine (tmust1 H (by (repeat (first | with_reducible exact Pick.head | with_reducible apply Pick.tail)))).mono ?_
      rintro e w11 hm
      have hx := hm.2
      replace H := H.call hx
      clear hx
      cases z
      · obtain rfl := hm.yes rfl
        clear hm
        go_wp2_with fail
        go_roundw
        case rel => exact ⟨j + 1, by omega, by first | go_num | rfl | simp, Lib.hid (by rw [HE.out, List.all_append, HA.out]; simp [← HZ2.out]), (H.arr (by (repeat (first | with_reducible exact Arr.nil | refine Arr.cons (by (repeat (first | with_reducible exact Pick.head | with_reducible apply Pick.tail))) ?_)) <;> exact Arr.of_subl (by (repeat (first | with_reducible exact Subl.refl _ | with_reducible apply Subl.drop)))))⟩
        case measure => simp [intOf]; omega
      · obtain rfl := hm.no rfl
        clear hm
        go_wp2_with fail
        refine ⟨rfl, ?_, H.ext⟩
        rw [if_neg]
        rw [Bool.not_eq_true, List.all_eq_false]
        exact ⟨ts[j], List.getElem_mem hlt, by simp [← HZ2.out]⟩
    · go_wp2_with fail
      go_end0
      refine ⟨?_, H.ext⟩
      have h1 := HA.out
      rw [List.take_of_length_le (by omega)] at h1
      rw [h1]; rfl
end Go.Proofs.YtmedomglemllnaaGreatDoor
/- Rows: first elements, last elements; a slice taken. No statement of the seat is proved here. -/
namespace Go.Proofs.YtmedomglemllnaaGreatDoor
set_option linter.unusedSimpArgs false
set_option linter.unusedVariables false
open Go.RowKit

theorem RCs.consS {w : World} {S : Nat → Prop} {d : D} {ds : List D} {c1 c2 : List Value} (h : RC w S d c1) (k : RCs w S ds c2) : RCs w S (d :: ds) (c1 ++ c2) := by
  unfold RCs
  exact ⟨c1, c2, rfl, h, k⟩
theorem RCs.preS {w : World} {S : Nat → Prop} {ds : List D} {es : List Value} (h : RCs w S ds es) (i : Nat) : RCs w S (ds.take i) (es.take (D.sizes (ds.take i))) := by
  induction ds generalizing i es with
  | nil => simp [D.sizes]; unfold RCs; rfl
  | cons d ds ih =>
    cases i with
    | zero => simp [D.sizes]; unfold RCs; rfl
    | succ i =>
      unfold RCs at h
      obtain ⟨c1, c2, rfl, g1, g2⟩ := h
      have hc := RC.len _ _ g1
      simp only [List.take_succ_cons, D.sizes]
      rw [← hc, List.take_length_add_append]
      exact RCs.consS g1 (ih g2 i)
theorem RC.preS {w : World} {S : Nat → Prop} {e z n c i : Nat} {ds : List D} {A : Option Addr} (h : RC w S (.l e z ds) [.slice A n c]) (hi : i ≤ n) : RC w S (.l e z (ds.take i)) [.slice A i c] := by
  have hn := h.slice
  unfold RC at h ⊢
  obtain ⟨A', c', h1, h2, h3, h4, h5, h6⟩ := h
  simp only [List.cons.injEq, Value.slice.injEq, and_true] at h1
  obtain ⟨rfl, rfl, rfl⟩ := h1
  have hl : (ds.take i).length = i := by simp; omega
  refine ⟨A, c, by rw [hl], by omega, h3, by rw [hl]; omega, fun d hd => h5 d (List.mem_of_mem_take hd), ?_⟩
  rcases h6 with rfl | ⟨b, o, es, h7, hb, h8, h9, h10⟩
  · exact .inl (by simp)
  · by_cases h0 : ds.take i = []
    · exact .inl h0
    refine .inr ⟨b, o, es.take (D.sizes (ds.take i)), h7, hb, h8, ?_, fun j u hu => h10 j u ?_⟩
    · exact h9.preS i
    · rw [List.getElem?_take] at hu
      split at hu
      · exact hu
      · cases hu
def sufAd (A : Option Addr) (c i z : Nat) : Option Addr := if c = i then A else A.map (·.add (i * z))
theorem RCs.sufS {w : World} {S : Nat → Prop} {z : Nat} {ds : List D} {es : List Value} (h : RCs w S ds es) (hz : ∀ d ∈ ds, d.size = z) (i : Nat) : RCs w S (ds.drop i) (es.drop (i * z)) := by
  induction ds generalizing i es with
  | nil =>
    unfold RCs at h
    subst h
    simp
    unfold RCs; rfl
  | cons d ds ih =>
    cases i with
    | zero => simpa using h
    | succ i =>
      unfold RCs at h
      obtain ⟨c1, c2, rfl, g1, g2⟩ := h
      have hc : c1.length = z := (RC.len _ _ g1).trans (hz d (by simp))
      have := ih g2 (fun d hd => hz d (by simp [hd])) i
      rw [List.drop_succ_cons, show (i + 1) * z = c1.length + i * z by rw [hc, Nat.succ_mul]; omega, List.drop_length_add_append]
      exact this
theorem RC.sufS {w : World} {S : Nat → Prop} {e z n c i : Nat} {ds : List D} {A : Option Addr} (h : RC w S (.l e z ds) [.slice A n c]) (hi : i ≤ n) : RC w S (.l e z (ds.drop i)) [.slice (sufAd A c i z) (n - i) (c - i)] := by
  unfold RC at h ⊢
  obtain ⟨A', c', h1, h2, h3, h4, h5, h6⟩ := h
  simp only [List.cons.injEq, Value.slice.injEq, and_true] at h1
  obtain ⟨rfl, rfl, rfl⟩ := h1
  have hl : (ds.drop i).length = ds.length - i := by simp
  refine ⟨sufAd A c i z, c - i, by rw [hl], by omega, by omega, by omega, fun d hd => h5 d (List.mem_of_mem_drop hd), ?_⟩
  rcases h6 with rfl | ⟨b, o, es, rfl, hb, h8, h9, h10⟩
  · exact .inl (by simp)
  · by_cases h0 : ds.drop i = []
    · exact .inl h0
    have hc : ¬ c = i := fun e => h0 (List.drop_eq_nil_of_le (by omega))
    refine .inr ⟨b, o + i * z, es.drop (i * z), ?_, hb, h8, h9.sufS h5 i, fun j u hu => ?_⟩
    · rw [sufAd, if_neg hc]; simp [Addr.add_lit]
    · rw [List.getElem?_drop] at hu
      rw [Nat.add_assoc]
      exact h10 _ u hu
theorem sizeTmS (w : World) : (Go.sizeOf (Tryz.prog.elem 22)).run Tryz.prog w = .ok 5 w := by kernel_rfl
theorem elemTmS : Tryz.prog.underlying 22 = some (.slice (Tryz.prog.elem 22)) := by kernel_rfl
theorem sizeDcS (w : World) : (Go.sizeOf (Tryz.prog.elem 43)).run Tryz.prog w = .ok 16 w := by kernel_rfl
theorem elemDcS : Tryz.prog.underlying 43 = some (.slice (Tryz.prog.elem 43)) := by kernel_rfl
theorem runSufTm (A : Option Addr) {n c i : Nat} (hi : i ≤ n) (hn : n ≤ c) (w : World) : (Instr.sliceAt 22 (.slice A n c) (some (.int .i64 (i : Int))) none none).run Tryz.prog w = .ok (.slice (sufAd A c i 5) (n - i) (c - i)) w := by
  rw [run_sliceAt_slice w 22 _ _ _ _ elemTmS, run_slice_l w 22 _ _ _ elemTmS .i64 _ (by omega) (by omega), sizeTmS]
  simp [Result.andThen, sliced, sufAd]
theorem runPreTm (A : Option Addr) {n c i : Nat} (hi : i ≤ n) (hn : n ≤ c) (w : World) : (Instr.sliceAt 22 (.slice A n c) none (some (.int .i64 (i : Int))) none).run Tryz.prog w = .ok (.slice A i c) w := by
  rw [run_sliceAt_slice w 22 _ _ _ _ elemTmS, run_slice_h w 22 _ _ _ elemTmS .i64 _ (by omega) (by omega), sizeTmS]
  have e : (Option.map (fun x => Addr.add x (0 * 5)) A) = A := by cases A with
    | none => rfl
    | some a => cases a; simp [Addr.add]
  simp [Result.andThen, sliced, e]
theorem runPreDc (A : Option Addr) {n c i : Nat} (hi : i ≤ n) (hn : n ≤ c) (w : World) : (Instr.sliceAt 43 (.slice A n c) none (some (.int .i64 (i : Int))) none).run Tryz.prog w = .ok (.slice A i c) w := by
  rw [run_sliceAt_slice w 43 _ _ _ _ elemDcS, run_slice_h w 43 _ _ _ elemDcS .i64 _ (by omega) (by omega), sizeDcS]
  have e : (Option.map (fun x => Addr.add x (0 * 16)) A) = A := by cases A with
    | none => rfl
    | some a => cases a; simp [Addr.add]
  simp [Result.andThen, sliced, e]
end Go.Proofs.YtmedomglemllnaaGreatDoor
/- strict: askers; an asker of another mark: contracts. No statement of the seat is proved here. -/
namespace Go.Proofs.YtmedomglemllnaaGreatDoor
set_option linter.unusedSimpArgs false
set_option linter.unusedVariables false
open Go.RowKit

structure SmDc (d : Dc) : Prop where
  ct : ∀ c ∈ d.ctors, sizeT c.ty ≤ 4000000
  mb : ∀ m ∈ d.members, m.index.length ≤ 100000000 ∧ ∀ t ∈ m.index, sizeT t ≤ 4000000
  pa : d.params.length ≤ 100000000
abbrev asV (fs fi : Value) (A0 : Option Addr) (n c g : Nat) : Value := .agg #[fs, fi, .slice A0 n c, .map (some g)]
structure Ask (W : World) (g : Nat) (ds : List Dc) (n : Nat) (A0 : Option Addr) (c : Nat) (es : List (Ky × Bool)) (mk : Mk) (fs fi : Value) : Prop where
  tab : Tab W
  dcs : ∃ S, RC W S (.l 51 16 ((ds.take n).map Dc.d)) [.slice A0 n c] ∧ ¬ S g
  hn : n ≤ ds.length
  mp : W.heap[g]? = some (mapO es)
  rt : Right ds ds.length es
  st : StM W g mk fs
  is : IsM W g mk fi
  ok : MkOK mk
  sm : ∀ d ∈ ds, SmDc d
section
variable {W w : World} {g : Nat} {ds : List Dc} {n : Nat} {A0 : Option Addr} {c : Nat} {es : List (Ky × Bool)} {mk : Mk} {fs fi : Value}
def IsFn (v : Value) : Prop := ∃ F x y, v = .func F x y
theorem StM.fn {v : Value} (h : StM W g mk v) : IsFn v := by
  obtain ⟨F, caps, h1, _⟩ := h
  exact ⟨_, _, _, h1⟩
theorem IsM.fn {v : Value} (h : IsM W g mk v) : IsFn v := by
  obtain ⟨F, caps, h1, _⟩ := h
  exact ⟨_, _, _, h1⟩
theorem no_cells {W : World} {g : Nat} {es : List (Ky × Bool)} (h : W.heap[g]? = some (mapO es)) {p : Addr} {u : Value} (hp : W.cell? p = some u) : p.block ≠ g := by
  intro e
  unfold World.cell? at hp
  rw [e, h] at hp
  unfold mapO at hp
  simp at hp
theorem Ask.lt (h : Ask W g ds n A0 c es mk fs fi) : g < W.heap.size := (Array.getElem?_eq_some_iff.1 h.mp).1
theorem Ask.ext (h : Ask W g ds n A0 c es mk fs fi) (hx : Ext no W w) : Ask w g ds n A0 c es mk fs fi where
  tab := h.tab.ext hx
  dcs := by obtain ⟨S, h1, h2⟩ := h.dcs; exact ⟨S, h1.ext0 hx, h2⟩
  hn := h.hn
  mp := (hx.block g h.lt no_not).trans h.mp
  rt := h.rt
  st := h.st.turn hx.noX
  is := h.is.turn hx.noX
  ok := h.ok
  sm := h.sm
theorem Ask.turn {m : Nat} {ex : List (Ky × Bool)} (h : Ask W g ds n A0 c es mk fs fi) (hx : Ext (fun k => k = g) W w) (hm : w.heap[g]? = some (mapO (es ++ ex))) (hr : Right ds m ex) (hmn : m ≤ ds.length) : Ask w g ds n A0 c (es ++ ex) mk fs fi where
  tab := h.tab.ext' hx (fun e => by
    obtain ⟨u, hu⟩ : ∃ u, kindsC[0]? = some u := ⟨_, rfl⟩
    exact no_cells h.mp (h.tab 0 u hu) e)
  dcs := by obtain ⟨S, h1, h2⟩ := h.dcs; exact ⟨S, h1.turn hx h2, h2⟩
  hn := h.hn
  mp := hm
  rt := h.rt.app (hr.more hmn)
  st := h.st.turn hx
  is := h.is.turn hx
  ok := h.ok
  sm := h.sm
theorem Ask.of_ {k : Nat} {mk' : Mk} {gs gi : Value} (h : Ask W g ds n A0 c es mk fs fi) (hk : k ≤ n) (hs : StM W g mk' gs) (hi : IsM W g mk' gi) (ho : MkOK mk') : Ask W g ds k A0 c es mk' gs gi where
  tab := h.tab
  dcs := by
    obtain ⟨S, h1, h2⟩ := h.dcs
    have h3 := h1.preS hk
    rw [← List.map_take, List.take_take, Nat.min_eq_left hk] at h3
    exact ⟨S, h3, h2⟩
  hn := Nat.le_trans hk h.hn
  mp := h.mp
  rt := h.rt
  st := hs
  is := hi
  ok := ho
  sm := h.sm
theorem Ask.len (h : Ask W g ds n A0 c es mk fs fi) : n ≤ 4294967296 ∧ n ≤ c := by
  obtain ⟨S, h1, h2⟩ := h.dcs
  exact h1.lenM
end
set_option maxHeartbeats 2000000 in
set_option maxRecDepth 100000 in
theorem of_calls {w : World} {fs fi gs gi : Value} {A0 : Option Addr} {n c k g : Nat} (h1 : IsFn gs) (h2 : IsFn gi) (hk : k ≤ n) (hn : n ≤ c) (hn2 : n ≤ 4294967296) : Calls Tryz.prog 210 #[asV fs fi A0 n c g, .agg #[gs, gi], .int .i64 k] w (PV w (asV gs gi A0 k c g)) := by
  obtain ⟨F1, x1, y1, rfl⟩ := h1
  obtain ⟨F2, x2, y2, rfl⟩ := h2
  have hpre : ∀ W, (Instr.sliceAt 43 (.slice A0 n c) none (some (.int .i64 (k : Int))) none).run Tryz.prog W = .ok (.slice A0 k c) W := fun W => runPreDc A0 hk hn W
  go_enter Tryz.func210, Tryz.ntmps210
  have H := Hp.start no w
  go_wp2_with fail
  refine regionH (by (repeat (first | with_reducible exact H | with_reducible exact H0_ | with_reducible apply Hp.alloc | with_reducible apply Hp.allocMap | with_reducible apply Hp.drew | with_reducible apply Hp.drewN | with_reducible apply Hp.set)); (try any_goals (repeat (first | with_reducible exact Upd.head | with_reducible apply Upd.tail)))) ?_
  clear H; intro w1 H; (try simp only [size_drew_, size_drewN_, World.size_alloc, World.size_setCell, List.set_cons_zero, List.set_cons_succ] at H)
  refine wp_region_H 9 [false, false, false, false, false, false, false, false, false] [] H (.cons (i := 1) rfl (.cons (i := 2) rfl .nil)) (by kernel_rfl) rfl rfl (fun H_ hR_ => ?_)
  (try clear H0_); have H0_ := H; clear H; have H := H_; clear H_
  refine wpL_reads (is := [(0, ?v1_0), (1, ?v1_1), (2, ?v1_2), (3, ?v1_3), (4, ?v1_4), (5, ?v1_5), (6, ?v1_6), (7, ?v1_7)]) (by kernel_rfl) (Nat.le_of_ble_eq_true rfl) (by intro _ _ d_ _ _ h_; cases d_ <;> exact h_) (by kernel_rfl) hR_ (fun w_ hw_ => ?h1_) ?_
  case h1_ =>
    have ho_ := hw_.old0.1; have hz_ := hw_.old0.2; have hr_ := hw_.rules; clear hw_; simp only [Rules, and_true] at hr_; go_split_ands
    (repeat (first | with_reducible exact RdOps.nil | (refine RdOps.run rfl (by rfl) ?_ ?_; (focus (first | (go_simp; done) | (go_simp; with_reducible rfl))); simp only [List.getElem_toArray, List.getElem_cons_zero, List.getElem_cons_succ, Act.put, List.setIfInBounds_toArray, List.set_cons_zero, List.set_cons_succ]) | (refine RdOps.skip rfl (by rfl) ?_ ?_; (focus (with_reducible rfl)); simp only [List.getElem_toArray, List.getElem_cons_zero, List.getElem_cons_succ, Act.put, List.setIfInBounds_toArray, List.set_cons_zero, List.set_cons_succ])))
  simp only [rdMark, rdAct, List.map_cons, List.map_nil, List.length_cons, List.length_nil, Nat.reduceAdd, Nat.reduceSub, Nat.zero_add, List.getElem?_toArray, List.getElem?_cons_zero, List.getElem?_cons_succ, Option.bind_some, Act.put, List.setIfInBounds_toArray, List.set_cons_zero, List.set_cons_succ]
  refine wpL_do (i := 8) rfl (by kernel_rfl) (by rfl) (fun K_ hK_ => ?_)
  refine wp_storeH rfl (by go_simp <;> first | rfl | exact ⟨rfl, rfl⟩) (by go_simp <;> first | rfl | exact ⟨rfl, rfl⟩) H (by (repeat (first | with_reducible exact Upd.head | with_reducible apply Upd.tail))) (by exact aggAsker) (by rfl) (by simp [Value.oneCell']) (fun w12 H_ => ?_)
  clear H; have H := H_; clear H_
  refine hK_ _ _ (fun _ => H.sub (by simp)) (fun _ => ?_)
  refine wpL_done (by kernel_rfl) ?_ _
  go_wp2_with fail
  exact bodyPost_ret (v := .agg #[_, _, _, _]) (Res.one Tryz.results210 (H.resBox (by (repeat (first | with_reducible exact Pick.head | with_reducible apply Pick.tail))) aggAsker rfl rfl)) rfl ⟨rfl, H.ext⟩
end Go.Proofs.YtmedomglemllnaaGreatDoor
/- strict: a type's arguments at params. No statement of the seat is proved here. -/
namespace Go.Proofs.YtmedomglemllnaaGreatDoor
set_option linter.unusedSimpArgs false
set_option linter.unusedVariables false
open Go.RowKit

theorem Kn.more {W w : World} {g : Nat} {ds : List Dc} {m n : Nat} {es : List (Ky × Bool)} (h : Kn W g ds m es w) (hn : m ≤ n) : Kn W g ds n es w := by
  obtain ⟨ex, h1, h2, h3⟩ := h
  exact ⟨ex, h1, h2, h3.more hn⟩
theorem Kn.ext {W w w' : World} {g : Nat} {ds : List Dc} {n : Nat} {es : List (Ky × Bool)} (h : Kn W g ds n es w) (hx : Ext no w w') : Kn W g ds n es w' := by
  obtain ⟨ex, h1, h2, h3⟩ := h
  exact ⟨ex, h1.also hx (fun _ h => h.elim), (hx.block g (Array.getElem?_eq_some_iff.1 h2).1 no_not).trans h2, h3⟩
theorem Kn.pre {W w w' : World} {g : Nat} {ds : List Dc} {n : Nat} {es : List (Ky × Bool)} (hx : Ext no W w) (h : Kn w g ds n es w') : Kn W g ds n es w' := by
  obtain ⟨ex, h1, h2, h3⟩ := h
  exact ⟨ex, hx.noX.also h1 (fun _ h => h), h2, h3⟩
theorem Kn.start {W : World} {g : Nat} {ds : List Dc} {n : Nat} {es : List (Ky × Bool)} (h : W.heap[g]? = some (mapO es)) : Kn W g ds n es W := ⟨[], Ext.refl _ _, by rw [List.append_nil]; exact h, Right.nil⟩
theorem Cells.turn {w w' : World} {g : Nat} {es : List (Ky × Bool)} {l : List (Addr × Value)} (h : Cells w l) (hx : Ext (fun k => k = g) w w') (hm : w.heap[g]? = some (mapO es)) : Cells w' l := by
  induction l with
  | nil => trivial
  | cons x l ih => exact ⟨(hx.cell (cell_lt h.1) (no_cells hm h.1)).trans h.1, ih h.2⟩
def StrictAt (ds : List Dc) (n F : Nat) : Prop := ∀ {W : World} {g : Nat} {A0 : Option Addr} {c : Nat} {es : List (Ky × Bool)} {mk : Mk} {fs fi : Value}, Ask W g ds n A0 c es mk fs fi → ∀ (S : Nat → Prop) (t : Tm) (v : Value) (below : Int), TV W S t v → ¬ S g → 0 ≤ below → sizeT t ≤ F → sizeT t ≤ 4000000 → below + sizeT t ≤ 1000000000 →
  Calls Tryz.prog 208 #[asV fs fi A0 n c g, .int .i64 below, v] W (PLo W g ds n es (strictF (ds.take n) (parT ds n) F (upM mk below) t))
def ParamOK (ds : List Dc) (num : Nat) : Prop := ∀ {W : World} {g n : Nat} {A0 : Option Addr} {c : Nat} {es : List (Ky × Bool)} {mk : Mk} {fs fi : Value}, Ask W g ds n A0 c es mk fs fi → num < n → (ds.getD num zDc).kind = 3 → ∀ a : Nat, a < (ds.getD num zDc).params.length →
  Calls Tryz.prog 132 #[asV fs fi A0 n c g, .int .i64 (num : Int), .int .i64 (a : Int)] W (fun e w' => e = .returned (.bool (parQ ds num a)) ∧ Kn W g ds (num + 1) es w')
set_option maxRecDepth 100000 in
set_option maxHeartbeats 8000000 in
theorem strC {w W : World} {g n c F num : Nat} {ds : List Dc} {A0 Aa Ap : Option Addr} {es : List (Ky × Bool)} {mk : Mk} {fs fi : Value} {S : Nat → Prop} {args : List Tm} {ca cp g3 g11 g13 : Nat} {below : Int} {x0 x2 x4 x5 x6 x7 x8 x9 x10 x14 x15 x16 x17 x18 x19 x20 x21 x22 x23 x24 x25 x26 x27 x28 x29 x30 x31 x32 x33 x34 x35 x36 x37 x38 x39 x40 x41 x42 x43 x44 x45 x46 x47 x48 x49 x50 x51 x52 x53 x54 x55 x56 x57 x58 x59 x60 x61 x62 x63 x64 x65 x66 x67 x68 x69 x70 x71 x72 x73 x74 x75 x76 x77 x78 x79 x80 x81 x82 x83 x84 x85 x86 x87 x88 x89 x90 x91 x92 x93 x94 x95 x96 x97 x98 x99 x100 x101 x102 x103 x104 x105 x106 x107 x108 x109 x110 x111 x112 x113 x114 x115 x116 x117 x118 x119 x120 x121 x122 x123 x124 x125 x126 x127 x128 x129 x130 x131 x132 x133 x134 x135 : Value}
    (IHs : StrictAt ds n F) (IHp : ParamOK ds num) (hnum : num < n) (ha : Ask W g ds n A0 c es mk fs fi) (hw : Ext no w W) (hargs : RC W S (.l 26 5 (args.map Tm.d)) [.slice Aa args.length ca]) (hS : ¬ S g)
    (hsz : ∀ x ∈ args, sizeT x ≤ F ∧ sizeT x ≤ 4000000 ∧ below + sizeT x ≤ 1000000000) (hb : 0 ≤ below) (hb2 : below ≤ 1000000000) (hk : (ds.getD num zDc).kind = 3) (hp : (ds.getD num zDc).params.length ≤ args.length)
    (hc : Cells W [(⟨g3, 0, none⟩, fs), (⟨g3, 1, none⟩, fi), (⟨g3, 2, none⟩, .slice A0 n c), (⟨g3, 3, none⟩, .map (some g)), (⟨g11, 1, none⟩, .int .i64 (num : Int)), (⟨g13, 12, none⟩, .slice Ap (ds.getD num zDc).params.length cp)]) :
    (fromF 16 (Tryz.f208.body.getD .skip)).wp Tryz.prog (bodyPost Tryz.prog Tryz.f208 (PLo w g ds n es (argsS (strictF (ds.take n) (parT ds n) F (upM mk below)) (upM mk below) (parT ds n num) 0 (args.take (ds.getD num zDc).params.length)))) { tmps := #[x0, .int .i64 below, x2, .pointer (some ⟨g3, 0, none⟩), x4, x5, x6, x7, x8, x9, x10, .pointer (some ⟨g11, 0, none⟩), .slice Aa args.length ca, .pointer (some ⟨g13, 0, none⟩), x14, x15, x16, x17, x18, x19, x20, x21, x22, x23, x24, x25, x26, x27, x28, x29, x30, x31, x32, x33, x34, x35, x36, x37, x38, x39, x40, x41, x42, x43, x44, x45, x46, x47, x48, x49, x50, x51, x52, x53, x54, x55, x56, x57, x58, x59, x60, x61, x62, x63, x64, x65, x66, x67, x68, x69, x70, x71, x72, x73, x74, x75, x76, x77, x78, x79, x80, x81, x82, x83, x84, x85, x86, x87, x88, x89, x90, x91, x92, x93, x94, x95, x96, x97, x98, x99, x100, x101, x102, x103, x104, x105, x106, x107, x108, x109, x110, x111, x112, x113, x114, x115, x116, x117, x118, x119, x120, x121, x122, x123, x124, x125, x126, x127, x128, x129, x130, x131, x132, x133, x134, x135], defers := [] } W := by
  obtain ⟨F1, y1, rfl, eg, hst⟩ := ha.st
  obtain ⟨F2, y2, rfl, eg2, _⟩ := ha.is
  have hM := hargs.lenM
  have HA := Lib.hid ha
  have HM := ha.mp
  have HMP := Lib.hid HM
  obtain ⟨P, hP⟩ : ∃ P, P = (ds.getD num zDc).params.length := ⟨_, rfl⟩
  rw [← hP] at hp hc ⊢
  have hrow := hargs.preS hp
  rw [← List.map_take] at hrow
  have hpre : ∀ W, (Instr.sliceAt 22 (.slice Aa args.length ca) none (some (.int .i64 (P : Int))) none).run Tryz.prog W = .ok (.slice Aa P ca) W := fun W => runPreTm Aa hp hM.2 W
  have hsz' : ∀ x ∈ args.take P, sizeT x ≤ F ∧ sizeT x ≤ 4000000 ∧ below + sizeT x ≤ 1000000000 := fun x hx => hsz x (List.mem_of_mem_take hx)
  have hrl : (args.take P).length = P := by simp; omega
  generalize args.take P = row at hrow hsz' hrl ⊢
  obtain ⟨q, hq⟩ : ∃ q, q = argsS (strictF (ds.take n) (parT ds n) F (upM mk below)) (upM mk below) (parT ds n num) 0 row := ⟨_, rfl⟩
  rw [← hq]
  have HQ := Lib.hid hq
  have HST := Lib.hid hst
  have HW := Lib.hid hw
  have HROW := Lib.hid hrow
  have HRL := Lib.hid hrl
  have HPL := Lib.hid hP
  have HSZ := Lib.hid hsz'
  have HC := Lib.hid hc
  have HK := Lib.hid hk
  have HB := Lib.hid (And.intro hb hb2)
  have HN := Lib.hid hnum
  have hPM : P ≤ 4294967296 := by omega
  simp only [Cells_cons, Cells_nil, and_true] at hc
  obtain ⟨q0, q1, q2, q3, q4, q5⟩ := hc
  have m0 := cell_lt q0
  have m4 := cell_lt q4
  have m5 := cell_lt q5
  clear ha hargs hrow hsz hsz' hq hst hw hrl hk hb hb2 HM hP hnum
  conv => arg 2; whnf
  go_wp2_with fail
  go_loopw [113] (fun i wr => ∃ j : Nat, j ≤ row.length ∧ i = .int .i64 j ∧ Hid (argsS (strictF (ds.take n) (parT ds n) F (upM mk below)) (upM mk below) (parT ds n num) j (row.drop j) = q) ∧ Hid (Kn W g ds n es wr)) (fun i _ => row.length - (intOf i).toNat)
  case atStart => exact ⟨0, Nat.zero_le _, rfl, Lib.hid HQ.out.symm, Lib.hid (Kn.start HMP.out)⟩
  case round =>
    clear q0 q1 q2 q3 q4 q5 m0 m4 m5
    obtain ⟨j, hj, rfl, HS, HKN⟩ := hrel
    obtain ⟨ex, hx, hm, hr⟩ := HKN.out
    have HAK := Lib.hid (HA.out.turn hx hm hr HA.out.hn)
    have HX := Lib.hid hx
    have HM := Lib.hid hm
    have HR := Lib.hid hr
    have HC1 := Lib.hid (HC.out.turn hx HMP.out)
    have hc := HC1.out
    simp only [Cells_cons, Cells_nil, and_true] at hc
    obtain ⟨q0, q1, q2, q3, q4, q5⟩ := hc
    have m0 := cell_lt q0
    have m4 := cell_lt q4
    have m5 := cell_lt q5
    clear hx hm hr
    by_cases hlt : j < row.length
    · have hjP : j < P := by rw [← HRL.out]; exact hlt
      have hrow2 := HROW.out.turn HX.out hS
      have hAa : ∃ b_ o, Aa = some ⟨b_, o, none⟩ := by
        obtain ⟨b_, o, _, _, _, _, h, _⟩ := hrow2.atTm hlt
        exact ⟨b_, o, h⟩
      obtain ⟨b_, o, rfl⟩ := hAa
      obtain ⟨b2_, o2, B1, ca1, L1, ck1, hA_, hb, hS_, hd, p0, p1, p2, p3, p4⟩ := hrow2.atTm hlt
      simp only [Option.some.injEq, Addr.mk.injEq, and_true] at hA_
      obtain ⟨rfl, rfl⟩ := hA_
      have HD := Lib.hid hd
      have HE := Lib.hid (argsS_drop (g := strictF (ds.take n) (parT ds n) F (upM mk below)) (at' := upM mk below) (q := parT ds n num) hlt)
      have HZJ := Lib.hid (HSZ.out _ (List.getElem_mem hlt))
      have HPT := Lib.hid (parT_eq ds HN.out j)
      clear hd hrow2 hS_
      have H := Hp.start no wr
      have hr_ := H.rules; simp only [Rules, and_true] at hr_; have hd_ := H.dif; simp only [Dif, Neq, and_true] at hd_; obtain ⟨ho_, hz_⟩ := H.old0
      go_wp2_with ((with_reducible refine atStore (t := 26) ?_); go_must (refine wpList_storeH (t := 26) rfl rfl (by go_simp <;> first | rfl | exact ⟨rfl, rfl⟩) (by go_simp <;> first | rfl | exact ⟨rfl, rfl⟩) (by exact Hp.norm (by (repeat (first | with_reducible exact H | with_reducible exact H0_ | with_reducible apply Hp.alloc | with_reducible apply Hp.allocMap | with_reducible apply Hp.drew | with_reducible apply Hp.drewN | with_reducible apply Hp.set)); (try any_goals (repeat (first | with_reducible exact Upd.head | with_reducible apply Upd.tail)))) (by ((try simp only [size_drew_, size_drewN_, World.size_alloc, World.size_setCell, List.set_cons_zero, List.set_cons_succ, List.nil_append, List.cons_append]) <;> rfl))) (by (repeat (first | with_reducible exact Upd.head | with_reducible apply Upd.tail))) (by exact aggTerm) (by rfl) (by simp [Value.oneCell']) ?_; clear H; intro w7 H; (try simp only [size_drew_, size_drewN_, World.size_alloc, World.size_setCell, List.set_cons_zero, List.set_cons_succ] at H); (try clear hr_ hd_ ho_ hz_); have hr_ := H.rules; simp only [Rules, and_true] at hr_; have hd_ := H.dif; simp only [Dif, Neq, and_true] at hd_; obtain ⟨ho_, hz_⟩ := H.old0))
      (try clear hr_ hd_ ho_ hz_)
      refine callsH (by (repeat (first | with_reducible exact H | with_reducible exact H0_ | with_reducible apply Hp.alloc | with_reducible apply Hp.allocMap | with_reducible apply Hp.drew | with_reducible apply Hp.drewN | with_reducible apply Hp.set)); (try any_goals (repeat (first | with_reducible exact Upd.head | with_reducible apply Upd.tail)))) ?_
      clear H; intro w9 H; (try simp only [size_drew_, size_drewN_, World.size_alloc, World.size_setCell, List.set_cons_zero, List.set_cons_succ] at H)
      obtain ⟨z, hz⟩ : ∃ z, z = standsM (upM mk below) row[j] := ⟨_, rfl⟩
      have hcall := HST.out _ (HX.out.also H.ext fun _ h => h.elim) (HAK.out.ext H.ext).tab _ row[j] _ below ⟨_, _, _, _, rfl, HD.out.ext0 H.ext⟩ HZJ.out.2.1 HB.out.1 HB.out.2
      rw [← hz] at hcall
      have HZ2 := Lib.hid hz
      clear hz
      refine (hcall).mono ?_
      rintro e w_ ⟨rfl, hx⟩
      replace H := H.call hx
      clear hx
      clear hcall
      cases z
      · go_wp2_with fail
        go_roundw
        case rel => exact ⟨j + 1, by omega, by first | go_num | rfl | simp, Lib.hid (by rw [← HS.out, HE.out, ← HZ2.out]; rfl), Lib.hid (HKN.out.ext H.ext)⟩
        case measure => simp [intOf]; omega
      · have hr_ := H.rules; simp only [Rules, and_true] at hr_; have hd_ := H.dif; simp only [Dif, Neq, and_true] at hd_; obtain ⟨ho_, hz_⟩ := H.old0
        go_wp2_with fail
        (try clear hr_ hd_ ho_ hz_)
        refine callsH (by (repeat (first | with_reducible exact H | with_reducible exact H0_ | with_reducible apply Hp.alloc | with_reducible apply Hp.allocMap | with_reducible apply Hp.drew | with_reducible apply Hp.drewN | with_reducible apply Hp.set)); (try any_goals (repeat (first | with_reducible exact Upd.head | with_reducible apply Upd.tail)))) ?_
        clear H; intro w10 H; (try simp only [size_drew_, size_drewN_, World.size_alloc, World.size_setCell, List.set_cons_zero, List.set_cons_succ] at H)
        have hcall := IHs (HAK.out.ext H.ext) _ row[j] _ below ⟨_, _, _, _, rfl, HD.out.ext0 H.ext⟩ hS HB.out.1 HZJ.out.1 HZJ.out.2.1 HZJ.out.2.2
        obtain ⟨z1, hz1⟩ : ∃ z1, z1 = strictF (ds.take n) (parT ds n) F (upM mk below) row[j] := ⟨_, rfl⟩
        rw [← hz1] at hcall
        have HZ3 := Lib.hid hz1
        clear hz1
        refine hcall.mono ?_
        clear hcall
        rintro e w11 hm
        have HK2 := Lib.hid (Kn.seq (HX.out.also H.ext fun _ h => h.elim) HR.out hm.2)
        cases z1
        · obtain rfl := hm.no rfl
          clear hm
          go_wp2_with fail
          refine ⟨rfl, ?_, HK2.out.pre HW.out⟩
          rw [← HS.out, HE.out, ← HZ2.out, ← HZ3.out]
          rfl
        · obtain rfl := hm.yes rfl
          clear hm H p0 p1 p2 p3 p4 q0 q1 q2 q3 q4 q5 m0 m4 m5 HC1
          obtain ⟨ex2, hx, hm, hr⟩ := HK2.out
          have HAK2 := Lib.hid (HA.out.turn hx hm hr HA.out.hn)
          have HX2 := Lib.hid hx
          have HR2 := Lib.hid hr
          have HC1 := Lib.hid (HC.out.turn hx HMP.out)
          have hc := HC1.out
          simp only [Cells_cons, Cells_nil, and_true] at hc
          obtain ⟨q0, q1, q2, q3, q4, q5⟩ := hc
          have m0 := cell_lt q0
          have m4 := cell_lt q4
          clear hx hm hr
          go_wp2_with fail
          have hcall := IHp HAK2.out HN.out HK.out j (by rw [← HPL.out]; exact hjP)
          obtain ⟨z2, hz2⟩ : ∃ z2, z2 = parQ ds num j := ⟨_, rfl⟩
          rw [← hz2] at hcall
          have HZ4 := Lib.hid hz2
          clear hz2
          refine hcall.mono ?_
          clear hcall
          rintro e w12 ⟨rfl, hk3⟩
          have HK3 := Lib.hid (Kn.seq HX2.out HR2.out (hk3.more HN.out))
          clear hk3 q0 q1 q2 q3 q4 q5 m0 m4 HC1
          have H := Hp.start no w12
          go_wp2_with fail
          refine callsH (by (repeat (first | with_reducible exact H | with_reducible exact H0_ | with_reducible apply Hp.alloc | with_reducible apply Hp.allocMap | with_reducible apply Hp.drew | with_reducible apply Hp.drewN | with_reducible apply Hp.set)); (try any_goals (repeat (first | with_reducible exact Upd.head | with_reducible apply Upd.tail)))) ?_
          clear H; intro w13 H; (try simp only [size_drew_, size_drewN_, World.size_alloc, World.size_setCell, List.set_cons_zero, List.set_cons_succ] at H)
          refine (tmust1 H (by (repeat (first | with_reducible exact Pick.head | with_reducible apply Pick.tail)))).mono ?_
          rintro e w14 hm
          have hx := hm.2
          replace H := H.call hx
          clear hx
          cases z2
          · obtain rfl := hm.no rfl
            clear hm
            go_wp2_with fail
            refine ⟨rfl, ?_, (HK3.out.ext H.ext).pre HW.out⟩
            rw [← HS.out, HE.out, ← HZ2.out, ← HZ3.out, HPT.out, ← HZ4.out]
            rfl
          · obtain rfl := hm.yes rfl
            clear hm
            go_wp2_with fail
            go_roundw
            case rel => exact ⟨j + 1, by omega, by first | go_num | rfl | simp, Lib.hid (by rw [← HS.out, HE.out, ← HZ2.out, ← HZ3.out, HPT.out, ← HZ4.out]; rfl), Lib.hid (HK3.out.ext H.ext)⟩
            case measure => simp [intOf]; omega
    · have hjP : ¬ j < P := by rw [← HRL.out]; exact hlt
      go_wp2_with fail
      go_end0
      refine ⟨?_, HKN.out.pre HW.out⟩
      rw [← HS.out, List.drop_eq_nil_of_le (by omega)]
      rfl
end Go.Proofs.YtmedomglemllnaaGreatDoor
