/- law 04: awake: contract. No statement of the seat is proved here. -/
import Derived.Test.YteelplgdojjakaaDoorLaw04
import Derived.Test.YteelplgdojjakaaDoorVars
import Derived.Test.YteelplgdojjakaaDoorSpine2
namespace Go.Proofs.YteelplgdojjakaaDoor
set_option linter.unusedSimpArgs false
set_option linter.unusedVariables false
open Go.RowKit

/-- A term that is handed back, its numbers written out. -/
def PLit (w0 : World) (l : List Ch) (k n : Int) (ks : List Tm) (e : Ending) (w' : World) : Prop := ∃ A c K k', e = .returned (.agg #[.int .i64 k, .int .i64 n, .int .i64 0, .slice A 0 c, .slice K ks.length k']) ∧
  Hp no w0 w' (.dat (Tm.mk k n 0 [] ks).d [.int .i64 k, .int .i64 n, .int .i64 0, .slice A 0 c, .slice K ks.length k'] :: l)
/-- A variable. -/
def v_ (n : Int) : Tm := .mk 1 n 0 [] []
def PLitV (w0 : World) (l : List Ch) (n : Int) (e : Ending) (w' : World) : Prop := ∃ A c K k', e = .returned (.agg #[.int .i64 1, .int .i64 n, .int .i64 0, .slice A 0 c, .slice K 0 k']) ∧
  Hp no w0 w' (.dat (v_ n).d [.int .i64 1, .int .i64 n, .int .i64 0, .slice A 0 c, .slice K 0 k'] :: l)
theorem vH {w0 w : World} {l : List Ch} {n : Int} (H : Hp no w0 w l) (i2 : inI n) : Calls Tryd.prog 60 #[.int .i64 n] w (PLitV w0 l n) := by
  refine (v04_calls i2).mono ?_
  rintro e w_ ⟨v, rfl, hto, hx⟩
  obtain ⟨B1, Bc, B2, Bk, rfl, H_⟩ := H.resTm hx hto
  clear H hx hto
  have H := H_
  clear H_
  exact ⟨_, _, _, _, rfl, H⟩
/-- Two terms in a box: a row. -/
theorem Hp.row2 {w0 w : World} {l l1 l2 l3 : List Ch} {a b : Tm} {g : Nat} {a0 a1 a2 a3 a4 b0 b1 b2 b3 b4 : Value} (H : Hp no w0 w l) (p0 : Pick l (.box g 30 [a0, a1, a2, a3, a4, b0, b1, b2, b3, b4]) l1) (pa : Pick l1 (.dat a.d [a0, a1, a2, a3, a4]) l2) (pb : Pick l2 (.dat b.d [b0, b1, b2, b3, b4]) l3) :
    Hp no w0 w (.dat (.l 30 5 ([a, b].map Tm.d)) [.slice (some ⟨g, 0, none⟩) 2 2] :: l3) := by
  have H1 := (((H.pick p0).pick (.tail pa)).one1 .head)
  have H2 := (H1.pick (.tail (.tail pb))).one1 .head
  have H3 := H2.join (.tail .head) .head
  exact H3.boxrow (n := 2) (z := 5) (.tail .head) .head rfl (by simp [Tm.size_d]) (by unfold M; omega)
theorem of2H {w0 w : World} {l l1 l2 l3 : List Ch} {k : Int} {a b : Tm} {g : Nat} {a0 a1 a2 a3 a4 b0 b1 b2 b3 b4 : Value} (H : Hp no w0 w l) (p0 : Pick l (.box g 30 [a0, a1, a2, a3, a4, b0, b1, b2, b3, b4]) l1) (pa : Pick l1 (.dat a.d [a0, a1, a2, a3, a4]) l2) (pb : Pick l2 (.dat b.d [b0, b1, b2, b3, b4]) l3) (hk : inI k) :
    Calls Tryd.prog 59 #[.int .i64 k, .slice (some ⟨g, 0, none⟩) 2 2] w (PLit w0 l3 k 0 [a, b]) :=
  (of04_calls (ks := [a, b]) (H.row2 p0 pa pb) hk).mono fun e w' h => h
theorem spine_awake : spineT (.mk 6 0 0 [] [.mk 6 0 0 [] [v_ 9, v_ 1], v_ 2]) = (v_ 9, [v_ 1, v_ 2]) := by
  simp [spineT, v_]
theorem v_k (n : Int) : (v_ n).k = 1 := rfl
theorem v_n (n : Int) : (v_ n).n = n := rfl
theorem v_a (n : Int) : (v_ n).a = 0 := rfl
theorem v_l (n : Int) : (v_ n).ls.length = 0 := rfl
theorem v_s (n : Int) : (v_ n).ks.length = 0 := rfl
theorem tvV {w : World} {S : Nat → Prop} {n : Int} {A K : Option Addr} {c k : Nat} (h : RC w S (v_ n).d [.int .i64 1, .int .i64 n, .int .i64 0, .slice A 0 c, .slice K 0 k]) : TV w S (v_ n) (.agg #[.int .i64 1, .int .i64 n, .int .i64 0, .slice A 0 c, .slice K 0 k]) := ⟨A, c, K, k, rfl, h⟩
theorem tv2 {w : World} {S : Nat → Prop} {t n : Int} {x y : Tm} {A K : Option Addr} {c k : Nat} (h : RC w S (Tm.mk t n 0 [] [x, y]).d [.int .i64 t, .int .i64 n, .int .i64 0, .slice A 0 c, .slice K 2 k]) : TV w S (.mk t n 0 [] [x, y]) (.agg #[.int .i64 t, .int .i64 n, .int .i64 0, .slice A 0 c, .slice K 2 k]) := ⟨A, c, K, k, rfl, h⟩
theorem vars21 : varsT 2 1 = [v_ 2, v_ 1] := rfl
theorem rows2 {w : World} {S1 S2 : Nat → Prop} {a b a' b' : Tm} {A B : Option Addr} {c1 c2 : Nat} (h : RC w S1 (.l 30 5 ([a, b].map Tm.d)) [.slice A 2 c1]) (k : RC w S2 (.l 30 5 ([a', b'].map Tm.d)) [.slice B 2 c2]) : Calls Tryd.prog 24 #[.slice A 2 c1, .slice B 2 c2] w (PB w ([a, b] = [a', b'])) := rows04_calls (xs := [a, b]) (ys := [a', b']) h k
set_option maxRecDepth 100000 in
set_option maxHeartbeats 4000000 in
theorem awake04_calls {w : World} (hT : Tab w) : Calls Tryd.prog 19 #[] w (PV w (.bool true)) := by
  have HT := Lib.hid hT
  clear hT
  go_enter Tryd.func19, Tryd.ntmps19
  have H := Hp.start no w
  go_wp2_with fail
  refine callsH (by (repeat (first | with_reducible exact H | with_reducible exact H0_ | with_reducible apply Hp.alloc | with_reducible apply Hp.allocMap | with_reducible apply Hp.drew | with_reducible apply Hp.drewN | with_reducible apply Hp.set)); (try any_goals (repeat (first | with_reducible exact Upd.head | with_reducible apply Upd.tail)))) ?_
  clear H; intro wc_ H; (try simp only [size_drew_, size_drewN_, World.size_alloc, World.size_setCell, List.set_cons_zero, List.set_cons_succ] at H)
  refine (vH H (by unfold inI; omega)).mono ?_
  rintro e w_ ⟨AA, Ac, AK, Ak, rfl, H_⟩
  clear H
  have H := H_
  clear H_
  go_wp2_with fail
  refine callsH (by (repeat (first | with_reducible exact H | with_reducible exact H0_ | with_reducible apply Hp.alloc | with_reducible apply Hp.allocMap | with_reducible apply Hp.drew | with_reducible apply Hp.drewN | with_reducible apply Hp.set)); (try any_goals (repeat (first | with_reducible exact Upd.head | with_reducible apply Upd.tail)))) ?_
  clear H; intro wc_ H; (try simp only [size_drew_, size_drewN_, World.size_alloc, World.size_setCell, List.set_cons_zero, List.set_cons_succ] at H)
  refine (vH H (by unfold inI; omega)).mono ?_
  rintro e w_ ⟨BA, Bc, BK, Bk, rfl, H_⟩
  clear H
  have H := H_
  clear H_
  go_wp2_with fail
  refine callsH (by (repeat (first | with_reducible exact H | with_reducible exact H0_ | with_reducible apply Hp.alloc | with_reducible apply Hp.allocMap | with_reducible apply Hp.drew | with_reducible apply Hp.drewN | with_reducible apply Hp.set)); (try any_goals (repeat (first | with_reducible exact Upd.head | with_reducible apply Upd.tail)))) ?_
  clear H; intro wc_ H; (try simp only [size_drew_, size_drewN_, World.size_alloc, World.size_setCell, List.set_cons_zero, List.set_cons_succ] at H)
  refine (of2H (a := v_ 9) (b := v_ 1) H (by (repeat (first | with_reducible exact Pick.head | with_reducible apply Pick.tail))) (by (repeat (first | with_reducible exact Pick.head | with_reducible apply Pick.tail))) (by (repeat (first | with_reducible exact Pick.head | with_reducible apply Pick.tail))) (by unfold inI; omega)).mono ?_
  rintro e w_ ⟨CA, Cc, CK, Ck, rfl, H_⟩
  clear H
  have H := H_
  clear H_
  simp only [List.length_cons, List.length_nil, Nat.zero_add, Nat.reduceAdd] at H ⊢
  go_wp2_with fail
  refine callsH (by (repeat (first | with_reducible exact H | with_reducible exact H0_ | with_reducible apply Hp.alloc | with_reducible apply Hp.allocMap | with_reducible apply Hp.drew | with_reducible apply Hp.drewN | with_reducible apply Hp.set)); (try any_goals (repeat (first | with_reducible exact Upd.head | with_reducible apply Upd.tail)))) ?_
  clear H; intro wc_ H; (try simp only [size_drew_, size_drewN_, World.size_alloc, World.size_setCell, List.set_cons_zero, List.set_cons_succ] at H)
  refine (vH H (by unfold inI; omega)).mono ?_
  rintro e w_ ⟨DA, Dc, DK, Dk, rfl, H_⟩
  clear H
  have H := H_
  clear H_
  go_wp2_with fail
  refine callsH (by (repeat (first | with_reducible exact H | with_reducible exact H0_ | with_reducible apply Hp.alloc | with_reducible apply Hp.allocMap | with_reducible apply Hp.drew | with_reducible apply Hp.drewN | with_reducible apply Hp.set)); (try any_goals (repeat (first | with_reducible exact Upd.head | with_reducible apply Upd.tail)))) ?_
  clear H; intro wc_ H; (try simp only [size_drew_, size_drewN_, World.size_alloc, World.size_setCell, List.set_cons_zero, List.set_cons_succ] at H)
  refine (of2H (a := .mk 6 0 0 [] [v_ 9, v_ 1]) (b := v_ 2) H (by (repeat (first | with_reducible exact Pick.head | with_reducible apply Pick.tail))) (by (repeat (first | with_reducible exact Pick.head | with_reducible apply Pick.tail))) (by (repeat (first | with_reducible exact Pick.head | with_reducible apply Pick.tail))) (by unfold inI; omega)).mono ?_
  rintro e w_ ⟨EA, Ec, EK, Ek, rfl, H_⟩
  clear H
  have H := H_
  clear H_
  simp only [List.length_cons, List.length_nil, Nat.zero_add, Nat.reduceAdd] at H ⊢
  go_wp2_with fail
  refine (teleSpine (t := .mk 6 0 0 [] [.mk 6 0 0 [] [v_ 9, v_ 1], v_ 2]) (HT.out.ext H.ext) (tv2 (H.rd .head)) (by rw [spine_awake]; simp)).mono ?_
  rw [spine_awake]
  rintro e w_ ⟨XB, xb, XK, xk, XA, xc, rfl, H2⟩
  replace H := H.res2 H2
  clear H2
  simp only [v_k, v_n, v_a, v_l, v_s, List.length_cons, List.length_nil, Nat.zero_add, Nat.reduceAdd] at H ⊢
  have hr_ := H.rules; simp only [Rules, and_true] at hr_; have hd_ := H.dif; simp only [Dif, Neq, and_true] at hd_; obtain ⟨ho_, hz_⟩ := H.old0
  go_wp2_with ((with_reducible refine atStore (t := 30) ?_); go_must (refine wpList_storeH (t := 30) rfl rfl (by go_simp <;> first | rfl | exact ⟨rfl, rfl⟩) (by go_simp <;> first | rfl | exact ⟨rfl, rfl⟩) (by exact Hp.norm (by (repeat (first | with_reducible exact H | with_reducible exact H0_ | with_reducible apply Hp.alloc | with_reducible apply Hp.allocMap | with_reducible apply Hp.drew | with_reducible apply Hp.drewN | with_reducible apply Hp.set)); (try any_goals (repeat (first | with_reducible exact Upd.head | with_reducible apply Upd.tail)))) (by ((try simp only [size_drew_, size_drewN_, World.size_alloc, World.size_setCell, List.set_cons_zero, List.set_cons_succ, List.nil_append, List.cons_append]) <;> rfl))) (by (repeat (first | with_reducible exact Upd.head | with_reducible apply Upd.tail))) (by exact aggTerm) (by rfl) (by simp [Value.oneCell']) ?_; clear H; intro w7 H; (try simp only [size_drew_, size_drewN_, World.size_alloc, World.size_setCell, List.set_cons_zero, List.set_cons_succ] at H); (try clear hr_ hd_ ho_ hz_); have hr_ := H.rules; simp only [Rules, and_true] at hr_; have hd_ := H.dif; simp only [Dif, Neq, and_true] at hd_; obtain ⟨ho_, hz_⟩ := H.old0))
  (try clear hr_ hd_ ho_ hz_)
  refine regionH (by (repeat (first | with_reducible exact H | with_reducible exact H0_ | with_reducible apply Hp.alloc | with_reducible apply Hp.allocMap | with_reducible apply Hp.drew | with_reducible apply Hp.drewN | with_reducible apply Hp.set)); (try any_goals (repeat (first | with_reducible exact Upd.head | with_reducible apply Upd.tail)))) ?_
  clear H; intro w8 H; (try simp only [size_drew_, size_drewN_, World.size_alloc, World.size_setCell, List.set_cons_zero, List.set_cons_succ] at H)
  refine wp_region_H 33 [false, false, false, false, false, false, false, false, false, false, false, false, false, false, false, false, false, false, false, false, false, false, false, false, false, false, false, false, false, false, false, false, false] [] H (.cons (i := 0) rfl .nil) (by kernel_rfl) rfl rfl (fun H_ hR_ => ?_)
  (try clear H0_); have H0_ := H; clear H; have H := H_; clear H_
  refine wpL_do (i := 0) rfl (by kernel_rfl) (by rfl) (fun K_ hK_ => ?_)
  go_simp
  refine (vH H (by unfold inI; omega)).mono ?_
  rintro e w_ ⟨FA, Fc, FK, Fk, rfl, H_⟩
  clear H
  have H := H_
  clear H_
  refine hK_ _ _ (fun _ => H.sub (by simp)) (fun hR_ => ?_)
  replace hR_ := hR_ (by decide)
  refine wpL_do (i := 1) rfl (by kernel_rfl) (by rfl) (fun K_ hK_ => ?_)
  go_simp
  refine (vH H (by unfold inI; omega)).mono ?_
  rintro e w_ ⟨GA, Gc, GK, Gk, rfl, H_⟩
  clear H
  have H := H_
  clear H_
  refine hK_ _ _ (fun _ => H.sub (by simp)) (fun hR_ => ?_)
  replace hR_ := hR_ (by decide)
  simp only [List.getElem_toArray, List.getElem_cons_zero, List.getElem_cons_succ, Act.put, List.setIfInBounds_toArray, List.set_cons_zero, List.set_cons_succ]
  refine wpL_many (is := [2, 3]) (by kernel_rfl) (by simp) ?_
  simp only [List.forall_mem_cons]
  refine ⟨?_, ?_, fun _ h => by cases h⟩
  · refine wpOp_do (i := 2) rfl (by rfl) (fun K_ hK_ => ?_)
    go_simp
    refine kontH (by (repeat (first | with_reducible exact H | with_reducible exact H0_ | with_reducible apply Hp.alloc | with_reducible apply Hp.allocMap | with_reducible apply Hp.drew | with_reducible apply Hp.drewN | with_reducible apply Hp.set)); (try any_goals (repeat (first | with_reducible exact Upd.head | with_reducible apply Upd.tail)))) ?_
    clear H; intro wb_ H; (try simp only [size_drew_, size_drewN_, World.size_alloc, World.size_setCell, List.set_cons_zero, List.set_cons_succ] at H)
    refine hK_ _ _ (fun _ => H.sub (by simp)) (fun hR_ => ?_)
    replace hR_ := hR_ (by decide)
    refine wpL_do (i := 3) rfl (by kernel_rfl) (by rfl) (fun K_ hK_ => ?_)
    go_simp
    refine (vH H (by unfold inI; omega)).mono ?_
    rintro e w_ ⟨LA, Lc, LK, Lk, rfl, H_⟩
    clear H
    have H := H_
    clear H_
    refine hK_ _ _ (fun _ => H.sub (by simp)) (fun hR_ => ?_)
    replace hR_ := hR_ (by decide)
    refine wpL_do (i := 4) rfl (by kernel_rfl) (by rfl) (fun K_ hK_ => ?_)
    go_simp
    have HP := Hp.row2 (a := v_ 1) (b := v_ 2) H (by (repeat (first | with_reducible exact Pick.head | with_reducible apply Pick.tail))) (by (repeat (first | with_reducible exact Pick.head | with_reducible apply Pick.tail))) (by (repeat (first | with_reducible exact Pick.head | with_reducible apply Pick.tail)))
    refine (pis_calls (ts := [v_ 1, v_ 2]) (b := v_ 3) (HT.out.ext HP.ext) (HP.rd .head) rfl (tvV (HP.rd (by (repeat (first | with_reducible exact Pick.head | with_reducible apply Pick.tail)))))).mono ?_
    clear HP
    rintro e w_ ⟨v, rfl, hto, hx⟩
    obtain ⟨P1, Pc, P2, Pk, rfl, H_⟩ := H.resTm hx hto
    clear H hx hto
    have H := H_
    clear H_
    refine hK_ _ _ (fun _ => H.sub (by simp)) (fun hR_ => ?_)
    replace hR_ := hR_ (by decide)
    refine wpL_do (i := 5) rfl (by kernel_rfl) (by rfl) (fun K_ hK_ => ?_)
    go_simp
    refine (vH H (by unfold inI; omega)).mono ?_
    rintro e w_ ⟨IA, Ic, IK, Ik, rfl, H_⟩
    clear H
    have H := H_
    clear H_
    refine hK_ _ _ (fun _ => H.sub (by simp)) (fun hR_ => ?_)
    replace hR_ := hR_ (by decide)
    refine wpL_do (i := 6) rfl (by kernel_rfl) (by rfl) (fun K_ hK_ => ?_)
    go_simp
    refine (vH H (by unfold inI; omega)).mono ?_
    rintro e w_ ⟨JA, Jc, JK, Jk, rfl, H_⟩
    clear H
    have H := H_
    clear H_
    refine hK_ _ _ (fun _ => H.sub (by simp)) (fun hR_ => ?_)
    replace hR_ := hR_ (by decide)
    refine wpL_do (i := 7) rfl (by kernel_rfl) (by rfl) (fun K_ hK_ => ?_)
    go_simp
    refine (vH H (by unfold inI; omega)).mono ?_
    rintro e w_ ⟨MA, Mc, MK, Mk, rfl, H_⟩
    clear H
    have H := H_
    clear H_
    refine hK_ _ _ (fun _ => H.sub (by simp)) (fun hR_ => ?_)
    replace hR_ := hR_ (by decide)
    refine wpL_do (i := 8) rfl (by kernel_rfl) (by rfl) (fun K_ hK_ => ?_)
    go_simp
    refine kontH (by (repeat (first | with_reducible exact H | with_reducible exact H0_ | with_reducible apply Hp.alloc | with_reducible apply Hp.allocMap | with_reducible apply Hp.drew | with_reducible apply Hp.drewN | with_reducible apply Hp.set)); (try any_goals (repeat (first | with_reducible exact Upd.head | with_reducible apply Upd.tail)))) ?_
    clear H; intro wb_ H; (try simp only [size_drew_, size_drewN_, World.size_alloc, World.size_setCell, List.set_cons_zero, List.set_cons_succ] at H)
    refine hK_ _ _ (fun _ => H.sub (by simp)) (fun hR_ => ?_)
    replace hR_ := hR_ (by decide)
    refine wpL_do (i := 9) rfl (by kernel_rfl) (by rfl) (fun K_ hK_ => ?_)
    go_simp
    refine (of2H (a := v_ 2) (b := v_ 3) H (by (repeat (first | with_reducible exact Pick.head | with_reducible apply Pick.tail))) (by (repeat (first | with_reducible exact Pick.head | with_reducible apply Pick.tail))) (by (repeat (first | with_reducible exact Pick.head | with_reducible apply Pick.tail))) (by unfold inI; omega)).mono ?_
    rintro e w_ ⟨NA, Nc, NK, Nk, rfl, H_⟩
    clear H
    have H := H_
    clear H_
    simp only [List.length_cons, List.length_nil, Nat.zero_add, Nat.reduceAdd] at H ⊢
    refine hK_ _ _ (fun _ => H.sub (by simp)) (fun hR_ => ?_)
    replace hR_ := hR_ (by decide)
    refine wpL_do (i := 10) rfl (by kernel_rfl) (by rfl) (fun K_ hK_ => ?_)
    go_simp
    refine kontH (by (repeat (first | with_reducible exact H | with_reducible exact H0_ | with_reducible apply Hp.alloc | with_reducible apply Hp.allocMap | with_reducible apply Hp.drew | with_reducible apply Hp.drewN | with_reducible apply Hp.set)); (try any_goals (repeat (first | with_reducible exact Upd.head | with_reducible apply Upd.tail)))) ?_
    clear H; intro wb_ H; (try simp only [size_drew_, size_drewN_, World.size_alloc, World.size_setCell, List.set_cons_zero, List.set_cons_succ] at H)
    refine hK_ _ _ (fun _ => H.sub (by simp)) (fun hR_ => ?_)
    replace hR_ := hR_ (by decide)
    refine wpL_do (i := 11) rfl (by kernel_rfl) (by rfl) (fun K_ hK_ => ?_)
    go_simp
    refine (of2H (a := v_ 1) (b := .mk 4 0 0 [] [v_ 2, v_ 3]) H (by (repeat (first | with_reducible exact Pick.head | with_reducible apply Pick.tail))) (by (repeat (first | with_reducible exact Pick.head | with_reducible apply Pick.tail))) (by (repeat (first | with_reducible exact Pick.head | with_reducible apply Pick.tail))) (by unfold inI; omega)).mono ?_
    rintro e w_ ⟨OA, Oc, OK, Ok, rfl, H_⟩
    clear H
    have H := H_
    clear H_
    simp only [List.length_cons, List.length_nil, Nat.zero_add, Nat.reduceAdd] at H ⊢
    refine hK_ _ _ (fun _ => H.sub (by simp)) (fun hR_ => ?_)
    replace hR_ := hR_ (by decide)
    refine wpL_do (i := 12) rfl (by kernel_rfl) (by rfl) (fun K_ hK_ => ?_)
    go_simp
    refine (same04_calls (x := aboveT 4 [v_ 1, v_ 2] (v_ 3)) (y := .mk 4 0 0 [] [v_ 1, .mk 4 0 0 [] [v_ 2, v_ 3]]) ⟨_, _, _, _, rfl, H.rd (by (repeat (first | with_reducible exact Pick.head | with_reducible apply Pick.tail)))⟩ (tv2 (H.rd (by (repeat (first | with_reducible exact Pick.head | with_reducible apply Pick.tail)))))).mono ?_
    rintro e w_ ⟨q, rfl, hq, hx⟩
    obtain rfl : q = true := hq.2 rfl
    replace H := H.call hx
    clear hx hq
    refine hK_ _ _ (fun _ => H.sub (by simp)) (fun hR_ => ?_)
    replace hR_ := hR_ (by decide)
    refine wpL_reads (is := [(13, ?v1_0)]) (by kernel_rfl) (Nat.le_of_ble_eq_true rfl) (by intro _ _ d_ _ _ h_; cases d_ <;> exact h_) (by kernel_rfl) hR_ (fun w_ hw_ => ?h1_) ?_
    case h1_ =>
      have ho_ := hw_.old0.1; have hz_ := hw_.old0.2; have hr_ := hw_.rules; clear hw_; simp only [Rules, and_true] at hr_; go_split_ands
      (repeat (first | with_reducible exact RdOps.nil | (refine RdOps.run rfl (by rfl) ?_ ?_; (focus (first | (go_simp; done) | (go_simp; with_reducible rfl))); simp only [List.getElem_toArray, List.getElem_cons_zero, List.getElem_cons_succ, Act.put, List.setIfInBounds_toArray, List.set_cons_zero, List.set_cons_succ]) | (refine RdOps.skip rfl (by rfl) ?_; simp only [List.getElem_toArray, List.getElem_cons_zero, List.getElem_cons_succ, Act.put, List.setIfInBounds_toArray, List.set_cons_zero, List.set_cons_succ])))
    simp only [rdMark, rdAct, List.map_cons, List.map_nil, List.length_cons, List.length_nil, Nat.reduceAdd, Nat.reduceSub, Nat.zero_add, List.getElem?_toArray, List.getElem?_cons_zero, List.getElem?_cons_succ, Option.bind_some, Act.put, List.setIfInBounds_toArray, List.set_cons_zero, List.set_cons_succ]
    refine wpL_do (i := 14) rfl (by kernel_rfl) (by rfl) (fun K_ hK_ => ?_)
    go_simp
    refine (teleVars (n := 2) (fr := 1) (by omega) (by omega)).mono ?_
    rintro e w_ ⟨Q1, Qc, rfl, hacc, hx⟩
    replace H := H.resSl hx hacc
    clear hx hacc
    simp only [List.length_map, varsT_len] at H ⊢
    rw [vars21] at H
    refine hK_ _ _ (fun _ => H.sub (by simp)) (fun hR_ => ?_)
    replace hR_ := hR_ (by decide)
    refine wpL_do (i := 15) rfl (by kernel_rfl) (by rfl) (fun K_ hK_ => ?_)
    go_simp
    refine (vH H (by unfold inI; omega)).mono ?_
    rintro e w_ ⟨RA, Rc, RK, Rk, rfl, H_⟩
    clear H
    have H := H_
    clear H_
    refine hK_ _ _ (fun _ => H.sub (by simp)) (fun hR_ => ?_)
    replace hR_ := hR_ (by decide)
    refine wpL_do (i := 16) rfl (by kernel_rfl) (by rfl) (fun K_ hK_ => ?_)
    go_simp
    refine (vH H (by unfold inI; omega)).mono ?_
    rintro e w_ ⟨SA, Sc, SK, Sk, rfl, H_⟩
    clear H
    have H := H_
    clear H_
    refine hK_ _ _ (fun _ => H.sub (by simp)) (fun hR_ => ?_)
    replace hR_ := hR_ (by decide)
    refine wpL_do (i := 17) rfl (by kernel_rfl) (by rfl) (fun K_ hK_ => ?_)
    go_simp
    refine kontH (by (repeat (first | with_reducible exact H | with_reducible exact H0_ | with_reducible apply Hp.alloc | with_reducible apply Hp.allocMap | with_reducible apply Hp.drew | with_reducible apply Hp.drewN | with_reducible apply Hp.set)); (try any_goals (repeat (first | with_reducible exact Upd.head | with_reducible apply Upd.tail)))) ?_
    clear H; intro wb_ H; (try simp only [size_drew_, size_drewN_, World.size_alloc, World.size_setCell, List.set_cons_zero, List.set_cons_succ] at H)
    refine hK_ _ _ (fun _ => H.sub (by simp)) (fun hR_ => ?_)
    replace hR_ := hR_ (by decide)
    refine wpL_do (i := 18) rfl (by kernel_rfl) (by rfl) (fun K_ hK_ => ?_)
    go_simp
    refine (rows2 (a := v_ 2) (b := v_ 1) (a' := v_ 2) (b' := v_ 1) (H.rd (by (repeat (first | with_reducible exact Pick.head | with_reducible apply Pick.tail)))) ((Hp.row2 (a := v_ 2) (b := v_ 1) H (by (repeat (first | with_reducible exact Pick.head | with_reducible apply Pick.tail))) (by (repeat (first | with_reducible exact Pick.head | with_reducible apply Pick.tail))) (by (repeat (first | with_reducible exact Pick.head | with_reducible apply Pick.tail)))).rd .head)).mono ?_
    rintro e w_ ⟨q, rfl, hq, hx⟩
    obtain rfl : q = true := hq.2 rfl
    replace H := H.call hx
    clear hx hq
    refine hK_ _ _ (fun _ => H.sub (by simp)) (fun hR_ => ?_)
    replace hR_ := hR_ (by decide)
    refine wpL_reads (is := [(19, ?v2_0), (20, ?v2_1), (21, ?v2_2)]) (by kernel_rfl) (Nat.le_of_ble_eq_true rfl) (by intro _ _ d_ _ _ h_; cases d_ <;> exact h_) (by kernel_rfl) hR_ (fun w_ hw_ => ?h2_) ?_
    case h2_ =>
      have ho_ := hw_.old0.1; have hz_ := hw_.old0.2; have hr_ := hw_.rules; clear hw_; simp only [Rules, and_true] at hr_; go_split_ands
      (repeat (first | with_reducible exact RdOps.nil | (refine RdOps.run rfl (by rfl) ?_ ?_; (focus (first | (go_simp; done) | (go_simp; with_reducible rfl))); simp only [List.getElem_toArray, List.getElem_cons_zero, List.getElem_cons_succ, Act.put, List.setIfInBounds_toArray, List.set_cons_zero, List.set_cons_succ]) | (refine RdOps.skip rfl (by rfl) ?_; simp only [List.getElem_toArray, List.getElem_cons_zero, List.getElem_cons_succ, Act.put, List.setIfInBounds_toArray, List.set_cons_zero, List.set_cons_succ])))
    simp only [rdMark, rdAct, List.map_cons, List.map_nil, List.length_cons, List.length_nil, Nat.reduceAdd, Nat.reduceSub, Nat.zero_add, List.getElem?_toArray, List.getElem?_cons_zero, List.getElem?_cons_succ, Option.bind_some, Act.put, List.setIfInBounds_toArray, List.set_cons_zero, List.set_cons_succ]
    refine wpL_do (i := 22) rfl (by kernel_rfl) (by rfl) (fun K_ hK_ => ?_)
    go_simp
    refine (vH H (by unfold inI; omega)).mono ?_
    rintro e w_ ⟨TA, Tc, TK, Tk, rfl, H_⟩
    clear H
    have H := H_
    clear H_
    refine hK_ _ _ (fun _ => H.sub (by simp)) (fun hR_ => ?_)
    replace hR_ := hR_ (by decide)
    refine wpL_do (i := 23) rfl (by kernel_rfl) (by rfl) (fun K_ hK_ => ?_)
    go_simp
    refine (same04_calls (x := v_ 9) (y := v_ 9) (tvV (H.rd (by (repeat (first | with_reducible exact Pick.head | with_reducible apply Pick.tail))))) (tvV (H.rd (by (repeat (first | with_reducible exact Pick.head | with_reducible apply Pick.tail)))))).mono ?_
    rintro e w_ ⟨q, rfl, hq, hx⟩
    obtain rfl : q = true := hq.2 rfl
    replace H := H.call hx
    clear hx hq
    refine hK_ _ _ (fun _ => H.sub (by simp)) (fun hR_ => ?_)
    replace hR_ := hR_ (by decide)
    refine wpL_reads (is := [(24, ?v3_0), (25, ?v3_1), (26, ?v3_2)]) (by kernel_rfl) (Nat.le_of_ble_eq_true rfl) (by intro _ _ d_ _ _ h_; cases d_ <;> exact h_) (by kernel_rfl) hR_ (fun w_ hw_ => ?h3_) ?_
    case h3_ =>
      have ho_ := hw_.old0.1; have hz_ := hw_.old0.2; have hr_ := hw_.rules; clear hw_; simp only [Rules, and_true] at hr_; go_split_ands
      (repeat (first | with_reducible exact RdOps.nil | (refine RdOps.run rfl (by rfl) ?_ ?_; (focus (first | (go_simp; done) | (go_simp; with_reducible rfl))); simp only [List.getElem_toArray, List.getElem_cons_zero, List.getElem_cons_succ, Act.put, List.setIfInBounds_toArray, List.set_cons_zero, List.set_cons_succ]) | (refine RdOps.skip rfl (by rfl) ?_; simp only [List.getElem_toArray, List.getElem_cons_zero, List.getElem_cons_succ, Act.put, List.setIfInBounds_toArray, List.set_cons_zero, List.set_cons_succ])))
    simp only [rdMark, rdAct, List.map_cons, List.map_nil, List.length_cons, List.length_nil, Nat.reduceAdd, Nat.reduceSub, Nat.zero_add, List.getElem?_toArray, List.getElem?_cons_zero, List.getElem?_cons_succ, Option.bind_some, Act.put, List.setIfInBounds_toArray, List.set_cons_zero, List.set_cons_succ]
    refine wpL_do (i := 27) rfl (by kernel_rfl) (by rfl) (fun K_ hK_ => ?_)
    go_simp
    refine (vH H (by unfold inI; omega)).mono ?_
    rintro e w_ ⟨UA, Uc, UK, Uk, rfl, H_⟩
    clear H
    have H := H_
    clear H_
    refine hK_ _ _ (fun _ => H.sub (by simp)) (fun hR_ => ?_)
    replace hR_ := hR_ (by decide)
    refine wpL_do (i := 28) rfl (by kernel_rfl) (by rfl) (fun K_ hK_ => ?_)
    go_simp
    refine (vH H (by unfold inI; omega)).mono ?_
    rintro e w_ ⟨VA, Vc, VK, Vk, rfl, H_⟩
    clear H
    have H := H_
    clear H_
    refine hK_ _ _ (fun _ => H.sub (by simp)) (fun hR_ => ?_)
    replace hR_ := hR_ (by decide)
    refine wpL_do (i := 29) rfl (by kernel_rfl) (by rfl) (fun K_ hK_ => ?_)
    go_simp
    refine kontH (by (repeat (first | with_reducible exact H | with_reducible exact H0_ | with_reducible apply Hp.alloc | with_reducible apply Hp.allocMap | with_reducible apply Hp.drew | with_reducible apply Hp.drewN | with_reducible apply Hp.set)); (try any_goals (repeat (first | with_reducible exact Upd.head | with_reducible apply Upd.tail)))) ?_
    clear H; intro wb_ H; (try simp only [size_drew_, size_drewN_, World.size_alloc, World.size_setCell, List.set_cons_zero, List.set_cons_succ] at H)
    refine hK_ _ _ (fun _ => H.sub (by simp)) (fun hR_ => ?_)
    replace hR_ := hR_ (by decide)
    refine wpL_do (i := 30) rfl (by kernel_rfl) (by rfl) (fun K_ hK_ => ?_)
    go_simp
    refine (rows2 (a := v_ 1) (b := v_ 2) (a' := v_ 1) (b' := v_ 2) (H.rd (by (repeat (first | with_reducible exact Pick.head | with_reducible apply Pick.tail)))) ((Hp.row2 (a := v_ 1) (b := v_ 2) H (by (repeat (first | with_reducible exact Pick.head | with_reducible apply Pick.tail))) (by (repeat (first | with_reducible exact Pick.head | with_reducible apply Pick.tail))) (by (repeat (first | with_reducible exact Pick.head | with_reducible apply Pick.tail)))).rd .head)).mono ?_
    rintro e w_ ⟨q, rfl, hq, hx⟩
    obtain rfl : q = true := hq.2 rfl
    replace H := H.call hx
    clear hx hq
    refine hK_ _ _ (fun _ => H.sub (by simp)) (fun hR_ => ?_)
    replace hR_ := hR_ (by decide)
    refine wpL_reads (is := [(31, ?v4_0), (32, ?v4_1)]) (by kernel_rfl) (Nat.le_of_ble_eq_true rfl) (by intro _ _ d_ _ _ h_; cases d_ <;> exact h_) (by kernel_rfl) hR_ (fun w_ hw_ => ?h4_) ?_
    case h4_ =>
      have ho_ := hw_.old0.1; have hz_ := hw_.old0.2; have hr_ := hw_.rules; clear hw_; simp only [Rules, and_true] at hr_; go_split_ands
      (repeat (first | with_reducible exact RdOps.nil | (refine RdOps.run rfl (by rfl) ?_ ?_; (focus (first | (go_simp; done) | (go_simp; with_reducible rfl))); simp only [List.getElem_toArray, List.getElem_cons_zero, List.getElem_cons_succ, Act.put, List.setIfInBounds_toArray, List.set_cons_zero, List.set_cons_succ]) | (refine RdOps.skip rfl (by rfl) ?_; simp only [List.getElem_toArray, List.getElem_cons_zero, List.getElem_cons_succ, Act.put, List.setIfInBounds_toArray, List.set_cons_zero, List.set_cons_succ])))
    simp only [rdMark, rdAct, List.map_cons, List.map_nil, List.length_cons, List.length_nil, Nat.reduceAdd, Nat.reduceSub, Nat.zero_add, List.getElem?_toArray, List.getElem?_cons_zero, List.getElem?_cons_succ, Option.bind_some, Act.put, List.setIfInBounds_toArray, List.set_cons_zero, List.set_cons_succ]
    refine wpL_done (by kernel_rfl) ?_ _
    go_wp2_with fail
    go_ret
    exact ⟨rfl, H.ext⟩
  · refine wpOp_do (i := 3) rfl (by rfl) (fun K_ hK_ => ?_)
    go_simp
    refine (vH H (by unfold inI; omega)).mono ?_
    rintro e w_ ⟨LA, Lc, LK, Lk, rfl, H_⟩
    clear H
    have H := H_
    clear H_
    refine hK_ _ _ (fun _ => H.sub (by simp)) (fun hR_ => ?_)
    replace hR_ := hR_ (by decide)
    refine wpL_do (i := 2) rfl (by kernel_rfl) (by rfl) (fun K_ hK_ => ?_)
    go_simp
    refine kontH (by (repeat (first | with_reducible exact H | with_reducible exact H0_ | with_reducible apply Hp.alloc | with_reducible apply Hp.allocMap | with_reducible apply Hp.drew | with_reducible apply Hp.drewN | with_reducible apply Hp.set)); (try any_goals (repeat (first | with_reducible exact Upd.head | with_reducible apply Upd.tail)))) ?_
    clear H; intro wb_ H; (try simp only [size_drew_, size_drewN_, World.size_alloc, World.size_setCell, List.set_cons_zero, List.set_cons_succ] at H)
    refine hK_ _ _ (fun _ => H.sub (by simp)) (fun hR_ => ?_)
    replace hR_ := hR_ (by decide)
    refine wpL_do (i := 4) rfl (by kernel_rfl) (by rfl) (fun K_ hK_ => ?_)
    go_simp
    have HP := Hp.row2 (a := v_ 1) (b := v_ 2) H (by (repeat (first | with_reducible exact Pick.head | with_reducible apply Pick.tail))) (by (repeat (first | with_reducible exact Pick.head | with_reducible apply Pick.tail))) (by (repeat (first | with_reducible exact Pick.head | with_reducible apply Pick.tail)))
    refine (pis_calls (ts := [v_ 1, v_ 2]) (b := v_ 3) (HT.out.ext HP.ext) (HP.rd .head) rfl (tvV (HP.rd (by (repeat (first | with_reducible exact Pick.head | with_reducible apply Pick.tail)))))).mono ?_
    clear HP
    rintro e w_ ⟨v, rfl, hto, hx⟩
    obtain ⟨P1, Pc, P2, Pk, rfl, H_⟩ := H.resTm hx hto
    clear H hx hto
    have H := H_
    clear H_
    refine hK_ _ _ (fun _ => H.sub (by simp)) (fun hR_ => ?_)
    replace hR_ := hR_ (by decide)
    refine wpL_do (i := 5) rfl (by kernel_rfl) (by rfl) (fun K_ hK_ => ?_)
    go_simp
    refine (vH H (by unfold inI; omega)).mono ?_
    rintro e w_ ⟨IA, Ic, IK, Ik, rfl, H_⟩
    clear H
    have H := H_
    clear H_
    refine hK_ _ _ (fun _ => H.sub (by simp)) (fun hR_ => ?_)
    replace hR_ := hR_ (by decide)
    refine wpL_do (i := 6) rfl (by kernel_rfl) (by rfl) (fun K_ hK_ => ?_)
    go_simp
    refine (vH H (by unfold inI; omega)).mono ?_
    rintro e w_ ⟨JA, Jc, JK, Jk, rfl, H_⟩
    clear H
    have H := H_
    clear H_
    refine hK_ _ _ (fun _ => H.sub (by simp)) (fun hR_ => ?_)
    replace hR_ := hR_ (by decide)
    refine wpL_do (i := 7) rfl (by kernel_rfl) (by rfl) (fun K_ hK_ => ?_)
    go_simp
    refine (vH H (by unfold inI; omega)).mono ?_
    rintro e w_ ⟨MA, Mc, MK, Mk, rfl, H_⟩
    clear H
    have H := H_
    clear H_
    refine hK_ _ _ (fun _ => H.sub (by simp)) (fun hR_ => ?_)
    replace hR_ := hR_ (by decide)
    refine wpL_do (i := 8) rfl (by kernel_rfl) (by rfl) (fun K_ hK_ => ?_)
    go_simp
    refine kontH (by (repeat (first | with_reducible exact H | with_reducible exact H0_ | with_reducible apply Hp.alloc | with_reducible apply Hp.allocMap | with_reducible apply Hp.drew | with_reducible apply Hp.drewN | with_reducible apply Hp.set)); (try any_goals (repeat (first | with_reducible exact Upd.head | with_reducible apply Upd.tail)))) ?_
    clear H; intro wb_ H; (try simp only [size_drew_, size_drewN_, World.size_alloc, World.size_setCell, List.set_cons_zero, List.set_cons_succ] at H)
    refine hK_ _ _ (fun _ => H.sub (by simp)) (fun hR_ => ?_)
    replace hR_ := hR_ (by decide)
    refine wpL_do (i := 9) rfl (by kernel_rfl) (by rfl) (fun K_ hK_ => ?_)
    go_simp
    refine (of2H (a := v_ 2) (b := v_ 3) H (by (repeat (first | with_reducible exact Pick.head | with_reducible apply Pick.tail))) (by (repeat (first | with_reducible exact Pick.head | with_reducible apply Pick.tail))) (by (repeat (first | with_reducible exact Pick.head | with_reducible apply Pick.tail))) (by unfold inI; omega)).mono ?_
    rintro e w_ ⟨NA, Nc, NK, Nk, rfl, H_⟩
    clear H
    have H := H_
    clear H_
    simp only [List.length_cons, List.length_nil, Nat.zero_add, Nat.reduceAdd] at H ⊢
    refine hK_ _ _ (fun _ => H.sub (by simp)) (fun hR_ => ?_)
    replace hR_ := hR_ (by decide)
    refine wpL_do (i := 10) rfl (by kernel_rfl) (by rfl) (fun K_ hK_ => ?_)
    go_simp
    refine kontH (by (repeat (first | with_reducible exact H | with_reducible exact H0_ | with_reducible apply Hp.alloc | with_reducible apply Hp.allocMap | with_reducible apply Hp.drew | with_reducible apply Hp.drewN | with_reducible apply Hp.set)); (try any_goals (repeat (first | with_reducible exact Upd.head | with_reducible apply Upd.tail)))) ?_
    clear H; intro wb_ H; (try simp only [size_drew_, size_drewN_, World.size_alloc, World.size_setCell, List.set_cons_zero, List.set_cons_succ] at H)
    refine hK_ _ _ (fun _ => H.sub (by simp)) (fun hR_ => ?_)
    replace hR_ := hR_ (by decide)
    refine wpL_do (i := 11) rfl (by kernel_rfl) (by rfl) (fun K_ hK_ => ?_)
    go_simp
    refine (of2H (a := v_ 1) (b := .mk 4 0 0 [] [v_ 2, v_ 3]) H (by (repeat (first | with_reducible exact Pick.head | with_reducible apply Pick.tail))) (by (repeat (first | with_reducible exact Pick.head | with_reducible apply Pick.tail))) (by (repeat (first | with_reducible exact Pick.head | with_reducible apply Pick.tail))) (by unfold inI; omega)).mono ?_
    rintro e w_ ⟨OA, Oc, OK, Ok, rfl, H_⟩
    clear H
    have H := H_
    clear H_
    simp only [List.length_cons, List.length_nil, Nat.zero_add, Nat.reduceAdd] at H ⊢
    refine hK_ _ _ (fun _ => H.sub (by simp)) (fun hR_ => ?_)
    replace hR_ := hR_ (by decide)
    refine wpL_do (i := 12) rfl (by kernel_rfl) (by rfl) (fun K_ hK_ => ?_)
    go_simp
    refine (same04_calls (x := aboveT 4 [v_ 1, v_ 2] (v_ 3)) (y := .mk 4 0 0 [] [v_ 1, .mk 4 0 0 [] [v_ 2, v_ 3]]) ⟨_, _, _, _, rfl, H.rd (by (repeat (first | with_reducible exact Pick.head | with_reducible apply Pick.tail)))⟩ (tv2 (H.rd (by (repeat (first | with_reducible exact Pick.head | with_reducible apply Pick.tail)))))).mono ?_
    rintro e w_ ⟨q, rfl, hq, hx⟩
    obtain rfl : q = true := hq.2 rfl
    replace H := H.call hx
    clear hx hq
    refine hK_ _ _ (fun _ => H.sub (by simp)) (fun hR_ => ?_)
    replace hR_ := hR_ (by decide)
    refine wpL_reads (is := [(13, ?v5_0)]) (by kernel_rfl) (Nat.le_of_ble_eq_true rfl) (by intro _ _ d_ _ _ h_; cases d_ <;> exact h_) (by kernel_rfl) hR_ (fun w_ hw_ => ?h5_) ?_
    case h5_ =>
      have ho_ := hw_.old0.1; have hz_ := hw_.old0.2; have hr_ := hw_.rules; clear hw_; simp only [Rules, and_true] at hr_; go_split_ands
      (repeat (first | with_reducible exact RdOps.nil | (refine RdOps.run rfl (by rfl) ?_ ?_; (focus (first | (go_simp; done) | (go_simp; with_reducible rfl))); simp only [List.getElem_toArray, List.getElem_cons_zero, List.getElem_cons_succ, Act.put, List.setIfInBounds_toArray, List.set_cons_zero, List.set_cons_succ]) | (refine RdOps.skip rfl (by rfl) ?_; simp only [List.getElem_toArray, List.getElem_cons_zero, List.getElem_cons_succ, Act.put, List.setIfInBounds_toArray, List.set_cons_zero, List.set_cons_succ])))
    simp only [rdMark, rdAct, List.map_cons, List.map_nil, List.length_cons, List.length_nil, Nat.reduceAdd, Nat.reduceSub, Nat.zero_add, List.getElem?_toArray, List.getElem?_cons_zero, List.getElem?_cons_succ, Option.bind_some, Act.put, List.setIfInBounds_toArray, List.set_cons_zero, List.set_cons_succ]
    refine wpL_do (i := 14) rfl (by kernel_rfl) (by rfl) (fun K_ hK_ => ?_)
    go_simp
    refine (teleVars (n := 2) (fr := 1) (by omega) (by omega)).mono ?_
    rintro e w_ ⟨Q1, Qc, rfl, hacc, hx⟩
    replace H := H.resSl hx hacc
    clear hx hacc
    simp only [List.length_map, varsT_len] at H ⊢
    rw [vars21] at H
    refine hK_ _ _ (fun _ => H.sub (by simp)) (fun hR_ => ?_)
    replace hR_ := hR_ (by decide)
    refine wpL_do (i := 15) rfl (by kernel_rfl) (by rfl) (fun K_ hK_ => ?_)
    go_simp
    refine (vH H (by unfold inI; omega)).mono ?_
    rintro e w_ ⟨RA, Rc, RK, Rk, rfl, H_⟩
    clear H
    have H := H_
    clear H_
    refine hK_ _ _ (fun _ => H.sub (by simp)) (fun hR_ => ?_)
    replace hR_ := hR_ (by decide)
    refine wpL_do (i := 16) rfl (by kernel_rfl) (by rfl) (fun K_ hK_ => ?_)
    go_simp
    refine (vH H (by unfold inI; omega)).mono ?_
    rintro e w_ ⟨SA, Sc, SK, Sk, rfl, H_⟩
    clear H
    have H := H_
    clear H_
    refine hK_ _ _ (fun _ => H.sub (by simp)) (fun hR_ => ?_)
    replace hR_ := hR_ (by decide)
    refine wpL_do (i := 17) rfl (by kernel_rfl) (by rfl) (fun K_ hK_ => ?_)
    go_simp
    refine kontH (by (repeat (first | with_reducible exact H | with_reducible exact H0_ | with_reducible apply Hp.alloc | with_reducible apply Hp.allocMap | with_reducible apply Hp.drew | with_reducible apply Hp.drewN | with_reducible apply Hp.set)); (try any_goals (repeat (first | with_reducible exact Upd.head | with_reducible apply Upd.tail)))) ?_
    clear H; intro wb_ H; (try simp only [size_drew_, size_drewN_, World.size_alloc, World.size_setCell, List.set_cons_zero, List.set_cons_succ] at H)
    refine hK_ _ _ (fun _ => H.sub (by simp)) (fun hR_ => ?_)
    replace hR_ := hR_ (by decide)
    refine wpL_do (i := 18) rfl (by kernel_rfl) (by rfl) (fun K_ hK_ => ?_)
    go_simp
    refine (rows2 (a := v_ 2) (b := v_ 1) (a' := v_ 2) (b' := v_ 1) (H.rd (by (repeat (first | with_reducible exact Pick.head | with_reducible apply Pick.tail)))) ((Hp.row2 (a := v_ 2) (b := v_ 1) H (by (repeat (first | with_reducible exact Pick.head | with_reducible apply Pick.tail))) (by (repeat (first | with_reducible exact Pick.head | with_reducible apply Pick.tail))) (by (repeat (first | with_reducible exact Pick.head | with_reducible apply Pick.tail)))).rd .head)).mono ?_
    rintro e w_ ⟨q, rfl, hq, hx⟩
    obtain rfl : q = true := hq.2 rfl
    replace H := H.call hx
    clear hx hq
    refine hK_ _ _ (fun _ => H.sub (by simp)) (fun hR_ => ?_)
    replace hR_ := hR_ (by decide)
    refine wpL_reads (is := [(19, ?v6_0), (20, ?v6_1), (21, ?v6_2)]) (by kernel_rfl) (Nat.le_of_ble_eq_true rfl) (by intro _ _ d_ _ _ h_; cases d_ <;> exact h_) (by kernel_rfl) hR_ (fun w_ hw_ => ?h6_) ?_
    case h6_ =>
      have ho_ := hw_.old0.1; have hz_ := hw_.old0.2; have hr_ := hw_.rules; clear hw_; simp only [Rules, and_true] at hr_; go_split_ands
      (repeat (first | with_reducible exact RdOps.nil | (refine RdOps.run rfl (by rfl) ?_ ?_; (focus (first | (go_simp; done) | (go_simp; with_reducible rfl))); simp only [List.getElem_toArray, List.getElem_cons_zero, List.getElem_cons_succ, Act.put, List.setIfInBounds_toArray, List.set_cons_zero, List.set_cons_succ]) | (refine RdOps.skip rfl (by rfl) ?_; simp only [List.getElem_toArray, List.getElem_cons_zero, List.getElem_cons_succ, Act.put, List.setIfInBounds_toArray, List.set_cons_zero, List.set_cons_succ])))
    simp only [rdMark, rdAct, List.map_cons, List.map_nil, List.length_cons, List.length_nil, Nat.reduceAdd, Nat.reduceSub, Nat.zero_add, List.getElem?_toArray, List.getElem?_cons_zero, List.getElem?_cons_succ, Option.bind_some, Act.put, List.setIfInBounds_toArray, List.set_cons_zero, List.set_cons_succ]
    refine wpL_do (i := 22) rfl (by kernel_rfl) (by rfl) (fun K_ hK_ => ?_)
    go_simp
    refine (vH H (by unfold inI; omega)).mono ?_
    rintro e w_ ⟨TA, Tc, TK, Tk, rfl, H_⟩
    clear H
    have H := H_
    clear H_
    refine hK_ _ _ (fun _ => H.sub (by simp)) (fun hR_ => ?_)
    replace hR_ := hR_ (by decide)
    refine wpL_do (i := 23) rfl (by kernel_rfl) (by rfl) (fun K_ hK_ => ?_)
    go_simp
    refine (same04_calls (x := v_ 9) (y := v_ 9) (tvV (H.rd (by (repeat (first | with_reducible exact Pick.head | with_reducible apply Pick.tail))))) (tvV (H.rd (by (repeat (first | with_reducible exact Pick.head | with_reducible apply Pick.tail)))))).mono ?_
    rintro e w_ ⟨q, rfl, hq, hx⟩
    obtain rfl : q = true := hq.2 rfl
    replace H := H.call hx
    clear hx hq
    refine hK_ _ _ (fun _ => H.sub (by simp)) (fun hR_ => ?_)
    replace hR_ := hR_ (by decide)
    refine wpL_reads (is := [(24, ?v7_0), (25, ?v7_1), (26, ?v7_2)]) (by kernel_rfl) (Nat.le_of_ble_eq_true rfl) (by intro _ _ d_ _ _ h_; cases d_ <;> exact h_) (by kernel_rfl) hR_ (fun w_ hw_ => ?h7_) ?_
    case h7_ =>
      have ho_ := hw_.old0.1; have hz_ := hw_.old0.2; have hr_ := hw_.rules; clear hw_; simp only [Rules, and_true] at hr_; go_split_ands
      (repeat (first | with_reducible exact RdOps.nil | (refine RdOps.run rfl (by rfl) ?_ ?_; (focus (first | (go_simp; done) | (go_simp; with_reducible rfl))); simp only [List.getElem_toArray, List.getElem_cons_zero, List.getElem_cons_succ, Act.put, List.setIfInBounds_toArray, List.set_cons_zero, List.set_cons_succ]) | (refine RdOps.skip rfl (by rfl) ?_; simp only [List.getElem_toArray, List.getElem_cons_zero, List.getElem_cons_succ, Act.put, List.setIfInBounds_toArray, List.set_cons_zero, List.set_cons_succ])))
    simp only [rdMark, rdAct, List.map_cons, List.map_nil, List.length_cons, List.length_nil, Nat.reduceAdd, Nat.reduceSub, Nat.zero_add, List.getElem?_toArray, List.getElem?_cons_zero, List.getElem?_cons_succ, Option.bind_some, Act.put, List.setIfInBounds_toArray, List.set_cons_zero, List.set_cons_succ]
    refine wpL_do (i := 27) rfl (by kernel_rfl) (by rfl) (fun K_ hK_ => ?_)
    go_simp
    refine (vH H (by unfold inI; omega)).mono ?_
    rintro e w_ ⟨UA, Uc, UK, Uk, rfl, H_⟩
    clear H
    have H := H_
    clear H_
    refine hK_ _ _ (fun _ => H.sub (by simp)) (fun hR_ => ?_)
    replace hR_ := hR_ (by decide)
    refine wpL_do (i := 28) rfl (by kernel_rfl) (by rfl) (fun K_ hK_ => ?_)
    go_simp
    refine (vH H (by unfold inI; omega)).mono ?_
    rintro e w_ ⟨VA, Vc, VK, Vk, rfl, H_⟩
    clear H
    have H := H_
    clear H_
    refine hK_ _ _ (fun _ => H.sub (by simp)) (fun hR_ => ?_)
    replace hR_ := hR_ (by decide)
    refine wpL_do (i := 29) rfl (by kernel_rfl) (by rfl) (fun K_ hK_ => ?_)
    go_simp
    refine kontH (by (repeat (first | with_reducible exact H | with_reducible exact H0_ | with_reducible apply Hp.alloc | with_reducible apply Hp.allocMap | with_reducible apply Hp.drew | with_reducible apply Hp.drewN | with_reducible apply Hp.set)); (try any_goals (repeat (first | with_reducible exact Upd.head | with_reducible apply Upd.tail)))) ?_
    clear H; intro wb_ H; (try simp only [size_drew_, size_drewN_, World.size_alloc, World.size_setCell, List.set_cons_zero, List.set_cons_succ] at H)
    refine hK_ _ _ (fun _ => H.sub (by simp)) (fun hR_ => ?_)
    replace hR_ := hR_ (by decide)
    refine wpL_do (i := 30) rfl (by kernel_rfl) (by rfl) (fun K_ hK_ => ?_)
    go_simp
    refine (rows2 (a := v_ 1) (b := v_ 2) (a' := v_ 1) (b' := v_ 2) (H.rd (by (repeat (first | with_reducible exact Pick.head | with_reducible apply Pick.tail)))) ((Hp.row2 (a := v_ 1) (b := v_ 2) H (by (repeat (first | with_reducible exact Pick.head | with_reducible apply Pick.tail))) (by (repeat (first | with_reducible exact Pick.head | with_reducible apply Pick.tail))) (by (repeat (first | with_reducible exact Pick.head | with_reducible apply Pick.tail)))).rd .head)).mono ?_
    rintro e w_ ⟨q, rfl, hq, hx⟩
    obtain rfl : q = true := hq.2 rfl
    replace H := H.call hx
    clear hx hq
    refine hK_ _ _ (fun _ => H.sub (by simp)) (fun hR_ => ?_)
    replace hR_ := hR_ (by decide)
    refine wpL_reads (is := [(31, ?v8_0), (32, ?v8_1)]) (by kernel_rfl) (Nat.le_of_ble_eq_true rfl) (by intro _ _ d_ _ _ h_; cases d_ <;> exact h_) (by kernel_rfl) hR_ (fun w_ hw_ => ?h8_) ?_
    case h8_ =>
      have ho_ := hw_.old0.1; have hz_ := hw_.old0.2; have hr_ := hw_.rules; clear hw_; simp only [Rules, and_true] at hr_; go_split_ands
      (repeat (first | with_reducible exact RdOps.nil | (refine RdOps.run rfl (by rfl) ?_ ?_; (focus (first | (go_simp; done) | (go_simp; with_reducible rfl))); simp only [List.getElem_toArray, List.getElem_cons_zero, List.getElem_cons_succ, Act.put, List.setIfInBounds_toArray, List.set_cons_zero, List.set_cons_succ]) | (refine RdOps.skip rfl (by rfl) ?_; simp only [List.getElem_toArray, List.getElem_cons_zero, List.getElem_cons_succ, Act.put, List.setIfInBounds_toArray, List.set_cons_zero, List.set_cons_succ])))
    simp only [rdMark, rdAct, List.map_cons, List.map_nil, List.length_cons, List.length_nil, Nat.reduceAdd, Nat.reduceSub, Nat.zero_add, List.getElem?_toArray, List.getElem?_cons_zero, List.getElem?_cons_succ, Option.bind_some, Act.put, List.setIfInBounds_toArray, List.set_cons_zero, List.set_cons_succ]
    refine wpL_done (by kernel_rfl) ?_ _
    go_wp2_with fail
    go_ret
    exact ⟨rfl, H.ext⟩
end Go.Proofs.YteelplgdojjakaaDoor
