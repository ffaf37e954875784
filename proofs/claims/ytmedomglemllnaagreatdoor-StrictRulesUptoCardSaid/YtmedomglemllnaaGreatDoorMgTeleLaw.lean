/- Two elements of a row of data change places. No statement of the seat is proved here. -/
import Derived.Test.YtmedomglemllnaaGreatDoorMgBack
import Derived.Test.YtmedomglemllnaaGreatDoorMgTele3
import Derived.Test.YtmedomglemllnaaGreatDoorMgSpine
namespace Go.Proofs.YtmedomglemllnaaGreatDoor
set_option linter.unusedSimpArgs false
set_option linter.unusedVariables false
open Go.RowKit

section
variable {X : Nat → Prop} {w0 w : World} {l l' l1 l2 l3 : List Ch}
theorem Hp.swapS {a b c : List D} {x y : D} {es : List Value} (H : Hp X w0 w l) (p : Pick l (.dat (.s (a ++ (x :: (b ++ (y :: c))))) es) l') :
    ∃ ca cx cb cy cc, es = ca ++ (cx ++ (cb ++ (cy ++ cc))) ∧ ca.length = D.sizes a ∧ cx.length = x.size ∧ cb.length = D.sizes b ∧ cy.length = y.size ∧ cc.length = D.sizes c ∧
      Hp X w0 w (.dat (.s (a ++ (y :: (b ++ (x :: c))))) (ca ++ (cy ++ (cb ++ (cx ++ cc)))) :: l') := by
  obtain ⟨ca, c1, rfl, la, _, H⟩ := H.cut p
  obtain ⟨cx, c2, rfl, lx, _, H⟩ := H.cut (a := [x]) (b := b ++ (y :: c)) (.tail .head)
  obtain ⟨cb, c3, rfl, lb, _, H⟩ := H.cut (a := b) (b := y :: c) (.tail .head)
  obtain ⟨cy, cc, rfl, ly, lc, H⟩ := H.cut (a := [y]) (b := c) (.tail .head)
  have sx : D.sizes [x] = x.size := by simp [D.sizes]
  have sy : D.sizes [y] = y.size := by simp [D.sizes]
  rw [sx] at lx
  rw [sy] at ly
  refine ⟨ca, cx, cb, cy, cc, rfl, la, lx, lb, ly, lc, ?_⟩
  -- H: y, c, b, x, a
  have H := H.join (a := [x]) (b := c) (c1 := cx) (c2 := cc) (.tail (.tail (.tail .head))) (.tail .head)
  have H := H.join (a := b) (b := [x] ++ c) (c1 := cb) (c2 := cx ++ cc) (.tail (.tail .head)) .head
  have H := H.join (a := [y]) (b := b ++ ([x] ++ c)) (c1 := cy) (c2 := cb ++ (cx ++ cc)) (.tail .head) .head
  exact H.join (a := a) (b := [y] ++ (b ++ ([x] ++ c))) (c1 := ca) (c2 := cy ++ (cb ++ (cx ++ cc))) (.tail .head) .head
theorem Hp.rawbox {w0 w : World} {l l' : List Ch} {e z n c g : Nat} {es : List Value} (H : Hp no w0 w l) (p : Pick l (.raw e z n (.slice (some ⟨g, 0, none⟩) n c) es) l') :
    ∃ sp : List Value, es.length = n * z ∧ (es ++ sp).length = c * z ∧ n ≤ c ∧ c ≤ maxLen ∧ Hp no w0 w (.box g e (es ++ sp) :: l') := by
  obtain ⟨L, h, _⟩ := (H.pick p).own
  unfold Chs at h
  obtain ⟨L1, L2, rfl, ⟨rfl, hl, hcase⟩, _⟩ := h
  rcases hcase with ⟨hv, _⟩ | ⟨g', cap, cur, hv, k1, k2, k3, k4, k5, k6⟩
  · cases hv
  · simp only [Value.slice.injEq, Option.some.injEq, Addr.mk.injEq, and_true, true_and] at hv
    obtain ⟨rfl, rfl⟩ := hv
    have e1 : es ++ cur.toList.drop (n * z) = cur.toList := by rw [← k6]; exact List.take_append_drop _ _
    refine ⟨cur.toList.drop (n * z), hl, by rw [e1]; simpa using k5, k3, k4, ?_⟩
    rw [e1]
    refine Hp.turn1 (ds' := [_]) H p fun L hL => ?_
    obtain ⟨rfl, hl2, hcase2⟩ := hL
    simp only [Chs]
    refine ⟨[g], [], by simp [Value.ownBlock], ⟨rfl, .inr k1, ?_⟩, rfl⟩
    exact k2
theorem Hp.boxraw' {w0 w : World} {l l' : List Ch} {e z n c g : Nat} {es sp : List Value} (H : Hp no w0 w l) (p : Pick l (.box g e (es ++ sp)) l') (hl : es.length = n * z) (hc : (es ++ sp).length = c * z) (h1 : n ≤ c) (h2 : c ≤ maxLen) : Hp no w0 w (.raw e z n (.slice (some ⟨g, 0, none⟩) n c) es :: l') :=
  Hp.turn1 (ds' := [_]) H p fun L hL => by
    obtain ⟨rfl, hg, hb⟩ := hL
    simp only [Chs]
    exact ⟨[g], [], rfl, ⟨by simp [Value.ownBlock], hl, .inr ⟨g, c, (es ++ sp).toArray, rfl, hg.resolve_left no_not, hb, h1, h2, by simpa using hc, by simp [← hl]⟩⟩, rfl⟩
end
end Go.Proofs.YtmedomglemllnaaGreatDoor
/- Two elements of five cells change places: plain law on cells. No statement of the seat is proved here. -/
namespace Go.Proofs.YtmedomglemllnaaGreatDoor
set_option linter.unusedSimpArgs false
set_option linter.unusedVariables false
open Go.RowKit

theorem set5 {a r : List Value} {x0 x1 x2 x3 x4 y0 y1 y2 y3 y4 : Value} {n : Nat} (h : a.length = n) : (((((a ++ (x0 :: x1 :: x2 :: x3 :: x4 :: r)).set n y0).set (n + 1) y1).set (n + 2) y2).set (n + 3) y3).set (n + 4) y4 = a ++ (y0 :: y1 :: y2 :: y3 :: y4 :: r) := by
  subst h
  simp [List.set_append_right]
theorem five_of {c : List Value} (h : c.length = 5) : ∃ x0 x1 x2 x3 x4, c = [x0, x1, x2, x3, x4] := by
  match c, h with
  | [x0, x1, x2, x3, x4], _ => exact ⟨x0, x1, x2, x3, x4, rfl⟩
theorem five_at {a c r : List Value} {x0 x1 x2 x3 x4 : Value} {n : Nat} (hl : a.length = n) (hc : c.length = 5) (q : (a ++ (c ++ r))[n]? = some x0 ∧ (a ++ (c ++ r))[n + 1]? = some x1 ∧ (a ++ (c ++ r))[n + 2]? = some x2 ∧ (a ++ (c ++ r))[n + 3]? = some x3 ∧ (a ++ (c ++ r))[n + 4]? = some x4) : c = [x0, x1, x2, x3, x4] := by
  obtain ⟨u0, u1, u2, u3, u4, rfl⟩ := five_of hc
  subst hl
  simpa [List.getElem?_append_right, eq_comm] using q
theorem swap5 {es sp ca cx cb cy cc : List Value} {x0 x1 x2 x3 x4 y0 y1 y2 y3 y4 : Value} {J K : Nat} (he : es = ca ++ (cx ++ (cb ++ (cy ++ cc)))) (la : ca.length = J * 5) (lx : cx.length = 5) (lb : ca.length + 5 + cb.length = K * 5) (ly : cy.length = 5)
    (hx : es[J * 5]? = some x0 ∧ es[J * 5 + 1]? = some x1 ∧ es[J * 5 + 2]? = some x2 ∧ es[J * 5 + 3]? = some x3 ∧ es[J * 5 + 4]? = some x4)
    (hy : es[K * 5]? = some y0 ∧ es[K * 5 + 1]? = some y1 ∧ es[K * 5 + 2]? = some y2 ∧ es[K * 5 + 3]? = some y3 ∧ es[K * 5 + 4]? = some y4) :
    ((((((((((es ++ sp).set (J * 5) y0).set (J * 5 + 1) y1).set (J * 5 + 2) y2).set (J * 5 + 3) y3).set (J * 5 + 4) y4).set (K * 5) x0).set (K * 5 + 1) x1).set (K * 5 + 2) x2).set (K * 5 + 3) x3).set (K * 5 + 4) x4 = (ca ++ (cy ++ (cb ++ (cx ++ cc)))) ++ sp := by
  subst he
  obtain rfl := five_at la lx hx
  have e : ca ++ ([x0, x1, x2, x3, x4] ++ (cb ++ (cy ++ cc))) = (ca ++ (x0 :: x1 :: x2 :: x3 :: x4 :: cb)) ++ (cy ++ cc) := by simp
  rw [e] at hy
  obtain rfl := five_at (by simp; omega) ly hy
  have e1 : (ca ++ ([x0, x1, x2, x3, x4] ++ (cb ++ ([y0, y1, y2, y3, y4] ++ cc)))) ++ sp = ca ++ (x0 :: x1 :: x2 :: x3 :: x4 :: (cb ++ (y0 :: y1 :: y2 :: y3 :: y4 :: (cc ++ sp)))) := by simp
  rw [e1, set5 la]
  have e2 : ca ++ (y0 :: y1 :: y2 :: y3 :: y4 :: (cb ++ (y0 :: y1 :: y2 :: y3 :: y4 :: (cc ++ sp)))) = (ca ++ (y0 :: y1 :: y2 :: y3 :: y4 :: cb)) ++ (y0 :: y1 :: y2 :: y3 :: y4 :: (cc ++ sp)) := by simp
  rw [e2, set5 (by simp; omega)]
  simp
theorem set5_get {es : List Value} {n m i : Nat} {y0 y1 y2 y3 y4 u : Value} (h : es[m + i]? = some u) (hi : i < 5) (hnm : n + 5 ≤ m) : ((((((es).set n y0).set (n + 1) y1).set (n + 2) y2).set (n + 3) y3).set (n + 4) y4)[m + i]? = some u := by
  rw [List.getElem?_set_ne (by omega), List.getElem?_set_ne (by omega), List.getElem?_set_ne (by omega), List.getElem?_set_ne (by omega), List.getElem?_set_ne (by omega)]
  exact h
end Go.Proofs.YtmedomglemllnaaGreatDoor
/- slices.Reverse over terms, in place: contract. No statement of the seat is proved here. -/
namespace Go.Proofs.YtmedomglemllnaaGreatDoor
set_option linter.unusedSimpArgs false
set_option linter.unusedVariables false
open Go.RowKit

theorem app_get {es sp : List Value} {i : Nat} {u : Value} (h : es[i]? = some u) : (es ++ sp)[i]? = some u := by
  rw [List.getElem?_append_left (List.getElem?_eq_some_iff.1 h).1]; exact h
theorem ends2 {α : Type} : ∀ {m : List α}, 2 ≤ m.length → ∃ x b y, m = x :: (b ++ [y])
  | x :: r, h => by
    have hr : r ≠ [] := by intro e; subst e; simp at h
    exact ⟨x, r.dropLast, r.getLast hr, by rw [List.dropLast_concat_getLast hr]⟩
set_option maxRecDepth 100000 in
set_option maxHeartbeats 4000000 in
theorem reverse_calls {w0 w : World} {l : List Ch} {ts : List Tm} {g c : Nat} (H : Hp no w0 w (.dat (.l 26 5 (ts.map Tm.d)) [.slice (some ⟨g, 0, none⟩) ts.length c] :: l)) :
    Calls Tryz.prog 65 #[.slice (some ⟨g, 0, none⟩) ts.length c] w fun e w' => e = .returned (.tuple #[]) ∧ Hp no w0 w' (.dat (.l 26 5 (ts.reverse.map Tm.d)) [.slice (some ⟨g, 0, none⟩) ts.length c] :: l) := by
  have hM := (H.rd .head).lenM
  obtain ⟨es, hes, H1⟩ := H.unrow .head
  clear H
  simp only [List.length_map] at H1 hes
  obtain ⟨sp, hl1, hl2, hl3, hl4, H⟩ := H1.rawbox .head
  clear H1 hl1
  have HL2 := Lib.hid hl2
  have HES := Lib.hid hes
  clear hl2 hes
  go_enter Tryz.func65, Tryz.ntmps65
  go_wp2_with fail
  go_loopw [2, 3] (fun i k wr => ∃ (p m q : List Tm) (es : List Value), Hid (ts = p ++ (m ++ q)) ∧ Hid (p.length = q.length) ∧ i = .int .i64 p.length ∧ k = .int .i64 ((ts.length : Int) - 1 - p.length) ∧ Hid (es.length = ts.length * 5) ∧
    Hp no w0 wr (.box g 26 (es ++ sp) :: .dat (.s ((q.reverse ++ (m ++ p.reverse)).map Tm.d)) es :: l)) (fun i _ _ => ts.length - (intOf i).toNat)
  case atStart => exact ⟨[], ts, [], es, by simp [Hid], Lib.hid rfl, rfl, by simp, HES.out, by simpa using (H.arr (by (repeat (first | with_reducible exact Arr.nil | refine Arr.cons (by (repeat (first | with_reducible exact Pick.head | with_reducible apply Pick.tail))) ?_)) <;> exact Arr.of_subl (by (repeat (first | with_reducible exact Subl.refl _ | with_reducible apply Subl.drop)))))⟩
  case round =>
    clear H
    obtain ⟨p, m, q, es, HT, HPQ, rfl, rfl, HE, H⟩ := hrel
    by_cases h2 : 2 ≤ m.length
    · obtain ⟨x, b, y, rfl⟩ := ends2 h2
      clear h2
      have hcur : q.reverse ++ ((x :: (b ++ [y])) ++ p.reverse) = q.reverse ++ (x :: (b ++ (y :: p.reverse))) := by simp
      rw [hcur] at H
      clear hcur
      have hn : ts.length = p.length + b.length + 2 + p.length := by have h1 := HPQ.out; rw [HT.out]; simp; omega
      obtain ⟨J, hJ⟩ : ∃ J, J = p.length := ⟨_, rfl⟩
      obtain ⟨K, hK⟩ : ∃ K, K = p.length + b.length + 1 := ⟨_, rfl⟩
      have hr := H.rd (d := .s ((q.reverse ++ (x :: (b ++ (y :: p.reverse)))).map Tm.d)) (.tail .head)
      unfold RC at hr
      obtain ⟨A3, A4, c3, c4, hv⟩ := RCs.tms hr
      have hq := HPQ.out
      have vx := hv J (by simp; omega)
      have vy := hv K (by simp; omega)
      have ex : (q.reverse ++ (x :: (b ++ (y :: p.reverse))))[J]'(by simp; omega) = x := by
        rw [List.getElem_append_right (by simp; omega)]
        simp [hJ, hq]
      have ey : (q.reverse ++ (x :: (b ++ (y :: p.reverse))))[K]'(by simp; omega) = y := by
        rw [List.getElem_append_right (by simp; omega)]
        simp only [List.length_reverse, show K - q.length = b.length + 1 by omega, List.getElem_cons_succ]
        rw [List.getElem_append_right (by omega)]
        simp
      rw [ex] at vx
      rw [ey] at vy
      have hjk : (ts.length : Int) - 1 - (p.length : Nat) = (K : Int) := by omega
      rw [hjk, ← hJ]
      obtain ⟨x0, x1, x2, x3, x4⟩ := vx
      obtain ⟨y0, y1, y2, y3, y4⟩ := vy
      have X0 := app_get (sp := sp) x0; have X1 := app_get (sp := sp) x1; have X2 := app_get (sp := sp) x2; have X3 := app_get (sp := sp) x3; have X4 := app_get (sp := sp) x4
      have Y0 := app_get (sp := sp) y0; have Y1 := app_get (sp := sp) y1; have Y2 := app_get (sp := sp) y2; have Y3 := app_get (sp := sp) y3; have Y4 := app_get (sp := sp) y4
      have HX := Lib.hid (And.intro x0 (And.intro x1 (And.intro x2 (And.intro x3 x4))))
      have HY := Lib.hid (And.intro y0 (And.intro y1 (And.intro y2 (And.intro y3 y4))))
      have HJK := Lib.hid (And.intro hJ (And.intro hK (And.intro hn hq)))
      have hJK : J < K := by omega
      have hKn : K < ts.length := by omega
      have hJn : J < ts.length := by omega
      clear x0 x1 x2 x3 x4 y0 y1 y2 y3 y4 hv ex ey hr hjk hJ hK hn hq
      have hr_ := H.rules; simp only [Rules, and_true] at hr_; have hd_ := H.dif; simp only [Dif, Neq, and_true] at hd_; obtain ⟨ho_, hz_⟩ := H.old0
      go_wp2_with fail
      clear hr_ hd_ ho_ hz_
      refine regionH (by (repeat (first | with_reducible exact H | with_reducible exact H0_ | with_reducible apply Hp.alloc | with_reducible apply Hp.allocMap | with_reducible apply Hp.drew | with_reducible apply Hp.drewN | with_reducible apply Hp.set)); (try any_goals (repeat (first | with_reducible exact Upd.head | with_reducible apply Upd.tail)))) ?_
      clear H; intro w1 H; (try simp only [size_drew_, size_drewN_, World.size_alloc, World.size_setCell, List.set_cons_zero, List.set_cons_succ] at H)
      have hrs_ := H.rules
      refine wp_region_H 16 [false, false, false, false, false, false, false, false, false, false, false, false, false, false, false, false] [13, 15] H (.cons (i := 0) rfl .nil) (by kernel_rfl) rfl rfl (fun H_ hR_ => ?_)
      (try clear H0_); have H0_ := H; clear H; have H := H_; clear H_
      refine wpL_takeF (i := 2) (v := .slice (some ⟨g, 0, none⟩) ts.length c) rfl (by kernel_rfl) (fun _ _ _ h => h) (by rfl) (fun w_ => rfl) ?_
      simp only [List.getElem_toArray, List.getElem_cons_zero, List.getElem_cons_succ, Act.put, List.setIfInBounds_toArray, List.set_cons_zero, List.set_cons_succ]
      refine wpL_takeF (i := 3) (v := .int .i64 K) rfl (by kernel_rfl) (fun _ _ _ h => h) (by rfl) (fun w_ => rfl) ?_
      simp only [List.getElem_toArray, List.getElem_cons_zero, List.getElem_cons_succ, Act.put, List.setIfInBounds_toArray, List.set_cons_zero, List.set_cons_succ]
      refine wpL_reads (is := [(0, ?v1_0), (1, ?v1_1), (4, ?v1_2), (5, ?v1_3), (6, ?v1_4), (7, ?v1_5), (8, ?v1_6), (9, ?v1_7), (10, ?v1_8), (11, ?v1_9), (12, ?v1_10)]) (by kernel_rfl) (Nat.le_of_ble_eq_true rfl) (by intro _ _ d_ _ _ h_; cases d_ <;> exact h_) (by kernel_rfl) hR_ (fun w_ hw_ => ?h1_) ?_
      case h1_ =>
        have ho_ := hw_.old0.1; have hz_ := hw_.old0.2; have hr_ := hw_.rules; clear hw_; simp only [Rules, and_true] at hr_; go_split_ands
        (repeat (first | with_reducible exact RdOps.nil | (refine RdOps.run rfl (by rfl) ?_ ?_; (focus (first | (go_simp; done) | (go_simp; with_reducible rfl))); simp only [List.getElem_toArray, List.getElem_cons_zero, List.getElem_cons_succ, Act.put, List.setIfInBounds_toArray, List.set_cons_zero, List.set_cons_succ]) | (refine RdOps.skip rfl (by rfl) ?_; simp only [List.getElem_toArray, List.getElem_cons_zero, List.getElem_cons_succ, Act.put, List.setIfInBounds_toArray, List.set_cons_zero, List.set_cons_succ])))
      simp only [rdMark, rdAct, List.map_cons, List.map_nil, List.length_cons, List.length_nil, Nat.reduceAdd, Nat.reduceSub, Nat.zero_add, List.getElem?_toArray, List.getElem?_cons_zero, List.getElem?_cons_succ, Option.bind_some, Act.put, List.setIfInBounds_toArray, List.set_cons_zero, List.set_cons_succ]
      refine wpL_do (i := 13) rfl (by kernel_rfl) (by rfl) (fun K_ hK_ => ?_)
      simp only [Rules, and_true] at hrs_
      go_simp
      clear hrs_
      refine kontH (by (repeat (first | with_reducible exact H | with_reducible exact H0_ | with_reducible apply Hp.alloc | with_reducible apply Hp.allocMap | with_reducible apply Hp.drew | with_reducible apply Hp.drewN | with_reducible apply Hp.set)); (try any_goals (repeat (first | with_reducible exact Upd.head | with_reducible apply Upd.tail)))) ?_
      clear H; intro w2 H; (try simp only [size_drew_, size_drewN_, World.size_alloc, World.size_setCell, List.set_cons_zero, List.set_cons_succ] at H)
      refine hK_ _ _ (fun h => absurd (by decide) h) (fun _ => ?_)
      refine wpL_takeF (i := 14) (v := .pointer (some ⟨g, K * 5, none⟩)) rfl (by kernel_rfl) (fun _ _ _ h => h) (by rfl) (fun w_ => by go_simp) ?_
      simp only [List.getElem_toArray, List.getElem_cons_zero, List.getElem_cons_succ, Act.put, List.setIfInBounds_toArray, List.set_cons_zero, List.set_cons_succ]
      have Z0 := set5_get (n := J * 5) (m := K * 5) (i := 0) (y0 := .int .i64 y.k) (y1 := .int .i64 y.n) (y2 := .int .i64 y.a) (y3 := .slice (A3 K) y.ls.length (c3 K)) (y4 := .slice (A4 K) y.ks.length (c4 K)) Y0 (by omega) (by omega)
      have Z1 := set5_get (n := J * 5) (m := K * 5) (i := 1) (y0 := .int .i64 y.k) (y1 := .int .i64 y.n) (y2 := .int .i64 y.a) (y3 := .slice (A3 K) y.ls.length (c3 K)) (y4 := .slice (A4 K) y.ks.length (c4 K)) Y1 (by omega) (by omega)
      have Z2 := set5_get (n := J * 5) (m := K * 5) (i := 2) (y0 := .int .i64 y.k) (y1 := .int .i64 y.n) (y2 := .int .i64 y.a) (y3 := .slice (A3 K) y.ls.length (c3 K)) (y4 := .slice (A4 K) y.ks.length (c4 K)) Y2 (by omega) (by omega)
      have Z3 := set5_get (n := J * 5) (m := K * 5) (i := 3) (y0 := .int .i64 y.k) (y1 := .int .i64 y.n) (y2 := .int .i64 y.a) (y3 := .slice (A3 K) y.ls.length (c3 K)) (y4 := .slice (A4 K) y.ks.length (c4 K)) Y3 (by omega) (by omega)
      have Z4 := set5_get (n := J * 5) (m := K * 5) (i := 4) (y0 := .int .i64 y.k) (y1 := .int .i64 y.n) (y2 := .int .i64 y.a) (y3 := .slice (A3 K) y.ls.length (c3 K)) (y4 := .slice (A4 K) y.ks.length (c4 K)) Y4 (by omega) (by omega)
      clear X0 X1 X2 X3 X4 Y0 Y1 Y2 Y3 Y4 hR_ H0_
      obtain ⟨zs, hzs⟩ : ∃ zs, zs = (((((es ++ sp).set (J * 5) (.int .i64 y.k)).set (J * 5 + 1) (.int .i64 y.n)).set (J * 5 + 2) (.int .i64 y.a)).set (J * 5 + 3) (.slice (A3 K) y.ls.length (c3 K))).set (J * 5 + 4) (.slice (A4 K) y.ks.length (c4 K)) := ⟨_, rfl⟩
      rw [← hzs] at H Z0 Z1 Z2 Z3 Z4
      have HZ := Lib.hid hzs
      clear hzs
      simp only [Nat.add_zero] at Z0
      have hrs_ := H.rules
      refine wpL_do (i := 15) rfl (by kernel_rfl) (by rfl) (fun K_ hK_ => ?_)
      simp only [Rules, and_true] at hrs_
      go_simp
      clear hrs_ Z0 Z1 Z2 Z3 Z4
      refine kontH (by (repeat (first | with_reducible exact H | with_reducible exact H0_ | with_reducible apply Hp.alloc | with_reducible apply Hp.allocMap | with_reducible apply Hp.drew | with_reducible apply Hp.drewN | with_reducible apply Hp.set)); (try any_goals (repeat (first | with_reducible exact Upd.head | with_reducible apply Upd.tail)))) ?_
      clear H; intro w3 H; (try simp only [size_drew_, size_drewN_, World.size_alloc, World.size_setCell, List.set_cons_zero, List.set_cons_succ] at H)
      refine hK_ _ _ (fun h => absurd (by decide) h) (fun _ => ?_)
      refine wpL_done (by kernel_rfl) ?_ _
      have hdd : ∀ (a b : List Tm) (x : Tm), (a ++ x :: b).map Tm.d = a.map Tm.d ++ x.d :: b.map Tm.d := by intro a b x; simp
      rw [hdd, hdd] at H
      obtain ⟨ca, cx, cb, cy, cc, he, la, lx, lb, ly, lc, H2⟩ := H.swapS (a := q.reverse.map Tm.d) (x := x.d) (b := b.map Tm.d) (y := y.d) (c := p.reverse.map Tm.d) (.tail .head)
      rw [sizes_tms, List.length_reverse] at la
      rw [sizes_tms] at lb
      rw [sizes_tms, List.length_reverse] at lc
      rw [Tm.size_d] at lx ly
      have eA := swap5 (sp := sp) he (by have := HJK.out; omega) lx (by have := HJK.out; omega) ly HX.out HY.out
      rw [HZ.out, eA] at H2
      rw [← hdd, ← hdd] at H2
      clear H eA HZ hdd
      have H := H2
      clear H2
      have HC := Lib.hid (And.intro he (And.intro la (And.intro lx (And.intro lb (And.intro ly lc)))))
      clear he la lx lb ly lc
      go_wp2_with fail
      go_roundw
      case rel =>
        refine ⟨p ++ [x], b, y :: q, ca ++ (cy ++ (cb ++ (cx ++ cc))), Lib.hid (by rw [HT.out]; simp), Lib.hid (by have := HJK.out; simp; omega), ?_, ?_, Lib.hid ?_, ?_⟩
        · have := HJK.out; simp; omega
        · have := HJK.out; simp; omega
        · have h1 := HC.out; have h2 := HE.out; have h3 := HJK.out; rw [h1.1] at h2; simp at h2 ⊢; omega
        · simpa using H.swap
      case measure => have := HJK.out; simp [intOf]; omega
    · have hm : m.reverse = m := by
        match m, h2 with
        | [], _ => rfl
        | [_], _ => rfl
        | _ :: _ :: _, h2 => exact absurd (by simp) h2
      have hn : ts.length = p.length + m.length + p.length := by have h1 := HPQ.out; rw [HT.out]; simp; omega
      have HN := Lib.hid hn
      have HM := Lib.hid hm
      have hlt : ¬ (p.length : Int) < (ts.length : Int) - 1 - p.length := by omega
      clear hn hm
      go_wp2_with fail
      have H := (H.boxraw' (z := 5) .head HE.out (by have h1 := HL2.out; have h2 := HES.out; have h3 := HE.out; simp only [List.length_append] at h1 ⊢; omega) hl3 hl4).mkrow .head .head (by simp; have := HN.out; have := HPQ.out; omega) (fun d hd => by obtain ⟨t, _, rfl⟩ := List.mem_map.1 hd; exact Tm.size_d t) (by unfold M; omega)
      go_end0
      refine ⟨rfl, ?_⟩
      have e : q.reverse ++ (m ++ p.reverse) = ts.reverse := by rw [HT.out]; simp [HM.out]
      rw [e, List.map_reverse] at H
      exact H
set_option maxRecDepth 100000 in
set_option maxHeartbeats 1000000 in
theorem reverse_nil {w0 w : World} {l : List Ch} {A : Option Addr} {c : Nat} (H : Hp no w0 w l) :
    Calls Tryz.prog 65 #[.slice A 0 c] w fun e w' => e = .returned (.tuple #[]) ∧ Hp no w0 w' l := by
  go_enter Tryz.func65, Tryz.ntmps65
  go_wp2_with fail
  go_loopw [2, 3] (fun i k wr => i = .int .i64 0 ∧ k = .int .i64 (-1) ∧ Hp no w0 wr l) (fun _ _ _ => 0)
  case atStart => exact ⟨rfl, rfl, H⟩
  case round =>
    clear H
    obtain ⟨rfl, rfl, H⟩ := hrel
    go_wp2_with fail
    go_end0
    exact ⟨rfl, H⟩
theorem reverse_any {w0 w : World} {l l' : List Ch} {ts : List Tm} {A : Option Addr} {n c : Nat} (H : Hp no w0 w l) (p : Pick l (.dat (.l 26 5 (ts.map Tm.d)) [.slice A n c]) l') (hn : n = ts.length) :
    Calls Tryz.prog 65 #[.slice A n c] w fun e w' => e = .returned (.tuple #[]) ∧ Hp no w0 w' (.dat (.l 26 5 (ts.reverse.map Tm.d)) [.slice A n c] :: l') := by
  subst hn
  cases ts with
  | nil => exact (reverse_nil (H.pick p)).mono fun e w' h => h
  | cons t ts =>
    have H1 := H.pick p
    obtain ⟨es, hes, H2⟩ := H1.unrow .head
    obtain ⟨g, c', he, _⟩ := H2.rawAt .head (by simp)
    simp only [Value.slice.injEq] at he
    obtain ⟨rfl, _, _⟩ := he
    exact reverse_calls H1
end Go.Proofs.YtmedomglemllnaaGreatDoor
/- sizes of terms. No statement of the seat is proved here. -/
namespace Go.Proofs.YtmedomglemllnaaGreatDoor
set_option linter.unusedSimpArgs false
set_option linter.unusedVariables false
open Go.RowKit

mutual
def sizeT : Tm → Nat
  | .mk _ _ _ _ ks => sizesT ks + 1
def sizesT : List Tm → Nat
  | [] => 0
  | t :: ts => sizeT t + sizesT ts
end
theorem sizesT_append (a b : List Tm) : sizesT (a ++ b) = sizesT a + sizesT b := by
  induction a with
  | nil => simp [sizesT]
  | cons t a ih => rw [List.cons_append, sizesT, sizesT, ih]; omega
theorem sizeT_eq (t : Tm) : sizeT t = sizesT t.ks + 1 := by cases t; rw [sizeT]; rfl
end Go.Proofs.YtmedomglemllnaaGreatDoor
/- tele: plain laws: what Pis lays Open takes off; counts, sizes, spines; walks through Pis. No statement of the seat is proved here. -/
namespace Go.Proofs.YtmedomglemllnaaGreatDoor
set_option linter.unusedSimpArgs false
set_option linter.unusedVariables false
open Go.RowKit

def spineT : Tm → Tm × List Tm
  | .mk k n a ls [f, x] => if k = 6 then ((spineT f).1, (spineT f).2 ++ [x]) else (.mk k n a ls [f, x], [])
  | t => (t, [])
theorem appsT_append (f : Tm) (l m : List Tm) : appsT f (l ++ m) = appsT (appsT f l) m := by simp [appsT]
end Go.Proofs.YtmedomglemllnaaGreatDoor
