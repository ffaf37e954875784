/- tele: spine: its closure, whatever the loop's body keeps: contract. No statement of the seat is proved here. -/
import Derived.Test.YtgbokmphbimihaaDoorMgOpen2
import Derived.Test.YtgbokmphbimihaaDoorMgAbove
import Derived.Test.YtgbokmphbimihaaDoorMgBack
namespace Go.Proofs.YtgbokmphbimihaaDoor
set_option linter.unusedSimpArgs false
set_option linter.unusedVariables false
open Go.RowKit
attribute [local go_sem] Oper.semAt_some

/-- Guard of the fenced walk's arm: a region is walked as outside. -/
theorem atRegion1 {P : Program} {Q : Exit → Act → World → Prop} {a : Act} {w : World} {n : Nat} {ops : Array Oper} (h : (Code.region 1 ops false).wp P Q a w) : (Code.region 1 ops false).wpIn Fence.wide n P Q a w := wpIn_wide.2 h
theorem spine_calls {X : Nat → Prop} {w0 w : World} {l : List Ch} {g : Nat} (H : Hp X w0 w l) :
    Calls Tryd.prog 152 #[.pointer (some ⟨g, 0, none⟩)] w fun e w' => ∃ g1, e = .returned (.func (.func 190) #[] #[.pointer (some ⟨g1, 0, none⟩)]) ∧ Hp X w0 w' (.box g1 182 [.pointer (some ⟨g, 0, none⟩)] :: l) := by
  have hmf : ∀ (fn : Fn) (first cap : Array Value) (w : World), (Instr.makeFunc fn first cap).run Tryd.prog w = .ok (.func fn first cap) w := fun _ _ _ _ => rfl
  go_enter Tryd.func152, Tryd.ntmps152
  go_wp2_with fail
  go_ret
  exact ⟨_, rfl, H.alloc [.pointer (some ⟨g, 0, none⟩)] _⟩
set_option maxRecDepth 100000 in
set_option maxHeartbeats 4000000 in
theorem spine1 {w0 : World} {S : Nat → Prop} {L g g1 : Nat} (J : Tm → List Ch → Prop)
    (hY : ∀ (u : Tm) (h2 : u.ks.length = 2) (B K : Option Addr) (cb kb : Nat) (C D : Option Addr) (cc kc : Nat) (l : List Ch) (W : World), u.k = 6 → J u l →
      RC w0 S u.ks[0].d [.int .i64 u.ks[0].k, .int .i64 u.ks[0].n, .int .i64 u.ks[0].a, .slice B u.ks[0].ls.length cb, .slice K u.ks[0].ks.length kb] →
      RC w0 S u.ks[1].d [.int .i64 u.ks[1].k, .int .i64 u.ks[1].n, .int .i64 u.ks[1].a, .slice C u.ks[1].ls.length cc, .slice D u.ks[1].ks.length kc] →
      Hp no w0 W (.box g 26 [.int .i64 u.ks[0].k, .int .i64 u.ks[0].n, .int .i64 u.ks[0].a, .slice B u.ks[0].ls.length cb, .slice K u.ks[0].ks.length kb] :: .box g1 182 [.pointer (some ⟨g, 0, none⟩)] :: l) →
      YieldAt Fence.wide 0 Tryd.prog L #[.agg #[.int .i64 u.ks[1].k, .int .i64 u.ks[1].n, .int .i64 u.ks[1].a, .slice C u.ks[1].ls.length cc, .slice D u.ks[1].ks.length kc]] W fun e W' => e = .returned (.bool true) ∧
        ∃ l', J u.ks[0] l' ∧ Hp no w0 W' (.box g 26 [.int .i64 u.ks[0].k, .int .i64 u.ks[0].n, .int .i64 u.ks[0].a, .slice B u.ks[0].ls.length cb, .slice K u.ks[0].ks.length kb] :: .box g1 182 [.pointer (some ⟨g, 0, none⟩)] :: l'))
    {t : Tm} {B K : Option Addr} {cb kb : Nat} {l : List Ch} {W : World} (h0 : J t l) (hrc : RC w0 S t.d [.int .i64 t.k, .int .i64 t.n, .int .i64 t.a, .slice B t.ls.length cb, .slice K t.ks.length kb])
    (H : Hp no w0 W (.box g 26 [.int .i64 t.k, .int .i64 t.n, .int .i64 t.a, .slice B t.ls.length cb, .slice K t.ks.length kb] :: .box g1 182 [.pointer (some ⟨g, 0, none⟩)] :: l)) :
    CallsIn Fence.wide 0 Tryd.prog 190 #[.func (.yield L) #[] #[], .pointer (some ⟨g1, 0, none⟩)] W fun e W' => (∃ v, e = .returned v) ∧
      ∃ (u : Tm) (B K : Option Addr) (cb kb : Nat) (l' : List Ch), ¬ (u.k = 6 ∧ u.ks.length = 2) ∧ J u l' ∧ RC w0 S u.d [.int .i64 u.k, .int .i64 u.n, .int .i64 u.a, .slice B u.ls.length cb, .slice K u.ks.length kb] ∧
        Hp no w0 W' (.box g 26 [.int .i64 u.k, .int .i64 u.n, .int .i64 u.a, .slice B u.ls.length cb, .slice K u.ks.length kb] :: .box g1 182 [.pointer (some ⟨g, 0, none⟩)] :: l') := by
  have HRC := Lib.hid hrc
  have HJ := Lib.hid h0
  have HY := Lib.hid hY
  clear hrc h0 hY
  refine callsIn_of_wp Tryd.func190 rfl trivial ?_
  simp only [Tryd.ntmps190, List.size_toArray, List.length_cons, List.length_nil, Nat.reduceAdd, Nat.reduceSub, Array.replicate_succ, Array.replicate_zero, List.push_toArray, List.append_toArray, List.nil_append, List.cons_append]
  gi_wp2
  gi_loopw [] (fun wr => ∃ (u : Tm) (B K : Option Addr) (cb kb : Nat) (l' : List Ch), Hid (J u l') ∧ RC w0 S u.d [.int .i64 u.k, .int .i64 u.n, .int .i64 u.a, .slice B u.ls.length cb, .slice K u.ks.length kb] ∧ Hp no w0 wr (.box g 26 [.int .i64 u.k, .int .i64 u.n, .int .i64 u.a, .slice B u.ls.length cb, .slice K u.ks.length kb] :: .box g1 182 [.pointer (some ⟨g, 0, none⟩)] :: l')) (fun wr => deepAt w0 S g wr)
  case atStart => exact ⟨t, _, _, _, _, l, HJ, HRC.out, H⟩
  case round =>
    clear H HJ HRC
    obtain ⟨u, B, K, cb, kb, l', HJ, hrc, H⟩ := hrel
    have HR := Lib.hid hrc
    have HDP := Lib.hid (deepAt_hp (g := g) H (by (repeat (first | with_reducible exact Pick.head | with_reducible apply Pick.tail))) hrc)
    clear hrc
    by_cases h62 : u.k = 6 ∧ u.ks.length = 2
    · obtain ⟨h6, h2⟩ := h62
      obtain ⟨_, _, _, _, he, _, _, _, _, hks⟩ := RC.tm.1 HR.out
      simp only [List.cons.injEq, Value.slice.injEq, and_true, true_and] at he
      obtain ⟨⟨rfl, rfl⟩, rfl, rfl⟩ := he
      obtain ⟨b, o, A1, ca1, K1, ck1, rfl, hb, hS, hd, p0, p1, p2, p3, p4⟩ := hks.atTm (k := 0) (by omega)
      obtain ⟨b', o', A2, ca2, K2, ck2, he2, hb2, hS2, hd2, q0, q1, q2, q3, q4⟩ := hks.atTm (k := 1) (by omega)
      simp only [Option.some.injEq, Addr.mk.injEq, and_true] at he2
      obtain ⟨rfl, rfl⟩ := he2
      have HD := Lib.hid hd
      have HD2 := Lib.hid hd2
      have HK := Lib.hid (depthT_kid (t := u) (i := 0) (by omega))
      have H6 := Lib.hid h6
      have H2 := Lib.hid h2
      clear hd hd2 hks hb2 hS2
      simp only [Nat.zero_mul, Nat.add_zero, Nat.one_mul] at p0 p1 p2 p3 p4 q0 q1 q2 q3 q4
      have hr_ := H.rules; simp only [Rules, and_true] at hr_; have hd_ := H.dif; simp only [Dif, Neq, and_true] at hd_; obtain ⟨ho_, hz_⟩ := H.old0
      gi_wp2
      clear hr_ hd_ ho_ hz_
      refine wpIn_wide.2 ?_
      refine onlyNormal ?_
      refine regionH (by (repeat (first | with_reducible exact H | with_reducible exact H0_ | with_reducible apply Hp.alloc | with_reducible apply Hp.allocMap | with_reducible apply Hp.drew | with_reducible apply Hp.drewN | with_reducible apply Hp.set)); (try any_goals (repeat (first | with_reducible exact Upd.head | with_reducible apply Upd.tail)))) ?_
      clear H; intro w1 H; (try simp only [size_drew_, size_drewN_, World.size_alloc, World.size_setCell, List.set_cons_zero, List.set_cons_succ] at H)
      refine wp_region_H 9 [false, false, false, false, false, false, false, false, false] [8] H (.cons (i := 1) rfl (.cons (i := 2) rfl .nil)) (by kernel_rfl) rfl rfl (fun H_ hR_ => ?_)
      (try clear H0_); have H0_ := H; clear H; have H := H_; clear H_
      refine wpL_reads (is := [(0, ?v1_0), (1, ?v1_1), (2, ?v1_2), (3, ?v1_3), (4, ?v1_4), (5, ?v1_5), (6, ?v1_6), (7, ?v1_7)]) (by kernel_rfl) (Nat.le_of_ble_eq_true rfl) (by intro _ _ d_ _ _ h_; cases d_ <;> exact h_) (by kernel_rfl) hR_ (fun w_ hw_ => ?h1_) ?_
      case h1_ =>
        have ho_ := hw_.old0.1; have hz_ := hw_.old0.2; have hr_ := hw_.rules; clear hw_; simp only [Rules, and_true] at hr_; go_split_ands
        (repeat (first | with_reducible exact RdOps.nil | (refine RdOps.run rfl (by rfl) ?_ ?_; (focus (first | (go_simp; done) | (go_simp; with_reducible rfl))); simp only [List.getElem_toArray, List.getElem_cons_zero, List.getElem_cons_succ, Act.put, List.setIfInBounds_toArray, List.set_cons_zero, List.set_cons_succ]) | (refine RdOps.skip rfl (by rfl) ?_; simp only [List.getElem_toArray, List.getElem_cons_zero, List.getElem_cons_succ, Act.put, List.setIfInBounds_toArray, List.set_cons_zero, List.set_cons_succ])))
      simp only [rdMark, rdAct, List.map_cons, List.map_nil, List.length_cons, List.length_nil, Nat.reduceAdd, Nat.reduceSub, Nat.zero_add, List.getElem?_toArray, List.getElem?_cons_zero, List.getElem?_cons_succ, Option.bind_some, Act.put, List.setIfInBounds_toArray, List.set_cons_zero, List.set_cons_succ]
      refine wpL_do (i := 8) rfl (by kernel_rfl) (by rfl) (fun K_ hK_ => ?_)
      refine wp_storeH rfl (by go_simp <;> first | rfl | exact ⟨rfl, rfl⟩) (by go_simp <;> first | rfl | exact ⟨rfl, rfl⟩) H (by (repeat (first | with_reducible exact Upd.head | with_reducible apply Upd.tail))) (by exact aggTerm) (by rfl) (by simp [Value.oneCell']) (fun w2 H_ => ?_)
      clear H; have H := H_; clear H_
      refine hK_ _ _ (fun h => absurd (by decide) h) (fun _ => ?_)
      refine wpL_done (by kernel_rfl) ?_ _
      have hy := HY.out u (by omega) A1 K1 ca1 ck1 A2 K2 ca2 ck2 l' w2 H6.out HJ.out HD.out HD2.out (H.only (.drop (Subl.refl _)))
      obtain ⟨fn, tmps, assign, body, hy, hR⟩ := hy
      have hr_ := H.rules; simp only [Rules, and_true] at hr_; have hd_ := H.dif; simp only [Dif, Neq, and_true] at hd_; obtain ⟨ho_, hz_⟩ := H.old0
      gi_wp2
      clear hr_ hd_ ho_ hz_
      refine ⟨rfl, hR.mono ?_⟩
      rintro e W3 ⟨rfl, l3, hJ3, H3⟩
      clear hy hR H
      have HJ3 := Lib.hid hJ3
      clear hJ3
      gi_wp2
      go_roundw
      case rel =>
        exact ⟨u.ks[0], _, _, _, _, l3, HJ3, HD.out, H3⟩
      case measure =>
        have e := deepAt_hp (g := g) H3 (by (repeat (first | with_reducible exact Pick.head | with_reducible apply Pick.tail))) HD.out
        rw [e, HDP.out]
        exact HK.out
    · have HN := Lib.hid h62
      by_cases h6 : u.k = 6
      · have h2 : ¬ u.ks.length = 2 := fun e => h62 ⟨h6, e⟩
        clear h62
        have hr_ := H.rules; simp only [Rules, and_true] at hr_; have hd_ := H.dif; simp only [Dif, Neq, and_true] at hd_; obtain ⟨ho_, hz_⟩ := H.old0
        gi_wp2
        clear hr_ hd_ ho_ hz_
        go_end0
        exact ⟨⟨_, rfl⟩, u, _, _, _, _, l', HN.out, HJ.out, HR.out, H⟩
      · clear h62
        have hr_ := H.rules; simp only [Rules, and_true] at hr_; have hd_ := H.dif; simp only [Dif, Neq, and_true] at hd_; obtain ⟨ho_, hz_⟩ := H.old0
        gi_wp2
        clear hr_ hd_ ho_ hz_
        go_end0
        exact ⟨⟨_, rfl⟩, u, _, _, _, _, l', HN.out, HJ.out, HR.out, H⟩
end Go.Proofs.YtgbokmphbimihaaDoor
/- Two elements of a row of data change places. No statement of the seat is proved here. -/
namespace Go.Proofs.YtgbokmphbimihaaDoor
set_option linter.unusedSimpArgs false
set_option linter.unusedVariables false
open Go.RowKit

section
variable {X : Nat → Prop} {w0 w : World} {l l' l1 l2 l3 : List Ch}
/-- Data one behind the other: two change places, with their cells. -/
theorem Hp.swapS {a b c : List D} {x y : D} {es : List Value} (H : Hp X w0 w l) (p : Pick l (.dat (.s (a ++ (x :: (b ++ (y :: c))))) es) l') :
    ∃ ca cx cb cy cc, es = ca ++ (cx ++ (cb ++ (cy ++ cc))) ∧ ca.length = D.sizes a ∧ cx.length = x.size ∧ cb.length = D.sizes b ∧ cy.length = y.size ∧ cc.length = D.sizes c ∧
      Hp X w0 w (.dat (.s (a ++ (y :: (b ++ (x :: c))))) (ca ++ (cy ++ (cb ++ (cx ++ cc)))) :: l') := by
  obtain ⟨ca, c1, rfl, la, _, H⟩ := H.cut p
  obtain ⟨cx, c2, rfl, lx, _, H⟩ := H.cut (a := [x]) (b := b ++ (y :: c)) (.tail .head)
  obtain ⟨cb, c3, rfl, lb, _, H⟩ := H.cut (a := b) (b := y :: c) (.tail .head)
  obtain ⟨cy, cc, rfl, ly, lc, H⟩ := H.cut (a := [y]) (b := c) (.tail .head)
  have sx : D.sizes [x] = x.size := by simp [D.sizes]
  have sy : D.sizes [y] = y.size := by simp [D.sizes]
  rw [sx] at lx
  rw [sy] at ly
  refine ⟨ca, cx, cb, cy, cc, rfl, la, lx, lb, ly, lc, ?_⟩
  -- H: y, c, b, x, a
  have H := H.join (a := [x]) (b := c) (c1 := cx) (c2 := cc) (.tail (.tail (.tail .head))) (.tail .head)
  have H := H.join (a := b) (b := [x] ++ c) (c1 := cb) (c2 := cx ++ cc) (.tail (.tail .head)) .head
  have H := H.join (a := [y]) (b := b ++ ([x] ++ c)) (c1 := cy) (c2 := cb ++ (cx ++ cc)) (.tail .head) .head
  exact H.join (a := a) (b := [y] ++ (b ++ ([x] ++ c))) (c1 := ca) (c2 := cy ++ (cb ++ (cx ++ cc))) (.tail .head) .head
/-- A cell of a row taken apart is written. -/
theorem Hp.rawSet {w0 w : World} {l l' : List Ch} {e z n c g i : Nat} {es : List Value} {u : Value} (H : Hp no w0 w l) (U : Upd l (.raw e z n (.slice (some ⟨g, 0, none⟩) n c) es) (.raw e z n (.slice (some ⟨g, 0, none⟩) n c) (es.set i u)) l') (hi : i < es.length) : Hp no w0 (w.setCell ⟨g, i, none⟩ u) l' := by
  obtain ⟨L, h, hn⟩ := H.own
  obtain ⟨_, ⟨_, hl, hcase⟩, _⟩ := h.sub U
  have hg0 : w0.heap.size ≤ g := by
    rcases hcase with ⟨hv, _⟩ | ⟨g', cap, cur, hv, hg, _⟩
    · cases hv
    · simp only [Value.slice.injEq, Option.some.injEq, Addr.mk.injEq, and_true] at hv
      obtain ⟨rfl, _⟩ := hv
      exact hg
  refine ⟨H.ext.setCell (.inr hg0) u, L, h.upd U H.ext.size (by simp [World.setCell]) hn (fun k hk hx => Below.heap_setCell _ _ _ _ (fun e => by dsimp only at e; omega)) ?_ ?_, hn⟩
  · rintro K ⟨rfl, h1, h2⟩
    refine ⟨rfl, by simpa using h1, ?_⟩
    rcases h2 with ⟨hv, _⟩ | ⟨g', cap, cur, hv, k1, k2, k3, k4, k5, k6⟩
    · cases hv
    · simp only [Value.slice.injEq, Option.some.injEq, Addr.mk.injEq, and_true, true_and] at hv
      obtain ⟨rfl, rfl⟩ := hv
      refine .inr ⟨g, c, cur.setIfInBounds i u, rfl, k1, ?_, k3, k4, ?_, ?_⟩
      · simp [World.setCell, Array.getElem?_modify, k2]
      · simpa using k5
      · rw [Array.toList_setIfInBounds, List.take_set, k6]
  · rintro K ⟨rfl, _⟩ k hk hne
    exact Below.heap_setCell _ _ _ _ (by simpa [Value.ownBlock] using hne)
/-- A row taken apart, as a box: its cells, its spare room's. -/
theorem Hp.rawbox {w0 w : World} {l l' : List Ch} {e z n c g : Nat} {es : List Value} (H : Hp no w0 w l) (p : Pick l (.raw e z n (.slice (some ⟨g, 0, none⟩) n c) es) l') :
    ∃ sp : List Value, es.length = n * z ∧ (es ++ sp).length = c * z ∧ n ≤ c ∧ c ≤ maxLen ∧ Hp no w0 w (.box g e (es ++ sp) :: l') := by
  obtain ⟨L, h, _⟩ := (H.pick p).own
  unfold Chs at h
  obtain ⟨L1, L2, rfl, ⟨rfl, hl, hcase⟩, _⟩ := h
  rcases hcase with ⟨hv, _⟩ | ⟨g', cap, cur, hv, k1, k2, k3, k4, k5, k6⟩
  · cases hv
  · simp only [Value.slice.injEq, Option.some.injEq, Addr.mk.injEq, and_true, true_and] at hv
    obtain ⟨rfl, rfl⟩ := hv
    have e1 : es ++ cur.toList.drop (n * z) = cur.toList := by rw [← k6]; exact List.take_append_drop _ _
    refine ⟨cur.toList.drop (n * z), hl, by rw [e1]; simpa using k5, k3, k4, ?_⟩
    rw [e1]
    refine Hp.turn1 (ds' := [_]) H p fun L hL => ?_
    obtain ⟨rfl, hl2, hcase2⟩ := hL
    simp only [Chs]
    refine ⟨[g], [], by simp [Value.ownBlock], ⟨rfl, .inr k1, ?_⟩, rfl⟩
    exact k2
theorem Hp.boxraw' {w0 w : World} {l l' : List Ch} {e z n c g : Nat} {es sp : List Value} (H : Hp no w0 w l) (p : Pick l (.box g e (es ++ sp)) l') (hl : es.length = n * z) (hc : (es ++ sp).length = c * z) (h1 : n ≤ c) (h2 : c ≤ maxLen) : Hp no w0 w (.raw e z n (.slice (some ⟨g, 0, none⟩) n c) es :: l') :=
  Hp.turn1 (ds' := [_]) H p fun L hL => by
    obtain ⟨rfl, hg, hb⟩ := hL
    simp only [Chs]
    exact ⟨[g], [], rfl, ⟨by simp [Value.ownBlock], hl, .inr ⟨g, c, (es ++ sp).toArray, rfl, hg.resolve_left no_not, hb, h1, h2, by simpa using hc, by simp [← hl]⟩⟩, rfl⟩
end
end Go.Proofs.YtgbokmphbimihaaDoor
/- Two elements of five cells change places: plain law on cells. No statement of the seat is proved here. -/
namespace Go.Proofs.YtgbokmphbimihaaDoor
set_option linter.unusedSimpArgs false
set_option linter.unusedVariables false
open Go.RowKit

theorem set5 {a r : List Value} {x0 x1 x2 x3 x4 y0 y1 y2 y3 y4 : Value} {n : Nat} (h : a.length = n) : (((((a ++ (x0 :: x1 :: x2 :: x3 :: x4 :: r)).set n y0).set (n + 1) y1).set (n + 2) y2).set (n + 3) y3).set (n + 4) y4 = a ++ (y0 :: y1 :: y2 :: y3 :: y4 :: r) := by
  subst h
  simp [List.set_append_right]
theorem five_of {c : List Value} (h : c.length = 5) : ∃ x0 x1 x2 x3 x4, c = [x0, x1, x2, x3, x4] := by
  match c, h with
  | [x0, x1, x2, x3, x4], _ => exact ⟨x0, x1, x2, x3, x4, rfl⟩
theorem five_at {a c r : List Value} {x0 x1 x2 x3 x4 : Value} {n : Nat} (hl : a.length = n) (hc : c.length = 5) (q : (a ++ (c ++ r))[n]? = some x0 ∧ (a ++ (c ++ r))[n + 1]? = some x1 ∧ (a ++ (c ++ r))[n + 2]? = some x2 ∧ (a ++ (c ++ r))[n + 3]? = some x3 ∧ (a ++ (c ++ r))[n + 4]? = some x4) : c = [x0, x1, x2, x3, x4] := by
  obtain ⟨u0, u1, u2, u3, u4, rfl⟩ := five_of hc
  subst hl
  simpa [List.getElem?_append_right, eq_comm] using q
/-- The cells of two elements, each written over by the other's. -/
theorem swap5 {es sp ca cx cb cy cc : List Value} {x0 x1 x2 x3 x4 y0 y1 y2 y3 y4 : Value} {J K : Nat} (he : es = ca ++ (cx ++ (cb ++ (cy ++ cc)))) (la : ca.length = J * 5) (lx : cx.length = 5) (lb : ca.length + 5 + cb.length = K * 5) (ly : cy.length = 5)
    (hx : es[J * 5]? = some x0 ∧ es[J * 5 + 1]? = some x1 ∧ es[J * 5 + 2]? = some x2 ∧ es[J * 5 + 3]? = some x3 ∧ es[J * 5 + 4]? = some x4)
    (hy : es[K * 5]? = some y0 ∧ es[K * 5 + 1]? = some y1 ∧ es[K * 5 + 2]? = some y2 ∧ es[K * 5 + 3]? = some y3 ∧ es[K * 5 + 4]? = some y4) :
    ((((((((((es ++ sp).set (J * 5) y0).set (J * 5 + 1) y1).set (J * 5 + 2) y2).set (J * 5 + 3) y3).set (J * 5 + 4) y4).set (K * 5) x0).set (K * 5 + 1) x1).set (K * 5 + 2) x2).set (K * 5 + 3) x3).set (K * 5 + 4) x4 = (ca ++ (cy ++ (cb ++ (cx ++ cc)))) ++ sp := by
  subst he
  obtain rfl := five_at la lx hx
  have e : ca ++ ([x0, x1, x2, x3, x4] ++ (cb ++ (cy ++ cc))) = (ca ++ (x0 :: x1 :: x2 :: x3 :: x4 :: cb)) ++ (cy ++ cc) := by simp
  rw [e] at hy
  obtain rfl := five_at (by simp; omega) ly hy
  have e1 : (ca ++ ([x0, x1, x2, x3, x4] ++ (cb ++ ([y0, y1, y2, y3, y4] ++ cc)))) ++ sp = ca ++ (x0 :: x1 :: x2 :: x3 :: x4 :: (cb ++ (y0 :: y1 :: y2 :: y3 :: y4 :: (cc ++ sp)))) := by simp
  rw [e1, set5 la]
  have e2 : ca ++ (y0 :: y1 :: y2 :: y3 :: y4 :: (cb ++ (y0 :: y1 :: y2 :: y3 :: y4 :: (cc ++ sp)))) = (ca ++ (y0 :: y1 :: y2 :: y3 :: y4 :: cb)) ++ (y0 :: y1 :: y2 :: y3 :: y4 :: (cc ++ sp)) := by simp
  rw [e2, set5 (by simp; omega)]
  simp
/-- What stands elsewhere stays. -/
theorem set5_get {es : List Value} {n m i : Nat} {y0 y1 y2 y3 y4 u : Value} (h : es[m + i]? = some u) (hi : i < 5) (hnm : n + 5 ≤ m) : ((((((es).set n y0).set (n + 1) y1).set (n + 2) y2).set (n + 3) y3).set (n + 4) y4)[m + i]? = some u := by
  rw [List.getElem?_set_ne (by omega), List.getElem?_set_ne (by omega), List.getElem?_set_ne (by omega), List.getElem?_set_ne (by omega), List.getElem?_set_ne (by omega)]
  exact h
end Go.Proofs.YtgbokmphbimihaaDoor
