/- Two elements of a row of data change places. No statement of the seat is proved here. -/
import Derived.Test.YteelplgdojjakaaDoorMgBack
namespace Go.Proofs.YteelplgdojjakaaDoor
set_option linter.unusedSimpArgs false
set_option linter.unusedVariables false
open Go.RowKit

section
variable {X : Nat → Prop} {w0 w : World} {l l' l1 l2 l3 : List Ch}
/-- Data one behind the other: two change places, with their cells. -/
theorem Hp.swapS {a b c : List D} {x y : D} {es : List Value} (H : Hp X w0 w l) (p : Pick l (.dat (.s (a ++ (x :: (b ++ (y :: c))))) es) l') :
    ∃ ca cx cb cy cc, es = ca ++ (cx ++ (cb ++ (cy ++ cc))) ∧ ca.length = D.sizes a ∧ cx.length = x.size ∧ cb.length = D.sizes b ∧ cy.length = y.size ∧ cc.length = D.sizes c ∧
      Hp X w0 w (.dat (.s (a ++ (y :: (b ++ (x :: c))))) (ca ++ (cy ++ (cb ++ (cx ++ cc)))) :: l') := by
  obtain ⟨ca, c1, rfl, la, _, H⟩ := H.cut p
  obtain ⟨cx, c2, rfl, lx, _, H⟩ := H.cut (a := [x]) (b := b ++ (y :: c)) (.tail .head)
  obtain ⟨cb, c3, rfl, lb, _, H⟩ := H.cut (a := b) (b := y :: c) (.tail .head)
  obtain ⟨cy, cc, rfl, ly, lc, H⟩ := H.cut (a := [y]) (b := c) (.tail .head)
  have sx : D.sizes [x] = x.size := by simp [D.sizes]
  have sy : D.sizes [y] = y.size := by simp [D.sizes]
  rw [sx] at lx
  rw [sy] at ly
  refine ⟨ca, cx, cb, cy, cc, rfl, la, lx, lb, ly, lc, ?_⟩
  -- H: y, c, b, x, a
  have H := H.join (a := [x]) (b := c) (c1 := cx) (c2 := cc) (.tail (.tail (.tail .head))) (.tail .head)
  have H := H.join (a := b) (b := [x] ++ c) (c1 := cb) (c2 := cx ++ cc) (.tail (.tail .head)) .head
  have H := H.join (a := [y]) (b := b ++ ([x] ++ c)) (c1 := cy) (c2 := cb ++ (cx ++ cc)) (.tail .head) .head
  exact H.join (a := a) (b := [y] ++ (b ++ ([x] ++ c))) (c1 := ca) (c2 := cy ++ (cb ++ (cx ++ cc))) (.tail .head) .head
/-- A cell of a row taken apart is written. -/
theorem Hp.rawSet {w0 w : World} {l l' : List Ch} {e z n c g i : Nat} {es : List Value} {u : Value} (H : Hp no w0 w l) (U : Upd l (.raw e z n (.slice (some ⟨g, 0, none⟩) n c) es) (.raw e z n (.slice (some ⟨g, 0, none⟩) n c) (es.set i u)) l') (hi : i < es.length) : Hp no w0 (w.setCell ⟨g, i, none⟩ u) l' := by
  obtain ⟨L, h, hn⟩ := H.own
  obtain ⟨_, ⟨_, hl, hcase⟩, _⟩ := h.sub U
  have hg0 : w0.heap.size ≤ g := by
    rcases hcase with ⟨hv, _⟩ | ⟨g', cap, cur, hv, hg, _⟩
    · cases hv
    · simp only [Value.slice.injEq, Option.some.injEq, Addr.mk.injEq, and_true] at hv
      obtain ⟨rfl, _⟩ := hv
      exact hg
  refine ⟨H.ext.setCell (.inr hg0) u, L, h.upd U H.ext.size (by simp [World.setCell]) hn (fun k hk hx => Below.heap_setCell _ _ _ _ (fun e => by dsimp only at e; omega)) ?_ ?_, hn⟩
  · rintro K ⟨rfl, h1, h2⟩
    refine ⟨rfl, by simpa using h1, ?_⟩
    rcases h2 with ⟨hv, _⟩ | ⟨g', cap, cur, hv, k1, k2, k3, k4, k5, k6⟩
    · cases hv
    · simp only [Value.slice.injEq, Option.some.injEq, Addr.mk.injEq, and_true, true_and] at hv
      obtain ⟨rfl, rfl⟩ := hv
      refine .inr ⟨g, c, cur.setIfInBounds i u, rfl, k1, ?_, k3, k4, ?_, ?_⟩
      · simp [World.setCell, Array.getElem?_modify, k2]
      · simpa using k5
      · rw [Array.toList_setIfInBounds, List.take_set, k6]
  · rintro K ⟨rfl, _⟩ k hk hne
    exact Below.heap_setCell _ _ _ _ (by simpa [Value.ownBlock] using hne)
/-- A row taken apart, as a box: its cells, its spare room's. -/
theorem Hp.rawbox {w0 w : World} {l l' : List Ch} {e z n c g : Nat} {es : List Value} (H : Hp no w0 w l) (p : Pick l (.raw e z n (.slice (some ⟨g, 0, none⟩) n c) es) l') :
    ∃ sp : List Value, es.length = n * z ∧ (es ++ sp).length = c * z ∧ n ≤ c ∧ c ≤ maxLen ∧ Hp no w0 w (.box g e (es ++ sp) :: l') := by
  obtain ⟨L, h, _⟩ := (H.pick p).own
  unfold Chs at h
  obtain ⟨L1, L2, rfl, ⟨rfl, hl, hcase⟩, _⟩ := h
  rcases hcase with ⟨hv, _⟩ | ⟨g', cap, cur, hv, k1, k2, k3, k4, k5, k6⟩
  · cases hv
  · simp only [Value.slice.injEq, Option.some.injEq, Addr.mk.injEq, and_true, true_and] at hv
    obtain ⟨rfl, rfl⟩ := hv
    have e1 : es ++ cur.toList.drop (n * z) = cur.toList := by rw [← k6]; exact List.take_append_drop _ _
    refine ⟨cur.toList.drop (n * z), hl, by rw [e1]; simpa using k5, k3, k4, ?_⟩
    rw [e1]
    refine Hp.turn1 (ds' := [_]) H p fun L hL => ?_
    obtain ⟨rfl, hl2, hcase2⟩ := hL
    simp only [Chs]
    refine ⟨[g], [], by simp [Value.ownBlock], ⟨rfl, .inr k1, ?_⟩, rfl⟩
    exact k2
theorem Hp.boxraw' {w0 w : World} {l l' : List Ch} {e z n c g : Nat} {es sp : List Value} (H : Hp no w0 w l) (p : Pick l (.box g e (es ++ sp)) l') (hl : es.length = n * z) (hc : (es ++ sp).length = c * z) (h1 : n ≤ c) (h2 : c ≤ maxLen) : Hp no w0 w (.raw e z n (.slice (some ⟨g, 0, none⟩) n c) es :: l') :=
  Hp.turn1 (ds' := [_]) H p fun L hL => by
    obtain ⟨rfl, hg, hb⟩ := hL
    simp only [Chs]
    exact ⟨[g], [], rfl, ⟨by simp [Value.ownBlock], hl, .inr ⟨g, c, (es ++ sp).toArray, rfl, hg.resolve_left no_not, hb, h1, h2, by simpa using hc, by simp [← hl]⟩⟩, rfl⟩
end
end Go.Proofs.YteelplgdojjakaaDoor
/- Two elements of five cells change places: plain law on cells. No statement of the seat is proved here. -/
namespace Go.Proofs.YteelplgdojjakaaDoor
set_option linter.unusedSimpArgs false
set_option linter.unusedVariables false
open Go.RowKit

theorem set5 {a r : List Value} {x0 x1 x2 x3 x4 y0 y1 y2 y3 y4 : Value} {n : Nat} (h : a.length = n) : (((((a ++ (x0 :: x1 :: x2 :: x3 :: x4 :: r)).set n y0).set (n + 1) y1).set (n + 2) y2).set (n + 3) y3).set (n + 4) y4 = a ++ (y0 :: y1 :: y2 :: y3 :: y4 :: r) := by
  subst h
  simp [List.set_append_right]
theorem five_of {c : List Value} (h : c.length = 5) : ∃ x0 x1 x2 x3 x4, c = [x0, x1, x2, x3, x4] := by
  match c, h with
  | [x0, x1, x2, x3, x4], _ => exact ⟨x0, x1, x2, x3, x4, rfl⟩
theorem five_at {a c r : List Value} {x0 x1 x2 x3 x4 : Value} {n : Nat} (hl : a.length = n) (hc : c.length = 5) (q : (a ++ (c ++ r))[n]? = some x0 ∧ (a ++ (c ++ r))[n + 1]? = some x1 ∧ (a ++ (c ++ r))[n + 2]? = some x2 ∧ (a ++ (c ++ r))[n + 3]? = some x3 ∧ (a ++ (c ++ r))[n + 4]? = some x4) : c = [x0, x1, x2, x3, x4] := by
  obtain ⟨u0, u1, u2, u3, u4, rfl⟩ := five_of hc
  subst hl
  simpa [List.getElem?_append_right, eq_comm] using q
/-- The cells of two elements, each written over by the other's. -/
theorem swap5 {es sp ca cx cb cy cc : List Value} {x0 x1 x2 x3 x4 y0 y1 y2 y3 y4 : Value} {J K : Nat} (he : es = ca ++ (cx ++ (cb ++ (cy ++ cc)))) (la : ca.length = J * 5) (lx : cx.length = 5) (lb : ca.length + 5 + cb.length = K * 5) (ly : cy.length = 5)
    (hx : es[J * 5]? = some x0 ∧ es[J * 5 + 1]? = some x1 ∧ es[J * 5 + 2]? = some x2 ∧ es[J * 5 + 3]? = some x3 ∧ es[J * 5 + 4]? = some x4)
    (hy : es[K * 5]? = some y0 ∧ es[K * 5 + 1]? = some y1 ∧ es[K * 5 + 2]? = some y2 ∧ es[K * 5 + 3]? = some y3 ∧ es[K * 5 + 4]? = some y4) :
    ((((((((((es ++ sp).set (J * 5) y0).set (J * 5 + 1) y1).set (J * 5 + 2) y2).set (J * 5 + 3) y3).set (J * 5 + 4) y4).set (K * 5) x0).set (K * 5 + 1) x1).set (K * 5 + 2) x2).set (K * 5 + 3) x3).set (K * 5 + 4) x4 = (ca ++ (cy ++ (cb ++ (cx ++ cc)))) ++ sp := by
  subst he
  obtain rfl := five_at la lx hx
  have e : ca ++ ([x0, x1, x2, x3, x4] ++ (cb ++ (cy ++ cc))) = (ca ++ (x0 :: x1 :: x2 :: x3 :: x4 :: cb)) ++ (cy ++ cc) := by simp
  rw [e] at hy
  obtain rfl := five_at (by simp; omega) ly hy
  have e1 : (ca ++ ([x0, x1, x2, x3, x4] ++ (cb ++ ([y0, y1, y2, y3, y4] ++ cc)))) ++ sp = ca ++ (x0 :: x1 :: x2 :: x3 :: x4 :: (cb ++ (y0 :: y1 :: y2 :: y3 :: y4 :: (cc ++ sp)))) := by simp
  rw [e1, set5 la]
  have e2 : ca ++ (y0 :: y1 :: y2 :: y3 :: y4 :: (cb ++ (y0 :: y1 :: y2 :: y3 :: y4 :: (cc ++ sp)))) = (ca ++ (y0 :: y1 :: y2 :: y3 :: y4 :: cb)) ++ (y0 :: y1 :: y2 :: y3 :: y4 :: (cc ++ sp)) := by simp
  rw [e2, set5 (by simp; omega)]
  simp
/-- What stands elsewhere stays. -/
theorem set5_get {es : List Value} {n m i : Nat} {y0 y1 y2 y3 y4 u : Value} (h : es[m + i]? = some u) (hi : i < 5) (hnm : n + 5 ≤ m) : ((((((es).set n y0).set (n + 1) y1).set (n + 2) y2).set (n + 3) y3).set (n + 4) y4)[m + i]? = some u := by
  rw [List.getElem?_set_ne (by omega), List.getElem?_set_ne (by omega), List.getElem?_set_ne (by omega), List.getElem?_set_ne (by omega), List.getElem?_set_ne (by omega)]
  exact h
end Go.Proofs.YteelplgdojjakaaDoor
