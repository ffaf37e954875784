/- Two elements of five cells change places: plain law on cells. No statement of the seat is proved here. -/
import Derived.Test.YteelplgdojjakaaDoorSwap
namespace Go.Proofs.YteelplgdojjakaaDoor
set_option linter.unusedSimpArgs false
set_option linter.unusedVariables false
open Go.RowKit

theorem set5 {a r : List Value} {x0 x1 x2 x3 x4 y0 y1 y2 y3 y4 : Value} {n : Nat} (h : a.length = n) : (((((a ++ (x0 :: x1 :: x2 :: x3 :: x4 :: r)).set n y0).set (n + 1) y1).set (n + 2) y2).set (n + 3) y3).set (n + 4) y4 = a ++ (y0 :: y1 :: y2 :: y3 :: y4 :: r) := by
  subst h
  simp [List.set_append_right]
theorem five_of {c : List Value} (h : c.length = 5) : ∃ x0 x1 x2 x3 x4, c = [x0, x1, x2, x3, x4] := by
  match c, h with
  | [x0, x1, x2, x3, x4], _ => exact ⟨x0, x1, x2, x3, x4, rfl⟩
theorem five_at {a c r : List Value} {x0 x1 x2 x3 x4 : Value} {n : Nat} (hl : a.length = n) (hc : c.length = 5) (q : (a ++ (c ++ r))[n]? = some x0 ∧ (a ++ (c ++ r))[n + 1]? = some x1 ∧ (a ++ (c ++ r))[n + 2]? = some x2 ∧ (a ++ (c ++ r))[n + 3]? = some x3 ∧ (a ++ (c ++ r))[n + 4]? = some x4) : c = [x0, x1, x2, x3, x4] := by
  obtain ⟨u0, u1, u2, u3, u4, rfl⟩ := five_of hc
  subst hl
  simpa [List.getElem?_append_right, eq_comm] using q
/-- The cells of two elements, each written over by the other's. -/
theorem swap5 {es sp ca cx cb cy cc : List Value} {x0 x1 x2 x3 x4 y0 y1 y2 y3 y4 : Value} {J K : Nat} (he : es = ca ++ (cx ++ (cb ++ (cy ++ cc)))) (la : ca.length = J * 5) (lx : cx.length = 5) (lb : ca.length + 5 + cb.length = K * 5) (ly : cy.length = 5)
    (hx : es[J * 5]? = some x0 ∧ es[J * 5 + 1]? = some x1 ∧ es[J * 5 + 2]? = some x2 ∧ es[J * 5 + 3]? = some x3 ∧ es[J * 5 + 4]? = some x4)
    (hy : es[K * 5]? = some y0 ∧ es[K * 5 + 1]? = some y1 ∧ es[K * 5 + 2]? = some y2 ∧ es[K * 5 + 3]? = some y3 ∧ es[K * 5 + 4]? = some y4) :
    ((((((((((es ++ sp).set (J * 5) y0).set (J * 5 + 1) y1).set (J * 5 + 2) y2).set (J * 5 + 3) y3).set (J * 5 + 4) y4).set (K * 5) x0).set (K * 5 + 1) x1).set (K * 5 + 2) x2).set (K * 5 + 3) x3).set (K * 5 + 4) x4 = (ca ++ (cy ++ (cb ++ (cx ++ cc)))) ++ sp := by
  subst he
  obtain rfl := five_at la lx hx
  have e : ca ++ ([x0, x1, x2, x3, x4] ++ (cb ++ (cy ++ cc))) = (ca ++ (x0 :: x1 :: x2 :: x3 :: x4 :: cb)) ++ (cy ++ cc) := by simp
  rw [e] at hy
  obtain rfl := five_at (by simp; omega) ly hy
  have e1 : (ca ++ ([x0, x1, x2, x3, x4] ++ (cb ++ ([y0, y1, y2, y3, y4] ++ cc)))) ++ sp = ca ++ (x0 :: x1 :: x2 :: x3 :: x4 :: (cb ++ (y0 :: y1 :: y2 :: y3 :: y4 :: (cc ++ sp)))) := by simp
  rw [e1, set5 la]
  have e2 : ca ++ (y0 :: y1 :: y2 :: y3 :: y4 :: (cb ++ (y0 :: y1 :: y2 :: y3 :: y4 :: (cc ++ sp)))) = (ca ++ (y0 :: y1 :: y2 :: y3 :: y4 :: cb)) ++ (y0 :: y1 :: y2 :: y3 :: y4 :: (cc ++ sp)) := by simp
  rw [e2, set5 (by simp; omega)]
  simp
/-- What stands elsewhere stays. -/
theorem set5_get {es : List Value} {n m i : Nat} {y0 y1 y2 y3 y4 u : Value} (h : es[m + i]? = some u) (hi : i < 5) (hnm : n + 5 ≤ m) : ((((((es).set n y0).set (n + 1) y1).set (n + 2) y2).set (n + 3) y3).set (n + 4) y4)[m + i]? = some u := by
  rw [List.getElem?_set_ne (by omega), List.getElem?_set_ne (by omega), List.getElem?_set_ne (by omega), List.getElem?_set_ne (by omega), List.getElem?_set_ne (by omega)]
  exact h
end Go.Proofs.YteelplgdojjakaaDoor
