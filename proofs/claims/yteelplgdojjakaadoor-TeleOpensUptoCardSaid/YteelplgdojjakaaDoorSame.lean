/- Kit: whether two things are the same, element by element: contracts. -/
import Derived.Test.YteelplgdojjakaaDoorTerm
import Derived.BigQuiet
import Derived.Laws.StructEq
namespace Go.Proofs.YteelplgdojjakaaDoor
set_option linter.unusedSimpArgs false
set_option linter.unusedVariables false
open Go.RowKit

/-- A call tells whether p. -/
def PB (w : World) (p : Prop) (e : Ending) (w' : World) : Prop := ∃ q : Bool, e = .returned (.bool q) ∧ (q = true ↔ p) ∧ Ext no w w'
theorem PB.t {w w' : World} {p : Prop} (h : p) (hx : Ext no w w') : PB w p (.returned (.bool true)) w' := ⟨true, rfl, by simp [h], hx⟩
theorem PB.f {w w' : World} {p : Prop} (h : ¬ p) (hx : Ext no w w') : PB w p (.returned (.bool false)) w' := ⟨false, rfl, by simp [h], hx⟩
theorem take_eq_succ {α : Type} {xs ys : List α} {j : Nat} (h1 : j < xs.length) (h2 : j < ys.length) (h : xs.take j = ys.take j) (e : xs[j] = ys[j]) : xs.take (j + 1) = ys.take (j + 1) := by
  rw [List.take_succ_eq_append_getElem h1, List.take_succ_eq_append_getElem h2, h, e]
theorem take_eq_all {α : Type} {xs ys : List α} {j : Nat} (hl : xs.length = ys.length) (h1 : ¬ j < xs.length) (h : xs.take j = ys.take j) : xs = ys := by
  rwa [List.take_of_length_le (by omega), List.take_of_length_le (by omega)] at h
theorem ne_of_get {α : Type} {xs ys : List α} {j : Nat} (h1 : j < xs.length) (h2 : j < ys.length) (e : ¬ xs[j] = ys[j]) : ¬ xs = ys := fun h => e (by subst h; rfl)
theorem len_ne {α : Type} {xs ys : List α} (h : ¬ xs.length = ys.length) : ¬ xs = ys := fun e => h (by rw [e])
theorem lenB {n m : Nat} (h : n = m) : (((n : Int)) == (m : Int)) = true := by simp [h]
theorem lenB' {n m : Nat} (h : ¬ n = m) : (((n : Int)) == (m : Int)) = false := by simp; omega

set_option maxHeartbeats 1000000 in
theorem sameParts {w : World} {S1 S2 : Nat → Prop} {xs ys : List (Int × Int)} {A B : Option Addr} {c1 c2 : Nat} (h : RC w S1 (.l 68 2 (xs.map ptD)) [.slice A xs.length c1]) (k : RC w S2 (.l 68 2 (ys.map ptD)) [.slice B ys.length c2]) :
    Calls Tryd.prog 128 #[.slice A xs.length c1, .slice B ys.length c2] w (PB w (xs = ys)) := by
  have hM := h.lenM
  have kM := k.lenM
  by_cases hl : xs.length = ys.length
  · have hn := lenB hl
    go_enter Tryd.func128, Tryd.ntmps128
    go_wp2_with fail
    go_loopw [5] (fun i wr => ∃ j : Nat, j ≤ xs.length ∧ i = .int .i64 j ∧ xs.take j = ys.take j ∧ Ext no w wr) (fun i _ => xs.length - (intOf i).toNat)
    case atStart => exact ⟨0, Nat.zero_le _, rfl, by simp, Ext.refl _ _⟩
    case round =>
      obtain ⟨j, hj, rfl, heq, hext⟩ := hrel
      by_cases hlt : j < xs.length
      · have hlt2 : j < ys.length := by omega
        obtain ⟨b, o, rfl, hb, hS, i1, i2, p1, p2⟩ := (h.ext0 hext).atPt hlt
        obtain ⟨b', o', rfl, hb', hS', j1, j2, q1, q2⟩ := (k.ext0 hext).atPt hlt2
        by_cases h1 : xs[j].1 = ys[j].1
        · have e1 : (xs[j].1 == ys[j].1) = true := by simp [h1]
          by_cases h2 : xs[j].2 = ys[j].2
          · have e2 : (xs[j].2 == ys[j].2) = true := by simp [h2]
            have H := Lib.hid (Prod.ext h1 h2)
            clear h1 h2
            go_wp2_with fail
            go_quiet (fail)
            go_wp2_with fail
            go_roundw
            case rel => exact ⟨j + 1, by omega, by go_num, take_eq_succ hlt hlt2 heq H.out, (by repeat (first | with_reducible assumption | with_reducible exact Ext.refl _ _ | with_reducible refine Ext.alloc ?_ _ | with_reducible refine Ext.drew ?_ | with_reducible refine Ext.drewN ?_ _ | with_reducible refine Ext.setR ?_ ?_ _ | (dsimp only; omega) | (simp; done) | (simp; omega)))⟩
            case measure => simp [intOf]; omega
          · have e2 : (xs[j].2 == ys[j].2) = false := by simpa using h2
            have H := Lib.hid (show ¬ xs[j] = ys[j] from fun e => h2 (by rw [e]))
            clear h1 h2
            go_wp2_with fail
            go_quiet (fail)
            go_wp2_with fail
            go_ret
            exact PB.f (ne_of_get hlt hlt2 H.out) (by repeat (first | with_reducible assumption | with_reducible exact Ext.refl _ _ | with_reducible refine Ext.alloc ?_ _ | with_reducible refine Ext.drew ?_ | with_reducible refine Ext.drewN ?_ _ | with_reducible refine Ext.setR ?_ ?_ _ | (dsimp only; omega) | (simp; done) | (simp; omega)))
        · have e1 : (xs[j].1 == ys[j].1) = false := by simpa using h1
          have H := Lib.hid (show ¬ xs[j] = ys[j] from fun e => h1 (by rw [e]))
          clear h1
          go_wp2_with fail
          go_quiet (fail)
          go_wp2_with fail
          go_ret
          exact PB.f (ne_of_get hlt hlt2 H.out) (by repeat (first | with_reducible assumption | with_reducible exact Ext.refl _ _ | with_reducible refine Ext.alloc ?_ _ | with_reducible refine Ext.drew ?_ | with_reducible refine Ext.drewN ?_ _ | with_reducible refine Ext.setR ?_ ?_ _ | (dsimp only; omega) | (simp; done) | (simp; omega)))
      · go_wp2_with fail
        go_ret
        exact PB.t (take_eq_all hl hlt heq) hext
  · have hn := lenB' hl
    go_enter Tryd.func128, Tryd.ntmps128
    go_wp2_with fail
    go_ret
    exact PB.f (len_ne hl) (Ext.refl _ _)

theorem sameLevel {w : World} {S1 S2 : Nat → Prop} {x y : Lv} {A B : Option Addr} {c1 c2 : Nat} (h : RC w S1 (.l 68 2 (x.map ptD)) [.slice A x.length c1]) (k : RC w S2 (.l 68 2 (y.map ptD)) [.slice B y.length c2]) :
    Calls Tryd.prog 97 #[.agg #[.slice A x.length c1], .agg #[.slice B y.length c2]] w (PB w (x = y)) := by
  go_enter Tryd.func97, Tryd.ntmps97
  go_wp2_with fail
  refine (sameParts (h.ext0 (by repeat (first | with_reducible assumption | with_reducible exact Ext.refl _ _ | with_reducible refine Ext.alloc ?_ _ | with_reducible refine Ext.drew ?_ | with_reducible refine Ext.drewN ?_ _ | with_reducible refine Ext.setR ?_ ?_ _ | (dsimp only; omega) | (simp; done) | (simp; omega)))) (k.ext0 (by repeat (first | with_reducible assumption | with_reducible exact Ext.refl _ _ | with_reducible refine Ext.alloc ?_ _ | with_reducible refine Ext.drew ?_ | with_reducible refine Ext.drewN ?_ _ | with_reducible refine Ext.setR ?_ ?_ _ | (dsimp only; omega) | (simp; done) | (simp; omega))))).mono ?_
  rintro e w1 ⟨q, rfl, hq, hx1⟩
  have hx0 : Ext no w w1 := Ext.seq (by repeat (first | with_reducible assumption | with_reducible exact Ext.refl _ _ | with_reducible refine Ext.alloc ?_ _ | with_reducible refine Ext.drew ?_ | with_reducible refine Ext.drewN ?_ _ | with_reducible refine Ext.setR ?_ ?_ _ | (dsimp only; omega) | (simp; done) | (simp; omega))) hx1
  have HQ := Lib.hid hq
  clear hq
  go_wp2_with fail
  go_ret
  exact ⟨q, rfl, HQ.out, hx0⟩
set_option maxHeartbeats 1000000 in
theorem sameLevels {w : World} {S1 S2 : Nat → Prop} {xs ys : List Lv} {A B : Option Addr} {c1 c2 : Nat} (h : RC w S1 (.l 38 1 (xs.map lvD)) [.slice A xs.length c1]) (k : RC w S2 (.l 38 1 (ys.map lvD)) [.slice B ys.length c2]) :
    Calls Tryd.prog 54 #[.slice A xs.length c1, .slice B ys.length c2] w (PB w (xs = ys)) := by
  have hM := h.lenM
  have kM := k.lenM
  by_cases hl : xs.length = ys.length
  · have hn := lenB hl
    have HL := Lib.hid hl
    go_enter Tryd.func54, Tryd.ntmps54
    go_wp2_with fail
    go_loopw [5] (fun i wr => ∃ j : Nat, j ≤ xs.length ∧ i = .int .i64 j ∧ xs.take j = ys.take j ∧ Ext no w wr) (fun i _ => xs.length - (intOf i).toNat)
    case atStart => exact ⟨0, Nat.zero_le _, rfl, by simp, Ext.refl _ _⟩
    case round =>
      obtain ⟨j, hj, rfl, heq, hext⟩ := hrel
      by_cases hlt : j < xs.length
      · have hlt2 : j < ys.length := by omega
        obtain ⟨b, o, A1, e1, rfl, hb, hS, r1, p1⟩ := (h.ext0 hext).atLv hlt
        obtain ⟨b', o', A2, e2, rfl, hb', hS', r2, q1⟩ := (k.ext0 hext).atLv hlt2
        go_wp2_with fail
        refine wp_region_L (fun w' => Cells w' [(⟨b, o + j, none⟩, .slice A1 xs[j].length e1), (⟨b', o' + j, none⟩, .slice A2 ys[j].length e2)]) [] (by kernel_rfl) ?_
        have hS_ : Cells wr.drew [(⟨b, o + j, none⟩, .slice A1 xs[j].length e1), (⟨b', o' + j, none⟩, .slice A2 ys[j].length e2)] := ⟨p1, q1, trivial⟩
        have HC := Lib.hid hS_
        clear hS_ p1 q1
        refine wpL_take (i := 0) (v := ?v1_) rfl (by kernel_rfl) (fun _ _ _ h => h) HC.out (by rfl) (fun w_ hw_ => ?h1_) ?_
        case h1_ => (try simp only [Cells_cons, Cells_nil, and_true] at hw_); go_split_ands; go_simp; try with_reducible rfl
        simp only [List.getElem_toArray, List.getElem_cons_zero, List.getElem_cons_succ, Act.put, List.setIfInBounds_toArray, List.set_cons_zero, List.set_cons_succ]
        refine wpL_take (i := 1) (v := ?v2_) rfl (by kernel_rfl) (fun _ _ _ h => h) HC.out (by rfl) (fun w_ hw_ => ?h2_) ?_
        case h2_ => (try simp only [Cells_cons, Cells_nil, and_true] at hw_); go_split_ands; go_simp; try with_reducible rfl
        simp only [List.getElem_toArray, List.getElem_cons_zero, List.getElem_cons_succ, Act.put, List.setIfInBounds_toArray, List.set_cons_zero, List.set_cons_succ]
        refine wpL_take (i := 2) (v := ?v3_) rfl (by kernel_rfl) (fun _ _ _ h => h) HC.out (by rfl) (fun w_ hw_ => ?h3_) ?_
        case h3_ => (try simp only [Cells_cons, Cells_nil, and_true] at hw_); go_split_ands; go_simp; try with_reducible rfl
        simp only [List.getElem_toArray, List.getElem_cons_zero, List.getElem_cons_succ, Act.put, List.setIfInBounds_toArray, List.set_cons_zero, List.set_cons_succ]
        refine wpL_take (i := 3) (v := ?v4_) rfl (by kernel_rfl) (fun _ _ _ h => h) HC.out (by rfl) (fun w_ hw_ => ?h4_) ?_
        case h4_ => (try simp only [Cells_cons, Cells_nil, and_true] at hw_); go_split_ands; go_simp; try with_reducible rfl
        simp only [List.getElem_toArray, List.getElem_cons_zero, List.getElem_cons_succ, Act.put, List.setIfInBounds_toArray, List.set_cons_zero, List.set_cons_succ]
        refine wpL_take (i := 4) (v := ?v5_) rfl (by kernel_rfl) (fun _ _ _ h => h) HC.out (by rfl) (fun w_ hw_ => ?h5_) ?_
        case h5_ => (try simp only [Cells_cons, Cells_nil, and_true] at hw_); go_split_ands; go_simp; try with_reducible rfl
        simp only [List.getElem_toArray, List.getElem_cons_zero, List.getElem_cons_succ, Act.put, List.setIfInBounds_toArray, List.set_cons_zero, List.set_cons_succ]
        refine wpL_take (i := 5) (v := ?v6_) rfl (by kernel_rfl) (fun _ _ _ h => h) HC.out (by rfl) (fun w_ hw_ => ?h6_) ?_
        case h6_ => (try simp only [Cells_cons, Cells_nil, and_true] at hw_); go_split_ands; go_simp; try with_reducible rfl
        simp only [List.getElem_toArray, List.getElem_cons_zero, List.getElem_cons_succ, Act.put, List.setIfInBounds_toArray, List.set_cons_zero, List.set_cons_succ]
        refine wpL_take (i := 6) (v := ?v7_) rfl (by kernel_rfl) (fun _ _ _ h => h) HC.out (by rfl) (fun w_ hw_ => ?h7_) ?_
        case h7_ => (try simp only [Cells_cons, Cells_nil, and_true] at hw_); go_split_ands; go_simp; try with_reducible rfl
        simp only [List.getElem_toArray, List.getElem_cons_zero, List.getElem_cons_succ, Act.put, List.setIfInBounds_toArray, List.set_cons_zero, List.set_cons_succ]
        refine wpL_take (i := 7) (v := ?v8_) rfl (by kernel_rfl) (fun _ _ _ h => h) HC.out (by rfl) (fun w_ hw_ => ?h8_) ?_
        case h8_ => (try simp only [Cells_cons, Cells_nil, and_true] at hw_); go_split_ands; go_simp; try with_reducible rfl
        simp only [List.getElem_toArray, List.getElem_cons_zero, List.getElem_cons_succ, Act.put, List.setIfInBounds_toArray, List.set_cons_zero, List.set_cons_succ]
        refine wpL_do (i := 8) rfl (by kernel_rfl) (by rfl) (fun K_ hK_ => ?_)
        go_simp
        refine (sameLevel (r1.ext0 (by repeat (first | with_reducible assumption | with_reducible exact Ext.refl _ _ | with_reducible refine Ext.alloc ?_ _ | with_reducible refine Ext.drew ?_ | with_reducible refine Ext.drewN ?_ _ | with_reducible refine Ext.setR ?_ ?_ _ | (dsimp only; omega) | (simp; done) | (simp; omega)))) (r2.ext0 (by repeat (first | with_reducible assumption | with_reducible exact Ext.refl _ _ | with_reducible refine Ext.alloc ?_ _ | with_reducible refine Ext.drew ?_ | with_reducible refine Ext.drewN ?_ _ | with_reducible refine Ext.setR ?_ ?_ _ | (dsimp only; omega) | (simp; done) | (simp; omega))))).mono ?_
        rintro e w1 ⟨q, rfl, hq, hx1⟩
        refine hK_ _ _ (fun _ => HC.out.keep hx1) (fun hS2 => ?_)
        have hS2 := hS2 (by decide)
        have HC2 := Lib.hid hS2
        have hx0 : Ext no w w1 := Ext.seq (by repeat (first | with_reducible assumption | with_reducible exact Ext.refl _ _ | with_reducible refine Ext.alloc ?_ _ | with_reducible refine Ext.drew ?_ | with_reducible refine Ext.drewN ?_ _ | with_reducible refine Ext.setR ?_ ?_ _ | (dsimp only; omega) | (simp; done) | (simp; omega))) hx1
        have HQ := Lib.hid hq
        clear hS2 hq
        refine wpL_take (i := 9) (v := ?v9_) rfl (by kernel_rfl) (fun _ _ _ h => h) HC2.out (by rfl) (fun w_ hw_ => ?h9_) ?_
        case h9_ => (try simp only [Cells_cons, Cells_nil, and_true] at hw_); go_split_ands; go_simp; try with_reducible rfl
        simp only [List.getElem_toArray, List.getElem_cons_zero, List.getElem_cons_succ, Act.put, List.setIfInBounds_toArray, List.set_cons_zero, List.set_cons_succ]
        refine wpL_done (by kernel_rfl) ?_ _
        cases q
        · go_wp2_with fail
          go_ret
          exact PB.f (ne_of_get hlt hlt2 (fun e => by have := HQ.out.2 e; cases this)) hx0
        · go_wp2_with fail
          go_roundw
          case rel => exact ⟨j + 1, by omega, by first | go_num | rfl | simp, take_eq_succ hlt hlt2 heq (by simpa using HQ.out)⟩
          case measure => simp [intOf]; omega
      · go_wp2_with fail
        go_ret
        exact PB.t (take_eq_all hl hlt heq) hext
  · have hn := lenB' hl
    go_enter Tryd.func54, Tryd.ntmps54
    go_wp2_with fail
    go_ret
    exact PB.f (len_ne hl) (Ext.refl _ _)

/-- The kit's SameTerm, as it is met below: of two terms that can be read. -/
def SameC (x : Tm) : Prop := ∀ (w : World) (S1 S2 : Nat → Prop) (y : Tm) (A K B J : Option Addr) (ca ck cb cj : Nat), RC w S1 x.d [.int .i64 x.k, .int .i64 x.n, .int .i64 x.a, .slice A x.ls.length ca, .slice K x.ks.length ck] → RC w S2 y.d [.int .i64 y.k, .int .i64 y.n, .int .i64 y.a, .slice B y.ls.length cb, .slice J y.ks.length cj] →
    Calls Tryd.prog 12 #[.agg #[.int .i64 x.k, .int .i64 x.n, .int .i64 x.a, .slice A x.ls.length ca, .slice K x.ks.length ck], .agg #[.int .i64 y.k, .int .i64 y.n, .int .i64 y.a, .slice B y.ls.length cb, .slice J y.ks.length cj]] w (PB w (x = y))
set_option maxHeartbeats 1000000 in
theorem sameTerms_ {w : World} {S1 S2 : Nat → Prop} {xs ys : List Tm} {A B : Option Addr} {c1 c2 : Nat} (HIH : Hid (∀ t ∈ xs, SameC t)) (h : RC w S1 (.l 30 5 (xs.map Tm.d)) [.slice A xs.length c1]) (k : RC w S2 (.l 30 5 (ys.map Tm.d)) [.slice B ys.length c2]) :
    Calls Tryd.prog 55 #[.slice A xs.length c1, .slice B ys.length c2] w (PB w (xs = ys)) := by
  have hM := h.lenM
  have kM := k.lenM
  by_cases hl : xs.length = ys.length
  · have hn := lenB hl
    have HL := Lib.hid hl
    go_enter Tryd.func55, Tryd.ntmps55
    go_wp2_with fail
    go_loopw [5] (fun i wr => ∃ j : Nat, j ≤ xs.length ∧ i = .int .i64 j ∧ xs.take j = ys.take j ∧ Ext no w wr) (fun i _ => xs.length - (intOf i).toNat)
    case atStart => exact ⟨0, Nat.zero_le _, rfl, by simp, Ext.refl _ _⟩
    case round =>
      obtain ⟨j, hj, rfl, heq, hext⟩ := hrel
      by_cases hlt : j < xs.length
      · have hlt2 : j < ys.length := by omega
        obtain ⟨b, o, A1, ca, A2, ck, rfl, hb, hS, r1, p0, p1, p2, p3, p4⟩ := (h.ext0 hext).atTm hlt
        obtain ⟨b', o', B1, cb, B2, cj, rfl, hb', hS', r2, q0, q1, q2, q3, q4⟩ := (k.ext0 hext).atTm hlt2
        go_wp2_with fail
        refine wp_region_L (fun w' => Cells w' [(⟨b, o + j * 5, none⟩, .int .i64 xs[j].k), (⟨b, o + j * 5 + 1, none⟩, .int .i64 xs[j].n), (⟨b, o + j * 5 + 2, none⟩, .int .i64 xs[j].a), (⟨b, o + j * 5 + 3, none⟩, .slice A1 xs[j].ls.length ca), (⟨b, o + j * 5 + 4, none⟩, .slice A2 xs[j].ks.length ck), (⟨b', o' + j * 5, none⟩, .int .i64 ys[j].k), (⟨b', o' + j * 5 + 1, none⟩, .int .i64 ys[j].n), (⟨b', o' + j * 5 + 2, none⟩, .int .i64 ys[j].a), (⟨b', o' + j * 5 + 3, none⟩, .slice B1 ys[j].ls.length cb), (⟨b', o' + j * 5 + 4, none⟩, .slice B2 ys[j].ks.length cj)]) [] (by kernel_rfl) ?_
        have hS_ : Cells wr.drew [(⟨b, o + j * 5, none⟩, .int .i64 xs[j].k), (⟨b, o + j * 5 + 1, none⟩, .int .i64 xs[j].n), (⟨b, o + j * 5 + 2, none⟩, .int .i64 xs[j].a), (⟨b, o + j * 5 + 3, none⟩, .slice A1 xs[j].ls.length ca), (⟨b, o + j * 5 + 4, none⟩, .slice A2 xs[j].ks.length ck), (⟨b', o' + j * 5, none⟩, .int .i64 ys[j].k), (⟨b', o' + j * 5 + 1, none⟩, .int .i64 ys[j].n), (⟨b', o' + j * 5 + 2, none⟩, .int .i64 ys[j].a), (⟨b', o' + j * 5 + 3, none⟩, .slice B1 ys[j].ls.length cb), (⟨b', o' + j * 5 + 4, none⟩, .slice B2 ys[j].ks.length cj)] := ⟨p0, p1, p2, p3, p4, q0, q1, q2, q3, q4, trivial⟩
        have HC := Lib.hid hS_
        clear hS_ p0 p1 p2 p3 p4 q0 q1 q2 q3 q4
        refine wpL_take (i := 0) (v := ?v10_) rfl (by kernel_rfl) (fun _ _ _ h => h) HC.out (by rfl) (fun w_ hw_ => ?h10_) ?_
        case h10_ => (try simp only [Cells_cons, Cells_nil, and_true] at hw_); go_split_ands; go_simp; try with_reducible rfl
        simp only [List.getElem_toArray, List.getElem_cons_zero, List.getElem_cons_succ, Act.put, List.setIfInBounds_toArray, List.set_cons_zero, List.set_cons_succ]
        refine wpL_take (i := 1) (v := ?v11_) rfl (by kernel_rfl) (fun _ _ _ h => h) HC.out (by rfl) (fun w_ hw_ => ?h11_) ?_
        case h11_ => (try simp only [Cells_cons, Cells_nil, and_true] at hw_); go_split_ands; go_simp; try with_reducible rfl
        simp only [List.getElem_toArray, List.getElem_cons_zero, List.getElem_cons_succ, Act.put, List.setIfInBounds_toArray, List.set_cons_zero, List.set_cons_succ]
        refine wpL_take (i := 2) (v := ?v12_) rfl (by kernel_rfl) (fun _ _ _ h => h) HC.out (by rfl) (fun w_ hw_ => ?h12_) ?_
        case h12_ => (try simp only [Cells_cons, Cells_nil, and_true] at hw_); go_split_ands; go_simp; try with_reducible rfl
        simp only [List.getElem_toArray, List.getElem_cons_zero, List.getElem_cons_succ, Act.put, List.setIfInBounds_toArray, List.set_cons_zero, List.set_cons_succ]
        refine wpL_take (i := 3) (v := ?v13_) rfl (by kernel_rfl) (fun _ _ _ h => h) HC.out (by rfl) (fun w_ hw_ => ?h13_) ?_
        case h13_ => (try simp only [Cells_cons, Cells_nil, and_true] at hw_); go_split_ands; go_simp; try with_reducible rfl
        simp only [List.getElem_toArray, List.getElem_cons_zero, List.getElem_cons_succ, Act.put, List.setIfInBounds_toArray, List.set_cons_zero, List.set_cons_succ]
        refine wpL_take (i := 4) (v := ?v14_) rfl (by kernel_rfl) (fun _ _ _ h => h) HC.out (by rfl) (fun w_ hw_ => ?h14_) ?_
        case h14_ => (try simp only [Cells_cons, Cells_nil, and_true] at hw_); go_split_ands; go_simp; try with_reducible rfl
        simp only [List.getElem_toArray, List.getElem_cons_zero, List.getElem_cons_succ, Act.put, List.setIfInBounds_toArray, List.set_cons_zero, List.set_cons_succ]
        refine wpL_take (i := 5) (v := ?v15_) rfl (by kernel_rfl) (fun _ _ _ h => h) HC.out (by rfl) (fun w_ hw_ => ?h15_) ?_
        case h15_ => (try simp only [Cells_cons, Cells_nil, and_true] at hw_); go_split_ands; go_simp; try with_reducible rfl
        simp only [List.getElem_toArray, List.getElem_cons_zero, List.getElem_cons_succ, Act.put, List.setIfInBounds_toArray, List.set_cons_zero, List.set_cons_succ]
        refine wpL_take (i := 6) (v := ?v16_) rfl (by kernel_rfl) (fun _ _ _ h => h) HC.out (by rfl) (fun w_ hw_ => ?h16_) ?_
        case h16_ => (try simp only [Cells_cons, Cells_nil, and_true] at hw_); go_split_ands; go_simp; try with_reducible rfl
        simp only [List.getElem_toArray, List.getElem_cons_zero, List.getElem_cons_succ, Act.put, List.setIfInBounds_toArray, List.set_cons_zero, List.set_cons_succ]
        refine wpL_take (i := 7) (v := ?v17_) rfl (by kernel_rfl) (fun _ _ _ h => h) HC.out (by rfl) (fun w_ hw_ => ?h17_) ?_
        case h17_ => (try simp only [Cells_cons, Cells_nil, and_true] at hw_); go_split_ands; go_simp; try with_reducible rfl
        simp only [List.getElem_toArray, List.getElem_cons_zero, List.getElem_cons_succ, Act.put, List.setIfInBounds_toArray, List.set_cons_zero, List.set_cons_succ]
        refine wpL_do (i := 8) rfl (by kernel_rfl) (by rfl) (fun K_ hK_ => ?_)
        go_simp
        refine (HIH.out xs[j] (by simp) _ _ _ _ _ _ _ _ _ _ _ _ (r1.ext0 (by repeat (first | with_reducible assumption | with_reducible exact Ext.refl _ _ | with_reducible refine Ext.alloc ?_ _ | with_reducible refine Ext.drew ?_ | with_reducible refine Ext.drewN ?_ _ | with_reducible refine Ext.setR ?_ ?_ _ | (dsimp only; omega) | (simp; done) | (simp; omega)))) (r2.ext0 (by repeat (first | with_reducible assumption | with_reducible exact Ext.refl _ _ | with_reducible refine Ext.alloc ?_ _ | with_reducible refine Ext.drew ?_ | with_reducible refine Ext.drewN ?_ _ | with_reducible refine Ext.setR ?_ ?_ _ | (dsimp only; omega) | (simp; done) | (simp; omega))))).mono ?_
        rintro e w1 ⟨q, rfl, hq, hx1⟩
        refine hK_ _ _ (fun _ => HC.out.keep hx1) (fun hS2 => ?_)
        have hS2 := hS2 (by decide)
        have HC2 := Lib.hid hS2
        have hx0 : Ext no w w1 := Ext.seq (by repeat (first | with_reducible assumption | with_reducible exact Ext.refl _ _ | with_reducible refine Ext.alloc ?_ _ | with_reducible refine Ext.drew ?_ | with_reducible refine Ext.drewN ?_ _ | with_reducible refine Ext.setR ?_ ?_ _ | (dsimp only; omega) | (simp; done) | (simp; omega))) hx1
        have HQ := Lib.hid hq
        clear hS2 hq
        refine wpL_take (i := 9) (v := ?v18_) rfl (by kernel_rfl) (fun _ _ _ h => h) HC2.out (by rfl) (fun w_ hw_ => ?h18_) ?_
        case h18_ => (try simp only [Cells_cons, Cells_nil, and_true] at hw_); go_split_ands; go_simp; try with_reducible rfl
        simp only [List.getElem_toArray, List.getElem_cons_zero, List.getElem_cons_succ, Act.put, List.setIfInBounds_toArray, List.set_cons_zero, List.set_cons_succ]
        refine wpL_done (by kernel_rfl) ?_ _
        cases q
        · go_wp2_with fail
          go_ret
          exact PB.f (ne_of_get hlt hlt2 (fun e => by have := HQ.out.2 e; cases this)) hx0
        · go_wp2_with fail
          go_roundw
          case rel => exact ⟨j + 1, by omega, by first | go_num | rfl | simp, take_eq_succ hlt hlt2 heq (by simpa using HQ.out)⟩
          case measure => simp [intOf]; omega
      · go_wp2_with fail
        go_ret
        exact PB.t (take_eq_all hl hlt heq) hext
  · have hn := lenB' hl
    go_enter Tryd.func55, Tryd.ntmps55
    go_wp2_with fail
    go_ret
    exact PB.f (len_ne hl) (Ext.refl _ _)

set_option maxRecDepth 100000 in
set_option maxHeartbeats 2000000 in
theorem sameTerm_ : ∀ x : Tm, SameC x := by
  intro x
  induction x using Tm.ind_ with
  | h k n a ls ks ih =>
  intro w S1 S2 y A K B J ca ck cb cj hr1 hr2
  have HIH := Lib.hid ih
  clear ih
  obtain ⟨_, _, _, _, he, i1, i2, i3, l1, k1⟩ := RC.tm.1 hr1
  simp only [List.cons.injEq, Value.slice.injEq, and_true, true_and] at he
  obtain ⟨⟨rfl, rfl⟩, rfl, rfl⟩ := he
  obtain ⟨_, _, _, _, he, j1, j2, j3, l2, k2⟩ := RC.tm.1 hr2
  simp only [List.cons.injEq, Value.slice.injEq, and_true, true_and] at he
  obtain ⟨⟨rfl, rfl⟩, rfl, rfl⟩ := he
  clear hr1 hr2
  simp only [Tm.k_mk, Tm.n_mk, Tm.a_mk, Tm.ls_mk, Tm.ks_mk] at l1 k1 i1 i2 i3 ⊢
  obtain ⟨yk, yn, ya, yls, yks⟩ := y
  simp only [Tm.k_mk, Tm.n_mk, Tm.a_mk, Tm.ls_mk, Tm.ks_mk] at l2 k2 j1 j2 j3 ⊢
  by_cases h1 : k = yk
  · have g1 : (k == yk) = true := by simpa using h1
    by_cases h2 : n = yn
    · have g2 : (n == yn) = true := by simpa using h2
      by_cases h3 : a = ya
      · have g3 : (a == ya) = true := by simpa using h3
        have H := Lib.hid (And.intro h1 (And.intro h2 h3))
        clear h1 h2 h3
        go_enter Tryd.func12, Tryd.ntmps12
        go_wp2_with fail
        refine (sameLevels (l1.ext0 (by repeat (first | with_reducible assumption | with_reducible exact Ext.refl _ _ | with_reducible refine Ext.alloc ?_ _ | with_reducible refine Ext.drew ?_ | with_reducible refine Ext.drewN ?_ _ | with_reducible refine Ext.setR ?_ ?_ _ | (dsimp only; omega) | (simp; done) | (simp; omega)))) (l2.ext0 (by repeat (first | with_reducible assumption | with_reducible exact Ext.refl _ _ | with_reducible refine Ext.alloc ?_ _ | with_reducible refine Ext.drew ?_ | with_reducible refine Ext.drewN ?_ _ | with_reducible refine Ext.setR ?_ ?_ _ | (dsimp only; omega) | (simp; done) | (simp; omega))))).mono ?_
        rintro e w1 ⟨q, rfl, hq, hx1⟩
        have hx0 : Ext no w _ := Ext.seq (by repeat (first | with_reducible assumption | with_reducible exact Ext.refl _ _ | with_reducible refine Ext.alloc ?_ _ | with_reducible refine Ext.drew ?_ | with_reducible refine Ext.drewN ?_ _ | with_reducible refine Ext.setR ?_ ?_ _ | (dsimp only; omega) | (simp; done) | (simp; omega))) hx1
        obtain ⟨hc_, hf_, hz_⟩ := Ext.rules hx1
        simp only [World.size_alloc] at hz_
        have HQ := Lib.hid hq
        have HX := Lib.hid hx0
        have HX1 := Lib.hid hx1
        clear hq hx0 hx1
        cases q
        · go_wp2_with fail
          go_ret
          exact PB.f (fun e => by have := HQ.out.2 (by injection e); cases this) HX.out
        · go_wp2_with fail
          refine (sameTerms_ HIH (k1.ext0 HX.out) (k2.ext0 HX.out)).mono ?_
          rintro e w2 ⟨q, rfl, hq, hx2⟩
          have HX2 := Lib.hid hx2
          have HQ2 := Lib.hid hq
          clear hx2 hq
          go_wp2_with fail
          go_ret
          refine ⟨q, rfl, ?_, HX.out.seq HX2.out⟩
          have hH := H.out
          have hQ := HQ.out
          rw [HQ2.out]
          simp only [true_iff] at hQ
          constructor
          · rintro rfl; rw [hH.1, hH.2.1, hH.2.2, hQ]
          · intro e; injection e
      · have g3 : (a == ya) = false := by simpa using h3
        have H := Lib.hid h3
        clear h1 h2 h3
        go_enter Tryd.func12, Tryd.ntmps12
        go_wp2_with fail
        go_ret
        exact PB.f (fun e => H.out (by injection e)) (by repeat (first | with_reducible assumption | with_reducible exact Ext.refl _ _ | with_reducible refine Ext.alloc ?_ _ | with_reducible refine Ext.drew ?_ | with_reducible refine Ext.drewN ?_ _ | with_reducible refine Ext.setR ?_ ?_ _ | (dsimp only; omega) | (simp; done) | (simp; omega)))
    · have g2 : (n == yn) = false := by simpa using h2
      have H := Lib.hid h2
      clear h1 h2
      go_enter Tryd.func12, Tryd.ntmps12
      go_wp2_with fail
      go_ret
      exact PB.f (fun e => H.out (by injection e)) (by repeat (first | with_reducible assumption | with_reducible exact Ext.refl _ _ | with_reducible refine Ext.alloc ?_ _ | with_reducible refine Ext.drew ?_ | with_reducible refine Ext.drewN ?_ _ | with_reducible refine Ext.setR ?_ ?_ _ | (dsimp only; omega) | (simp; done) | (simp; omega)))
  · have g1 : (k == yk) = false := by simpa using h1
    have H := Lib.hid h1
    clear h1
    go_enter Tryd.func12, Tryd.ntmps12
    go_wp2_with fail
    go_ret
    exact PB.f (fun e => H.out (by injection e)) (by repeat (first | with_reducible assumption | with_reducible exact Ext.refl _ _ | with_reducible refine Ext.alloc ?_ _ | with_reducible refine Ext.drew ?_ | with_reducible refine Ext.drewN ?_ _ | with_reducible refine Ext.setR ?_ ?_ _ | (dsimp only; omega) | (simp; done) | (simp; omega)))
theorem sameTerms {w : World} {S1 S2 : Nat → Prop} {xs ys : List Tm} {A B : Option Addr} {c1 c2 : Nat} (h : RC w S1 (.l 30 5 (xs.map Tm.d)) [.slice A xs.length c1]) (k : RC w S2 (.l 30 5 (ys.map Tm.d)) [.slice B ys.length c2]) :
    Calls Tryd.prog 55 #[.slice A xs.length c1, .slice B ys.length c2] w (PB w (xs = ys)) := sameTerms_ (Lib.hid fun t _ => sameTerm_ t) h k
theorem sameTerm {w : World} {S1 S2 : Nat → Prop} {x y : Tm} {u v : Value} (h : TV w S1 x u) (k : TV w S2 y v) : Calls Tryd.prog 12 #[u, v] w (PB w (x = y)) := by
  obtain ⟨_, _, _, _, rfl, h⟩ := h
  obtain ⟨_, _, _, _, rfl, k⟩ := k
  exact sameTerm_ x w S1 S2 y _ _ _ _ _ _ _ _ h k
end Go.Proofs.YteelplgdojjakaaDoor
