/- Kit: whether two things are the same, element by element: contracts. -/
import Derived.Test.YteelplgdojjakaaGreatDoorMgMust
import Derived.BigQuiet
import Derived.Laws.StructEq
import Derived.Test.YteelplgdojjakaaGreatDoorMgKept0
import Derived.Test.YteelplgdojjakaaGreatDoorMgRow
import Derived.Test.YteelplgdojjakaaGreatDoorMgCountD
namespace Go.Proofs.YteelplgdojjakaaGreatDoor
set_option linter.unusedSimpArgs false
set_option linter.unusedVariables false
open Go.RowKit

/-- A call tells whether p. -/
def PB (w : World) (p : Prop) (e : Ending) (w' : World) : Prop := ∃ q : Bool, e = .returned (.bool q) ∧ (q = true ↔ p) ∧ Ext no w w'
theorem PB.t {w w' : World} {p : Prop} (h : p) (hx : Ext no w w') : PB w p (.returned (.bool true)) w' := ⟨true, rfl, by simp [h], hx⟩
theorem PB.f {w w' : World} {p : Prop} (h : ¬ p) (hx : Ext no w w') : PB w p (.returned (.bool false)) w' := ⟨false, rfl, by simp [h], hx⟩
theorem take_eq_succ {α : Type} {xs ys : List α} {j : Nat} (h1 : j < xs.length) (h2 : j < ys.length) (h : xs.take j = ys.take j) (e : xs[j] = ys[j]) : xs.take (j + 1) = ys.take (j + 1) := by
  rw [List.take_succ_eq_append_getElem h1, List.take_succ_eq_append_getElem h2, h, e]
theorem take_eq_all {α : Type} {xs ys : List α} {j : Nat} (hl : xs.length = ys.length) (h1 : ¬ j < xs.length) (h : xs.take j = ys.take j) : xs = ys := by
  rwa [List.take_of_length_le (by omega), List.take_of_length_le (by omega)] at h
theorem ne_of_get {α : Type} {xs ys : List α} {j : Nat} (h1 : j < xs.length) (h2 : j < ys.length) (e : ¬ xs[j] = ys[j]) : ¬ xs = ys := fun h => e (by subst h; rfl)
theorem len_ne {α : Type} {xs ys : List α} (h : ¬ xs.length = ys.length) : ¬ xs = ys := fun e => h (by rw [e])
theorem lenB {n m : Nat} (h : n = m) : (((n : Int)) == (m : Int)) = true := by simp [h]
theorem lenB' {n m : Nat} (h : ¬ n = m) : (((n : Int)) == (m : Int)) = false := by simp; omega

set_option maxHeartbeats 1000000 in
theorem sameParts {w : World} {S1 S2 : Nat → Prop} {xs ys : List (Int × Int)} {A B : Option Addr} {c1 c2 : Nat} (h : RC w S1 (.l 149 2 (xs.map ptD)) [.slice A xs.length c1]) (k : RC w S2 (.l 149 2 (ys.map ptD)) [.slice B ys.length c2]) :
    Calls Tryz.prog 179 #[.slice A xs.length c1, .slice B ys.length c2] w (PB w (xs = ys)) := by
  have hM := h.lenM
  have kM := k.lenM
  by_cases hl : xs.length = ys.length
  · have hn := lenB hl
    go_enter Tryz.func179, Tryz.ntmps179
    go_wp2_with fail
    go_loopw [5] (fun i wr => ∃ j : Nat, j ≤ xs.length ∧ i = .int .i64 j ∧ xs.take j = ys.take j ∧ Ext no w wr) (fun i _ => xs.length - (intOf i).toNat)
    case atStart => exact ⟨0, Nat.zero_le _, rfl, by simp, Ext.refl _ _⟩
    case round =>
      obtain ⟨j, hj, rfl, heq, hext⟩ := hrel
      by_cases hlt : j < xs.length
      · have hlt2 : j < ys.length := by omega
        obtain ⟨b, o, rfl, hb, hS, i1, i2, p1, p2⟩ := (h.ext0 hext).atPt hlt
        obtain ⟨b', o', rfl, hb', hS', j1, j2, q1, q2⟩ := (k.ext0 hext).atPt hlt2
        by_cases h1 : xs[j].1 = ys[j].1
        · have e1 : (xs[j].1 == ys[j].1) = true := by simp [h1]
          by_cases h2 : xs[j].2 = ys[j].2
          · have e2 : (xs[j].2 == ys[j].2) = true := by simp [h2]
            have H := Lib.hid (Prod.ext h1 h2)
            clear h1 h2
            go_wp2_with fail
            go_quiet (fail)
            go_wp2_with fail
            go_roundw
            case rel => exact ⟨j + 1, by omega, by go_num, take_eq_succ hlt hlt2 heq H.out, (by repeat (first | with_reducible assumption | with_reducible exact Ext.refl _ _ | with_reducible refine Ext.alloc ?_ _ | with_reducible refine Ext.drew ?_ | with_reducible refine Ext.drewN ?_ _ | with_reducible refine Ext.setR ?_ ?_ _ | (dsimp only; omega) | (simp; done) | (simp; omega)))⟩
            case measure => simp [intOf]; omega
          · have e2 : (xs[j].2 == ys[j].2) = false := by simpa using h2
            have H := Lib.hid (show ¬ xs[j] = ys[j] from fun e => h2 (by rw [e]))
            clear h1 h2
            go_wp2_with fail
            go_quiet (fail)
            go_wp2_with fail
            go_ret
            exact PB.f (ne_of_get hlt hlt2 H.out) (by repeat (first | with_reducible assumption | with_reducible exact Ext.refl _ _ | with_reducible refine Ext.alloc ?_ _ | with_reducible refine Ext.drew ?_ | with_reducible refine Ext.drewN ?_ _ | with_reducible refine Ext.setR ?_ ?_ _ | (dsimp only; omega) | (simp; done) | (simp; omega)))
        · have e1 : (xs[j].1 == ys[j].1) = false := by simpa using h1
          have H := Lib.hid (show ¬ xs[j] = ys[j] from fun e => h1 (by rw [e]))
          clear h1
          go_wp2_with fail
          go_quiet (fail)
          go_wp2_with fail
          go_ret
          exact PB.f (ne_of_get hlt hlt2 H.out) (by repeat (first | with_reducible assumption | with_reducible exact Ext.refl _ _ | with_reducible refine Ext.alloc ?_ _ | with_reducible refine Ext.drew ?_ | with_reducible refine Ext.drewN ?_ _ | with_reducible refine Ext.setR ?_ ?_ _ | (dsimp only; omega) | (simp; done) | (simp; omega)))
      · go_wp2_with fail
        go_ret
        exact PB.t (take_eq_all hl hlt heq) hext
  · have hn := lenB' hl
    go_enter Tryz.func179, Tryz.ntmps179
    go_wp2_with fail
    go_ret
    exact PB.f (len_ne hl) (Ext.refl _ _)

theorem sameLevel {w : World} {S1 S2 : Nat → Prop} {x y : Lv} {A B : Option Addr} {c1 c2 : Nat} (h : RC w S1 (.l 149 2 (x.map ptD)) [.slice A x.length c1]) (k : RC w S2 (.l 149 2 (y.map ptD)) [.slice B y.length c2]) :
    Calls Tryz.prog 106 #[.agg #[.slice A x.length c1], .agg #[.slice B y.length c2]] w (PB w (x = y)) := by
  go_enter Tryz.func106, Tryz.ntmps106
  go_wp2_with fail
  refine (sameParts (h.ext0 (by repeat (first | with_reducible assumption | with_reducible exact Ext.refl _ _ | with_reducible refine Ext.alloc ?_ _ | with_reducible refine Ext.drew ?_ | with_reducible refine Ext.drewN ?_ _ | with_reducible refine Ext.setR ?_ ?_ _ | (dsimp only; omega) | (simp; done) | (simp; omega)))) (k.ext0 (by repeat (first | with_reducible assumption | with_reducible exact Ext.refl _ _ | with_reducible refine Ext.alloc ?_ _ | with_reducible refine Ext.drew ?_ | with_reducible refine Ext.drewN ?_ _ | with_reducible refine Ext.setR ?_ ?_ _ | (dsimp only; omega) | (simp; done) | (simp; omega))))).mono ?_
  rintro e w1 ⟨q, rfl, hq, hx1⟩
  have hx0 : Ext no w w1 := Ext.seq (by repeat (first | with_reducible assumption | with_reducible exact Ext.refl _ _ | with_reducible refine Ext.alloc ?_ _ | with_reducible refine Ext.drew ?_ | with_reducible refine Ext.drewN ?_ _ | with_reducible refine Ext.setR ?_ ?_ _ | (dsimp only; omega) | (simp; done) | (simp; omega))) hx1
  have HQ := Lib.hid hq
  clear hq
  go_wp2_with fail
  go_ret
  exact ⟨q, rfl, HQ.out, hx0⟩
set_option maxHeartbeats 1000000 in
theorem sameLevels {w : World} {S1 S2 : Nat → Prop} {xs ys : List Lv} {A B : Option Addr} {c1 c2 : Nat} (h : RC w S1 (.l 38 1 (xs.map lvD)) [.slice A xs.length c1]) (k : RC w S2 (.l 38 1 (ys.map lvD)) [.slice B ys.length c2]) :
    Calls Tryz.prog 69 #[.slice A xs.length c1, .slice B ys.length c2] w (PB w (xs = ys)) := by
  have hM := h.lenM
  have kM := k.lenM
  by_cases hl : xs.length = ys.length
  · have hn := lenB hl
    have HL := Lib.hid hl
    go_enter Tryz.func69, Tryz.ntmps69
    go_wp2_with fail
    go_loopw [5] (fun i wr => ∃ j : Nat, j ≤ xs.length ∧ i = .int .i64 j ∧ xs.take j = ys.take j ∧ Ext no w wr) (fun i _ => xs.length - (intOf i).toNat)
    case atStart => exact ⟨0, Nat.zero_le _, rfl, by simp, Ext.refl _ _⟩
    case round =>
      obtain ⟨j, hj, rfl, heq, hext⟩ := hrel
      by_cases hlt : j < xs.length
      · have hlt2 : j < ys.length := by omega
        obtain ⟨b, o, A1, e1, rfl, hb, hS, r1, p1⟩ := (h.ext0 hext).atLv hlt
        obtain ⟨b', o', A2, e2, rfl, hb', hS', r2, q1⟩ := (k.ext0 hext).atLv hlt2
        go_wp2_with fail
        refine wp_region_L (fun w' => Cells w' [(⟨b, o + j, none⟩, .slice A1 xs[j].length e1), (⟨b', o' + j, none⟩, .slice A2 ys[j].length e2)]) [] (by kernel_rfl) ?_
        have hS_ : Cells wr.drew [(⟨b, o + j, none⟩, .slice A1 xs[j].length e1), (⟨b', o' + j, none⟩, .slice A2 ys[j].length e2)] := ⟨p1, q1, trivial⟩
        have HC := Lib.hid hS_
        clear hS_ p1 q1
        refine wpL_take (i := 0) (v := ?v1_) rfl (by kernel_rfl) (fun _ _ _ h => h) HC.out (by rfl) (fun w_ hw_ => ?h1_) ?_
        case h1_ => (try simp only [Cells_cons, Cells_nil, and_true] at hw_); go_split_ands; go_simp; try with_reducible rfl
        simp only [List.getElem_toArray, List.getElem_cons_zero, List.getElem_cons_succ, Act.put, List.setIfInBounds_toArray, List.set_cons_zero, List.set_cons_succ]
        refine wpL_take (i := 1) (v := ?v2_) rfl (by kernel_rfl) (fun _ _ _ h => h) HC.out (by rfl) (fun w_ hw_ => ?h2_) ?_
        case h2_ => (try simp only [Cells_cons, Cells_nil, and_true] at hw_); go_split_ands; go_simp; try with_reducible rfl
        simp only [List.getElem_toArray, List.getElem_cons_zero, List.getElem_cons_succ, Act.put, List.setIfInBounds_toArray, List.set_cons_zero, List.set_cons_succ]
        refine wpL_take (i := 2) (v := ?v3_) rfl (by kernel_rfl) (fun _ _ _ h => h) HC.out (by rfl) (fun w_ hw_ => ?h3_) ?_
        case h3_ => (try simp only [Cells_cons, Cells_nil, and_true] at hw_); go_split_ands; go_simp; try with_reducible rfl
        simp only [List.getElem_toArray, List.getElem_cons_zero, List.getElem_cons_succ, Act.put, List.setIfInBounds_toArray, List.set_cons_zero, List.set_cons_succ]
        refine wpL_take (i := 3) (v := ?v4_) rfl (by kernel_rfl) (fun _ _ _ h => h) HC.out (by rfl) (fun w_ hw_ => ?h4_) ?_
        case h4_ => (try simp only [Cells_cons, Cells_nil, and_true] at hw_); go_split_ands; go_simp; try with_reducible rfl
        simp only [List.getElem_toArray, List.getElem_cons_zero, List.getElem_cons_succ, Act.put, List.setIfInBounds_toArray, List.set_cons_zero, List.set_cons_succ]
        refine wpL_take (i := 4) (v := ?v5_) rfl (by kernel_rfl) (fun _ _ _ h => h) HC.out (by rfl) (fun w_ hw_ => ?h5_) ?_
        case h5_ => (try simp only [Cells_cons, Cells_nil, and_true] at hw_); go_split_ands; go_simp; try with_reducible rfl
        simp only [List.getElem_toArray, List.getElem_cons_zero, List.getElem_cons_succ, Act.put, List.setIfInBounds_toArray, List.set_cons_zero, List.set_cons_succ]
        refine wpL_take (i := 5) (v := ?v6_) rfl (by kernel_rfl) (fun _ _ _ h => h) HC.out (by rfl) (fun w_ hw_ => ?h6_) ?_
        case h6_ => (try simp only [Cells_cons, Cells_nil, and_true] at hw_); go_split_ands; go_simp; try with_reducible rfl
        simp only [List.getElem_toArray, List.getElem_cons_zero, List.getElem_cons_succ, Act.put, List.setIfInBounds_toArray, List.set_cons_zero, List.set_cons_succ]
        refine wpL_take (i := 6) (v := ?v7_) rfl (by kernel_rfl) (fun _ _ _ h => h) HC.out (by rfl) (fun w_ hw_ => ?h7_) ?_
        case h7_ => (try simp only [Cells_cons, Cells_nil, and_true] at hw_); go_split_ands; go_simp; try with_reducible rfl
        simp only [List.getElem_toArray, List.getElem_cons_zero, List.getElem_cons_succ, Act.put, List.setIfInBounds_toArray, List.set_cons_zero, List.set_cons_succ]
        refine wpL_take (i := 7) (v := ?v8_) rfl (by kernel_rfl) (fun _ _ _ h => h) HC.out (by rfl) (fun w_ hw_ => ?h8_) ?_
        case h8_ => (try simp only [Cells_cons, Cells_nil, and_true] at hw_); go_split_ands; go_simp; try with_reducible rfl
        simp only [List.getElem_toArray, List.getElem_cons_zero, List.getElem_cons_succ, Act.put, List.setIfInBounds_toArray, List.set_cons_zero, List.set_cons_succ]
        refine wpL_do (i := 8) rfl (by kernel_rfl) (by rfl) (fun K_ hK_ => ?_)
        go_simp
        refine (sameLevel (r1.ext0 (by repeat (first | with_reducible assumption | with_reducible exact Ext.refl _ _ | with_reducible refine Ext.alloc ?_ _ | with_reducible refine Ext.drew ?_ | with_reducible refine Ext.drewN ?_ _ | with_reducible refine Ext.setR ?_ ?_ _ | (dsimp only; omega) | (simp; done) | (simp; omega)))) (r2.ext0 (by repeat (first | with_reducible assumption | with_reducible exact Ext.refl _ _ | with_reducible refine Ext.alloc ?_ _ | with_reducible refine Ext.drew ?_ | with_reducible refine Ext.drewN ?_ _ | with_reducible refine Ext.setR ?_ ?_ _ | (dsimp only; omega) | (simp; done) | (simp; omega))))).mono ?_
        rintro e w1 ⟨q, rfl, hq, hx1⟩
        refine hK_ _ _ (fun _ => HC.out.keep hx1) (fun hS2 => ?_)
        have hS2 := hS2 (by decide)
        have HC2 := Lib.hid hS2
        have hx0 : Ext no w w1 := Ext.seq (by repeat (first | with_reducible assumption | with_reducible exact Ext.refl _ _ | with_reducible refine Ext.alloc ?_ _ | with_reducible refine Ext.drew ?_ | with_reducible refine Ext.drewN ?_ _ | with_reducible refine Ext.setR ?_ ?_ _ | (dsimp only; omega) | (simp; done) | (simp; omega))) hx1
        have HQ := Lib.hid hq
        clear hS2 hq
        refine wpL_take (i := 9) (v := ?v9_) rfl (by kernel_rfl) (fun _ _ _ h => h) HC2.out (by rfl) (fun w_ hw_ => ?h9_) ?_
        case h9_ => (try simp only [Cells_cons, Cells_nil, and_true] at hw_); go_split_ands; go_simp; try with_reducible rfl
        simp only [List.getElem_toArray, List.getElem_cons_zero, List.getElem_cons_succ, Act.put, List.setIfInBounds_toArray, List.set_cons_zero, List.set_cons_succ]
        refine wpL_done (by kernel_rfl) ?_ _
        cases q
        · go_wp2_with fail
          go_ret
          exact PB.f (ne_of_get hlt hlt2 (fun e => by have := HQ.out.2 e; cases this)) hx0
        · go_wp2_with fail
          go_roundw
          case rel => exact ⟨j + 1, by omega, by first | go_num | rfl | simp, take_eq_succ hlt hlt2 heq (by simpa using HQ.out)⟩
          case measure => simp [intOf]; omega
      · go_wp2_with fail
        go_ret
        exact PB.t (take_eq_all hl hlt heq) hext
  · have hn := lenB' hl
    go_enter Tryz.func69, Tryz.ntmps69
    go_wp2_with fail
    go_ret
    exact PB.f (len_ne hl) (Ext.refl _ _)

/-- The kit's SameTerm, as it is met below: of two terms that can be read. -/
def SameC (x : Tm) : Prop := ∀ (w : World) (S1 S2 : Nat → Prop) (y : Tm) (A K B J : Option Addr) (ca ck cb cj : Nat), RC w S1 x.d [.int .i64 x.k, .int .i64 x.n, .int .i64 x.a, .slice A x.ls.length ca, .slice K x.ks.length ck] → RC w S2 y.d [.int .i64 y.k, .int .i64 y.n, .int .i64 y.a, .slice B y.ls.length cb, .slice J y.ks.length cj] →
    Calls Tryz.prog 22 #[.agg #[.int .i64 x.k, .int .i64 x.n, .int .i64 x.a, .slice A x.ls.length ca, .slice K x.ks.length ck], .agg #[.int .i64 y.k, .int .i64 y.n, .int .i64 y.a, .slice B y.ls.length cb, .slice J y.ks.length cj]] w (PB w (x = y))
set_option maxHeartbeats 1000000 in
theorem sameTerms_ {w : World} {S1 S2 : Nat → Prop} {xs ys : List Tm} {A B : Option Addr} {c1 c2 : Nat} (HIH : Hid (∀ t ∈ xs, SameC t)) (h : RC w S1 (.l 35 5 (xs.map Tm.d)) [.slice A xs.length c1]) (k : RC w S2 (.l 35 5 (ys.map Tm.d)) [.slice B ys.length c2]) :
    Calls Tryz.prog 20 #[.slice A xs.length c1, .slice B ys.length c2] w (PB w (xs = ys)) := by
  have hM := h.lenM
  have kM := k.lenM
  by_cases hl : xs.length = ys.length
  · have hn := lenB hl
    have HL := Lib.hid hl
    go_enter Tryz.func20, Tryz.ntmps20
    go_wp2_with fail
    go_loopw [5] (fun i wr => ∃ j : Nat, j ≤ xs.length ∧ i = .int .i64 j ∧ xs.take j = ys.take j ∧ Ext no w wr) (fun i _ => xs.length - (intOf i).toNat)
    case atStart => exact ⟨0, Nat.zero_le _, rfl, by simp, Ext.refl _ _⟩
    case round =>
      obtain ⟨j, hj, rfl, heq, hext⟩ := hrel
      by_cases hlt : j < xs.length
      · have hlt2 : j < ys.length := by omega
        obtain ⟨b, o, A1, ca, A2, ck, rfl, hb, hS, r1, p0, p1, p2, p3, p4⟩ := (h.ext0 hext).atTm hlt
        obtain ⟨b', o', B1, cb, B2, cj, rfl, hb', hS', r2, q0, q1, q2, q3, q4⟩ := (k.ext0 hext).atTm hlt2
        go_wp2_with fail
        refine wp_region_L (fun w' => Cells w' [(⟨b, o + j * 5, none⟩, .int .i64 xs[j].k), (⟨b, o + j * 5 + 1, none⟩, .int .i64 xs[j].n), (⟨b, o + j * 5 + 2, none⟩, .int .i64 xs[j].a), (⟨b, o + j * 5 + 3, none⟩, .slice A1 xs[j].ls.length ca), (⟨b, o + j * 5 + 4, none⟩, .slice A2 xs[j].ks.length ck), (⟨b', o' + j * 5, none⟩, .int .i64 ys[j].k), (⟨b', o' + j * 5 + 1, none⟩, .int .i64 ys[j].n), (⟨b', o' + j * 5 + 2, none⟩, .int .i64 ys[j].a), (⟨b', o' + j * 5 + 3, none⟩, .slice B1 ys[j].ls.length cb), (⟨b', o' + j * 5 + 4, none⟩, .slice B2 ys[j].ks.length cj)]) [] (by kernel_rfl) ?_
        have hS_ : Cells wr.drew [(⟨b, o + j * 5, none⟩, .int .i64 xs[j].k), (⟨b, o + j * 5 + 1, none⟩, .int .i64 xs[j].n), (⟨b, o + j * 5 + 2, none⟩, .int .i64 xs[j].a), (⟨b, o + j * 5 + 3, none⟩, .slice A1 xs[j].ls.length ca), (⟨b, o + j * 5 + 4, none⟩, .slice A2 xs[j].ks.length ck), (⟨b', o' + j * 5, none⟩, .int .i64 ys[j].k), (⟨b', o' + j * 5 + 1, none⟩, .int .i64 ys[j].n), (⟨b', o' + j * 5 + 2, none⟩, .int .i64 ys[j].a), (⟨b', o' + j * 5 + 3, none⟩, .slice B1 ys[j].ls.length cb), (⟨b', o' + j * 5 + 4, none⟩, .slice B2 ys[j].ks.length cj)] := ⟨p0, p1, p2, p3, p4, q0, q1, q2, q3, q4, trivial⟩
        have HC := Lib.hid hS_
        clear hS_ p0 p1 p2 p3 p4 q0 q1 q2 q3 q4
        refine wpL_take (i := 0) (v := ?v10_) rfl (by kernel_rfl) (fun _ _ _ h => h) HC.out (by rfl) (fun w_ hw_ => ?h10_) ?_
        case h10_ => (try simp only [Cells_cons, Cells_nil, and_true] at hw_); go_split_ands; go_simp; try with_reducible rfl
        simp only [List.getElem_toArray, List.getElem_cons_zero, List.getElem_cons_succ, Act.put, List.setIfInBounds_toArray, List.set_cons_zero, List.set_cons_succ]
        refine wpL_take (i := 1) (v := ?v11_) rfl (by kernel_rfl) (fun _ _ _ h => h) HC.out (by rfl) (fun w_ hw_ => ?h11_) ?_
        case h11_ => (try simp only [Cells_cons, Cells_nil, and_true] at hw_); go_split_ands; go_simp; try with_reducible rfl
        simp only [List.getElem_toArray, List.getElem_cons_zero, List.getElem_cons_succ, Act.put, List.setIfInBounds_toArray, List.set_cons_zero, List.set_cons_succ]
        refine wpL_take (i := 2) (v := ?v12_) rfl (by kernel_rfl) (fun _ _ _ h => h) HC.out (by rfl) (fun w_ hw_ => ?h12_) ?_
        case h12_ => (try simp only [Cells_cons, Cells_nil, and_true] at hw_); go_split_ands; go_simp; try with_reducible rfl
        simp only [List.getElem_toArray, List.getElem_cons_zero, List.getElem_cons_succ, Act.put, List.setIfInBounds_toArray, List.set_cons_zero, List.set_cons_succ]
        refine wpL_take (i := 3) (v := ?v13_) rfl (by kernel_rfl) (fun _ _ _ h => h) HC.out (by rfl) (fun w_ hw_ => ?h13_) ?_
        case h13_ => (try simp only [Cells_cons, Cells_nil, and_true] at hw_); go_split_ands; go_simp; try with_reducible rfl
        simp only [List.getElem_toArray, List.getElem_cons_zero, List.getElem_cons_succ, Act.put, List.setIfInBounds_toArray, List.set_cons_zero, List.set_cons_succ]
        refine wpL_take (i := 4) (v := ?v14_) rfl (by kernel_rfl) (fun _ _ _ h => h) HC.out (by rfl) (fun w_ hw_ => ?h14_) ?_
        case h14_ => (try simp only [Cells_cons, Cells_nil, and_true] at hw_); go_split_ands; go_simp; try with_reducible rfl
        simp only [List.getElem_toArray, List.getElem_cons_zero, List.getElem_cons_succ, Act.put, List.setIfInBounds_toArray, List.set_cons_zero, List.set_cons_succ]
        refine wpL_take (i := 5) (v := ?v15_) rfl (by kernel_rfl) (fun _ _ _ h => h) HC.out (by rfl) (fun w_ hw_ => ?h15_) ?_
        case h15_ => (try simp only [Cells_cons, Cells_nil, and_true] at hw_); go_split_ands; go_simp; try with_reducible rfl
        simp only [List.getElem_toArray, List.getElem_cons_zero, List.getElem_cons_succ, Act.put, List.setIfInBounds_toArray, List.set_cons_zero, List.set_cons_succ]
        refine wpL_take (i := 6) (v := ?v16_) rfl (by kernel_rfl) (fun _ _ _ h => h) HC.out (by rfl) (fun w_ hw_ => ?h16_) ?_
        case h16_ => (try simp only [Cells_cons, Cells_nil, and_true] at hw_); go_split_ands; go_simp; try with_reducible rfl
        simp only [List.getElem_toArray, List.getElem_cons_zero, List.getElem_cons_succ, Act.put, List.setIfInBounds_toArray, List.set_cons_zero, List.set_cons_succ]
        refine wpL_take (i := 7) (v := ?v17_) rfl (by kernel_rfl) (fun _ _ _ h => h) HC.out (by rfl) (fun w_ hw_ => ?h17_) ?_
        case h17_ => (try simp only [Cells_cons, Cells_nil, and_true] at hw_); go_split_ands; go_simp; try with_reducible rfl
        simp only [List.getElem_toArray, List.getElem_cons_zero, List.getElem_cons_succ, Act.put, List.setIfInBounds_toArray, List.set_cons_zero, List.set_cons_succ]
        refine wpL_do (i := 8) rfl (by kernel_rfl) (by rfl) (fun K_ hK_ => ?_)
        go_simp
        refine (HIH.out xs[j] (by simp) _ _ _ _ _ _ _ _ _ _ _ _ (r1.ext0 (by repeat (first | with_reducible assumption | with_reducible exact Ext.refl _ _ | with_reducible refine Ext.alloc ?_ _ | with_reducible refine Ext.drew ?_ | with_reducible refine Ext.drewN ?_ _ | with_reducible refine Ext.setR ?_ ?_ _ | (dsimp only; omega) | (simp; done) | (simp; omega)))) (r2.ext0 (by repeat (first | with_reducible assumption | with_reducible exact Ext.refl _ _ | with_reducible refine Ext.alloc ?_ _ | with_reducible refine Ext.drew ?_ | with_reducible refine Ext.drewN ?_ _ | with_reducible refine Ext.setR ?_ ?_ _ | (dsimp only; omega) | (simp; done) | (simp; omega))))).mono ?_
        rintro e w1 ⟨q, rfl, hq, hx1⟩
        refine hK_ _ _ (fun _ => HC.out.keep hx1) (fun hS2 => ?_)
        have hS2 := hS2 (by decide)
        have HC2 := Lib.hid hS2
        have hx0 : Ext no w w1 := Ext.seq (by repeat (first | with_reducible assumption | with_reducible exact Ext.refl _ _ | with_reducible refine Ext.alloc ?_ _ | with_reducible refine Ext.drew ?_ | with_reducible refine Ext.drewN ?_ _ | with_reducible refine Ext.setR ?_ ?_ _ | (dsimp only; omega) | (simp; done) | (simp; omega))) hx1
        have HQ := Lib.hid hq
        clear hS2 hq
        refine wpL_take (i := 9) (v := ?v18_) rfl (by kernel_rfl) (fun _ _ _ h => h) HC2.out (by rfl) (fun w_ hw_ => ?h18_) ?_
        case h18_ => (try simp only [Cells_cons, Cells_nil, and_true] at hw_); go_split_ands; go_simp; try with_reducible rfl
        simp only [List.getElem_toArray, List.getElem_cons_zero, List.getElem_cons_succ, Act.put, List.setIfInBounds_toArray, List.set_cons_zero, List.set_cons_succ]
        refine wpL_done (by kernel_rfl) ?_ _
        cases q
        · go_wp2_with fail
          go_ret
          exact PB.f (ne_of_get hlt hlt2 (fun e => by have := HQ.out.2 e; cases this)) hx0
        · go_wp2_with fail
          go_roundw
          case rel => exact ⟨j + 1, by omega, by first | go_num | rfl | simp, take_eq_succ hlt hlt2 heq (by simpa using HQ.out)⟩
          case measure => simp [intOf]; omega
      · go_wp2_with fail
        go_ret
        exact PB.t (take_eq_all hl hlt heq) hext
  · have hn := lenB' hl
    go_enter Tryz.func20, Tryz.ntmps20
    go_wp2_with fail
    go_ret
    exact PB.f (len_ne hl) (Ext.refl _ _)

set_option maxRecDepth 100000 in
set_option maxHeartbeats 2000000 in
theorem sameTerm_ : ∀ x : Tm, SameC x := by
  intro x
  induction x using Tm.ind_ with
  | h k n a ls ks ih =>
  intro w S1 S2 y A K B J ca ck cb cj hr1 hr2
  have HIH := Lib.hid ih
  clear ih
  obtain ⟨_, _, _, _, he, i1, i2, i3, l1, k1⟩ := RC.tm.1 hr1
  simp only [List.cons.injEq, Value.slice.injEq, and_true, true_and] at he
  obtain ⟨⟨rfl, rfl⟩, rfl, rfl⟩ := he
  obtain ⟨_, _, _, _, he, j1, j2, j3, l2, k2⟩ := RC.tm.1 hr2
  simp only [List.cons.injEq, Value.slice.injEq, and_true, true_and] at he
  obtain ⟨⟨rfl, rfl⟩, rfl, rfl⟩ := he
  clear hr1 hr2
  simp only [Tm.k_mk, Tm.n_mk, Tm.a_mk, Tm.ls_mk, Tm.ks_mk] at l1 k1 i1 i2 i3 ⊢
  obtain ⟨yk, yn, ya, yls, yks⟩ := y
  simp only [Tm.k_mk, Tm.n_mk, Tm.a_mk, Tm.ls_mk, Tm.ks_mk] at l2 k2 j1 j2 j3 ⊢
  by_cases h1 : k = yk
  · have g1 : (k == yk) = true := by simpa using h1
    by_cases h2 : n = yn
    · have g2 : (n == yn) = true := by simpa using h2
      by_cases h3 : a = ya
      · have g3 : (a == ya) = true := by simpa using h3
        have H := Lib.hid (And.intro h1 (And.intro h2 h3))
        clear h1 h2 h3
        go_enter Tryz.func22, Tryz.ntmps22
        go_wp2_with fail
        refine (sameLevels (l1.ext0 (by repeat (first | with_reducible assumption | with_reducible exact Ext.refl _ _ | with_reducible refine Ext.alloc ?_ _ | with_reducible refine Ext.drew ?_ | with_reducible refine Ext.drewN ?_ _ | with_reducible refine Ext.setR ?_ ?_ _ | (dsimp only; omega) | (simp; done) | (simp; omega)))) (l2.ext0 (by repeat (first | with_reducible assumption | with_reducible exact Ext.refl _ _ | with_reducible refine Ext.alloc ?_ _ | with_reducible refine Ext.drew ?_ | with_reducible refine Ext.drewN ?_ _ | with_reducible refine Ext.setR ?_ ?_ _ | (dsimp only; omega) | (simp; done) | (simp; omega))))).mono ?_
        rintro e w1 ⟨q, rfl, hq, hx1⟩
        have hx0 : Ext no w _ := Ext.seq (by repeat (first | with_reducible assumption | with_reducible exact Ext.refl _ _ | with_reducible refine Ext.alloc ?_ _ | with_reducible refine Ext.drew ?_ | with_reducible refine Ext.drewN ?_ _ | with_reducible refine Ext.setR ?_ ?_ _ | (dsimp only; omega) | (simp; done) | (simp; omega))) hx1
        obtain ⟨hc_, hf_, hz_⟩ := Ext.rules hx1
        simp only [World.size_alloc] at hz_
        have HQ := Lib.hid hq
        have HX := Lib.hid hx0
        have HX1 := Lib.hid hx1
        clear hq hx0 hx1
        cases q
        · go_wp2_with fail
          go_ret
          exact PB.f (fun e => by have := HQ.out.2 (by injection e); cases this) HX.out
        · go_wp2_with fail
          refine (sameTerms_ HIH (k1.ext0 HX.out) (k2.ext0 HX.out)).mono ?_
          rintro e w2 ⟨q, rfl, hq, hx2⟩
          have HX2 := Lib.hid hx2
          have HQ2 := Lib.hid hq
          clear hx2 hq
          go_wp2_with fail
          go_ret
          refine ⟨q, rfl, ?_, HX.out.seq HX2.out⟩
          have hH := H.out
          have hQ := HQ.out
          rw [HQ2.out]
          simp only [true_iff] at hQ
          constructor
          · rintro rfl; rw [hH.1, hH.2.1, hH.2.2, hQ]
          · intro e; injection e
      · have g3 : (a == ya) = false := by simpa using h3
        have H := Lib.hid h3
        clear h1 h2 h3
        go_enter Tryz.func22, Tryz.ntmps22
        go_wp2_with fail
        go_ret
        exact PB.f (fun e => H.out (by injection e)) (by repeat (first | with_reducible assumption | with_reducible exact Ext.refl _ _ | with_reducible refine Ext.alloc ?_ _ | with_reducible refine Ext.drew ?_ | with_reducible refine Ext.drewN ?_ _ | with_reducible refine Ext.setR ?_ ?_ _ | (dsimp only; omega) | (simp; done) | (simp; omega)))
    · have g2 : (n == yn) = false := by simpa using h2
      have H := Lib.hid h2
      clear h1 h2
      go_enter Tryz.func22, Tryz.ntmps22
      go_wp2_with fail
      go_ret
      exact PB.f (fun e => H.out (by injection e)) (by repeat (first | with_reducible assumption | with_reducible exact Ext.refl _ _ | with_reducible refine Ext.alloc ?_ _ | with_reducible refine Ext.drew ?_ | with_reducible refine Ext.drewN ?_ _ | with_reducible refine Ext.setR ?_ ?_ _ | (dsimp only; omega) | (simp; done) | (simp; omega)))
  · have g1 : (k == yk) = false := by simpa using h1
    have H := Lib.hid h1
    clear h1
    go_enter Tryz.func22, Tryz.ntmps22
    go_wp2_with fail
    go_ret
    exact PB.f (fun e => H.out (by injection e)) (by repeat (first | with_reducible assumption | with_reducible exact Ext.refl _ _ | with_reducible refine Ext.alloc ?_ _ | with_reducible refine Ext.drew ?_ | with_reducible refine Ext.drewN ?_ _ | with_reducible refine Ext.setR ?_ ?_ _ | (dsimp only; omega) | (simp; done) | (simp; omega)))
theorem sameTerms {w : World} {S1 S2 : Nat → Prop} {xs ys : List Tm} {A B : Option Addr} {c1 c2 : Nat} (h : RC w S1 (.l 35 5 (xs.map Tm.d)) [.slice A xs.length c1]) (k : RC w S2 (.l 35 5 (ys.map Tm.d)) [.slice B ys.length c2]) :
    Calls Tryz.prog 20 #[.slice A xs.length c1, .slice B ys.length c2] w (PB w (xs = ys)) := sameTerms_ (Lib.hid fun t _ => sameTerm_ t) h k
theorem sameTerm {w : World} {S1 S2 : Nat → Prop} {x y : Tm} {u v : Value} (h : TV w S1 x u) (k : TV w S2 y v) : Calls Tryz.prog 22 #[u, v] w (PB w (x = y)) := by
  obtain ⟨_, _, _, _, rfl, h⟩ := h
  obtain ⟨_, _, _, _, rfl, k⟩ := k
  exact sameTerm_ x w S1 S2 y _ _ _ _ _ _ _ _ h k
end Go.Proofs.YteelplgdojjakaaGreatDoor
/- The kit's marks: contracts. No statement of the seat is proved here. -/
namespace Go.Proofs.YteelplgdojjakaaGreatDoor
set_option linter.unusedSimpArgs false
set_option linter.unusedVariables false
open Go.RowKit

def mkI (i : Nat) : Int := 8000024 + i
def mkPt (i : Nat) : Int × Int := (0, mkI i)
def mkLv (i : Nat) : Lv := [(0, mkI i)]
def mkTm (i : Nat) : Tm := .mk 0 (mkI i) 0 [] []
def tmZ : Tm := .mk 0 0 0 [] []
def mkMb (i : Nat) : Mb := ⟨[mkTm i]⟩
def mkCt (i : Nat) : Ct := ⟨mkI i, tmZ⟩
def mkDc (i : Nat) : Dc := ⟨0, mkI i, tmZ, tmZ, [], [], [], []⟩
/-- The marks behind a row. -/
def mkD (e : Nat) : List D := (List.range 12).map fun i => if e = 149 then ptD (mkPt i) else if e = 38 then lvD (mkLv i) else if e = 35 then (mkTm i).d else if e = 151 then (mkMb i).d else if e = 153 then (mkCt i).d else (mkDc i).d
theorem mkD_pt : mkD 149 = (List.range 12).map fun i => ptD (mkPt i) := rfl
theorem mkD_lv : mkD 38 = (List.range 12).map fun i => lvD (mkLv i) := rfl
theorem mkD_tm : mkD 35 = (List.range 12).map fun i => (mkTm i).d := rfl
theorem mkD_mb : mkD 151 = (List.range 12).map fun i => (mkMb i).d := rfl
theorem mkD_ct : mkD 153 = (List.range 12).map fun i => (mkCt i).d := rfl
theorem mkD_dc : mkD 42 = (List.range 12).map fun i => (mkDc i).d := rfl
/-- A struct that can be read is handed back. -/
def PRd (w : World) (d : D) (e : Ending) (w' : World) : Prop := ∃ cs : List Value, e = .returned (.agg cs.toArray) ∧ RC w' (fun k => w.heap.size ≤ k) d cs ∧ Ext no w w'
theorem mark_calls {w : World} {i : Nat} (h : i < 12) : Calls Tryz.prog 142 #[.int .i64 1, .int .i64 i] w (PV w (.int .i64 (mkI i))) := by
  have HB : Hid (mkI i = 8000024 + i) := Lib.hid rfl
  have hw : IntKind.i64.wrap (8000024 + (i : Int)) = mkI i := by rw [IntKind.wrap_i64]; unfold mkI; omega
  go_enter Tryz.func142, Tryz.ntmps142
  go_wp2_with fail
  go_ret
  exact ⟨rfl, Ext.refl _ _⟩
theorem mkI_in {i : Nat} (h : i < 12) : inI (mkI i) := by unfold inI mkI; omega
theorem inI0 : inI 0 := by unfold inI; omega
theorem aggPartK : AggT Tryz.prog 149 2 := ⟨_, Tryz.underlying149, rfl, by kernel_rfl⟩
theorem aggLevel : AggT Tryz.prog 38 1 := ⟨_, Tryz.underlying38, rfl, by kernel_rfl⟩
theorem aggCtorK : AggT Tryz.prog 153 6 := ⟨_, Tryz.underlying153, rfl, by kernel_rfl⟩
theorem aggMemberK : AggT Tryz.prog 151 1 := ⟨_, Tryz.underlying151, rfl, by kernel_rfl⟩
set_option maxRecDepth 100000 in
set_option maxHeartbeats 1000000 in
theorem markPart_calls {w : World} {i : Nat} (h : i < 12) : Calls Tryz.prog 223 #[.int .i64 1, .int .i64 i] w (PRd w (ptD (mkPt i))) := by
  go_enter Tryz.func223, Tryz.ntmps223
  go_wp2_with fail
  have H := Hp.start no w
  refine callsH (by (repeat (first | with_reducible exact H | with_reducible exact H0_ | with_reducible apply Hp.alloc | with_reducible apply Hp.allocMap | with_reducible apply Hp.drew | with_reducible apply Hp.drewN | with_reducible apply Hp.set)); (try any_goals (repeat (first | with_reducible exact Upd.head | with_reducible apply Upd.tail)))) ?_
  clear H; intro w1 H; (try simp only [size_drew_, size_drewN_, World.size_alloc, World.size_setCell, List.set_cons_zero, List.set_cons_succ] at H)
  refine (mark_calls h).mono ?_
  rintro e w_ ⟨rfl, hx⟩
  replace H := H.call hx
  clear hx
  have hr_ := H.rules; simp only [Rules, and_true] at hr_; have hd_ := H.dif; simp only [Dif, Neq, and_true] at hd_; obtain ⟨ho_, hz_⟩ := H.old0
  go_wp2_with ((with_reducible refine atStore (t := 149) ?_); go_must (refine wpList_storeH (t := 149) rfl rfl (by go_simp <;> first | rfl | exact ⟨rfl, rfl⟩) (by go_simp <;> first | rfl | exact ⟨rfl, rfl⟩) (by exact Hp.norm (by (repeat (first | with_reducible exact H | with_reducible exact H0_ | with_reducible apply Hp.alloc | with_reducible apply Hp.allocMap | with_reducible apply Hp.drew | with_reducible apply Hp.drewN | with_reducible apply Hp.set)); (try any_goals (repeat (first | with_reducible exact Upd.head | with_reducible apply Upd.tail)))) (by ((try simp only [size_drew_, size_drewN_, World.size_alloc, World.size_setCell, List.set_cons_zero, List.set_cons_succ, List.nil_append, List.cons_append]) <;> rfl))) (by (repeat (first | with_reducible exact Upd.head | with_reducible apply Upd.tail))) (by exact aggPartK) (by rfl) (by simp [Value.oneCell']) ?_; clear H; intro w7 H; (try simp only [size_drew_, size_drewN_, World.size_alloc, World.size_setCell, List.set_cons_zero, List.set_cons_succ] at H); (try clear hr_ hd_ ho_ hz_); have hr_ := H.rules; simp only [Rules, and_true] at hr_; have hd_ := H.dif; simp only [Dif, Neq, and_true] at hd_; obtain ⟨ho_, hz_⟩ := H.old0))
  (try clear hr_ hd_ ho_ hz_)
  refine bodyPost_ret (v := .agg #[.int .i64 0, .int .i64 (mkI i)]) (Res.one Tryz.results223 (H.resBox (g := w.heap.size) (by (repeat (first | with_reducible exact Pick.head | with_reducible apply Pick.tail))) aggPartK rfl rfl)) rfl ⟨[.int .i64 0, .int .i64 (mkI i)], rfl, RC.pt.2 ⟨rfl, inI0, mkI_in h⟩, H.ext⟩
theorem one_row {w : World} {S : Nat → Prop} {g e z : Nat} {d : D} {cs : List Value} (b : Blk w g e cs.toArray) (hS : S g) (h : RC w S d cs) (hz : d.size = z) : RC w S (.l e z [d]) [.slice (some ⟨g, 0, none⟩) 1 1] := by
  unfold RC
  refine ⟨_, _, rfl, Nat.le_refl _, by unfold maxLen; omega, by unfold M; simp, by simpa using hz, .inr ⟨g, 0, cs, rfl, b.lt, hS, RCs.single h, fun j u hu => ?_⟩⟩
  rw [b.cells]
  simpa using hu
theorem tmZ_rc {w : World} {S : Nat → Prop} {n : Int} (h : inI n) : RC w S (Tm.mk 0 n 0 [] []).d [.int .i64 0, .int .i64 n, .int .i64 0, .slice none 0 0, .slice none 0 0] := RC.tm.2 ⟨none, 0, none, 0, rfl, inI0, h, inI0, RC.nil, RC.nil⟩
set_option maxRecDepth 100000 in
set_option maxHeartbeats 1000000 in
theorem markLevel_calls {w : World} {i : Nat} (h : i < 12) : Calls Tryz.prog 164 #[.int .i64 1, .int .i64 i] w (PRd w (lvD (mkLv i))) := by
  go_enter Tryz.func164, Tryz.ntmps164
  go_wp2_with fail
  have H := Hp.start no w
  refine callsH (by (repeat (first | with_reducible exact H | with_reducible exact H0_ | with_reducible apply Hp.alloc | with_reducible apply Hp.allocMap | with_reducible apply Hp.drew | with_reducible apply Hp.drewN | with_reducible apply Hp.set)); (try any_goals (repeat (first | with_reducible exact Upd.head | with_reducible apply Upd.tail)))) ?_
  clear H; intro w1 H; (try simp only [size_drew_, size_drewN_, World.size_alloc, World.size_setCell, List.set_cons_zero, List.set_cons_succ] at H)
  refine (mark_calls h).mono ?_
  rintro e w_ ⟨rfl, hx⟩
  replace H := H.call hx
  clear hx
  have hg := Lib.hid H.ext.size
  have hr_ := H.rules; simp only [Rules, and_true] at hr_; have hd_ := H.dif; simp only [Dif, Neq, and_true] at hd_; obtain ⟨ho_, hz_⟩ := H.old0
  go_wp2_with ((with_reducible refine atStore (t := 38) ?_); go_must (refine wpList_storeH (t := 38) rfl rfl (by go_simp <;> first | rfl | exact ⟨rfl, rfl⟩) (by go_simp <;> first | rfl | exact ⟨rfl, rfl⟩) (by exact Hp.norm (by (repeat (first | with_reducible exact H | with_reducible exact H0_ | with_reducible apply Hp.alloc | with_reducible apply Hp.allocMap | with_reducible apply Hp.drew | with_reducible apply Hp.drewN | with_reducible apply Hp.set)); (try any_goals (repeat (first | with_reducible exact Upd.head | with_reducible apply Upd.tail)))) (by ((try simp only [size_drew_, size_drewN_, World.size_alloc, World.size_setCell, List.set_cons_zero, List.set_cons_succ, List.nil_append, List.cons_append]) <;> rfl))) (by (repeat (first | with_reducible exact Upd.head | with_reducible apply Upd.tail))) (by exact aggLevel) (by rfl) (by simp [Value.oneCell']) ?_; clear H; intro w7 H; (try simp only [size_drew_, size_drewN_, World.size_alloc, World.size_setCell, List.set_cons_zero, List.set_cons_succ] at H); (try clear hr_ hd_ ho_ hz_); have hr_ := H.rules; simp only [Rules, and_true] at hr_; have hd_ := H.dif; simp only [Dif, Neq, and_true] at hd_; obtain ⟨ho_, hz_⟩ := H.old0))
  (try clear hr_ hd_ ho_ hz_)
  refine bodyPost_ret (v := .agg #[.slice (some ⟨w_.heap.size, 0, none⟩) 1 1]) (Res.one Tryz.results164 (H.resBox (g := w.heap.size) (by (repeat (first | with_reducible exact Pick.head | with_reducible apply Pick.tail))) aggLevel rfl rfl)) rfl ⟨[.slice (some ⟨w_.heap.size, 0, none⟩) 1 1], rfl, RC.lv.2 ⟨_, _, rfl, one_row (H.blk (g := w_.heap.size) (by (repeat (first | with_reducible exact Pick.head | with_reducible apply Pick.tail)))) hg.out (RC.pt.2 ⟨rfl, inI0, mkI_in h⟩) rfl⟩, H.ext⟩
set_option maxRecDepth 100000 in
set_option maxHeartbeats 1000000 in
theorem markTerm_calls {w : World} {i : Nat} (h : i < 12) : Calls Tryz.prog 66 #[.int .i64 1, .int .i64 i] w (PRd w (mkTm i).d) := by
  go_enter Tryz.func66, Tryz.ntmps66
  go_wp2_with fail
  have H := Hp.start no w
  refine callsH (by (repeat (first | with_reducible exact H | with_reducible exact H0_ | with_reducible apply Hp.alloc | with_reducible apply Hp.allocMap | with_reducible apply Hp.drew | with_reducible apply Hp.drewN | with_reducible apply Hp.set)); (try any_goals (repeat (first | with_reducible exact Upd.head | with_reducible apply Upd.tail)))) ?_
  clear H; intro w1 H; (try simp only [size_drew_, size_drewN_, World.size_alloc, World.size_setCell, List.set_cons_zero, List.set_cons_succ] at H)
  refine (mark_calls h).mono ?_
  rintro e w_ ⟨rfl, hx⟩
  replace H := H.call hx
  clear hx
  have hg := Lib.hid H.ext.size
  have hr_ := H.rules; simp only [Rules, and_true] at hr_; have hd_ := H.dif; simp only [Dif, Neq, and_true] at hd_; obtain ⟨ho_, hz_⟩ := H.old0
  go_wp2_with ((with_reducible refine atStore (t := 35) ?_); go_must (refine wpList_storeH (t := 35) rfl rfl (by go_simp <;> first | rfl | exact ⟨rfl, rfl⟩) (by go_simp <;> first | rfl | exact ⟨rfl, rfl⟩) (by exact Hp.norm (by (repeat (first | with_reducible exact H | with_reducible exact H0_ | with_reducible apply Hp.alloc | with_reducible apply Hp.allocMap | with_reducible apply Hp.drew | with_reducible apply Hp.drewN | with_reducible apply Hp.set)); (try any_goals (repeat (first | with_reducible exact Upd.head | with_reducible apply Upd.tail)))) (by ((try simp only [size_drew_, size_drewN_, World.size_alloc, World.size_setCell, List.set_cons_zero, List.set_cons_succ, List.nil_append, List.cons_append]) <;> rfl))) (by (repeat (first | with_reducible exact Upd.head | with_reducible apply Upd.tail))) (by exact aggTerm) (by rfl) (by simp [Value.oneCell']) ?_; clear H; intro w7 H; (try simp only [size_drew_, size_drewN_, World.size_alloc, World.size_setCell, List.set_cons_zero, List.set_cons_succ] at H); (try clear hr_ hd_ ho_ hz_); have hr_ := H.rules; simp only [Rules, and_true] at hr_; have hd_ := H.dif; simp only [Dif, Neq, and_true] at hd_; obtain ⟨ho_, hz_⟩ := H.old0))
  (try clear hr_ hd_ ho_ hz_)
  refine bodyPost_ret (v := .agg #[.int .i64 0, .int .i64 (mkI i), .int .i64 0, .slice none 0 0, .slice none 0 0]) (Res.one Tryz.results66 (H.resBox (g := w.heap.size) (by (repeat (first | with_reducible exact Pick.head | with_reducible apply Pick.tail))) aggTerm rfl rfl)) rfl ⟨_, rfl, tmZ_rc (mkI_in h), H.ext⟩
set_option maxRecDepth 100000 in
set_option maxHeartbeats 1000000 in
theorem markMember_calls {w : World} {i : Nat} (h : i < 12) : Calls Tryz.prog 175 #[.int .i64 1, .int .i64 i] w (PRd w (mkMb i).d) := by
  go_enter Tryz.func175, Tryz.ntmps175
  go_wp2_with fail
  have H := Hp.start no w
  refine callsH (by (repeat (first | with_reducible exact H | with_reducible exact H0_ | with_reducible apply Hp.alloc | with_reducible apply Hp.allocMap | with_reducible apply Hp.drew | with_reducible apply Hp.drewN | with_reducible apply Hp.set)); (try any_goals (repeat (first | with_reducible exact Upd.head | with_reducible apply Upd.tail)))) ?_
  clear H; intro w1 H; (try simp only [size_drew_, size_drewN_, World.size_alloc, World.size_setCell, List.set_cons_zero, List.set_cons_succ] at H)
  refine (mark_calls h).mono ?_
  rintro e w_ ⟨rfl, hx⟩
  replace H := H.call hx
  clear hx
  have hg := Lib.hid H.ext.size
  have hr_ := H.rules; simp only [Rules, and_true] at hr_; have hd_ := H.dif; simp only [Dif, Neq, and_true] at hd_; obtain ⟨ho_, hz_⟩ := H.old0
  go_wp2_with ((with_reducible refine atStore (t := 151) ?_); go_must (refine wpList_storeH (t := 151) rfl rfl (by go_simp <;> first | rfl | exact ⟨rfl, rfl⟩) (by go_simp <;> first | rfl | exact ⟨rfl, rfl⟩) (by exact Hp.norm (by (repeat (first | with_reducible exact H | with_reducible exact H0_ | with_reducible apply Hp.alloc | with_reducible apply Hp.allocMap | with_reducible apply Hp.drew | with_reducible apply Hp.drewN | with_reducible apply Hp.set)); (try any_goals (repeat (first | with_reducible exact Upd.head | with_reducible apply Upd.tail)))) (by ((try simp only [size_drew_, size_drewN_, World.size_alloc, World.size_setCell, List.set_cons_zero, List.set_cons_succ, List.nil_append, List.cons_append]) <;> rfl))) (by (repeat (first | with_reducible exact Upd.head | with_reducible apply Upd.tail))) (by exact aggMemberK) (by rfl) (by simp [Value.oneCell']) ?_; clear H; intro w7 H; (try simp only [size_drew_, size_drewN_, World.size_alloc, World.size_setCell, List.set_cons_zero, List.set_cons_succ] at H); (try clear hr_ hd_ ho_ hz_); have hr_ := H.rules; simp only [Rules, and_true] at hr_; have hd_ := H.dif; simp only [Dif, Neq, and_true] at hd_; obtain ⟨ho_, hz_⟩ := H.old0))
  (try clear hr_ hd_ ho_ hz_)
  refine bodyPost_ret (v := .agg #[.slice (some ⟨w_.heap.size, 0, none⟩) 1 1]) (Res.one Tryz.results175 (H.resBox (g := w.heap.size) (by (repeat (first | with_reducible exact Pick.head | with_reducible apply Pick.tail))) aggMemberK rfl rfl)) rfl ⟨[.slice (some ⟨w_.heap.size, 0, none⟩) 1 1], rfl, RC.mb.2 ⟨_, _, rfl, one_row (H.blk (g := w_.heap.size) (by (repeat (first | with_reducible exact Pick.head | with_reducible apply Pick.tail)))) hg.out (tmZ_rc (mkI_in h)) (Tm.size_d _)⟩, H.ext⟩
set_option maxRecDepth 100000 in
set_option maxHeartbeats 1000000 in
theorem markCtor_calls {w : World} {i : Nat} (h : i < 12) : Calls Tryz.prog 177 #[.int .i64 1, .int .i64 i] w (PRd w (mkCt i).d) := by
  go_enter Tryz.func177, Tryz.ntmps177
  go_wp2_with fail
  have H := Hp.start no w
  refine callsH (by (repeat (first | with_reducible exact H | with_reducible exact H0_ | with_reducible apply Hp.alloc | with_reducible apply Hp.allocMap | with_reducible apply Hp.drew | with_reducible apply Hp.drewN | with_reducible apply Hp.set)); (try any_goals (repeat (first | with_reducible exact Upd.head | with_reducible apply Upd.tail)))) ?_
  clear H; intro w1 H; (try simp only [size_drew_, size_drewN_, World.size_alloc, World.size_setCell, List.set_cons_zero, List.set_cons_succ] at H)
  refine (mark_calls h).mono ?_
  rintro e w_ ⟨rfl, hx⟩
  replace H := H.call hx
  clear hx
  have hg := Lib.hid H.ext.size
  have hr_ := H.rules; simp only [Rules, and_true] at hr_; have hd_ := H.dif; simp only [Dif, Neq, and_true] at hd_; obtain ⟨ho_, hz_⟩ := H.old0
  go_wp2_with ((with_reducible refine atStore (t := 153) ?_); go_must (refine wpList_storeH (t := 153) rfl rfl (by go_simp <;> first | rfl | exact ⟨rfl, rfl⟩) (by go_simp <;> first | rfl | exact ⟨rfl, rfl⟩) (by exact Hp.norm (by (repeat (first | with_reducible exact H | with_reducible exact H0_ | with_reducible apply Hp.alloc | with_reducible apply Hp.allocMap | with_reducible apply Hp.drew | with_reducible apply Hp.drewN | with_reducible apply Hp.set)); (try any_goals (repeat (first | with_reducible exact Upd.head | with_reducible apply Upd.tail)))) (by ((try simp only [size_drew_, size_drewN_, World.size_alloc, World.size_setCell, List.set_cons_zero, List.set_cons_succ, List.nil_append, List.cons_append]) <;> rfl))) (by (repeat (first | with_reducible exact Upd.head | with_reducible apply Upd.tail))) (by exact aggCtorK) (by rfl) (by simp [Value.oneCell']) ?_; clear H; intro w7 H; (try simp only [size_drew_, size_drewN_, World.size_alloc, World.size_setCell, List.set_cons_zero, List.set_cons_succ] at H); (try clear hr_ hd_ ho_ hz_); have hr_ := H.rules; simp only [Rules, and_true] at hr_; have hd_ := H.dif; simp only [Dif, Neq, and_true] at hd_; obtain ⟨ho_, hz_⟩ := H.old0))
  (try clear hr_ hd_ ho_ hz_)
  refine bodyPost_ret (v := .agg #[.int .i64 (mkI i), .int .i64 0, .int .i64 0, .int .i64 0, .slice none 0 0, .slice none 0 0]) (Res.one Tryz.results177 (H.resBox (g := w.heap.size) (by (repeat (first | with_reducible exact Pick.head | with_reducible apply Pick.tail))) aggCtorK rfl rfl)) rfl ⟨_, rfl, RC.ct.2 ⟨none, 0, none, 0, rfl, mkI_in h, tmZ_rc inI0⟩, H.ext⟩
set_option maxRecDepth 100000 in
set_option maxHeartbeats 4000000 in
theorem markDecl_calls {w : World} {i : Nat} (h : i < 12) : Calls Tryz.prog 65 #[.int .i64 1, .int .i64 i] w (PRd w (mkDc i).d) := by
  go_enter Tryz.func65, Tryz.ntmps65
  have H := Hp.start no w
  go_wp2_with fail
  refine callsH (by (repeat (first | with_reducible exact H | with_reducible exact H0_ | with_reducible apply Hp.alloc | with_reducible apply Hp.allocMap | with_reducible apply Hp.drew | with_reducible apply Hp.drewN | with_reducible apply Hp.set)); (try any_goals (repeat (first | with_reducible exact Upd.head | with_reducible apply Upd.tail)))) ?_
  clear H; intro w1 H; (try simp only [size_drew_, size_drewN_, World.size_alloc, World.size_setCell, List.set_cons_zero, List.set_cons_succ] at H)
  refine (mark_calls h).mono ?_
  rintro e w_ ⟨rfl, hx⟩
  replace H := H.call hx
  clear hx
  have hr_ := H.rules; simp only [Rules, and_true] at hr_; have hd_ := H.dif; simp only [Dif, Neq, and_true] at hd_; obtain ⟨ho_, hz_⟩ := H.old0
  go_wp2_with ((with_reducible refine atStore (t := 42) ?_); go_must (refine wpList_storeH (t := 42) rfl rfl (by go_simp <;> first | rfl | exact ⟨rfl, rfl⟩) (by go_simp <;> first | rfl | exact ⟨rfl, rfl⟩) (by exact Hp.norm (by (repeat (first | with_reducible exact H | with_reducible exact H0_ | with_reducible apply Hp.alloc | with_reducible apply Hp.allocMap | with_reducible apply Hp.drew | with_reducible apply Hp.drewN | with_reducible apply Hp.set)); (try any_goals (repeat (first | with_reducible exact Upd.head | with_reducible apply Upd.tail)))) (by ((try simp only [size_drew_, size_drewN_, World.size_alloc, World.size_setCell, List.set_cons_zero, List.set_cons_succ, List.nil_append, List.cons_append]) <;> rfl))) (by (repeat (first | with_reducible exact Upd.head | with_reducible apply Upd.tail))) (by exact aggDecl) (by rfl) (by simp [Value.oneCell']) ?_; clear H; intro w7 H; (try simp only [size_drew_, size_drewN_, World.size_alloc, World.size_setCell, List.set_cons_zero, List.set_cons_succ] at H); (try clear hr_ hd_ ho_ hz_); have hr_ := H.rules; simp only [Rules, and_true] at hr_; have hd_ := H.dif; simp only [Dif, Neq, and_true] at hd_; obtain ⟨ho_, hz_⟩ := H.old0))
  (try clear hr_ hd_ ho_ hz_)
  refine bodyPost_ret (v := .agg #[.int .i64 0, .int .i64 (mkI i), .int .i64 0, .int .i64 0, .int .i64 0, .slice none 0 0, .slice none 0 0, .int .i64 0, .int .i64 0, .int .i64 0, .slice none 0 0, .slice none 0 0, .slice none 0 0, .slice none 0 0, .slice none 0 0, .slice none 0 0]) (Res.one Tryz.results65 (H.resBox (by (repeat (first | with_reducible exact Pick.head | with_reducible apply Pick.tail))) aggDecl rfl rfl)) rfl ⟨_, rfl, RC.dc.2 ⟨none, 0, none, 0, none, 0, none, 0, none, 0, none, 0, none, 0, none, 0, rfl, inI0, mkI_in h, tmZ_rc inI0, tmZ_rc inI0, RC.nil, RC.nil, RC.nil, RC.nil⟩, H.ext⟩
end Go.Proofs.YteelplgdojjakaaGreatDoor
/- law 11: self, nat, great: contracts; the chapter's example as data. No statement of the seat is proved here. -/
namespace Go.Proofs.YteelplgdojjakaaGreatDoor
set_option linter.unusedSimpArgs false
set_option linter.unusedVariables false
open Go.RowKit

abbrev tmV (k n a : Int) : Value := .agg #[.int .i64 k, .int .i64 n, .int .i64 a, .slice none 0 0, .slice none 0 0]
set_option maxRecDepth 100000 in
set_option maxHeartbeats 2000000 in
theorem self11_calls {w : World} {n : Int} : Calls Tryz.prog 189 #[.int .i64 n] w (PV w (tmV 11 0 n)) := by
  go_enter Tryz.func189, Tryz.ntmps189
  have H := Hp.start no w
  go_wp2_with ((with_reducible refine atStore (t := 35) ?_); go_must (refine wpList_storeH (t := 35) rfl rfl (by go_simp <;> first | rfl | exact ⟨rfl, rfl⟩) (by go_simp <;> first | rfl | exact ⟨rfl, rfl⟩) (by exact Hp.norm (by (repeat (first | with_reducible exact H | with_reducible exact H0_ | with_reducible apply Hp.alloc | with_reducible apply Hp.allocMap | with_reducible apply Hp.drew | with_reducible apply Hp.drewN | with_reducible apply Hp.set)); (try any_goals (repeat (first | with_reducible exact Upd.head | with_reducible apply Upd.tail)))) (by ((try simp only [size_drew_, size_drewN_, World.size_alloc, World.size_setCell, List.set_cons_zero, List.set_cons_succ, List.nil_append, List.cons_append]) <;> rfl))) (by (repeat (first | with_reducible exact Upd.head | with_reducible apply Upd.tail))) (by exact aggTerm) (by rfl) (by simp [Value.oneCell']) ?_; clear H; intro w7 H; (try simp only [size_drew_, size_drewN_, World.size_alloc, World.size_setCell, List.set_cons_zero, List.set_cons_succ] at H); (try clear hr_ hd_ ho_ hz_); have hr_ := H.rules; simp only [Rules, and_true] at hr_; have hd_ := H.dif; simp only [Dif, Neq, and_true] at hd_; obtain ⟨ho_, hz_⟩ := H.old0))
  (try clear hr_ hd_ ho_ hz_)
  exact bodyPost_ret (v := tmV 11 0 n) (Res.one Tryz.results189 (H.resBox (by (repeat (first | with_reducible exact Pick.head | with_reducible apply Pick.tail))) aggTerm rfl rfl)) rfl ⟨rfl, H.ext⟩
def tmS (n : Int) : Tm := .mk 11 0 n [] []
def piT : Tm := .mk 4 0 0 [] [tmS 0, tmS 0]
def natDc : Dc := ⟨3, 0, tmZ, tmZ, [], [], [⟨[]⟩], [⟨0, tmS 0⟩, ⟨0, piT⟩]⟩
theorem rowOf {w : World} {S : Nat → Prop} {e z g t n : Nat} {ds : List D} {cs : List Value} (hb : Blk w g t cs.toArray) (hS : S g) (h : RCs w S ds cs) (hz : ∀ d ∈ ds, d.size = z) (hn : n = ds.length) (hM : ds.length ≤ 1000) : RC w S (.l e z ds) [.slice (some ⟨g, 0, none⟩) n n] := by
  subst hn
  unfold RC
  refine ⟨_, _, rfl, Nat.le_refl _, by unfold maxLen; omega, by unfold M; omega, hz, .inr ⟨g, 0, cs, rfl, hb.lt, hS, h, fun j u hu => ?_⟩⟩
  rw [Nat.zero_add, hb.cells j]
  simpa using hu
theorem RCs.two {w : World} {S : Nat → Prop} {a b : D} {c1 c2 : List Value} (h : RC w S a c1) (k : RC w S b c2) : RCs w S [a, b] (c1 ++ c2) := by
  unfold RCs
  exact ⟨c1, c2, rfl, h, RCs.single k⟩
theorem tmN_rc {w : World} {S : Nat → Prop} {k n a : Int} (h : inI k ∧ inI n ∧ inI a) : RC w S (Tm.mk k n a [] []).d [.int .i64 k, .int .i64 n, .int .i64 a, .slice none 0 0, .slice none 0 0] := RC.tm.2 ⟨none, 0, none, 0, rfl, h.1, h.2.1, h.2.2, RC.nil, RC.nil⟩
set_option maxRecDepth 100000 in
set_option maxHeartbeats 4000000 in
theorem nat11_calls {w : World} : Calls Tryz.prog 116 #[] w (PRd w natDc.d) := by
  go_enter Tryz.func116, Tryz.ntmps116
  go_wp2_with fail
  have H := Hp.start no w
  refine callsH (by (repeat (first | with_reducible exact H | with_reducible exact H0_ | with_reducible apply Hp.alloc | with_reducible apply Hp.allocMap | with_reducible apply Hp.drew | with_reducible apply Hp.drewN | with_reducible apply Hp.set)); (try any_goals (repeat (first | with_reducible exact Upd.head | with_reducible apply Upd.tail)))) ?_
  clear H; intro w1 H; (try simp only [size_drew_, size_drewN_, World.size_alloc, World.size_setCell, List.set_cons_zero, List.set_cons_succ] at H)
  have hz0 := Lib.hid H.ext.size
  refine (self11_calls).mono ?_
  rintro e w_ ⟨rfl, hx⟩
  replace H := H.call hx
  clear hx
  have hr_ := H.rules; simp only [Rules, and_true] at hr_; have hd_ := H.dif; simp only [Dif, Neq, and_true] at hd_; obtain ⟨ho_, hz_⟩ := H.old0
  go_wp2_with fail
  (try clear hr_ hd_ ho_ hz_)
  refine (self11_calls).mono ?_
  rintro e w_ ⟨rfl, hx⟩
  replace H := H.call hx
  clear hx
  have hr_ := H.rules; simp only [Rules, and_true] at hr_; have hd_ := H.dif; simp only [Dif, Neq, and_true] at hd_; obtain ⟨ho_, hz_⟩ := H.old0
  go_wp2_with fail
  (try clear hr_ hd_ ho_ hz_)
  refine (self11_calls).mono ?_
  rintro e w_ ⟨rfl, hx⟩
  replace H := H.call hx
  clear hx
  have hz2 := Lib.hid H.ext.size
  have hr_ := H.rules; simp only [Rules, and_true] at hr_; have hd_ := H.dif; simp only [Dif, Neq, and_true] at hd_; obtain ⟨ho_, hz_⟩ := H.old0
  go_wp2_with ((with_reducible refine atStore (t := 42) ?_); go_must (refine wpList_storeH (t := 42) rfl rfl (by go_simp <;> first | rfl | exact ⟨rfl, rfl⟩) (by go_simp <;> first | rfl | exact ⟨rfl, rfl⟩) (by exact Hp.norm (by (repeat (first | with_reducible exact H | with_reducible exact H0_ | with_reducible apply Hp.alloc | with_reducible apply Hp.allocMap | with_reducible apply Hp.drew | with_reducible apply Hp.drewN | with_reducible apply Hp.set)); (try any_goals (repeat (first | with_reducible exact Upd.head | with_reducible apply Upd.tail)))) (by ((try simp only [size_drew_, size_drewN_, World.size_alloc, World.size_setCell, List.set_cons_zero, List.set_cons_succ, List.nil_append, List.cons_append]) <;> rfl))) (by (repeat (first | with_reducible exact Upd.head | with_reducible apply Upd.tail))) (by exact aggDecl) (by rfl) (by simp [Value.oneCell']) ?_; clear H; intro w7 H; (try simp only [size_drew_, size_drewN_, World.size_alloc, World.size_setCell, List.set_cons_zero, List.set_cons_succ] at H); (try clear hr_ hd_ ho_ hz_); have hr_ := H.rules; simp only [Rules, and_true] at hr_; have hd_ := H.dif; simp only [Dif, Neq, and_true] at hd_; obtain ⟨ho_, hz_⟩ := H.old0))
  (try clear hr_ hd_ ho_ hz_)
  have hz1 : w.heap.size ≤ w_.heap.size := hz2.out
  have b1 := H.blk (g := w_.heap.size) (by (repeat (first | with_reducible exact Pick.head | with_reducible apply Pick.tail)))
  have b2 := H.blk (g := w_.heap.size + 1) (by (repeat (first | with_reducible exact Pick.head | with_reducible apply Pick.tail)))
  have b3 := H.blk (g := w.heap.size + 1) (by (repeat (first | with_reducible exact Pick.head | with_reducible apply Pick.tail)))
  have k1 : RC w7 (fun k => w.heap.size ≤ k) (.l 35 5 ([tmS 0, tmS 0].map Tm.d)) [.slice (some ⟨w_.heap.size, 0, none⟩) 2 2] := rowOf b1 hz1 (RCs.two (tmN_rc (by unfold inI; omega)) (tmN_rc (by unfold inI; omega))) (by simp [Tm.size_d]) rfl (by simp)
  have k2 : RC w7 (fun k => w.heap.size ≤ k) (.l 151 1 (natDc.members.map Mb.d)) [.slice (some ⟨w.heap.size + 1, 0, none⟩) 1 1] := rowOf b3 (by omega) (RCs.single (RC.mb.2 ⟨none, 0, rfl, RC.nil⟩)) (by simp [natDc, Mb.size_d]) rfl (by simp [natDc])
  have k3 : RC w7 (fun k => w.heap.size ≤ k) (.l 153 6 (natDc.ctors.map Ct.d)) [.slice (some ⟨w_.heap.size + 1, 0, none⟩) 2 2] := rowOf b2 (by omega) (RCs.two (c1 := [.int .i64 0, .int .i64 11, .int .i64 0, .int .i64 0, .slice none 0 0, .slice none 0 0]) (RC.ct.2 ⟨none, 0, none, 0, rfl, inI0, tmN_rc (by unfold inI; omega)⟩) (RC.ct.2 ⟨none, 0, some ⟨w_.heap.size, 0, none⟩, 2, rfl, inI0, RC.tm.2 ⟨none, 0, some ⟨w_.heap.size, 0, none⟩, 2, rfl, by unfold inI piT; simp [Tm.k_mk], inI0, inI0, RC.nil, k1⟩⟩)) (by simp [natDc, Ct.size_d]) rfl (by simp [natDc])
  refine bodyPost_ret (v := .agg #[.int .i64 3, .int .i64 0, .int .i64 0, .int .i64 0, .int .i64 0, .slice none 0 0, .slice none 0 0, .int .i64 0, .int .i64 0, .int .i64 0, .slice none 0 0, .slice none 0 0, .slice none 0 0, .slice none 0 0, .slice (some ⟨w.heap.size + 1, 0, none⟩) 1 1, .slice (some ⟨w_.heap.size + 1, 0, none⟩) 2 2])
    (Res.one Tryz.results116 (H.resBox (g := w.heap.size) (by (repeat (first | with_reducible exact Pick.head | with_reducible apply Pick.tail))) aggDecl rfl rfl)) rfl ⟨_, rfl, RC.dc.2 ⟨none, 0, none, 0, none, 0, none, 0, none, 0, none, 0, some ⟨w.heap.size + 1, 0, none⟩, 1, some ⟨w_.heap.size + 1, 0, none⟩, 2, rfl, by unfold inI natDc; simp, inI0, tmZ_rc inI0, tmZ_rc inI0, RC.nil, RC.nil, k2, k3⟩, H.ext⟩
theorem aw1 : srcQ [natDc] 0 0 0 (.mk 9 0 1 [] []) = true := by kernel_rfl
theorem aw2 : srcQ [natDc] 0 0 0 (.mk 9 0 2 [] []) = false := by kernel_rfl
theorem aw3 : srcQ [natDc] 0 0 0 (.mk 10 0 0 [[]] []) = true := by kernel_rfl
theorem aw4 : srcQ [natDc] 0 0 0 (.mk 10 0 0 [] []) = false := by kernel_rfl
theorem aw5 : declQ [] natDc = true := by kernel_rfl
def dcZero : Dc := ⟨0, 0, tmZ, tmZ, [], [], [], []⟩
theorem aw6 : declQ [] dcZero = false := by kernel_rfl
/-- A truth, and old memory as it was. -/
def PAny11 (w : World) (e : Ending) (w' : World) : Prop := ∃ q : Bool, e = .returned (.bool q) ∧ Ext no w w'
set_option maxRecDepth 100000 in
set_option maxHeartbeats 2000000 in
theorem great11_calls {w : World} {S S2 : Nat → Prop} {ds : List Dc} {ts : List Tm} {A B : Option Addr} {n c m cb : Nat} (h : RC w S (.l 42 16 (ds.map Dc.d)) [.slice A n c]) (hn : n = ds.length) (k : RC w S2 (.l 35 5 (ts.map Tm.d)) [.slice B m cb]) (hm : m = ts.length) :
    Calls Tryz.prog 52 #[.slice A n c, .slice B m cb] w (PAny11 w) := by
  subst hn hm
  have HH := Lib.hid h
  have HK := Lib.hid k
  clear h k
  go_enter Tryz.func52, Tryz.ntmps52
  go_wp2_with fail
  have H := Hp.start no w
  refine callsH (by (repeat (first | with_reducible exact H | with_reducible exact H0_ | with_reducible apply Hp.alloc | with_reducible apply Hp.allocMap | with_reducible apply Hp.drew | with_reducible apply Hp.drewN | with_reducible apply Hp.set)); (try any_goals (repeat (first | with_reducible exact Upd.head | with_reducible apply Upd.tail)))) ?_
  clear H; intro w1 H; (try simp only [size_drew_, size_drewN_, World.size_alloc, World.size_setCell, List.set_cons_zero, List.set_cons_succ] at H)
  refine (declsOf_calls (HH.out.ext0 H.ext) 1500).mono ?_
  rintro e w_ ⟨rfl, hx⟩
  replace H := H.call hx
  clear hx
  obtain ⟨N, hN⟩ : ∃ N, N = cntS (declF 1500) 1500 ds 0 := ⟨_, rfl⟩
  rw [← hN]
  clear hN
  go_wp2_with fail
  refine (termsOf_calls (HK.out.ext0 H.ext) 1500).mono ?_
  rintro e w_ ⟨rfl, hx⟩
  replace H := H.call hx
  clear hx
  obtain ⟨N2, hN2⟩ : ∃ N2, N2 = termsOfS 1500 ts := ⟨_, rfl⟩
  rw [← hN2]
  clear hN2
  go_wp2_with fail
  go_ret
  exact ⟨_, rfl, H.ext⟩
end Go.Proofs.YteelplgdojjakaaGreatDoor
