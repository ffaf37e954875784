/- What the row's list gives: the table of kinds. -/
import Derived.Test.YtmedomglemllnaaGreatDoorMgWalkG
import Derived.Test.YtmedomglemllnaaGreatDoorRows
import Derived.Lib.LaidTab
import Derived.OpenShut
namespace Go.Proofs.YtmedomglemllnaaGreatDoor
set_option linter.unusedSimpArgs false
set_option linter.unusedVariables false
open Go.RowKit

theorem one_cell {H : Type} {enc : TypeId × Value → H} {P : Program} {w : World} {base : Nat} {sp : Nat → Bool} {held : Bool} {fuel : Nat} {t : TypeId} {cs : List Value} {b : Bool} {p : List MemPlace}
    (ht : P.underlying t = some .bool) (h : DataW.trod enc P w base sp held fuel t cs = some (.lit (.bool b), p)) : cs = [.bool b] := by
  obtain ⟨b', h1, h2⟩ := DataW.trod_bool ht h
  simp only [Prod.mk.injEq, DataW.lit.injEq, Lit.bool.injEq] at h2
  rw [h1, h2.1]
theorem one_cellI {H : Type} {enc : TypeId × Value → H} {P : Program} {w : World} {base : Nat} {sp : Nat → Bool} {held : Bool} {fuel : Nat} {t : TypeId} {cs : List Value} {k : IntKind} {z : Int} {p : List MemPlace}
    (ht : P.underlying t = some (.int k)) (h : DataW.trod enc P w base sp held fuel t cs = some (.lit (.int k z), p)) : cs = [.int k z] := by
  obtain ⟨b', h1, h2, _⟩ := DataW.trod_int ht h
  simp only [Prod.mk.injEq, DataW.lit.injEq, Lit.int.injEq, true_and] at h2
  rw [h1, h2.1]
abbrev Kd := Bool × Bool × Int × Int × Int
def rowD {H : Type} (x : Kd) : DataW H := .agg [.lit (.bool x.1), .lit (.bool x.2.1), .lit (.int .i64 x.2.2.1), .lit (.int .i64 x.2.2.2.1), .lit (.int .i64 x.2.2.2.2)]
def rowC (x : Kd) : List Value := [.bool x.1, .bool x.2.1, .int .i64 x.2.2.1, .int .i64 x.2.2.2.1, .int .i64 x.2.2.2.2]
theorem chunks : ∀ (ks : List Kd) (cs : List Value), cs.length = ks.length * 5 → (∀ i (h : i < ks.length), (cs.drop (i * 5)).take 5 = rowC ks[i]) → cs = ks.flatMap rowC
  | [], cs, hl, _ => by simpa using hl
  | k :: ks, cs, hl, h => by
    have h0 := h 0 (by simp)
    simp only [Nat.zero_mul, List.drop_zero, List.getElem_cons_zero] at h0
    have ih := chunks ks (cs.drop 5) (by simp at hl ⊢; omega) (fun i hi => by
      have := h (i + 1) (by simpa using hi)
      rw [List.drop_drop]
      rw [show 5 + i * 5 = (i + 1) * 5 by omega]
      simpa using this)
    rw [List.flatMap_cons, ← ih, ← h0, List.take_append_drop]
theorem five {α : Type} (cs : List α) (h : cs.length = 5) : ∃ a b c d e, cs = [a, b, c, d, e] := by
  match cs, h with
  | [a, b, c, d, e], _ => exact ⟨a, b, c, d, e, rfl⟩
theorem has_row {H : Type} {enc : TypeId × Value → H} {w : World} {base : Nat} {sp : Nat → Bool} {held : Bool} {fuel : Nat} {cs : List Value} {x : Kd} {p : List MemPlace}
    (h : DataW.trod enc Tryz.prog w base sp held fuel 299 cs = some (rowD x, p)) : cs = rowC x := by
  obtain ⟨xs, n, rfl, hx, hl, hxl, hf⟩ := DataW.trod_struct Tryz.underlying299 h
  have hl5 : cs.length = 5 := hl.trans (by kernel_rfl)
  have hm : xs.map (·.1) = [.lit (.bool x.1), .lit (.bool x.2.1), .lit (.int .i64 x.2.2.1), .lit (.int .i64 x.2.2.2.1), .lit (.int .i64 x.2.2.2.2)] := by
    have := congrArg Prod.fst hx
    simpa [rowD] using this.symm
  obtain ⟨⟨d0, p0⟩, ⟨d1, p1⟩, ⟨d2, p2⟩, ⟨d3, p3⟩, ⟨d4, p4⟩, rfl⟩ := five xs (hxl.trans (by rfl))
  focus
    simp only [List.map_cons, List.map_nil, List.cons.injEq, and_true] at hm
    obtain ⟨rfl, rfl, rfl, rfl, rfl⟩ := hm
    have e0 : (cs.drop 0).take (Tryz.prog.cellsOf 4) = [.bool x.1] := one_cell Tryz.underlying4 (hf 0 _ rfl)
    have e1 : (cs.drop 1).take (Tryz.prog.cellsOf 4) = [.bool x.2.1] := one_cell Tryz.underlying4 (hf 1 _ rfl)
    have e2 : (cs.drop 2).take (Tryz.prog.cellsOf 3) = [.int .i64 x.2.2.1] := one_cellI Tryz.underlying3 (hf 2 _ rfl)
    have e3 : (cs.drop 3).take (Tryz.prog.cellsOf 3) = [.int .i64 x.2.2.2.1] := one_cellI Tryz.underlying3 (hf 3 _ rfl)
    have e4 : (cs.drop 4).take (Tryz.prog.cellsOf 3) = [.int .i64 x.2.2.2.2] := one_cellI Tryz.underlying3 (hf 4 _ rfl)
    have b1 : Tryz.prog.cellsOf 4 = 1 := by kernel_rfl
    have b2 : Tryz.prog.cellsOf 3 = 1 := by kernel_rfl
    rw [b1] at e0 e1
    rw [b2] at e2 e3 e4
    clear hf hl hx b1 b2
    obtain ⟨c0, c1, c2, c3, c4, rfl⟩ := five cs hl5
    focus
      simp only [List.drop_succ_cons, List.drop_zero, List.take_succ_cons, List.take_zero, List.cons.injEq, and_true] at e0 e1 e2 e3 e4
      simp [rowC, e0, e1, e2, e3, e4]
theorem kinds_data {H : Type} : (Rows.laid_spandrel_term_kinds : DataW H) = .agg (kindsL.map rowD) := rfl
theorem tab_of_laid {W : World} (h : laidMet Tryz.prog [("spandrel/term.kinds", Rows.laid_spandrel_term_kinds)] W) : Tab W := by
  obtain ⟨ps, ⟨g, t, cs, fuel, p, q, hg, ht, hvar, hd, _, _⟩, _⟩ := h
  have hg' : Tryz.prog.globalNamed "spandrel/term.kinds" = some 0 := by kernel_rfl
  obtain rfl := Option.some.inj (hg'.symm.trans hg)
  have ht' : (Tryz.prog.globals[(0 : Nat)]?).map (·.type) = some 300 := by kernel_rfl
  obtain rfl := Option.some.inj (ht'.symm.trans ht)
  rw [kinds_data] at hd
  obtain ⟨xs, m, rfl, hx, hl, hxl, hf⟩ := DataW.trod_array Tryz.underlying300 hd
  have hm : xs.map (·.1) = kindsL.map rowD := by
    have := congrArg Prod.fst hx
    simpa using this.symm
  have hl5 : cs.toList.length = 125 := hl.trans (by kernel_rfl)
  have c5 : Tryz.prog.cellsOf 299 = 5 := by kernel_rfl
  rw [c5] at hf
  have hk : kindsL.length = 25 := by rfl
  have hcs : cs.toList = kindsL.flatMap rowC := by
    refine chunks kindsL cs.toList (by rw [hl5, hk]) (fun i hi => ?_)
    have h1 := hf i (by rw [hk] at hi; exact hi)
    have h2 : (xs.map (·.1))[i]? = some (rowD kindsL[i]) := by rw [hm]; simp [hi]
    rw [List.getElem?_map] at h2
    obtain ⟨y, hy, hy2⟩ := Option.map_eq_some_iff.1 h2
    obtain ⟨d, p'⟩ := y
    obtain rfl : d = rowD kindsL[i] := hy2
    rw [hy] at h1
    exact has_row h1
  intro j u hu
  have hc := World.var?_cell hg' hvar j
  rw [hc, ← Array.getElem?_toList, hcs]
  exact hu
end Go.Proofs.YtmedomglemllnaaGreatDoor
