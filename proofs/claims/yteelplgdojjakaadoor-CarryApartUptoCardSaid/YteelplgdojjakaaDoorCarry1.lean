/- carry: how many constants a declaration has, the bases, a name's declaration: contracts. -/
import Derived.Test.YteelplgdojjakaaDoorMust
import Derived.Test.YteelplgdojjakaaDoorCarrySpec
namespace Go.Proofs.YteelplgdojjakaaDoor
set_option linter.unusedSimpArgs false
set_option linter.unusedVariables false
open Go.RowKit

theorem RC.dcs {w : World} {S : Nat → Prop} {x : Dc} {Aty Kty Abody Kbody Aparams Asort Amembers Actors : Option Addr} {cty kty cbody kbody cparams csort cmembers cctors : Nat} (h : RC w S x.d [.int .i64 x.kind, .int .i64 x.levels, .int .i64 x.ty.k, .int .i64 x.ty.n, .int .i64 x.ty.a, .slice Aty x.ty.ls.length cty, .slice Kty x.ty.ks.length kty, .int .i64 x.body.k, .int .i64 x.body.n, .int .i64 x.body.a, .slice Abody x.body.ls.length cbody, .slice Kbody x.body.ks.length kbody, .slice Aparams x.params.length cparams, .slice Asort x.sort.length csort, .slice Amembers x.members.length cmembers, .slice Actors x.ctors.length cctors]) :
    inI x.kind ∧ inI x.levels ∧ RC w S x.ty.d [.int .i64 x.ty.k, .int .i64 x.ty.n, .int .i64 x.ty.a, .slice Aty x.ty.ls.length cty, .slice Kty x.ty.ks.length kty] ∧ RC w S x.body.d [.int .i64 x.body.k, .int .i64 x.body.n, .int .i64 x.body.a, .slice Abody x.body.ls.length cbody, .slice Kbody x.body.ks.length kbody] ∧
    RC w S (.l 30 5 (x.params.map Tm.d)) [.slice Aparams x.params.length cparams] ∧ RC w S (.l 68 2 (x.sort.map ptD)) [.slice Asort x.sort.length csort] ∧ RC w S (.l 64 1 (x.members.map Mb.d)) [.slice Amembers x.members.length cmembers] ∧ RC w S (.l 70 6 (x.ctors.map Ct.d)) [.slice Actors x.ctors.length cctors] := by
  obtain ⟨_Aty, _cty, _Kty, _kty, _Abody, _cbody, _Kbody, _kbody, _Aparams, _cparams, _Asort, _csort, _Amembers, _cmembers, _Actors, _cctors, he, hr⟩ := RC.dc.1 h
  simp only [List.cons.injEq, Value.slice.injEq, and_true, true_and] at he
  obtain ⟨⟨rfl, rfl⟩, ⟨rfl, rfl⟩, ⟨rfl, rfl⟩, ⟨rfl, rfl⟩, ⟨rfl, rfl⟩, ⟨rfl, rfl⟩, ⟨rfl, rfl⟩, rfl, rfl⟩ := he
  exact hr
/-- The value of a declaration that can be read. -/
def DV (w : World) (S : Nat → Prop) (d : Dc) (v : Value) : Prop := ∃ cs, v = .agg cs.toArray ∧ RC w S d.d cs
theorem DV.ext0 {w w' : World} {S : Nat → Prop} {d : Dc} {v : Value} (h : DV w S d v) (hx : Ext no w w') : DV w' S d v := by
  obtain ⟨cs, rfl, h⟩ := h
  exact ⟨cs, rfl, h.ext0 hx⟩
set_option maxHeartbeats 1000000 in
/-- Count, of whatever rows: it reads the kind and two lengths. -/
theorem count_of {w : World} {k r : Int} {v1 v2 v3 v4 v5 v6 v7 v8 v9 v10 v11 v12 v13 : Value} {A B : Option Addr} {m n c e : Nat} (hm : m ≤ 4294967296) (hn : n ≤ 4294967296) (HR : Hid ((if k = 1 ∨ k = 2 then 1 else if k = 3 then 6 + 2 * (m : Int) + 2 * (n : Int) else 0) = r)) :
    Calls Tryd.prog 15 #[.agg #[.int .i64 k, v1, v2, v3, v4, v5, v6, v7, v8, v9, v10, v11, v12, v13, .slice A m c, .slice B n e]] w (PV w (.int .i64 r)) := by
  by_cases h1 : k = 1
  · subst h1
    go_enter Tryd.func15, Tryd.ntmps15
    go_wp2_with fail
    go_ret
    exact ⟨by rw [← HR.out]; rfl, (by repeat (first | with_reducible assumption | with_reducible exact Ext.refl _ _ | with_reducible refine Ext.alloc ?_ _ | with_reducible refine Ext.drew ?_ | with_reducible refine Ext.drewN ?_ _ | with_reducible refine Ext.setR ?_ ?_ _ | (dsimp only; omega) | (simp; done) | (simp; omega)))⟩
  · have g1 : (k == 1) = false := by simpa using h1
    by_cases h2 : k = 2
    · subst h2
      go_enter Tryd.func15, Tryd.ntmps15
      go_wp2_with fail
      go_ret
      exact ⟨by rw [← HR.out]; rfl, (by repeat (first | with_reducible assumption | with_reducible exact Ext.refl _ _ | with_reducible refine Ext.alloc ?_ _ | with_reducible refine Ext.drew ?_ | with_reducible refine Ext.drewN ?_ _ | with_reducible refine Ext.setR ?_ ?_ _ | (dsimp only; omega) | (simp; done) | (simp; omega)))⟩
    · have g2 : (k == 2) = false := by simpa using h2
      by_cases h3 : k = 3
      · subst h3
        clear h1 h2 g1 g2
        go_enter Tryd.func15, Tryd.ntmps15
        go_wp2_with fail
        go_ret
        refine ⟨?_, (by repeat (first | with_reducible assumption | with_reducible exact Ext.refl _ _ | with_reducible refine Ext.alloc ?_ _ | with_reducible refine Ext.drew ?_ | with_reducible refine Ext.drewN ?_ _ | with_reducible refine Ext.setR ?_ ?_ _ | (dsimp only; omega) | (simp; done) | (simp; omega)))⟩
        have hr : 6 + 2 * (m : Int) + 2 * (n : Int) = r := by simpa using HR.out
        rw [← hr]
        rfl
      · have g3 : (k == 3) = false := by simpa using h3
        have H := Lib.hid (And.intro h1 (And.intro h2 h3))
        clear h1 h2 h3
        go_enter Tryd.func15, Tryd.ntmps15
        go_wp2_with fail
        go_ret
        refine ⟨?_, (by repeat (first | with_reducible assumption | with_reducible exact Ext.refl _ _ | with_reducible refine Ext.alloc ?_ _ | with_reducible refine Ext.drew ?_ | with_reducible refine Ext.drewN ?_ _ | with_reducible refine Ext.setR ?_ ?_ _ | (dsimp only; omega) | (simp; done) | (simp; omega)))⟩
        have hr := HR.out
        have hh := H.out
        rw [if_neg (by omega), if_neg (by omega)] at hr
        rw [← hr]
        rfl
theorem count_calls {w : World} {S : Nat → Prop} {d : Dc} {v : Value} (h : DV w S d v) : Calls Tryd.prog 15 #[v] w (PV w (.int .i64 (countD d))) := by
  obtain ⟨cs, rfl, h⟩ := h
  obtain ⟨Aty, cty, Kty, kty, Abody, cbody, Kbody, kbody, Aparams, cparams, Asort, csort, Amembers, cmembers, Actors, cctors, rfl, _⟩ := RC.dc.1 h
  obtain ⟨i1, i2, ht, hb, hp, hs, hm, hc⟩ := h.dcs
  exact count_of hm.lenM.1 hc.lenM.1 (Lib.hid rfl)
/-- A number, or absent is thrown. -/
def PMay (w : World) (o : Option Int) (e : Ending) (w' : World) : Prop := e = (match o with | some n => .returned (.int .i64 n) | none => .panicked absent) ∧ Ext no w w'
theorem within_calls {w : World} {k a m : Int} {cs : List Value} (h0 : cs[0]? = some (.int .i64 k)) :
    Calls Tryd.prog 168 #[.agg cs.toArray, .int .i64 a, .int .i64 m] w (PMay w (if k = 3 ∧ 0 ≤ a ∧ a < m then some a else none)) := by
  generalize hR : (if k = 3 ∧ 0 ≤ a ∧ a < m then some a else none) = r
  have HR := Lib.hid hR
  clear hR
  go_enter Tryd.func168, Tryd.ntmps168
  go_wp2_with fail
  refine (must_calls (Blk.truths3 (Blk.new (g := w.heap.size + 1) (by simp))) rfl).mono ?_
  rintro e w1 ⟨he, hx1⟩
  have hx0 : Ext no w w1 := Ext.seq (by repeat (first | with_reducible assumption | with_reducible exact Ext.refl _ _ | with_reducible refine Ext.alloc ?_ _ | with_reducible refine Ext.drew ?_ | with_reducible refine Ext.drewN ?_ _ | with_reducible refine Ext.setR ?_ ?_ _ | (dsimp only; omega) | (simp; done) | (simp; omega))) hx1
  cases hq : [k == 3, decide (0 ≤ a), decide (a < m)].all id
  · rw [hq] at he
    obtain rfl := he
    have HQ := Lib.hid hq
    clear hq
    go_wp2_with fail
    refine ⟨rfl, ?_, hx0⟩
    rw [← HR.out, if_neg]
    simpa using HQ.out
  · rw [hq] at he
    obtain rfl := he
    have HQ := Lib.hid hq
    clear hq
    go_wp2_with fail
    go_ret
    refine ⟨?_, hx0⟩
    rw [← HR.out, if_pos (by simpa using HQ.out)]
    rfl
end Go.Proofs.YteelplgdojjakaaDoor
