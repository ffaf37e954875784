/- The parts of a struct that can be read. No statement of the seat is proved here. -/
import Derived.Test.YteelplgdojjakaaDoorTypes
namespace Go.Proofs.YteelplgdojjakaaDoor
set_option linter.unusedSimpArgs false
set_option linter.unusedVariables false
open Go.RowKit
section
variable {w : World} {S : Nat → Prop}
theorem RC.lvI {x : Lv} {v : Value} (h : RC w S (lvD x) [v]) : RC w S (.l 68 2 (x.map ptD)) [v] := by
  obtain ⟨A, c, he, hr⟩ := RC.lv.1 h
  obtain rfl : v = _ := by simpa using he
  exact hr
theorem RC.mbI {x : Mb} {v : Value} (h : RC w S x.d [v]) : RC w S (.l 30 5 (x.index.map Tm.d)) [v] := by
  obtain ⟨A, c, he, hr⟩ := RC.mb.1 h
  obtain rfl : v = _ := by simpa using he
  exact hr
theorem RC.ctT {x : Ct} {v : Value} {cs : List Value} (h : RC w S x.d (v :: cs)) : RC w S x.ty.d cs := by
  obtain ⟨_, _, _, _, he, _, hr⟩ := RC.ct.1 h
  simp only [List.cons.injEq] at he
  obtain ⟨rfl, rfl⟩ := he
  exact hr
theorem RC.arP {x : Ar} {v0 v1 v2 v3 v4 v5 v6 v7 v8 : Value} (h : RC w S x.d [v0, v1, v2, v3, v4, v5, v6, v7, v8]) : RC w S x.ty.d [v1, v2, v3, v4, v5] ∧ RC w S (.l 30 5 (x.tele.map Tm.d)) [v6] ∧ RC w S (.l 30 5 (x.index.map Tm.d)) [v8] ∧ inI x.member := by
  obtain ⟨_, _, _, _, _, _, _, _, he, hr⟩ := RC.ar.1 h
  simp only [List.cons.injEq, and_true] at he
  obtain ⟨rfl, rfl, rfl, rfl, rfl, rfl, rfl, rfl, rfl⟩ := he
  exact ⟨hr.1, hr.2.1, hr.2.2.2, hr.2.2.1⟩
theorem RC.ruP {x : Ru} {v0 v1 v2 : Value} (h : RC w S x.d [v0, v1, v2]) : RC w S (.l 126 9 (x.args.map Ar.d)) [v1] ∧ RC w S (.l 30 5 (x.index.map Tm.d)) [v2] ∧ inI x.member := by
  obtain ⟨_, _, _, _, he, hr⟩ := RC.ru.1 h
  simp only [List.cons.injEq, and_true] at he
  obtain ⟨rfl, rfl, rfl⟩ := he
  exact ⟨hr.2.1, hr.2.2, hr.1⟩
/-- A term's levels, kids, numbers. -/
theorem RC.tmP {t : Tm} {v0 v1 v2 v3 v4 : Value} (h : RC w S t.d [v0, v1, v2, v3, v4]) : RC w S (.l 38 1 (t.ls.map lvD)) [v3] ∧ RC w S (.l 30 5 (t.ks.map Tm.d)) [v4] ∧ inI t.k ∧ inI t.n ∧ inI t.a := by
  obtain ⟨_, _, _, _, he, i1, i2, i3, h4, h5⟩ := RC.tm.1 h
  simp only [List.cons.injEq, and_true] at he
  obtain ⟨rfl, rfl, rfl, rfl, rfl⟩ := he
  exact ⟨h4, h5, i1, i2, i3⟩
end
end Go.Proofs.YteelplgdojjakaaDoor
