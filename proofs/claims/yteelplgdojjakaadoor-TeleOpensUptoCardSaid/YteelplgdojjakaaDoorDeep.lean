/- What is read has one depth: a measure for loops that go down a term. No statement of the seat is proved here. -/
import Derived.Test.YteelplgdojjakaaDoorPut
namespace Go.Proofs.YteelplgdojjakaaDoor
set_option linter.unusedSimpArgs false
set_option linter.unusedVariables false
open Go.RowKit

theorem depthsT_congr : ∀ (xs ys : List Tm), xs.length = ys.length → (∀ (i : Nat) (h : i < xs.length) (h' : i < ys.length), depthT xs[i] = depthT ys[i]) → depthsT xs = depthsT ys
  | [], [], _, _ => rfl
  | [], _ :: _, h, _ => by simp at h
  | _ :: _, [], h, _ => by simp at h
  | x :: xs, y :: ys, h, hi => by
    rw [depthsT, depthsT, depthsT_congr xs ys (by simpa using h) (fun i h1 h2 => by have := hi (i + 1) (by simpa using h1) (by simpa using h2); simpa using this)]
    have := hi 0 (by simp) (by simp)
    simp only [List.getElem_cons_zero] at this
    rw [this]
theorem RC.depthEq : ∀ (u : Tm) {w : World} {S S' : Nat → Prop} {u' : Tm} {cs : List Value}, RC w S u.d cs → RC w S' u'.d cs → depthT u = depthT u' := by
  intro u
  induction u using Tm.ind_ with
  | h k n a ls ks ih =>
  intro w S S' u' cs h h'
  obtain ⟨A, ca, K, ck, rfl, _, _, _, _, hks⟩ := RC.tm.1 h
  obtain ⟨A', ca', K', ck', he, _, _, _, _, hks'⟩ := RC.tm.1 h'
  obtain ⟨k', n', a', ls', ks'⟩ := u'
  simp only [Tm.k_mk, Tm.n_mk, Tm.a_mk, Tm.ls_mk, Tm.ks_mk, List.cons.injEq, Value.slice.injEq, Value.int.injEq, and_true, true_and] at he hks hks'
  obtain ⟨_, _, _, _, rfl, hlen, rfl⟩ := he
  rw [depthT, depthT, depthsT_congr ks ks' hlen]
  intro i hi hi'
  obtain ⟨b, o, A1, ca1, K1, ck1, rfl, hb1, hS1, hd1, p0, p1, p2, p3, p4⟩ := hks.atTm hi
  obtain ⟨b', o', A2, ca2, K2, ck2, he2, hb2, hS2, hd2, q0, q1, q2, q3, q4⟩ := hks'.atTm hi'
  simp only [Option.some.injEq, Addr.mk.injEq, and_true] at he2
  obtain ⟨rfl, rfl⟩ := he2
  refine ih ks[i] (by simp) (S' := S') (u' := ks'[i]) hd1 ?_
  rw [p0] at q0; rw [p1] at q1; rw [p2] at q2; rw [p3] at q3; rw [p4] at q4
  simp only [Option.some.injEq] at q0 q1 q2 q3 q4
  rw [q0, q1, q2, q3, q4]
  exact hd2
instance : Nonempty Tm := ⟨.mk 0 0 0 [] []⟩
/-- The depth of what a block's cells tell. -/
noncomputable def deepAt (w : World) (S : Nat → Prop) (g : Nat) (wr : World) : Nat :=
  depthT (Classical.epsilon fun u : Tm => ∃ cs : List Value, RC w S u.d cs ∧ ∀ j u, cs[j]? = some u → wr.cell? ⟨g, j, none⟩ = some u)
theorem deepAt_eq {w wr : World} {S : Nat → Prop} {g : Nat} {u : Tm} {cs : List Value} (h : RC w S u.d cs) (hc : ∀ j u, cs[j]? = some u → wr.cell? ⟨g, j, none⟩ = some u) : deepAt w S g wr = depthT u := by
  unfold deepAt
  obtain ⟨cs', h1, h2⟩ := Classical.epsilon_spec (p := fun u : Tm => ∃ cs : List Value, RC w S u.d cs ∧ ∀ j u, cs[j]? = some u → wr.cell? ⟨g, j, none⟩ = some u) ⟨u, cs, h, hc⟩
  have l1 : cs.length = 5 := by rw [RC.len _ _ h]; exact Tm.size_d u
  have l2 : cs'.length = 5 := by rw [RC.len _ _ h1]; exact Tm.size_d _
  have e : cs' = cs := by
    refine List.ext_getElem (by omega) fun j h3 h4 => ?_
    have e1 := hc j _ (List.getElem?_eq_getElem h4)
    have e2 := h2 j _ (List.getElem?_eq_getElem h3)
    rw [e1] at e2
    exact (Option.some.inj e2).symm
  subst e
  exact RC.depthEq _ h1 h
theorem deepAt_hp {X : Nat → Prop} {w0 w wr : World} {l l' : List Ch} {S : Nat → Prop} {g e : Nat} {u : Tm} {cs : List Value} (H : Hp X w0 wr l) (p : Pick l (.box g e cs) l') (h : RC w S u.d cs) : deepAt w S g wr = depthT u :=
  deepAt_eq h fun j u hu => by have := (H.blk p).cells j; rw [this]; simpa using hu
theorem depthT_kid {t : Tm} {i : Nat} (h : i < t.ks.length) : depthT t.ks[i] < depthT t := by
  obtain ⟨k, n, a, ls, ks⟩ := t
  have := depthsT_get (ts := ks) (i := i) h
  rw [depthT]
  simp only [Tm.ks_mk]
  omega
end Go.Proofs.YteelplgdojjakaaDoor
