/- A region that draws its order: several operations that only read, taken at once. No statement of the seat is proved here. -/
import Derived.Test.YteelplgdojjakaaDoorHp
namespace Go.Proofs.YteelplgdojjakaaDoor
set_option linter.unusedSimpArgs false
set_option linter.unusedVariables false
open Go.RowKit

section
variable {P : Program} {ops : Array Oper} {Q : Exit → Act → World → Prop} {md : Region.Mode} {S : World → Prop} {late : List Nat}
/-- Operations that only read, one behind the other: each yields its value, or its guard says no. -/
def RdOps (P : Program) (ops : Array Oper) (w : World) : List (Nat × Value) → Act → Prop
  | [], _ => True
  | x :: is, a => ∃ o, ops[x.1]? = some o ∧ ((Region.wanted o (yielded ops a.tmps) = true ∧ (execOp a.eval o).run P w = .ok (.value x.2) w) ∨ (Region.wanted o (yielded ops a.tmps) = false ∧ x.2 = undef)) ∧ RdOps P ops w is (a.put o.dst x.2)
/-- What has become of the slots. -/
def rdAct (ops : Array Oper) : List (Nat × Value) → Act → Act
  | [], a => a
  | x :: is, a => rdAct ops is (a.put ((ops[x.1]?).bind (·.dst)) x.2)
def rdMark : List Nat → Array Bool → Array Bool
  | [], l => l
  | i :: is, l => rdMark is (l.setIfInBounds i true)
def rdOK (md : Region.Mode) (ops : Array Oper) (late : List Nat) : List Nat → Array Bool → Bool
  | [], _ => true
  | i :: is, l => Region.free md ops l i && (Region.ready md ops l).contains i && waits md ops late i && closedB md ops l && rdOK md ops late is (l.setIfInBounds i true)
theorem RdOps.nil {w : World} {a : Act} : RdOps P ops w [] a := trivial
theorem RdOps.run {w : World} {a : Act} {i : Nat} {v : Value} {is : List (Nat × Value)} {o : Oper} (hi : ops[i]? = some o) (hw : Region.wanted o (yielded ops a.tmps) = true) (hr : (execOp a.eval o).run P w = .ok (.value v) w) (h : RdOps P ops w is (a.put o.dst v)) : RdOps P ops w ((i, v) :: is) a := ⟨o, hi, .inl ⟨hw, hr⟩, h⟩
theorem RdOps.skip {w : World} {a : Act} {i : Nat} {is : List (Nat × Value)} {o : Oper} (hi : ops[i]? = some o) (hw : Region.wanted o (yielded ops a.tmps) = false) (h : RdOps P ops w is (a.put o.dst undef)) : RdOps P ops w ((i, undef) :: is) a := ⟨o, hi, .inr ⟨hw, rfl⟩, h⟩
theorem wpL_reads_ {fuel : Nat} (hn : Region.noSelect ops = true) (hQ : ∀ c a d v w, Q (.panic c) (Act.put a d v) w → Q (.panic c) a w) : ∀ (is : List (Nat × Value)) (listed : Array Bool) (a : Act) (w : World),
    rdOK md ops late (is.map (·.1)) listed = true → S w → (∀ w, S w → RdOps P ops w is a) → wpL P md ops Q S late fuel (rdMark (is.map (·.1)) listed) (rdAct ops is a) w → wpL P md ops Q S late (fuel + is.length) listed a w
  | [], _, _, _, _, _, _, h => h
  | (i, v) :: is, listed, a, w, hk, hS, hr, h => by
    simp only [List.map_cons, rdOK, Bool.and_eq_true] at hk
    obtain ⟨⟨⟨⟨k1, k2⟩, k3⟩, k4⟩, k5⟩ := hk
    obtain ⟨o, ho, hv, hrest⟩ := hr w hS
    have hall : ∀ w, S w → ((Region.wanted o (yielded ops a.tmps) = true ∧ (execOp a.eval o).run P w = .ok (.value v) w) ∨ (Region.wanted o (yielded ops a.tmps) = false ∧ v = undef)) ∧ RdOps P ops w is (a.put o.dst v) := fun w hS => by
      obtain ⟨o', ho', h1, h2⟩ := hr w hS
      obtain rfl : o = o' := Option.some.inj (ho.symm.trans ho')
      exact ⟨h1, h2⟩
    have hgo : wpL P md ops Q S late (fuel + is.length) (listed.setIfInBounds i true) (a.put o.dst v) w := by
      refine wpL_reads_ hn hQ is _ _ w k5 hS (fun w hS => (hall w hS).2) ?_
      have e : rdAct ops ((i, v) :: is) a = rdAct ops is (a.put o.dst v) := by simp only [rdAct, ho, Option.bind_some]
      rw [← e]
      exact h
    rcases hv with ⟨hw, _⟩ | ⟨hw, rfl⟩
    · refine wpL_take ho (by simp only [hn, k1, k2, k3, k4, Bool.and_self]) (fun c a w => hQ c a _ _ w) hS hw (fun w hS => ?_) hgo
      rcases (hall w hS).1 with ⟨_, h1⟩ | ⟨h1, _⟩
      · exact h1
      · rw [hw] at h1; cases h1
    · exact wpL_skip ho (by simp only [hn, k1, k2, k3, k4, Bool.and_self]) (fun c a w => hQ c a _ _ w) hS hw hgo
/-- Operations that only read are taken, all at once. -/
theorem wpL_reads {n : Nat} {is : List (Nat × Value)} {listed : Array Bool} {a : Act} {w : World} (hn : Region.noSelect ops = true) (hl : is.length ≤ n) (hQ : ∀ c a d v w, Q (.panic c) (Act.put a d v) w → Q (.panic c) a w)
    (hk : rdOK md ops late (is.map (·.1)) listed = true) (hS : S w) (hr : ∀ w, S w → RdOps P ops w is a) (h : wpL P md ops Q S late (n - is.length) (rdMark (is.map (·.1)) listed) (rdAct ops is a) w) : wpL P md ops Q S late n listed a w := by
  have := wpL_reads_ hn hQ is listed a w hk hS hr h
  rwa [Nat.sub_add_cancel hl] at this
end
end Go.Proofs.YteelplgdojjakaaDoor
