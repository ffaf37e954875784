/- 'out = append(out, xs...)', the row xs of old memory. No statement of the seat is proved here. -/
import Derived.Test.YtgbokmphbimihaaDoorHp
namespace Go.Proofs.YtgbokmphbimihaaDoor
set_option linter.unusedSimpArgs false
set_option linter.unusedVariables false
open Go.RowKit

section
variable {X : Nat → Prop} {w0 w w1 : World} {l l' l1 l2 l3 : List Ch}
variable {P : Program} {ops : Array Oper} {rest : List Oper} {o : Oper} {a : Act} {Q : Exit → Act → World → Prop}
/-- 'out = append(out, xs...)', xs of the old memory. -/
theorem wp_pushRs {K : Act → World → Prop} (s x : Operand) (t : TypeId) (ho : o.op = .call { callee := .builtin .append, args := #[s, x], argTypes := #[t, t] }) {e z : Nat} (hT : SlT P t e z)
    {ds ds' : List D} {out : Value} {A : Option Addr} {m c : Nat} (hs : a.eval s = out) (hx : a.eval x = .slice A m c) (H : Hp X w0 w l) (p1 : Pick l (.row e z ds out) l2)
    (hd : RC w (fun k => k < w0.heap.size ∧ ¬ X k) (.l e z ds') [.slice A m c]) (hM : ds.length + ds'.length ≤ M)
    (h : ∀ v' w', Hp X w0 w' (.row e z (ds ++ ds') v' :: l2) → K (a.put o.dst v') w') : o.wp P a w K Q := by
  obtain ⟨L, hL, hn⟩ := (H.pick p1).own
  simp only [Chs] at hL
  obtain ⟨_, L3, rfl, ⟨rfl, h1⟩, h3⟩ := hL
  have hB : ∀ k, out.ownBlock = some k → w0.heap.size ≤ k := by
    intro k hk
    obtain ⟨_, _, es, h4, _⟩ := h1
    exact (h4.lt k (by simp [hk])).1
  refine wp_pushS s x t ho hT h1 hd (fun k hk hS => ⟨hS, fun e => by have := hB k e.symm; have := hS.1; omega⟩) hM H.ext.size hs hx ?_
  intro v' w' g1 g2 g3
  refine h v' w' ⟨H.ext.grown g2 (fun k hk => .inr (hB k hk)), v'.ownBlock.toList ++ L3, ?_, ?_⟩
  · unfold Chs
    refine ⟨_, L3, rfl, ⟨rfl, g1⟩, h3.frame H.ext.size g2.size (fun k hk hx => g2.block k (Nat.lt_of_lt_of_le hk H.ext.size) (fun e => ?_)) (fun k hk => g2.block k (h3.lt k hk).2 (fun e => ?_))⟩
    · have := hB k e.symm; omega
    · exact (List.nodup_append.1 hn).2.2 k (by simp [← e]) k (by simp [hk]) rfl
  · have n2 := (List.nodup_append.1 hn).2.1
    refine List.nodup_append.2 ⟨by cases v'.ownBlock <;> simp, n2, fun x hx y hy e => ?_⟩
    subst e
    rcases g3 with g3 | g3
    · rw [g3] at hx
      exact (List.nodup_append.1 hn).2.2 x hx x (by simp [hy]) rfl
    · have hx' : x = w.heap.size := by rw [g3] at hx; simpa using hx
      have := (h3.lt x hy).2
      omega
theorem wpList_pushRs (hgd : o.guard = none) (s x : Operand) (t : TypeId) (ho : o.op = .call { callee := .builtin .append, args := #[s, x], argTypes := #[t, t] }) {e z : Nat} (hT : SlT P t e z)
    {ds ds' : List D} {out : Value} {A : Option Addr} {m c : Nat} (hs : a.eval s = out) (hx : a.eval x = .slice A m c) (H : Hp X w0 w l) (p1 : Pick l (.row e z ds out) l2)
    (hd : RC w (fun k => k < w0.heap.size ∧ ¬ X k) (.l e z ds') [.slice A m c]) (hM : ds.length + ds'.length ≤ M)
    (h : ∀ v' w', Hp X w0 w' (.row e z (ds ++ ds') v' :: l2) → wpList P ops Q rest (a.put o.dst v') w') : wpList P ops Q (o :: rest) a w :=
  wpList_plain hgd fun _ hK => wp_pushRs s x t ho hT hs hx H p1 hd hM fun v' w' h1 => hK _ _ (h v' w' h1)
/-- A row of old elements, its last one cut off. -/
theorem RCs.front {w : World} {S : Nat → Prop} {z : Nat} : ∀ {ds : List D} {d : D} {es : List Value}, RCs w S (ds ++ [d]) es → (∀ x ∈ ds ++ [d], x.size = z) → RCs w S ds (es.take (ds.length * z))
  | [], d, es, _, _ => by unfold RCs; simp
  | x :: ds, d, es, h, hz => by
    rw [List.cons_append] at h
    unfold RCs at h
    obtain ⟨c1, c2, rfl, h1, h2⟩ := h
    have hl : c1.length = z := (RC.len _ _ h1).trans (hz x (by simp))
    have ih := RCs.front h2 (fun y hy => hz y (by simp only [List.cons_append, List.mem_cons]; exact .inr hy))
    unfold RCs
    refine ⟨c1, _, ?_, h1, ih⟩
    rw [List.length_cons, Nat.add_mul, Nat.one_mul, Nat.add_comm, ← hl, List.take_length_add_append]
theorem Hp.rowCut {e z n c : Nat} {ds : List D} {d : D} {A : Option Addr} (H : Hp X w0 w l) (p : Pick l (.row e z (ds ++ [d]) (.slice A n c)) l') : Hp X w0 w (.row e z ds (.slice A ds.length c) :: l') := by
  obtain ⟨L, hL, hn⟩ := (H.pick p).own
  simp only [Chs] at hL
  obtain ⟨L1, L2, rfl, ⟨rfl, h1⟩, h2⟩ := hL
  obtain ⟨g1, g2, es, ⟨hes, g3⟩, g4⟩ := h1
  rw [List.length_append, List.length_singleton] at g3 hes g1
  rcases g3 with ⟨h, h'⟩ | ⟨g, cap, cur, q1, q2, q3, q4, q5, q6, q7⟩
  · exact absurd h' (by omega)
  · simp only [Value.slice.injEq] at q1
    obtain ⟨rfl, rfl, rfl⟩ := q1
    refine ⟨H.ext, _, ?_, hn⟩
    unfold Chs
    refine ⟨_, L2, rfl, ⟨rfl, ?_⟩, h2⟩
    refine ⟨by omega, fun x hx => g2 x (by simp [hx]), es.take (ds.length * z), ⟨?_, .inr ⟨g, c, cur, rfl, q2, q3, by omega, q5, q6, ?_⟩⟩, RCs.front g4 g2⟩
    · rw [List.length_take, hes, Nat.add_mul, Nat.one_mul]; omega
    · rw [← q7, List.take_take, Nat.add_mul, Nat.one_mul, Nat.min_eq_left (by omega)]
theorem Pick.app {c : Ch} {b : List Ch} : ∀ a : List Ch, Pick (a ++ c :: b) c (a ++ b)
  | [] => .head
  | x :: a => .tail (Pick.app a)
theorem Arr.self_ : ∀ l : List Ch, Arr l l
  | [] => .nil
  | c :: l => .cons .head (Arr.self_ l)
theorem Arr.comm : ∀ b a : List Ch, Arr (a ++ b) (b ++ a)
  | [], a => by simpa using Arr.self_ a
  | c :: b, a => .cons (Pick.app a) (Arr.comm b a)
/-- Some pieces behind others, ahead of them. -/
theorem Hp.comm {a b : List Ch} (H : Hp X w0 w (a ++ b)) : Hp X w0 w (b ++ a) := H.arr (Arr.comm b a)
end
end Go.Proofs.YtgbokmphbimihaaDoor
