/- What CarryApart's walk leans on: a list of truths made and marked; two terms appended at once. No statement of the seat is proved here. -/
import Derived.Test.YteelplgdojjakaaDoorRow
import Derived.Test.YteelplgdojjakaaDoorBack
import Derived.Laws.MakeOwn
namespace Go.Proofs.YteelplgdojjakaaDoor
set_option linter.unusedSimpArgs false
set_option linter.unusedVariables false
open Go.RowKit

/-- Truths, as cells. -/
def bcells (bs : List Bool) : List Value := bs.map Value.bool
theorem bcells_len (bs : List Bool) : (bcells bs).length = bs.length := by simp [bcells]
theorem bcells_get {bs : List Bool} {x : Nat} {b : Bool} (h : bs[x]? = some b) : (bcells bs)[x]? = some (.bool b) := by simp [bcells, h]
theorem bcells_set (bs : List Bool) (x : Nat) (b : Bool) : (bcells bs).set x (.bool b) = bcells (bs.set x b) := by simp [bcells, List.map_set]
theorem makeBools (n : Nat) (hn : n ≤ 1000000000) (w : World) : (Instr.makeSlice 45 (.int .i64 (n : Int)) (.int .i64 (n : Int))).run Tryd.prog w = .ok (.slice (some ⟨w.heap.size, 0, none⟩) n n) (w.alloc (.cells (bcells (List.replicate n false)).toArray 4)) := by
  obtain ⟨i, hi, g2, g3, g4⟩ := info_parts (P := Tryd.prog) (e := 4) (z := .bool false) (size := 1) (bytes := 1) (by kernel_rfl)
  have h := run_make (P := Tryd.prog) (w := w) 45 4 i (.bool false) Tryd.underlying45 hi g2 .i64 .i64 n n (by omega) (by omega) (by rw [g4]; omega) (by omega)
  rw [h]
  simp only [Int.toNat_natCast]
  have e : madeCells (Value.bool false).cells (n * i.size) = (bcells (List.replicate n false)).toArray := by
    rw [g3, Nat.mul_one]
    unfold madeCells
    apply Array.ext'
    simp [Value.cells, bcells, Nat.mod_one, List.map_const']
  rw [e]
section
variable {X : Nat → Prop} {w0 w w1 : World} {l l' l1 l2 l3 : List Ch}
variable {P : Program} {ops : Array Oper} {rest : List Oper} {o : Oper} {a : Act} {Q : Exit → Act → World → Prop}
theorem wpList_pushHs (hgd : o.guard = none) (s x : Operand) (t : TypeId) (ho : o.op = .call { callee := .builtin .append, args := #[s, x], argTypes := #[t, t] }) {e z : Nat} (hT : SlT P t e z)
    {ds ds' : List D} {out : Value} {cs : List Value} {g m c e1 : Nat} (hs : a.eval s = out) (hx : a.eval x = .slice (some ⟨g, 0, none⟩) m c) (H : Hp X w0 w l) (p3 : Pick l (.box g e1 cs) l1) (p1 : Pick l1 (.dat (.l e z ds) [out]) l2) (p2 : Pick l2 (.dat (.s ds') cs) l3)
    (hz : ∀ d ∈ ds', d.size = z) (hM : ds.length + ds'.length ≤ M) (hm : m = ds'.length)
    (h : ∀ v' w', Hp X w0 w' (.dat (.l e z (ds ++ ds')) [v'] :: l3) → wpList P ops Q rest (a.put o.dst v') w') : wpList P ops Q (o :: rest) a w :=
  wpList_plain hgd fun _ hK => wp_pushHs s x t ho hT H p3 p1 p2 hz hM hm hs hx fun v' w' h1 => hK _ _ (h v' w' h1)
end
theorem RCs.tmAt {w : World} {S : Nat → Prop} {ts : List Tm} {es : List Value} (h : RCs w S (ts.map Tm.d) es) {j : Nat} (hj : j < ts.length) {u0 u1 u2 u3 u4 : Value} (q : es[j * 5]? = some u0 ∧ es[j * 5 + 1]? = some u1 ∧ es[j * 5 + 2]? = some u2 ∧ es[j * 5 + 3]? = some u3 ∧ es[j * 5 + 4]? = some u4) : RC w S ts[j].d [u0, u1, u2, u3, u4] := by
  obtain ⟨cs, g1, g2, g3⟩ := h.get (z := 5) (fun d hd => by obtain ⟨t, _, rfl⟩ := List.mem_map.1 hd; exact Tm.size_d t) (i := j) (d := ts[j].d) (by simp [hj])
  match cs, g2 with
  | [c0, c1, c2, c3, c4], _ =>
    have h0 := g3 0 _ rfl; have h1 := g3 1 _ rfl; have h2 := g3 2 _ rfl; have h3 := g3 3 _ rfl; have h4 := g3 4 _ rfl
    rw [Nat.add_zero, q.1] at h0
    rw [q.2.1] at h1; rw [q.2.2.1] at h2; rw [q.2.2.2.1] at h3; rw [q.2.2.2.2] at h4
    simp only [Option.some.injEq] at h0 h1 h2 h3 h4
    rw [h0, h1, h2, h3, h4]
    exact g1
end Go.Proofs.YteelplgdojjakaaDoor
