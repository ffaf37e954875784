/- StrictParams: the row of all declarations, in memory. No statement of the seat is proved here. -/
import Derived.Test.YtmedomglemllnaaDoorL18g
import Derived.Test.YtmedomglemllnaaDoorMgStrictLaw2
namespace Go.Proofs.YtmedomglemllnaaDoor
set_option linter.unusedSimpArgs false
set_option linter.unusedVariables false
open Go.RowKit

/-- A row of declarations in a block of its own: old ones, and one more. -/
def AllR (W : World) (B gA cA : Nat) (ds : List Dc) (d : Dc) : Prop := ∃ es c2 sp, Blk W gA 37 (es ++ (c2 ++ sp)).toArray ∧ es.length = ds.length * 16 ∧ RCs W (fun k => k < B) (ds.map Dc.d) es ∧ RC W (fun k => k ≠ gA) d.d c2 ∧ ds.length + 1 ≤ cA ∧ cA ≤ maxLen ∧ ds.length + 1 ≤ M
section
variable {w W W' : World} {B gA cA : Nat} {ds : List Dc} {d : Dc} {l l' : List Ch}
theorem AllR.ext (h : AllR W B gA cA ds d) (hx : Ext no W W') : AllR W' B gA cA ds d := by
  obtain ⟨es, c2, sp, h1, h2, h3, h4, h5⟩ := h
  exact ⟨es, c2, sp, h1.ext0 hx, h2, RCs.frame hx.size (fun _ _ h => h) (fun k hk _ => hx.block k hk no_not) _ _ h3, h4.ext0 hx, h5⟩
theorem RCs.app {S : Nat → Prop} : ∀ {a b : List D} {c1 c2 : List Value}, RCs W S a c1 → RCs W S b c2 → RCs W S (a ++ b) (c1 ++ c2)
  | [], b, c1, c2, h, k => by unfold RCs at h; subst h; exact k
  | x :: a, b, c1, c2, h, k => by
    unfold RCs at h
    obtain ⟨e1, e2, rfl, h1, h2⟩ := h
    rw [List.cons_append, List.append_assoc]
    exact RCs.consS h1 (RCs.app h2 k)
theorem AllR.rc (hB : B ≤ gA) (h : AllR W B gA cA ds d) : RC W anyW (.l 37 16 ((ds ++ [d]).map Dc.d)) [.slice (some ⟨gA, 0, none⟩) (ds.length + 1) cA] := by
  obtain ⟨es, c2, sp, h1, h2, h3, h4, h5, h6, h7⟩ := h
  have hrs : RCs W anyW ((ds ++ [d]).map Dc.d) (es ++ c2) := by
    rw [List.map_append]
    exact RCs.app (RCs.frame (Nat.le_refl _) (fun _ _ _ => trivial) (fun _ _ _ => rfl) _ _ h3) (RCs.one18 h4.any)
  unfold RC
  refine ⟨some ⟨gA, 0, none⟩, cA, by simp, by simpa using h5, h6, by simpa using h7, fun x hx => ?_, .inr ⟨gA, 0, es ++ c2, rfl, h1.lt, trivial, hrs, fun j u hu => ?_⟩⟩
  · obtain ⟨x, _, rfl⟩ := List.mem_map.1 hx
    exact Dc.size_d x
  · rw [Nat.zero_add, h1.cells j]
    have hj : j < (es ++ c2).length := (List.getElem?_eq_some_iff.1 hu).1
    simp only [List.getElem?_toArray]
    rw [← List.append_assoc, List.getElem?_append_left hj]
    exact hu
theorem RCs.last1 {S : Nat → Prop} : ∀ {ds : List Dc} {es : List Value}, RCs W S (ds.map Dc.d ++ [d.d]) es → ∃ c1 c2, es = c1 ++ c2 ∧ c1.length = ds.length * 16 ∧ c2.length = 16 ∧ RCs W S (ds.map Dc.d) c1 ∧ RC W S d.d c2
  | [], es, h => by
    unfold RCs at h
    obtain ⟨f1, f2, rfl, g1, g2⟩ := h
    unfold RCs at g2
    subst g2
    exact ⟨[], f1, by simp, by simp, by rw [RC.len _ _ g1]; exact Dc.size_d d, by unfold RCs; rfl, g1⟩
  | x :: xs, es, h => by
    rw [List.map_cons, List.cons_append] at h
    unfold RCs at h
    obtain ⟨f1, f2, rfl, g1, g2⟩ := h
    obtain ⟨c1, c2, rfl, e2, e3, k1, k2⟩ := RCs.last1 g2
    refine ⟨f1 ++ c1, c2, by simp, ?_, e3, RCs.consS g1 k1, k2⟩
    rw [List.length_append, e2, RC.len _ _ g1, Dc.size_d, List.length_cons]
    omega
theorem AllR.of {A0 : Option Addr} {n c : Nat} (H : Hp no w W l) (p : Pick l (.row 37 16 ((ds ++ [d]).map Dc.d) (.slice A0 n c)) l') : ∃ gA, A0 = some ⟨gA, 0, none⟩ ∧ w.heap.size ≤ gA ∧ gA < W.heap.size ∧ n = ds.length + 1 ∧ AllR W w.heap.size gA c ds d := by
  obtain ⟨L, h, _⟩ := (H.pick p).own
  simp only [Chs] at h
  obtain ⟨L1, _, rfl, ⟨rfl, h1, hz, es, hown, h3⟩, _⟩ := h
  obtain ⟨hl, hown⟩ := hown
  rw [List.length_map, List.length_append, List.length_singleton] at hown hl h1
  rcases hown with ⟨_, h0⟩ | ⟨g, cap, cur, he, hg, hb, hnc, hcm, hcs, htk⟩
  · omega
  · simp only [Value.slice.injEq] at he
    obtain ⟨rfl, rfl, rfl⟩ := he
    have h3' : RCs W (fun k => k < w.heap.size) ((ds ++ [d]).map Dc.d) es := RCs.frame (Nat.le_refl _) (fun k _ hk => hk.1.1) (fun _ _ _ => rfl) _ _ h3
    rw [List.map_append] at h3'
    obtain ⟨c1, c2, e1, e2, e3, k1, k2⟩ := RCs.last1 h3'
    have hb2 : Blk W g 37 (c1 ++ (c2 ++ cur.toList.drop ((ds.length + 1) * 16))).toArray := by
      unfold Blk
      rw [hb, ← List.append_assoc, ← e1, ← htk, List.take_append_drop]
    exact ⟨g, rfl, hg, hb2.lt, rfl, c1, c2, _, hb2, e2, k1, RC.frame (Nat.le_refl _) (fun k _ hk e => by omega) (fun _ _ _ => rfl) _ _ k2, hnc, hcm, h1⟩
/-- The last one overwritten. -/
theorem AllR.put {e : Dc} {es c2 sp nc : List Value} (h1 : Blk W' gA 37 ((es ++ (c2 ++ sp)).take (ds.length * 16) ++ nc ++ (es ++ (c2 ++ sp)).drop (ds.length * 16 + 16)).toArray) (hx : Ext (fun k => k = gA) W W') (h2 : es.length = ds.length * 16) (h20 : c2.length = 16) (h3 : RCs W (fun k => k < B) (ds.map Dc.d) es) (hB : B ≤ gA) (h4 : RC W (fun k => k ≠ gA) e.d nc) (h5 : ds.length + 1 ≤ cA) (h6 : cA ≤ maxLen) (h7 : ds.length + 1 ≤ M) : AllR W' B gA cA ds e := by
  have e1 : (es ++ (c2 ++ sp)).take (ds.length * 16) = es := by rw [← h2, List.take_left]
  have e2 : (es ++ (c2 ++ sp)).drop (ds.length * 16 + 16) = sp := by
    rw [← List.append_assoc, List.drop_left' (by simp; omega)]
  rw [e1, e2, List.append_assoc] at h1
  exact ⟨es, nc, sp, h1, h2, RCs.frame hx.size (fun _ _ h => h) (fun k hk hS => hx.block k hk (fun e => by omega)) _ _ h3, h4.ext hx (fun k _ hk => hk), h5, h6, h7⟩
end
section
variable {P : Program} {ops : Array Oper} {rest : List Oper} {o : Oper} {a : Act} {Q : Exit → Act → World → Prop} {w : World}
theorem wpList_storeAt (hgd : o.guard = none) {t : Nat} {x y : Operand} {g e off : Nat} {cs nc : List Value} (ho : o.op = .store t x y) (hx : a.eval x = .pointer (some ⟨g, off, none⟩)) (hy : a.eval y = .agg nc.toArray) (hb : Blk w g e cs.toArray) (hT : AggT P t nc.length) (hl : off + nc.length ≤ cs.length) (h1 : ∀ u ∈ nc, u.oneCell' = true)
    (h : ∀ w', Ext (fun k => k = g) w w' → Blk w' g e (cs.take off ++ nc ++ cs.drop (off + nc.length)).toArray → wpList P ops Q rest (a.put o.dst undef) w') : wpList P ops Q (o :: rest) a w :=
  wpList_plain hgd fun K hK => by
    obtain ⟨d, hu, hd, hi⟩ := hT
    have hst := run_storeCells_at (P := P) g off e nc 0 cs.toArray w hb (by simpa using hl) h1
    have hsv : (storeVar t ⟨g, off, none⟩ (.agg nc.toArray)).run P w = .ok () (w.setRow g (cs.take off ++ nc ++ cs.drop (off + nc.length)).toArray) := by
      cases hq : P.info? t with
      | none => simp [hq] at hi
      | some i =>
        have hs : nc.length = i.size := by simp [hq] at hi; omega
        simp only [Nat.add_zero] at hst
        simp [storeVar, sizeOf, typeInfo, hq, Value.cells, hs] at hst ⊢
        exact hst
    unfold Oper.wp execOp
    simp only [ho, hx, hy, Instr.storeAt, Instr.sureAddr, Sem.run_bind, Sem.run_pure, Result.andThen_ok, hsv]
    refine hK _ _ (h _ ⟨rfl, rfl, rfl, by simp, fun k hk hne => by simp [World.setRow, Array.getElem?_modify, Ne.symm hne]⟩ ?_)
    exact setRow_heap _ _ _ _ _ _ hb
end
section
variable {w0 w w1 : World} {l l' l1 l2 l3 : List Ch} {S : Nat → Prop}
variable {P : Program} {ops : Array Oper} {rest : List Oper} {o : Oper} {a : Act} {Q : Exit → Act → World → Prop}
theorem wp_pushPs {K : Act → World → Prop} (s x : Operand) (t : TypeId) (ho : o.op = .call { callee := .builtin .append, args := #[s, x], argTypes := #[t, t] }) {e z : Nat} (hT : SlT P t e z)
    {ds ds' : List D} {out : Value} {A : Option Addr} {m c : Nat} (hs : a.eval s = out) (hx : a.eval x = .slice A m c) (H : Hp no w0 w l) (p1 : Pick l (.gh out.ownBlock.toList (RP w0 S e z ds out)) l2)
    (hd : RC w (fun k => S k ∧ k < w0.heap.size) (.l e z ds') [.slice A m c]) (hM : ds.length + ds'.length ≤ M)
    (h : ∀ v' w', Hp no w0 w' (.gh v'.ownBlock.toList (RP w0 S e z (ds ++ ds') v') :: l2) → K (a.put o.dst v') w') : o.wp P a w K Q := by
  have h1 := H.rpAt p1
  obtain ⟨L, hL, hn⟩ := (H.pick p1).own
  simp only [Chs] at hL
  obtain ⟨_, L3, rfl, ⟨rfl, hgb, _⟩, h3⟩ := hL
  have hB : ∀ k, out.ownBlock = some k → w0.heap.size ≤ k := fun k hk => (hgb k (by simp [hk])).1
  refine wp_pushS s x t ho hT h1 hd (fun k hk hS => ⟨hS, fun e => by have := hB k e.symm; have := hS.2; omega⟩) hM H.ext.size hs hx ?_
  intro v' w' g1 g2 g3
  have hx' : Ext no w0 w' := H.ext.grown g2 (fun k hk => .inr (hB k hk))
  have hv' : ∀ k ∈ v'.ownBlock.toList, w0.heap.size ≤ k ∧ k < w'.heap.size := by
    intro k hk
    obtain ⟨_, _, es, g4, _⟩ := g1
    exact g4.lt k (by simpa using hk)
  refine h v' w' ⟨hx', v'.ownBlock.toList ++ L3, ?_, ?_⟩
  · unfold Chs
    refine ⟨_, L3, rfl, ⟨rfl, hv', RP.of hx' g1, fun w2 hz2 hw2 => (RP.of hx' g1).stays hz2 hw2⟩, h3.frame H.ext.size g2.size (fun k hk hx => g2.block k (Nat.lt_of_lt_of_le hk H.ext.size) (fun e => ?_)) (fun k hk => g2.block k (h3.lt k hk).2 (fun e => ?_))⟩
    · have := hB k e.symm; omega
    · exact (List.nodup_append.1 hn).2.2 k (by simp [← e]) k (by simp [hk]) rfl
  · have n2 := (List.nodup_append.1 hn).2.1
    refine List.nodup_append.2 ⟨by cases v'.ownBlock <;> simp, n2, fun x hx y hy e => ?_⟩
    subst e
    rcases g3 with g3 | g3
    · rw [g3] at hx
      exact (List.nodup_append.1 hn).2.2 x hx x (by simp [hy]) rfl
    · have hx' : x = w.heap.size := by rw [g3] at hx; simpa using hx
      have := (h3.lt x hy).2
      omega
/-- An empty box as a row of none. -/
theorem Hp.rpBox0 {g e z : Nat} (H : Hp no w0 w l) (p : Pick l (.box g e []) l') : Hp no w0 w (.gh (Value.slice (some ⟨g, 0, none⟩) 0 0).ownBlock.toList (RP w0 S e z [] (.slice (some ⟨g, 0, none⟩) 0 0)) :: l') := by
  have H1 := H.boxraw (z := z) (n := 0) p (by simp) (by unfold maxLen; omega)
  refine Hp.turn1 (ds' := [_]) H1 .head fun L hL => ?_
  obtain ⟨rfl, hown⟩ := hL
  have hg : RG w w0.heap.size (fun k => S k ∧ k < w0.heap.size) e z [] (.slice (some ⟨g, 0, none⟩) 0 0) := ⟨by unfold M; simp, by simp, [], hown, by unfold RCs; rfl⟩
  have hk : ∀ k ∈ (Value.slice (some ⟨g, 0, none⟩) 0 0).ownBlock.toList, w0.heap.size ≤ k ∧ k < w.heap.size := fun k hk => hown.lt k (by simpa using hk)
  unfold Chs
  exact ⟨_, [], by simp, ⟨rfl, hk, RP.of H.ext hg, fun w2 hz2 hw2 => (RP.of H.ext hg).stays hz2 hw2⟩, by unfold Chs; rfl⟩
end
end Go.Proofs.YtmedomglemllnaaDoor
