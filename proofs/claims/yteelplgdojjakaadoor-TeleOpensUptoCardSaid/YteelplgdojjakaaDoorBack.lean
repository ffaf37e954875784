/- slices.Backward over terms: its closure, whatever the loop's body keeps. No statement of the seat is proved here. -/
import Derived.Test.YteelplgdojjakaaDoorIter
import Derived.RangeFuncBound
import Derived.RangeFuncCalls
import Derived.OwnWalkIn
import Derived.TacticsInMore
import Derived.LoopNIn
import Derived.LoopIn
import Derived.Shelf.Abstract
import Derived.Shelf.RegionOpen
namespace Go.Proofs.YteelplgdojjakaaDoor
set_option linter.unusedSimpArgs false
set_option linter.unusedVariables false
open Go.RowKit
attribute [local go_sem] Oper.semAt_some

set_option maxRecDepth 100000 in
set_option maxHeartbeats 2000000 in
theorem backward1 {L bs n c : Nat} {A : Option Addr} {k0 k1 k2 : Nat → Int} {v3 v4 : Nat → Value} (hn : n ≤ 4294967296) (J : Nat → World → Prop)
    (hrd : ∀ k W, J k W → W.cell? ⟨bs, 0, none⟩ = some (.slice A n c) ∧ ∀ j, j < n → ∃ b o, A = some ⟨b, o, none⟩ ∧ W.cell? ⟨b, o + j * 5, none⟩ = some (.int .i64 (k0 j)) ∧ W.cell? ⟨b, o + j * 5 + 1, none⟩ = some (.int .i64 (k1 j)) ∧ W.cell? ⟨b, o + j * 5 + 2, none⟩ = some (.int .i64 (k2 j)) ∧ W.cell? ⟨b, o + j * 5 + 3, none⟩ = some (v3 j) ∧ W.cell? ⟨b, o + j * 5 + 4, none⟩ = some (v4 j))
    (hY : ∀ j W, j < n → J (j + 1) W → YieldAt Fence.wide 0 Tryd.prog L #[.int .i64 j, .agg #[.int .i64 (k0 j), .int .i64 (k1 j), .int .i64 (k2 j), v3 j, v4 j]] W fun e W' => e = .returned (.bool true) ∧ J j W')
    {W : World} (h0 : J n W) : CallsIn Fence.wide 0 Tryd.prog 137 #[.func (.yield L) #[] #[], .pointer (some ⟨bs, 0, none⟩)] W fun e W' => (∃ v, e = .returned v) ∧ J 0 W' := by
  have hb0 := (hrd _ _ h0).1
  refine callsIn_of_wp Tryd.func137 rfl trivial ?_
  simp only [Tryd.ntmps137, List.size_toArray, List.length_cons, List.length_nil, Nat.reduceAdd, Nat.reduceSub, Array.replicate_succ, Array.replicate_zero, List.push_toArray, List.append_toArray, List.nil_append, List.cons_append]
  gi_wp2
  gi_loopw [3] (fun i wr => ∃ k : Nat, k ≤ n ∧ i = .int .i64 ((k : Int) - 1) ∧ J k wr) (fun i _ => (intOf i + 1).toNat)
  case atStart => exact ⟨n, Nat.le_refl _, rfl, h0⟩
  case round =>
    clear h0 hb0
    obtain ⟨k, hk, rfl, hJ⟩ := hrel
    rcases k with _ | k
    · gi_wp2
      go_end0
      exact ⟨⟨_, rfl⟩, hJ⟩
    · obtain ⟨hb, hc⟩ := hrd _ _ hJ
      obtain ⟨b, o, rfl, p0, p1, p2, p3, p4⟩ := hc k (by omega)
      obtain ⟨fn, tmps, assign, body, hy, hR⟩ := hY k wr (by omega) hJ
      clear hrd hY hc
      have e : ((k + 1 : Nat) : Int) - 1 = (k : Int) := by omega
      rw [e]
      clear e
      gi_wp2
      refine ⟨rfl, hR.mono ?_⟩
      rintro e W3 ⟨rfl, hJ3⟩
      gi_wp2
      go_roundw
      case rel => exact ⟨k, by omega, rfl, hJ3⟩
      case measure => simp [intOf]
/-- A call hands back a term of its own, and leaves the rest. -/
def PTmH (X : Nat → Prop) (w0 : World) (l : List Ch) (t : Tm) (e : Ending) (w' : World) : Prop := ∃ A c K k, e = .returned (.agg #[.int .i64 t.k, .int .i64 t.n, .int .i64 t.a, .slice A t.ls.length c, .slice K t.ks.length k]) ∧
  Hp X w0 w' (.dat t.d [.int .i64 t.k, .int .i64 t.n, .int .i64 t.a, .slice A t.ls.length c, .slice K t.ks.length k] :: l)
set_option maxRecDepth 100000 in
set_option maxHeartbeats 1000000 in
theorem backward_calls {X : Nat → Prop} {w0 w : World} {l : List Ch} {A : Option Addr} {n c : Nat} (H : Hp X w0 w l) :
    Calls Tryd.prog 102 #[.slice A n c] w fun e w' => ∃ g, e = .returned (.func (.func 137) #[] #[.pointer (some ⟨g, 0, none⟩)]) ∧ Hp X w0 w' (.box g 28 [.slice A n c] :: l) := by
  have hmf : ∀ (fn : Fn) (first cap : Array Value) (w : World), (Instr.makeFunc fn first cap).run Tryd.prog w = .ok (.func fn first cap) w := fun _ _ _ _ => rfl
  go_enter Tryd.func102, Tryd.ntmps102
  go_wp2_with fail
  go_ret
  exact ⟨_, rfl, H.alloc [.slice A n c] _⟩
/-- A row laid above a term, below nodes of a kind. -/
def aboveT (k : Int) : List Tm → Tm → Tm
  | [], b => b
  | a :: r, b => .mk k 0 0 [] [a, aboveT k r b]
theorem aboveT_drop {k : Int} {ts : List Tm} {b : Tm} {j : Nat} (h : j < ts.length) : aboveT k (ts.drop j) b = .mk k 0 0 [] [ts[j], aboveT k (ts.drop (j + 1)) b] := by
  rw [List.drop_eq_getElem_cons h, aboveT]
/-- The cells of a row of terms. -/
theorem RCs.tms {w : World} {S : Nat → Prop} {ts : List Tm} {es : List Value} (h : RCs w S (ts.map Tm.d) es) : ∃ (A3 A4 : Nat → Option Addr) (c3 c4 : Nat → Nat), ∀ j (hj : j < ts.length), es[j * 5]? = some (.int .i64 ts[j].k) ∧ es[j * 5 + 1]? = some (.int .i64 ts[j].n) ∧ es[j * 5 + 2]? = some (.int .i64 ts[j].a) ∧ es[j * 5 + 3]? = some (.slice (A3 j) ts[j].ls.length (c3 j)) ∧ es[j * 5 + 4]? = some (.slice (A4 j) ts[j].ks.length (c4 j)) := by
  have key : ∀ j, ∃ (A3 A4 : Option Addr) (c3 c4 : Nat), ∀ hj : j < ts.length, es[j * 5]? = some (.int .i64 ts[j].k) ∧ es[j * 5 + 1]? = some (.int .i64 ts[j].n) ∧ es[j * 5 + 2]? = some (.int .i64 ts[j].a) ∧ es[j * 5 + 3]? = some (.slice A3 ts[j].ls.length c3) ∧ es[j * 5 + 4]? = some (.slice A4 ts[j].ks.length c4) := by
    intro j
    by_cases hj : j < ts.length
    · obtain ⟨cs, g1, g2, g3⟩ := h.get (z := 5) (fun d hd => by obtain ⟨t, _, rfl⟩ := List.mem_map.1 hd; exact Tm.size_d t) (i := j) (d := ts[j].d) (by simp [hj])
      obtain ⟨A1, c1, K1, k1, rfl, _⟩ := RC.tm.1 g1
      exact ⟨A1, K1, c1, k1, fun _ => ⟨g3 0 _ rfl, g3 1 _ rfl, g3 2 _ rfl, g3 3 _ rfl, g3 4 _ rfl⟩⟩
    · exact ⟨none, none, 0, 0, fun h => absurd h hj⟩
  exact ⟨fun j => (key j).choose, fun j => (key j).choose_spec.choose, fun j => (key j).choose_spec.choose_spec.choose, fun j => (key j).choose_spec.choose_spec.choose_spec.choose, fun j => (key j).choose_spec.choose_spec.choose_spec.choose_spec⟩
theorem take5 {es c1 c2 : List Value} {j : Nat} {u0 u1 u2 u3 u4 : Value} (h : es.take ((j + 1) * 5) = c1 ++ c2) (h1 : c1.length = j * 5) (h2 : c2.length = 5) (q : es[j * 5]? = some u0 ∧ es[j * 5 + 1]? = some u1 ∧ es[j * 5 + 2]? = some u2 ∧ es[j * 5 + 3]? = some u3 ∧ es[j * 5 + 4]? = some u4) : c1 = es.take (j * 5) ∧ c2 = [u0, u1, u2, u3, u4] := by
  have e1 : c1 = es.take (j * 5) := by
    have := congrArg (List.take (j * 5)) h
    rw [List.take_take, List.take_append_of_le_length (by omega), ← h1, List.take_length] at this
    rw [← this, h1]
    congr 1
    omega
  refine ⟨e1, ?_⟩
  have g : ∀ i, i < 5 → c2[i]? = es[j * 5 + i]? := fun i hi => by
    have := congrArg (fun l => l[j * 5 + i]?) h
    simp only [List.getElem?_take] at this
    rw [if_pos (by omega), List.getElem?_append_right (by omega)] at this
    rw [this]
    congr 1
    omega
  match c2, h2 with
  | [a0, a1, a2, a3, a4], _ =>
    have g0 := g 0 (by omega); have g1 := g 1 (by omega); have g2 := g 2 (by omega); have g3 := g 3 (by omega); have g4 := g 4 (by omega)
    rw [Nat.add_zero, q.1] at g0
    rw [q.2.1] at g1; rw [q.2.2.1] at g2; rw [q.2.2.2.1] at g3; rw [q.2.2.2.2] at g4
    simp only [List.getElem?_cons_zero, List.getElem?_cons_succ, Option.some.injEq] at g0 g1 g2 g3 g4
    rw [g0, g1, g2, g3, g4]
theorem sizes_tms (ts : List Tm) : D.sizes (ts.map Tm.d) = ts.length * 5 := by
  rw [D.sizes_eq (z := 5) (fun d hd => by obtain ⟨t, _, rfl⟩ := List.mem_map.1 hd; exact Tm.size_d t), List.length_map]
section
variable {X : Nat → Prop} {w0 w : World} {l l1 l2 : List Ch}
/-- The last of some terms, taken away. -/
theorem Hp.lastTm {ts : List Tm} {es : List Value} {j : Nat} {u0 u1 u2 u3 u4 : Value} (H : Hp X w0 w l) (p : Pick l (.dat (.s ((ts.take (j + 1)).map Tm.d)) (es.take ((j + 1) * 5))) l1) (hj : j < ts.length)
    (q : es[j * 5]? = some u0 ∧ es[j * 5 + 1]? = some u1 ∧ es[j * 5 + 2]? = some u2 ∧ es[j * 5 + 3]? = some u3 ∧ es[j * 5 + 4]? = some u4) :
    Hp X w0 w (.dat (.s ((ts.take j).map Tm.d)) (es.take (j * 5)) :: .dat ts[j].d [u0, u1, u2, u3, u4] :: l1) := by
  have H1 := H.pick p
  rw [take_map Tm.d hj] at H1
  obtain ⟨c1, c2, he, hl1, hl2, H2⟩ := H1.cut .head
  rw [sizes_tms, List.length_take] at hl1
  obtain ⟨rfl, rfl⟩ := take5 he (by rw [hl1]; congr 1; omega) (by rw [hl2]; simp [D.sizes, Tm.size_d]) q
  exact (H2.unone (.tail .head)).swap
/-- A node of two kids, out of a box. -/
theorem Hp.node2 {k : Int} {a b : Tm} {g : Nat} {a0 a1 a2 a3 a4 b0 b1 b2 b3 b4 : Value} {l3 : List Ch} (H : Hp no w0 w l) (p0 : Pick l (.box g 30 [a0, a1, a2, a3, a4, b0, b1, b2, b3, b4]) l1) (pa : Pick l1 (.dat a.d [a0, a1, a2, a3, a4]) l2) (pb : Pick l2 (.dat b.d [b0, b1, b2, b3, b4]) l3) (hk : inI k) :
    Hp no w0 w (.dat (Tm.mk k 0 0 [] [a, b]).d [.int .i64 k, .int .i64 0, .int .i64 0, .slice none 0 0, .slice (some ⟨g, 0, none⟩) 2 2] :: l3) := by
  have H1 := (((H.pick p0).pick (.tail pa)).one1 .head)
  have H2 := (H1.pick (.tail (.tail pb))).one1 .head
  have H3 := H2.join (.tail .head) .head
  have H4 := H3.boxrow (n := 2) (z := 5) (.tail .head) .head rfl (by simp [Tm.size_d]) (by unfold M; omega)
  have H5 := H4.nil 38 1
  exact Hp.tm (ls := []) (ks := [a, b]) H5 .head .head hk (by unfold inI; omega) (by unfold inI; omega)
end
end Go.Proofs.YteelplgdojjakaaDoor
