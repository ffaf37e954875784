/- A region that draws its order: several operations that only read, taken at once. No statement of the seat is proved here. -/
import Derived.Test.YtmedomglemllnaaDoorHp
import Derived.Test.YtmedomglemllnaaDoorTypes
namespace Go.Proofs.YtmedomglemllnaaDoor
set_option linter.unusedSimpArgs false
set_option linter.unusedVariables false
open Go.RowKit

section
variable {P : Program} {ops : Array Oper} {Q : Exit → Act → World → Prop} {md : Region.Mode} {S : World → Prop} {late : List Nat}
/-- Operations that only read, one behind the other: each yields its value, or its guard says no. -/
def RdOps (P : Program) (ops : Array Oper) (w : World) : List (Nat × Value) → Act → Prop
  | [], _ => True
  | x :: is, a => ∃ o, ops[x.1]? = some o ∧ ((Region.wanted o (yielded ops a.tmps) = true ∧ (execOp a.eval o).run P w = .ok (.value x.2) w) ∨ (Region.wanted o (yielded ops a.tmps) = false ∧ x.2 = undef)) ∧ RdOps P ops w is (a.put o.dst x.2)
/-- What has become of the slots. -/
def rdAct (ops : Array Oper) : List (Nat × Value) → Act → Act
  | [], a => a
  | x :: is, a => rdAct ops is (a.put ((ops[x.1]?).bind (·.dst)) x.2)
def rdMark : List Nat → Array Bool → Array Bool
  | [], l => l
  | i :: is, l => rdMark is (l.setIfInBounds i true)
def rdOK (md : Region.Mode) (ops : Array Oper) (late : List Nat) : List Nat → Array Bool → Bool
  | [], _ => true
  | i :: is, l => Region.free md ops l i && (Region.ready md ops l).contains i && waits md ops late i && closedB md ops l && rdOK md ops late is (l.setIfInBounds i true)
theorem RdOps.nil {w : World} {a : Act} : RdOps P ops w [] a := trivial
theorem RdOps.run {w : World} {a : Act} {i : Nat} {v : Value} {is : List (Nat × Value)} {o : Oper} (hi : ops[i]? = some o) (hw : Region.wanted o (yielded ops a.tmps) = true) (hr : (execOp a.eval o).run P w = .ok (.value v) w) (h : RdOps P ops w is (a.put o.dst v)) : RdOps P ops w ((i, v) :: is) a := ⟨o, hi, .inl ⟨hw, hr⟩, h⟩
theorem RdOps.skip {w : World} {a : Act} {i : Nat} {v : Value} {is : List (Nat × Value)} {o : Oper} (hi : ops[i]? = some o) (hw : Region.wanted o (yielded ops a.tmps) = false) (hv : v = undef) (h : RdOps P ops w is (a.put o.dst v)) : RdOps P ops w ((i, v) :: is) a := ⟨o, hi, .inr ⟨hw, hv⟩, h⟩
theorem wpL_reads_ {fuel : Nat} (hn : Region.noSelect ops = true) (hQ : ∀ c a d v w, Q (.panic c) (Act.put a d v) w → Q (.panic c) a w) : ∀ (is : List (Nat × Value)) (listed : Array Bool) (a : Act) (w : World),
    rdOK md ops late (is.map (·.1)) listed = true → S w → (∀ w, S w → RdOps P ops w is a) → wpL P md ops Q S late fuel (rdMark (is.map (·.1)) listed) (rdAct ops is a) w → wpL P md ops Q S late (fuel + is.length) listed a w
  | [], _, _, _, _, _, _, h => h
  | (i, v) :: is, listed, a, w, hk, hS, hr, h => by
    simp only [List.map_cons, rdOK, Bool.and_eq_true] at hk
    obtain ⟨⟨⟨⟨k1, k2⟩, k3⟩, k4⟩, k5⟩ := hk
    obtain ⟨o, ho, hv, hrest⟩ := hr w hS
    have hall : ∀ w, S w → ((Region.wanted o (yielded ops a.tmps) = true ∧ (execOp a.eval o).run P w = .ok (.value v) w) ∨ (Region.wanted o (yielded ops a.tmps) = false ∧ v = undef)) ∧ RdOps P ops w is (a.put o.dst v) := fun w hS => by
      obtain ⟨o', ho', h1, h2⟩ := hr w hS
      obtain rfl : o = o' := Option.some.inj (ho.symm.trans ho')
      exact ⟨h1, h2⟩
    have hgo : wpL P md ops Q S late (fuel + is.length) (listed.setIfInBounds i true) (a.put o.dst v) w := by
      refine wpL_reads_ hn hQ is _ _ w k5 hS (fun w hS => (hall w hS).2) ?_
      have e : rdAct ops ((i, v) :: is) a = rdAct ops is (a.put o.dst v) := by simp only [rdAct, ho, Option.bind_some]
      rw [← e]
      exact h
    rcases hv with ⟨hw, _⟩ | ⟨hw, rfl⟩
    · refine wpL_take ho (by simp only [hn, k1, k2, k3, k4, Bool.and_self]) (fun c a w => hQ c a _ _ w) hS hw (fun w hS => ?_) hgo
      rcases (hall w hS).1 with ⟨_, h1⟩ | ⟨h1, _⟩
      · exact h1
      · rw [hw] at h1; cases h1
    · exact wpL_skip ho (by simp only [hn, k1, k2, k3, k4, Bool.and_self]) (fun c a w => hQ c a _ _ w) hS hw hgo
/-- Operations that only read are taken, all at once. -/
theorem wpL_reads {n : Nat} {is : List (Nat × Value)} {listed : Array Bool} {a : Act} {w : World} (hn : Region.noSelect ops = true) (hl : is.length ≤ n) (hQ : ∀ c a d v w, Q (.panic c) (Act.put a d v) w → Q (.panic c) a w)
    (hk : rdOK md ops late (is.map (·.1)) listed = true) (hS : S w) (hr : ∀ w, S w → RdOps P ops w is a) (h : wpL P md ops Q S late (n - is.length) (rdMark (is.map (·.1)) listed) (rdAct ops is a) w) : wpL P md ops Q S late n listed a w := by
  have := wpL_reads_ hn hQ is listed a w hk hS hr h
  rwa [Nat.sub_add_cancel hl] at this
end
end Go.Proofs.YtmedomglemllnaaDoor
/- The parts of a struct that can be read. No statement of the seat is proved here. -/
namespace Go.Proofs.YtmedomglemllnaaDoor
set_option linter.unusedSimpArgs false
set_option linter.unusedVariables false
open Go.RowKit
section
variable {w : World} {S : Nat → Prop}
theorem RC.lvI {x : Lv} {v : Value} (h : RC w S (lvD x) [v]) : RC w S (.l 117 2 (x.map ptD)) [v] := by
  obtain ⟨A, c, he, hr⟩ := RC.lv.1 h
  obtain rfl : v = _ := by simpa using he
  exact hr
theorem RC.mbI {x : Mb} {v : Value} (h : RC w S x.d [v]) : RC w S (.l 26 5 (x.index.map Tm.d)) [v] := by
  obtain ⟨A, c, he, hr⟩ := RC.mb.1 h
  obtain rfl : v = _ := by simpa using he
  exact hr
theorem RC.ctT {x : Ct} {v : Value} {cs : List Value} (h : RC w S x.d (v :: cs)) : RC w S x.ty.d cs := by
  obtain ⟨_, _, _, _, he, _, hr⟩ := RC.ct.1 h
  simp only [List.cons.injEq] at he
  obtain ⟨rfl, rfl⟩ := he
  exact hr
theorem RC.arP {x : Ar} {v0 v1 v2 v3 v4 v5 v6 v7 v8 : Value} (h : RC w S x.d [v0, v1, v2, v3, v4, v5, v6, v7, v8]) : RC w S x.ty.d [v1, v2, v3, v4, v5] ∧ RC w S (.l 26 5 (x.tele.map Tm.d)) [v6] ∧ RC w S (.l 26 5 (x.index.map Tm.d)) [v8] ∧ inI x.member := by
  obtain ⟨_, _, _, _, _, _, _, _, he, hr⟩ := RC.ar.1 h
  simp only [List.cons.injEq, and_true] at he
  obtain ⟨rfl, rfl, rfl, rfl, rfl, rfl, rfl, rfl, rfl⟩ := he
  exact ⟨hr.1, hr.2.1, hr.2.2.2, hr.2.2.1⟩
theorem RC.ruP {x : Ru} {v0 v1 v2 : Value} (h : RC w S x.d [v0, v1, v2]) : RC w S (.l 80 9 (x.args.map Ar.d)) [v1] ∧ RC w S (.l 26 5 (x.index.map Tm.d)) [v2] ∧ inI x.member := by
  obtain ⟨_, _, _, _, he, hr⟩ := RC.ru.1 h
  simp only [List.cons.injEq, and_true] at he
  obtain ⟨rfl, rfl, rfl⟩ := he
  exact ⟨hr.2.1, hr.2.2, hr.1⟩
/-- A term's levels, kids, numbers. -/
theorem RC.tmP {t : Tm} {v0 v1 v2 v3 v4 : Value} (h : RC w S t.d [v0, v1, v2, v3, v4]) : RC w S (.l 33 1 (t.ls.map lvD)) [v3] ∧ RC w S (.l 26 5 (t.ks.map Tm.d)) [v4] ∧ inI t.k ∧ inI t.n ∧ inI t.a := by
  obtain ⟨_, _, _, _, he, i1, i2, i3, h4, h5⟩ := RC.tm.1 h
  simp only [List.cons.injEq, and_true] at he
  obtain ⟨rfl, rfl, rfl, rfl, rfl⟩ := he
  exact ⟨h4, h5, i1, i2, i3⟩
end
end Go.Proofs.YtmedomglemllnaaDoor
/- More of the state of a call at work: rows taken apart and put together; blocks that are no cells. No statement of the seat is proved here. -/
namespace Go.Proofs.YtmedomglemllnaaDoor
set_option linter.unusedSimpArgs false
set_option linter.unusedVariables false
open Go.RowKit

theorem D.sizes_append (a b : List D) : D.sizes (a ++ b) = D.sizes a + D.sizes b := by
  induction a with
  | nil => simp [D.sizes]
  | cons d a ih => simp only [List.cons_append, D.sizes, ih]; omega
theorem Subl.refl : (l : List Ch) → Subl l l
  | [] => .nil
  | _ :: l => .keep (Subl.refl l)
theorem Arr.refl : (l : List Ch) → Arr l l
  | [] => .nil
  | _ :: l => .cons .head (Arr.refl l)
theorem Arr.skip {c : Ch} {l l' : List Ch} (h : Arr l l') : Arr (c :: l) l' := by
  induction h generalizing c with
  | nil => exact .nil
  | cons p _ ih => exact .cons (.tail p) ih
theorem Arr.of_subl {l l' : List Ch} (h : Subl l l') : Arr l l' := by
  induction h with
  | nil => exact .nil
  | keep _ ih => exact .cons .head ih
  | drop _ ih => exact ih.skip
section
variable {X : Nat → Prop} {w0 w w1 : World} {l l' l1 l2 l3 : List Ch}
theorem Hp.allocObj (H : Hp X w0 w l) (o : Obj) : Hp X w0 (w.alloc o) (.obj w.heap.size o :: l) := by
  obtain ⟨L, h, hn⟩ := H.own
  refine ⟨H.ext.alloc _, [w.heap.size] ++ L, ?_, ?_⟩
  · unfold Chs
    exact ⟨_, L, rfl, ⟨rfl, H.ext.size, heap_alloc_new _ _⟩, h.frame H.ext.size (by simp) (fun k hk _ => Below.heap_alloc _ _ _ (Nat.lt_of_lt_of_le hk H.ext.size)) (fun k hk => Below.heap_alloc _ _ _ (h.lt k hk).2)⟩
  · simp only [List.singleton_append, List.nodup_cons]
    exact ⟨fun hk => by have := (h.lt _ hk).2; omega, hn⟩
theorem Hp.objAt (H : Hp X w0 w l) {g : Nat} {o : Obj} (p : Pick l (.obj g o) l') : w.heap[g]? = some o := by
  obtain ⟨L, h, _⟩ := (H.pick p).own
  unfold Chs at h
  obtain ⟨L1, L2, rfl, h1, h2⟩ := h
  exact h1.2.2
/-- A block that is no cells turns. -/
theorem Hp.putObj (H : Hp X w0 w l) {g : Nat} {o o' : Obj} (u : Upd l (.obj g o) (.obj g o') l') (h1 : w1.os = w.os) (h2 : w1.tape = w.tape) (h3 : w1.output = w.output) (h4 : w1.heap = w.heap.setIfInBounds g o') : Hp X w0 w1 l' := by
  obtain ⟨L, h, hn⟩ := H.own
  obtain ⟨K, ⟨rfl, hg, hb⟩, _⟩ := h.sub u
  have hlt : g < w.heap.size := (Array.getElem?_eq_some_iff.1 hb).1
  have far : ∀ k, k ≠ g → w1.heap[k]? = w.heap[k]? := fun k hk => by rw [h4, Array.getElem?_setIfInBounds_ne (Ne.symm hk)]
  have hx : Ext (fun x => x = g) w w1 := ⟨h1, h2, h3, by rw [h4]; simp, fun k _ hk => far k hk⟩
  refine ⟨H.ext.trans hx (fun _ _ h => h) (fun i hi e => by omega), L, h.upd u H.ext.size hx.size hn (fun k hk hn => far k (fun e => by omega)) ?_ ?_, hn⟩
  · rintro K ⟨rfl, g1, g2⟩
    exact ⟨rfl, g1, by rw [h4]; simp [hlt]⟩
  · rintro K ⟨rfl, g1, g2⟩ k hk hne
    exact far k (by simpa using hne)
theorem Hp.turn1 {c : Ch} {ds' : List Ch} (H : Hp X w0 w l) (p : Pick l c l') (h : ∀ L, Ch1 X w w0.heap.size c L → Chs X w w0.heap.size ds' L) : Hp X w0 w (ds' ++ l') :=
  Hp.turn (ds := [c]) (H.pick p) fun L hL => by
    simp only [Chs] at hL
    obtain ⟨L1, _, rfl, h1, rfl⟩ := hL
    simpa using h L1 h1
/-- A row taken apart: its cells; what they lead to. -/
theorem Hp.unrow {e z : Nat} {ds : List D} {v : Value} (H : Hp X w0 w l) (p : Pick l (.dat (.l e z ds) [v]) l') : ∃ es, es.length = ds.length * z ∧ Hp X w0 w (.raw e z ds.length v es :: .dat (.s ds) es :: l') := by
  obtain ⟨L, h1, h2⟩ := (H.pick p).got
  unfold RO at h1
  obtain ⟨v1, es, Lr, e1, hM, hz, hown, hro, rfl⟩ := h1
  obtain rfl : v = v1 := by simpa using e1
  refine ⟨es, hown.1, Hp.turn1 (ds' := [_, _]) H p fun L hL => ?_⟩
  have hL' : RO w w0.heap.size (.l e z ds) [v] L := hL
  unfold RO at hL'
  obtain ⟨v2, es2, Lr2, e2, hM2, hz2, hown2, hro2, rfl⟩ := hL'
  obtain rfl : v = v2 := by simpa using e2
  have hes : es2 = es := by
    have hl1 := hown.1
    have a := hown.2
    have hl2 := hown2.1
    have b := hown2.2
    rcases a with ⟨rfl, a⟩ | ⟨g, cap, cur, rfl, _, hg, _, _, _, ht⟩
    · have h0 : es2.length = 0 := by rw [hl2, a]; simp
      have h1 : es.length = 0 := by rw [hl1, a]; simp
      rw [List.length_eq_zero_iff.1 h0, List.length_eq_zero_iff.1 h1]
    · rcases b with ⟨b, _⟩ | ⟨g', cap', cur', b, _, hg', _, _, _, ht'⟩
      · cases b
      · simp only [Value.slice.injEq, Option.some.injEq, Addr.mk.injEq, true_and, and_true] at b
        obtain ⟨rfl, rfl⟩ := b
        rw [hg] at hg'
        simp only [Option.some.injEq, Obj.cells.injEq] at hg'
        rw [← ht, ← ht', hg'.1]
  subst hes
  simp only [Chs]
  exact ⟨v.ownBlock.toList, Lr2, rfl, ⟨rfl, hown2⟩, Lr2, [], by simp, by unfold Ch1 RO; exact hro2, rfl⟩
/-- A row put together. -/
theorem Hp.mkrow {e z n : Nat} {ds : List D} {v : Value} {es : List Value} (H : Hp X w0 w l) (p1 : Pick l (.raw e z n v es) l1) (p2 : Pick l1 (.dat (.s ds) es) l2) (hn : ds.length = n) (hz : ∀ d ∈ ds, d.size = z) (hM : n ≤ M) : Hp X w0 w (.dat (.l e z ds) [v] :: l2) := by
  subst hn
  refine Hp.turn (ds := [_, _]) (ds' := [_]) ((H.pick p1).pick (.tail p2)).swap fun L hL => ?_
  simp only [Chs] at hL ⊢
  obtain ⟨L1, _, rfl, ⟨rfl, h1⟩, L2, _, rfl, h2, rfl⟩ := hL
  refine ⟨v.ownBlock.toList ++ L2, [], by simp, ?_, rfl⟩
  unfold Ch1 RO at h2 ⊢
  exact ⟨v, es, L2, rfl, hM, hz, h1, h2, rfl⟩
/-- A box of elements is a row. -/
theorem Hp.boxraw {g e z n : Nat} {cs : List Value} (H : Hp no w0 w l) (p : Pick l (.box g e cs) l') (hl : cs.length = n * z) (hn : n ≤ maxLen) : Hp no w0 w (.raw e z n (.slice (some ⟨g, 0, none⟩) n n) cs :: l') :=
  Hp.turn1 (ds' := [_]) H p fun L hL => by
    obtain ⟨rfl, hg, hb⟩ := hL
    simp only [Chs]
    exact ⟨[g], [], rfl, ⟨by simp [Value.ownBlock], hl, .inr ⟨g, n, cs.toArray, rfl, hg.resolve_left no_not, hb, Nat.le_refl _, hn, by simpa using hl, by simp [← hl]⟩⟩, rfl⟩
theorem Hp.boxrow {g e z n : Nat} {ds : List D} {cs : List Value} (H : Hp no w0 w l) (p1 : Pick l (.box g e cs) l1) (p2 : Pick l1 (.dat (.s ds) cs) l2) (hn : ds.length = n) (hz : ∀ d ∈ ds, d.size = z) (hM : n ≤ M) : Hp no w0 w (.dat (.l e z ds) [.slice (some ⟨g, 0, none⟩) n n] :: l2) := by
  have hl : cs.length = n * z := by
    have := RC.len _ _ ((H.pick p1).rd (.tail p2))
    rw [this, D.size, D.sizes_eq hz, hn]
  exact Hp.mkrow (H.boxraw p1 hl (by unfold M at hM; unfold maxLen; omega)) .head p2 hn hz hM
/-- Data one behind the other: parted. -/
theorem Hp.cut {a b : List D} {cs : List Value} (H : Hp X w0 w l) (p : Pick l (.dat (.s (a ++ b)) cs) l') : ∃ c1 c2, cs = c1 ++ c2 ∧ c1.length = D.sizes a ∧ c2.length = D.sizes b ∧ Hp X w0 w (.dat (.s a) c1 :: .dat (.s b) c2 :: l') := by
  have hl : cs.length = D.sizes a + D.sizes b := by
    have := RC.len _ _ (H.rd p)
    rw [this, D.size, D.sizes_append]
  refine ⟨cs.take (D.sizes a), cs.drop (D.sizes a), (List.take_append_drop _ _).symm, by simp; omega, by simp; omega, ?_⟩
  refine Hp.turn1 (ds' := [_, _]) H p fun L hL => ?_
  have key : ∀ (a : List D) (cs : List Value) (L : List Nat), ROs w w0.heap.size (a ++ b) cs L → ∃ L1 L2, L = L1 ++ L2 ∧ ROs w w0.heap.size a (cs.take (D.sizes a)) L1 ∧ ROs w w0.heap.size b (cs.drop (D.sizes a)) L2 := by
    intro a
    induction a with
    | nil => intro cs L h; exact ⟨[], L, rfl, by unfold ROs; simp [D.sizes], by simpa [D.sizes] using h⟩
    | cons d a ih =>
      intro cs L h
      rw [List.cons_append] at h
      unfold ROs at h
      obtain ⟨c1, c2, L1, L2, rfl, rfl, h1, h2⟩ := h
      obtain ⟨K1, K2, rfl, g1, g2⟩ := ih c2 L2 h2
      have hd := RO.len h1
      refine ⟨L1 ++ K1, K2, by simp, ?_, ?_⟩
      · unfold ROs
        exact ⟨c1, _, L1, K1, by rw [D.sizes, ← hd, List.take_length_add_append], rfl, h1, g1⟩
      · rw [D.sizes, ← hd, List.drop_length_add_append]
        exact g2
  have h : ROs w w0.heap.size (a ++ b) cs L := by have h := hL; unfold Ch1 RO at h; exact h
  obtain ⟨L1, L2, rfl, h1, h2⟩ := key a cs L h
  simp only [Chs]
  exact ⟨L1, L2, rfl, by unfold Ch1 RO; exact h1, L2, [], by simp, by unfold Ch1 RO; exact h2, rfl⟩
/-- .. joined. -/
theorem Hp.join {a b : List D} {c1 c2 : List Value} (H : Hp X w0 w l) (p1 : Pick l (.dat (.s a) c1) l1) (p2 : Pick l1 (.dat (.s b) c2) l2) : Hp X w0 w (.dat (.s (a ++ b)) (c1 ++ c2) :: l2) := by
  refine Hp.turn (ds := [_, _]) (ds' := [_]) ((H.pick p1).pick (.tail p2)).swap fun L hL => ?_
  simp only [Chs] at hL ⊢
  obtain ⟨L1, _, rfl, h1, L2, _, rfl, h2, rfl⟩ := hL
  refine ⟨L1 ++ L2, [], by simp, ?_, rfl⟩
  unfold Ch1 RO at h1 h2 ⊢
  exact h1.append h2
theorem Hp.unone {d : D} {cs : List Value} (H : Hp X w0 w l) (p : Pick l (.dat (.s [d]) cs) l') : Hp X w0 w (.dat d cs :: l') :=
  Hp.turn1 (ds' := [_]) H p fun L hL => by
    unfold Ch1 RO at hL
    simp only [ROs] at hL
    obtain ⟨c1, _, L1, _, rfl, rfl, h, rfl, rfl⟩ := hL
    simp only [Chs]
    exact ⟨L1, [], by simp, by rw [List.append_nil]; exact h, rfl⟩
theorem Hp.one1 {d : D} {cs : List Value} (H : Hp X w0 w l) (p : Pick l (.dat d cs) l') : Hp X w0 w (.dat (.s [d]) cs :: l') := (H.pick p).one
theorem Hp.noS (H : Hp X w0 w l) : Hp X w0 w (.dat (.s []) [] :: l) := H.flat (by unfold RO ROs; exact ⟨rfl, rfl⟩)
/-- What a row's cells are. -/
theorem Hp.rawAt {e z n : Nat} {v : Value} {es : List Value} (H : Hp X w0 w l) (p : Pick l (.raw e z n v es) l') (hn : 0 < n) : ∃ g c, v = .slice (some ⟨g, 0, none⟩) n c ∧ n ≤ c ∧ (∀ j u, es[j]? = some u → w.cell? ⟨g, j, none⟩ = some u) ∧ g < w.heap.size := by
  obtain ⟨L, h, _⟩ := (H.pick p).own
  unfold Chs at h
  obtain ⟨L1, L2, rfl, ⟨rfl, h1⟩, h2⟩ := h
  have hc := h1
  obtain ⟨hl, h1⟩ := h1
  rcases h1 with ⟨rfl, h1⟩ | ⟨g, cap, cur, rfl, hB, hg, hcap, _⟩
  · omega
  · exact ⟨g, cap, rfl, hcap, fun j u hu => by have := hc.cells (g := g) rfl j u hu; rwa [Addr.add_lit, Nat.zero_add] at this, (Array.getElem?_eq_some_iff.1 hg).1⟩
theorem Hp.rawLen {e z n : Nat} {v : Value} {es : List Value} (H : Hp X w0 w l) (p : Pick l (.raw e z n v es) l') : ∃ A c, v = .slice A n c ∧ n ≤ c := by
  obtain ⟨L, h, _⟩ := (H.pick p).own
  unfold Chs at h
  obtain ⟨L1, L2, rfl, ⟨rfl, h1⟩, h2⟩ := h
  obtain ⟨hl, h1⟩ := h1
  rcases h1 with ⟨rfl, rfl⟩ | ⟨g, cap, cur, rfl, hB, hg, hcap, _⟩
  · exact ⟨none, 0, rfl, Nat.le_refl _⟩
  · exact ⟨_, cap, rfl, hcap⟩
end
end Go.Proofs.YtmedomglemllnaaDoor
