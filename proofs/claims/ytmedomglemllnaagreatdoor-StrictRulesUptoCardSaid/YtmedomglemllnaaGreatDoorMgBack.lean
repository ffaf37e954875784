/- A region that draws its order: several operations that only read, taken at once. No statement of the seat is proved here. -/
import Derived.Test.YtmedomglemllnaaGreatDoorHp
import Derived.Test.YtmedomglemllnaaGreatDoorTypes
import Derived.RangeFuncRecord
import Derived.OrdersIn
import Derived.RangeFuncSeq
import Derived.RangeFuncBound
import Derived.RangeFuncCalls
import Derived.OwnWalkIn
import Derived.TacticsInMore
import Derived.LoopNIn
import Derived.LoopIn
import Derived.Shelf.Abstract
import Derived.Shelf.RegionOpen
namespace Go.Proofs.YtmedomglemllnaaGreatDoor
set_option linter.unusedSimpArgs false
set_option linter.unusedVariables false
open Go.RowKit

section
variable {P : Program} {ops : Array Oper} {Q : Exit → Act → World → Prop} {md : Region.Mode} {S : World → Prop} {late : List Nat}
def RdOps (P : Program) (ops : Array Oper) (w : World) : List (Nat × Value) → Act → Prop
  | [], _ => True
  | x :: is, a => ∃ o, ops[x.1]? = some o ∧ ((Region.wanted o (yielded ops a.tmps) = true ∧ (execOp a.eval o).run P w = .ok (.value x.2) w) ∨ (Region.wanted o (yielded ops a.tmps) = false ∧ x.2 = undef)) ∧ RdOps P ops w is (a.put o.dst x.2)
def rdAct (ops : Array Oper) : List (Nat × Value) → Act → Act
  | [], a => a
  | x :: is, a => rdAct ops is (a.put ((ops[x.1]?).bind (·.dst)) x.2)
def rdMark : List Nat → Array Bool → Array Bool
  | [], l => l
  | i :: is, l => rdMark is (l.setIfInBounds i true)
def rdOK (md : Region.Mode) (ops : Array Oper) (late : List Nat) : List Nat → Array Bool → Bool
  | [], _ => true
  | i :: is, l => Region.free md ops l i && (Region.ready md ops l).contains i && waits md ops late i && closedB md ops l && rdOK md ops late is (l.setIfInBounds i true)
theorem RdOps.nil {w : World} {a : Act} : RdOps P ops w [] a := trivial
theorem RdOps.run {w : World} {a : Act} {i : Nat} {v : Value} {is : List (Nat × Value)} {o : Oper} (hi : ops[i]? = some o) (hw : Region.wanted o (yielded ops a.tmps) = true) (hr : (execOp a.eval o).run P w = .ok (.value v) w) (h : RdOps P ops w is (a.put o.dst v)) : RdOps P ops w ((i, v) :: is) a := ⟨o, hi, .inl ⟨hw, hr⟩, h⟩
theorem RdOps.skip {w : World} {a : Act} {i : Nat} {v : Value} {is : List (Nat × Value)} {o : Oper} (hi : ops[i]? = some o) (hw : Region.wanted o (yielded ops a.tmps) = false) (hv : v = undef) (h : RdOps P ops w is (a.put o.dst v)) : RdOps P ops w ((i, v) :: is) a := ⟨o, hi, .inr ⟨hw, hv⟩, h⟩
theorem wpL_reads_ {fuel : Nat} (hn : Region.noSelect ops = true) (hQ : ∀ c a d v w, Q (.panic c) (Act.put a d v) w → Q (.panic c) a w) : ∀ (is : List (Nat × Value)) (listed : Array Bool) (a : Act) (w : World),
    rdOK md ops late (is.map (·.1)) listed = true → S w → (∀ w, S w → RdOps P ops w is a) → wpL P md ops Q S late fuel (rdMark (is.map (·.1)) listed) (rdAct ops is a) w → wpL P md ops Q S late (fuel + is.length) listed a w
  | [], _, _, _, _, _, _, h => h
  | (i, v) :: is, listed, a, w, hk, hS, hr, h => by
    simp only [List.map_cons, rdOK, Bool.and_eq_true] at hk
    obtain ⟨⟨⟨⟨k1, k2⟩, k3⟩, k4⟩, k5⟩ := hk
    obtain ⟨o, ho, hv, hrest⟩ := hr w hS
    have hall : ∀ w, S w → ((Region.wanted o (yielded ops a.tmps) = true ∧ (execOp a.eval o).run P w = .ok (.value v) w) ∨ (Region.wanted o (yielded ops a.tmps) = false ∧ v = undef)) ∧ RdOps P ops w is (a.put o.dst v) := fun w hS => by
      obtain ⟨o', ho', h1, h2⟩ := hr w hS
      obtain rfl : o = o' := Option.some.inj (ho.symm.trans ho')
      exact ⟨h1, h2⟩
    have hgo : wpL P md ops Q S late (fuel + is.length) (listed.setIfInBounds i true) (a.put o.dst v) w := by
      refine wpL_reads_ hn hQ is _ _ w k5 hS (fun w hS => (hall w hS).2) ?_
      have e : rdAct ops ((i, v) :: is) a = rdAct ops is (a.put o.dst v) := by simp only [rdAct, ho, Option.bind_some]
      rw [← e]
      exact h
    rcases hv with ⟨hw, _⟩ | ⟨hw, rfl⟩
    · refine wpL_take ho (by simp only [hn, k1, k2, k3, k4, Bool.and_self]) (fun c a w => hQ c a _ _ w) hS hw (fun w hS => ?_) hgo
      rcases (hall w hS).1 with ⟨_, h1⟩ | ⟨h1, _⟩
      · exact h1
      · rw [hw] at h1; cases h1
    · exact wpL_skip ho (by simp only [hn, k1, k2, k3, k4, Bool.and_self]) (fun c a w => hQ c a _ _ w) hS hw hgo
theorem wpL_reads {n : Nat} {is : List (Nat × Value)} {listed : Array Bool} {a : Act} {w : World} (hn : Region.noSelect ops = true) (hl : is.length ≤ n) (hQ : ∀ c a d v w, Q (.panic c) (Act.put a d v) w → Q (.panic c) a w)
    (hk : rdOK md ops late (is.map (·.1)) listed = true) (hS : S w) (hr : ∀ w, S w → RdOps P ops w is a) (h : wpL P md ops Q S late (n - is.length) (rdMark (is.map (·.1)) listed) (rdAct ops is a) w) : wpL P md ops Q S late n listed a w := by
  have := wpL_reads_ hn hQ is listed a w hk hS hr h
  rwa [Nat.sub_add_cancel hl] at this
end
end Go.Proofs.YtmedomglemllnaaGreatDoor
/- The parts of a struct that can be read. No statement of the seat is proved here. -/
namespace Go.Proofs.YtmedomglemllnaaGreatDoor
set_option linter.unusedSimpArgs false
set_option linter.unusedVariables false
open Go.RowKit
section
variable {w : World} {S : Nat → Prop}
theorem RC.mbI {x : Mb} {v : Value} (h : RC w S x.d [v]) : RC w S (.l 26 5 (x.index.map Tm.d)) [v] := by
  obtain ⟨A, c, he, hr⟩ := RC.mb.1 h
  obtain rfl : v = _ := by simpa using he
  exact hr
theorem RC.ctT {x : Ct} {v : Value} {cs : List Value} (h : RC w S x.d (v :: cs)) : RC w S x.ty.d cs := by
  obtain ⟨_, _, _, _, he, _, hr⟩ := RC.ct.1 h
  simp only [List.cons.injEq] at he
  obtain ⟨rfl, rfl⟩ := he
  exact hr
end
end Go.Proofs.YtmedomglemllnaaGreatDoor
/- More of the state of a call at work: rows taken apart and put together; blocks that are no cells. No statement of the seat is proved here. -/
namespace Go.Proofs.YtmedomglemllnaaGreatDoor
set_option linter.unusedSimpArgs false
set_option linter.unusedVariables false
open Go.RowKit

theorem D.sizes_append (a b : List D) : D.sizes (a ++ b) = D.sizes a + D.sizes b := by
  induction a with
  | nil => simp [D.sizes]
  | cons d a ih => simp only [List.cons_append, D.sizes, ih]; omega
theorem Subl.refl : (l : List Ch) → Subl l l
  | [] => .nil
  | _ :: l => .keep (Subl.refl l)
theorem Arr.refl : (l : List Ch) → Arr l l
  | [] => .nil
  | _ :: l => .cons .head (Arr.refl l)
theorem Arr.skip {c : Ch} {l l' : List Ch} (h : Arr l l') : Arr (c :: l) l' := by
  induction h generalizing c with
  | nil => exact .nil
  | cons p _ ih => exact .cons (.tail p) ih
theorem Arr.of_subl {l l' : List Ch} (h : Subl l l') : Arr l l' := by
  induction h with
  | nil => exact .nil
  | keep _ ih => exact .cons .head ih
  | drop _ ih => exact ih.skip
section
variable {X : Nat → Prop} {w0 w w1 : World} {l l' l1 l2 l3 : List Ch}
theorem Hp.allocObj (H : Hp X w0 w l) (o : Obj) : Hp X w0 (w.alloc o) (.obj w.heap.size o :: l) := by
  obtain ⟨L, h, hn⟩ := H.own
  refine ⟨H.ext.alloc _, [w.heap.size] ++ L, ?_, ?_⟩
  · unfold Chs
    exact ⟨_, L, rfl, ⟨rfl, H.ext.size, heap_alloc_new _ _⟩, h.frame H.ext.size (by simp) (fun k hk _ => Below.heap_alloc _ _ _ (Nat.lt_of_lt_of_le hk H.ext.size)) (fun k hk => Below.heap_alloc _ _ _ (h.lt k hk).2)⟩
  · simp only [List.singleton_append, List.nodup_cons]
    exact ⟨fun hk => by have := (h.lt _ hk).2; omega, hn⟩
theorem Hp.objAt (H : Hp X w0 w l) {g : Nat} {o : Obj} (p : Pick l (.obj g o) l') : w.heap[g]? = some o := by
  obtain ⟨L, h, _⟩ := (H.pick p).own
  unfold Chs at h
  obtain ⟨L1, L2, rfl, h1, h2⟩ := h
  exact h1.2.2
theorem Hp.putObj (H : Hp X w0 w l) {g : Nat} {o o' : Obj} (u : Upd l (.obj g o) (.obj g o') l') (h1 : w1.os = w.os) (h2 : w1.tape = w.tape) (h3 : w1.output = w.output) (h4 : w1.heap = w.heap.setIfInBounds g o') : Hp X w0 w1 l' := by
  obtain ⟨L, h, hn⟩ := H.own
  obtain ⟨K, ⟨rfl, hg, hb⟩, _⟩ := h.sub u
  have hlt : g < w.heap.size := (Array.getElem?_eq_some_iff.1 hb).1
  have far : ∀ k, k ≠ g → w1.heap[k]? = w.heap[k]? := fun k hk => by rw [h4, Array.getElem?_setIfInBounds_ne (Ne.symm hk)]
  have hx : Ext (fun x => x = g) w w1 := ⟨h1, h2, h3, by rw [h4]; simp, fun k _ hk => far k hk⟩
  refine ⟨H.ext.trans hx (fun _ _ h => h) (fun i hi e => by omega), L, h.upd u H.ext.size hx.size hn (fun k hk hn => far k (fun e => by omega)) ?_ ?_, hn⟩
  · rintro K ⟨rfl, g1, g2⟩
    exact ⟨rfl, g1, by rw [h4]; simp [hlt]⟩
  · rintro K ⟨rfl, g1, g2⟩ k hk hne
    exact far k (by simpa using hne)
theorem Hp.turn1 {c : Ch} {ds' : List Ch} (H : Hp X w0 w l) (p : Pick l c l') (h : ∀ L, Ch1 X w w0.heap.size c L → Chs X w w0.heap.size ds' L) : Hp X w0 w (ds' ++ l') :=
  Hp.turn (ds := [c]) (H.pick p) fun L hL => by
    simp only [Chs] at hL
    obtain ⟨L1, _, rfl, h1, rfl⟩ := hL
    simpa using h L1 h1
theorem Hp.unrow {e z : Nat} {ds : List D} {v : Value} (H : Hp X w0 w l) (p : Pick l (.dat (.l e z ds) [v]) l') : ∃ es, es.length = ds.length * z ∧ Hp X w0 w (.raw e z ds.length v es :: .dat (.s ds) es :: l') := by
  obtain ⟨L, h1, h2⟩ := (H.pick p).got
  unfold RO at h1
  obtain ⟨v1, es, Lr, e1, hM, hz, hown, hro, rfl⟩ := h1
  obtain rfl : v = v1 := by simpa using e1
  refine ⟨es, hown.1, Hp.turn1 (ds' := [_, _]) H p fun L hL => ?_⟩
  have hL' : RO w w0.heap.size (.l e z ds) [v] L := hL
  unfold RO at hL'
  obtain ⟨v2, es2, Lr2, e2, hM2, hz2, hown2, hro2, rfl⟩ := hL'
  obtain rfl : v = v2 := by simpa using e2
  have hes : es2 = es := by
    have hl1 := hown.1
    have a := hown.2
    have hl2 := hown2.1
    have b := hown2.2
    rcases a with ⟨rfl, a⟩ | ⟨g, cap, cur, rfl, _, hg, _, _, _, ht⟩
    · have h0 : es2.length = 0 := by rw [hl2, a]; simp
      have h1 : es.length = 0 := by rw [hl1, a]; simp
      rw [List.length_eq_zero_iff.1 h0, List.length_eq_zero_iff.1 h1]
    · rcases b with ⟨b, _⟩ | ⟨g', cap', cur', b, _, hg', _, _, _, ht'⟩
      · cases b
      · simp only [Value.slice.injEq, Option.some.injEq, Addr.mk.injEq, true_and, and_true] at b
        obtain ⟨rfl, rfl⟩ := b
        rw [hg] at hg'
        simp only [Option.some.injEq, Obj.cells.injEq] at hg'
        rw [← ht, ← ht', hg'.1]
  subst hes
  simp only [Chs]
  exact ⟨v.ownBlock.toList, Lr2, rfl, ⟨rfl, hown2⟩, Lr2, [], by simp, by unfold Ch1 RO; exact hro2, rfl⟩
theorem Hp.mkrow {e z n : Nat} {ds : List D} {v : Value} {es : List Value} (H : Hp X w0 w l) (p1 : Pick l (.raw e z n v es) l1) (p2 : Pick l1 (.dat (.s ds) es) l2) (hn : ds.length = n) (hz : ∀ d ∈ ds, d.size = z) (hM : n ≤ M) : Hp X w0 w (.dat (.l e z ds) [v] :: l2) := by
  subst hn
  refine Hp.turn (ds := [_, _]) (ds' := [_]) ((H.pick p1).pick (.tail p2)).swap fun L hL => ?_
  simp only [Chs] at hL ⊢
  obtain ⟨L1, _, rfl, ⟨rfl, h1⟩, L2, _, rfl, h2, rfl⟩ := hL
  refine ⟨v.ownBlock.toList ++ L2, [], by simp, ?_, rfl⟩
  unfold Ch1 RO at h2 ⊢
  exact ⟨v, es, L2, rfl, hM, hz, h1, h2, rfl⟩
theorem Hp.boxraw {g e z n : Nat} {cs : List Value} (H : Hp no w0 w l) (p : Pick l (.box g e cs) l') (hl : cs.length = n * z) (hn : n ≤ maxLen) : Hp no w0 w (.raw e z n (.slice (some ⟨g, 0, none⟩) n n) cs :: l') :=
  Hp.turn1 (ds' := [_]) H p fun L hL => by
    obtain ⟨rfl, hg, hb⟩ := hL
    simp only [Chs]
    exact ⟨[g], [], rfl, ⟨by simp [Value.ownBlock], hl, .inr ⟨g, n, cs.toArray, rfl, hg.resolve_left no_not, hb, Nat.le_refl _, hn, by simpa using hl, by simp [← hl]⟩⟩, rfl⟩
theorem Hp.boxrow {g e z n : Nat} {ds : List D} {cs : List Value} (H : Hp no w0 w l) (p1 : Pick l (.box g e cs) l1) (p2 : Pick l1 (.dat (.s ds) cs) l2) (hn : ds.length = n) (hz : ∀ d ∈ ds, d.size = z) (hM : n ≤ M) : Hp no w0 w (.dat (.l e z ds) [.slice (some ⟨g, 0, none⟩) n n] :: l2) := by
  have hl : cs.length = n * z := by
    have := RC.len _ _ ((H.pick p1).rd (.tail p2))
    rw [this, D.size, D.sizes_eq hz, hn]
  exact Hp.mkrow (H.boxraw p1 hl (by unfold M at hM; unfold maxLen; omega)) .head p2 hn hz hM
theorem Hp.cut {a b : List D} {cs : List Value} (H : Hp X w0 w l) (p : Pick l (.dat (.s (a ++ b)) cs) l') : ∃ c1 c2, cs = c1 ++ c2 ∧ c1.length = D.sizes a ∧ c2.length = D.sizes b ∧ Hp X w0 w (.dat (.s a) c1 :: .dat (.s b) c2 :: l') := by
  have hl : cs.length = D.sizes a + D.sizes b := by
    have := RC.len _ _ (H.rd p)
    rw [this, D.size, D.sizes_append]
  refine ⟨cs.take (D.sizes a), cs.drop (D.sizes a), (List.take_append_drop _ _).symm, by simp; omega, by simp; omega, ?_⟩
  refine Hp.turn1 (ds' := [_, _]) H p fun L hL => ?_
  have key : ∀ (a : List D) (cs : List Value) (L : List Nat), ROs w w0.heap.size (a ++ b) cs L → ∃ L1 L2, L = L1 ++ L2 ∧ ROs w w0.heap.size a (cs.take (D.sizes a)) L1 ∧ ROs w w0.heap.size b (cs.drop (D.sizes a)) L2 := by
    intro a
    induction a with
    | nil => intro cs L h; exact ⟨[], L, rfl, by unfold ROs; simp [D.sizes], by simpa [D.sizes] using h⟩
    | cons d a ih =>
      intro cs L h
      rw [List.cons_append] at h
      unfold ROs at h
      obtain ⟨c1, c2, L1, L2, rfl, rfl, h1, h2⟩ := h
      obtain ⟨K1, K2, rfl, g1, g2⟩ := ih c2 L2 h2
      have hd := RO.len h1
      refine ⟨L1 ++ K1, K2, by simp, ?_, ?_⟩
      · unfold ROs
        exact ⟨c1, _, L1, K1, by rw [D.sizes, ← hd, List.take_length_add_append], rfl, h1, g1⟩
      · rw [D.sizes, ← hd, List.drop_length_add_append]
        exact g2
  have h : ROs w w0.heap.size (a ++ b) cs L := by have h := hL; unfold Ch1 RO at h; exact h
  obtain ⟨L1, L2, rfl, h1, h2⟩ := key a cs L h
  simp only [Chs]
  exact ⟨L1, L2, rfl, by unfold Ch1 RO; exact h1, L2, [], by simp, by unfold Ch1 RO; exact h2, rfl⟩
theorem Hp.join {a b : List D} {c1 c2 : List Value} (H : Hp X w0 w l) (p1 : Pick l (.dat (.s a) c1) l1) (p2 : Pick l1 (.dat (.s b) c2) l2) : Hp X w0 w (.dat (.s (a ++ b)) (c1 ++ c2) :: l2) := by
  refine Hp.turn (ds := [_, _]) (ds' := [_]) ((H.pick p1).pick (.tail p2)).swap fun L hL => ?_
  simp only [Chs] at hL ⊢
  obtain ⟨L1, _, rfl, h1, L2, _, rfl, h2, rfl⟩ := hL
  refine ⟨L1 ++ L2, [], by simp, ?_, rfl⟩
  unfold Ch1 RO at h1 h2 ⊢
  exact h1.append h2
theorem Hp.rawAt {e z n : Nat} {v : Value} {es : List Value} (H : Hp X w0 w l) (p : Pick l (.raw e z n v es) l') (hn : 0 < n) : ∃ g c, v = .slice (some ⟨g, 0, none⟩) n c ∧ n ≤ c ∧ (∀ j u, es[j]? = some u → w.cell? ⟨g, j, none⟩ = some u) ∧ g < w.heap.size := by
  obtain ⟨L, h, _⟩ := (H.pick p).own
  unfold Chs at h
  obtain ⟨L1, L2, rfl, ⟨rfl, h1⟩, h2⟩ := h
  have hc := h1
  obtain ⟨hl, h1⟩ := h1
  rcases h1 with ⟨rfl, h1⟩ | ⟨g, cap, cur, rfl, hB, hg, hcap, _⟩
  · omega
  · exact ⟨g, cap, rfl, hcap, fun j u hu => by have := hc.cells (g := g) rfl j u hu; rwa [Addr.add_lit, Nat.zero_add] at this, (Array.getElem?_eq_some_iff.1 hg).1⟩
end
end Go.Proofs.YtmedomglemllnaaGreatDoor
/- A range over a function, in the terms of the state of a call at work: the statement, a round, the end of a function that holds one; what is walked outside a round holds within. No statement of the seat is proved here. -/
namespace Go.Proofs.YtmedomglemllnaaGreatDoor
set_option linter.unusedSimpArgs false
set_option linter.unusedVariables false
open Go.RowKit

section
variable {P : Program} {ops : Array Oper} {Q : Exit → Act → World → Prop} {n l : Nat}
abbrev Rn (l : Nat) : Fence := Fence.wide.inRound l
theorem callsRn {f : FuncId} {args : Array Value} {w : World} {R : Ending → World → Prop} (h : Calls P f args w R) : CallsIn (Rn l) n P f args w R := by
  have h1 : CallsIn Fence.wide n P f args w R := callsIn_wide.2 h
  refine ⟨trivial, fun cs hr => ?_⟩
  obtain ⟨e, w', fr, r, s, x⟩ := h1.2 cs (room_wide _)
  exact ⟨e, w', fr, r, s, x⟩
theorem rowsRn {row : String} {args : Array Value} {w : World} {R : Value → World → Prop} (h : Rows P row args w R) : RowsIn (Rn l) n P row args w R := by
  intro c cs _
  obtain ⟨v, w', r, s⟩ := h c cs
  exact ⟨v, w', r, stepsIn_wide.2 s⟩
def noDefer (o : Oper) : Bool := match o.op with | .defer _ => false | _ => true
theorem noDefer_spec {o : Oper} (h : noDefer o = true) : ∀ c, o.op ≠ .defer c := fun c e => by simp [noDefer, e] at h
theorem uponRn {o : Oper} {a : Act} {K : Act → World → Prop} {r : Result Next} (h : o.upon P a K Q r) : o.uponIn (Rn l) n P a K Q r := by
  cases r with
  | ok x w' =>
    cases x <;> simp only [Oper.upon, Oper.uponIn] at h ⊢ <;> first
      | exact h
      | exact ⟨fun e => (by cases e), callsRn h⟩
      | exact ⟨fun e => (by cases e), rowsRn h⟩
      | exact h.elim
  | halt x w' => cases x <;> simp only [Oper.upon, Oper.uponIn] at h ⊢ <;> exact h
theorem wpOpRn {i : Nat} {K : Act → World → Prop} {a : Act} {w : World} (hd : ops.all noDefer = true) (hL : ¬ LetsOut Q) (h : wpOp P ops Q i K a w) : wpOpIn (Rn l) n P ops Q i K a w := by
  unfold wpOp at h
  unfold wpOpIn
  cases ho : ops[i]? with
  | none => simp only [ho] at h ⊢; exact h
  | some o =>
    simp only [ho] at h ⊢
    have hnd := noDefer_spec (Array.all_eq_true_iff_forall_mem.1 hd o (Array.mem_of_getElem? ho))
    split
    · rename_i hw
      simp only [hw, if_true] at h
      rcases h with h | h
      · refine ⟨fun _ _ => trivial, ?_⟩
        rw [Oper.semAt_eq _ _ _ hnd]
        exact uponRn h
      · exact absurd h.2 hL
    · rename_i hw
      simp only [hw] at h
      exact ⟨fun _ _ => trivial, h⟩
theorem wpAnyRn {md : Region.Mode} (hd : ops.all noDefer = true) (hL : ¬ LetsOut Q) : ∀ (fuel : Nat) (listed : Array Bool) (a : Act) (w : World), wpAny P md ops Q fuel listed a w → wpAnyIn (Rn l) n P md ops Q fuel listed a w
  | 0, _, _, _, h => h
  | fuel + 1, listed, a, w, h => ⟨h.1, fun i hi => wpOpIn_mono (fun a w h => wpAnyRn hd hL fuel _ a w h) (wpOpRn hd hL (h.2 i hi))⟩
theorem wpOpsRn (hd : ops.all noDefer = true) (hL : ¬ LetsOut Q) : ∀ (is : List Nat) (a : Act) (w : World), wpOps P ops Q is a w → wpOpsIn (Rn l) n P ops Q is a w
  | [], _, _, h => h
  | i :: is, a, w, h => by
    rw [wpOps_cons] at h
    rw [wpOpsIn_cons]
    exact wpOpIn_mono (fun a w h => wpOpsRn hd hL is a w h) (wpOpRn hd hL h)
theorem regionRn {id : Nat} {a : Act} {w : World} (hd : ops.all noDefer = true) (hL : ¬ LetsOut Q) (h : wpList P ops Q ops.toList a w) : (Code.region id ops false).wpIn (Rn l) n P Q a w := by
  refine wpIn_region (wpOpsRn hd hL _ a w ?_)
  have := wpOps_eq_wpList (P := P) (ops := ops) (Q := Q) ops.toList 0 (fun j => by simp)
  rw [List.range_eq_range']
  simpa using (congrFun (congrFun this a) w).mpr h
theorem regionRnD {id : Nat} {a : Act} {w : World} {S : World → Prop} (late : List Nat) (hd : ops.all noDefer = true) (hL : ¬ LetsOut Q) (hm : P.follows .mixedOrders = true)
    (h : wpL P .any ops Q S late ops.size (Array.replicate ops.size false) a w.drew) : (Code.region id ops true).wpIn (Rn l) n P Q a w :=
  wpIn_region_any hm (wpAnyRn hd hL _ _ _ _ (wpL.any _ _ _ _ h))
end

def recL (fn : FuncId) (tmps : Array Value) (ps : Array Tmp) (assign body : Code) (D : Nat) (st : LoopState) (pe : Option Code) : Loop := { state := st, pending := pe, fn, tmps, params := ps, assign, body, defers := D }
section
variable {P : Program} {X : Nat → Prop} {w0 w : World} {l l' : List Ch}
theorem wp_rangeH {g : Operand} {ps : Array Tmp} {assign body : Code} {Q : Exit → Act → World → Prop} {a : Act} {gf : Nat} {lb : Array Value} (H : Hp X w0 w l) (hg : a.eval g = .func (.func gf) #[] lb) (eg : ∀ args w, (callFunc gf args).run P w = .ok (.enter gf args) w)
    (h : ∀ fn D L rc w1, D ≠ L → rc = recL fn a.tmps ps assign body D → Hp X w0 w1 (.obj L (.loop (rc .ready none)) :: .obj D (.deferred (some [])) :: l) →
      CallsIn Fence.wide 0 P gf (#[.func (.yield L) #[] #[]] ++ lb) w1 fun e w3 => ∃ v, e = .returned v ∧ ∃ st pe l', st ≠ .busy ∧ Hp X w0 w3 (.obj L (.loop (rc st pe)) :: l') ∧
        ∀ w4, Hp X w0 w4 l' → match pe with
          | none => Q .normal { a with defers := { target := .collected D, args := #[] } :: a.defers } w4
          | some c => c.wp P Q { a with defers := { target := .collected D, args := #[] } :: a.defers } w4) :
    (Code.rangeFunc g ps assign body).wp P Q a w := by
  refine (wpIn_wide (n := 0)).1 (wpIn_rangeFunc ?_)
  intro fn _
  have H1 := (H.allocObj (.deferred (some []))).allocObj (.loop (recL fn a.tmps ps assign body w.heap.size .ready none))
  rw [World.size_alloc] at H1
  obtain ⟨W1, hW1⟩ : ∃ W1, (w.alloc (.deferred (some []))).alloc (.loop (recL fn a.tmps ps assign body w.heap.size .ready none)) = W1 := ⟨_, rfl⟩
  rw [hW1] at H1
  refine ⟨w.heap.size + 1, [{ target := .collected w.heap.size, args := #[] }], W1, { target := .fn (.func gf) lb, args := #[.func (.yield (w.heap.size + 1)) #[] #[]] }, W1, gf,
    #[.func (.yield (w.heap.size + 1)) #[] #[]] ++ lb, W1, ?_, ?_, fun _ _ => trivial, ?_, fun e => (by cases e), ?_⟩
  · rw [← hW1]; exact run_enterLoop_outer _ _ _ _ _
  · simp only [resolve, hg]
    simp [go_sem]
  · simp [invoke, go_sem, eg]
  · refine (h fn w.heap.size (w.heap.size + 1) _ _ (by omega) rfl H1).mono ?_
    rintro e w3 ⟨v, rfl, st, pe, l', hst, H3, hQ⟩
    have ho := H3.objAt .head
    refine ⟨pe, _, run_endLoop ho hst, ?_⟩
    have H4 := (H3.putObj (w1 := w3.putObj (w.heap.size + 1) (.loop { recL fn a.tmps ps assign body w.heap.size st pe with state := .exhausted })) .head rfl rfl rfl rfl).tl
    have := hQ _ H4
    cases pe with
    | none => exact this
    | some c => exact wpIn_wide.2 this
theorem roundH {fn L D : Nat} {tmps : Array Value} {ps : Array Tmp} {assign body : Code} {xs : Array Value} {R : Ending → World → Prop} {rc : LoopState → Option Code → Loop} (hrc : rc = recL fn tmps ps assign body D) (H : Hp X w0 w (.obj L (.loop (rc .ready none)) :: l)) (hs : xs.size = ps.size)
    (h : assign.wpIn (Rn L) 0 P (Exit.then (fun a1 w1 => ∃ l1, Hp X w0 w1 (.obj L (.loop (rc .ready none)) :: l1) ∧ ∀ w2, Hp X w0 w2 (.obj L (.loop (rc .busy none)) :: l1) → body.wpIn (Rn L) 0 P (roundPost P L R) a1 w2) (fun _ _ _ => False))
      { tmps := (ps.zip xs).foldl (fun t (p, v) => t.setIfInBounds p v) tmps, defers := [] } w) : YieldAt Fence.wide 0 P L xs w R := by
  subst hrc
  have hy := run_yield (P := P) (args := xs) (H.objAt .head) hs
  refine ⟨fn, _, assign, body, hy, roundIn_of_wpIn trivial (wpIn_mono h ?_)⟩
  rintro e a1 w1 hq
  cases e with
  | normal =>
    obtain ⟨l1, H1, hb⟩ := hq
    exact ⟨_, run_beginRound (H1.objAt .head) rfl, hb _ (H1.putObj .head rfl rfl rfl rfl)⟩
  | _ => exact hq
theorem roundEnd {fn L D : Nat} {tmps : Array Value} {ps : Array Tmp} {assign body : Code} {R : Ending → World → Prop} {l1 : List Ch} {rc : LoopState → Option Code → Loop} (hrc : rc = recL fn tmps ps assign body D) (jump : Option Code) (H : Hp X w0 w l1) (p : Pick l1 (.obj L (.loop (rc .busy none))) l)
    (h : ∀ w', Hp X w0 w' (.obj L (.loop (rc (if jump.isNone then .ready else .done) jump)) :: l) → R (.returned (.bool jump.isNone)) w') : ∃ v w', (Instr.endRound L jump).run P w = .ok v w' ∧ R (.returned v) w' := by
  subst hrc
  exact ⟨_, _, run_endRound jump ((H.pick p).objAt .head), h _ ((H.pick p).putObj .head rfl rfl rfl rfl)⟩
theorem roundNext {fn L D : Nat} {tmps : Array Value} {ps : Array Tmp} {assign body : Code} {R : Ending → World → Prop} {l1 : List Ch} {a : Act} {rc : LoopState → Option Code → Loop} (hrc : rc = recL fn tmps ps assign body D) (H : Hp X w0 w l1) (p : Pick l1 (.obj L (.loop (rc .busy none))) l)
    (h : ∀ w', Hp X w0 w' (.obj L (.loop (rc .ready none)) :: l) → R (.returned (.bool true)) w') : roundPost P L R .normal a w := roundEnd hrc none H p h
theorem roundRet {fn L D : Nat} {tmps : Array Value} {ps : Array Tmp} {assign body : Code} {R : Ending → World → Prop} {l1 : List Ch} {a : Act} {rc : LoopState → Option Code → Loop} (hrc : rc = recL fn tmps ps assign body D) (H : Hp X w0 w l1) (p : Pick l1 (.obj L (.loop (rc .busy none))) l)
    (h : ∀ w', Hp X w0 w' (.obj L (.loop (rc .done (some .ret))) :: l) → R (.returned (.bool false)) w') : roundPost P L R .ret a w := roundEnd hrc (some .ret) H p h
theorem no_letsThen {K : Act → World → Prop} {Q : Exit → Act → World → Prop} (h : ¬ LetsOut Q) : ¬ LetsOut (Exit.then K Q) := fun ⟨a, w, hq⟩ => h ⟨a, w, hq⟩
theorem enterM {f : FuncId} {fn : Func} {c : Code} {args : Array Value} {R : Ending → World → Prop} (hf : P.funcs[f]? = some fn) (hb : fn.body = some c)
    (h : c.wp P (bodyPostM Fence.wide 0 P fn R) { tmps := args ++ Array.replicate (fn.ntmps - args.size) undef, defers := [] } w) : Calls P f args w R :=
  callsIn_wide.1 (callsIn_of_wp_marks hf hb trivial (wpIn_wide.2 h))
theorem leaveM {fn : Func} {tmps : Array Value} {D : Nat} {R : Ending → World → Prop} {v : Value} (H : Hp X w0 w l) (p : Pick l (.obj D (.deferred (some []))) l')
    (h : ∀ w', Hp X w0 w' l' → (results fn tmps).run P w' = .ok v w' ∧ R (.returned v) w') : bodyPostM Fence.wide 0 P fn R .ret { tmps, defers := [{ target := .collected D, args := #[] }] } w :=
  ⟨by simp, .inl ⟨D, _, rfl, run_takeDeferred ((H.pick p).objAt .head), ⟨v, h _ (Hp.putObj (o' := .deferred none) (w1 := w.putObj D (.deferred none)) (H.pick p) .head rfl rfl rfl rfl).tl⟩⟩⟩
end
end Go.Proofs.YtmedomglemllnaaGreatDoor
/- slices.Backward over terms: its closure, whatever the loop's body keeps. No statement of the seat is proved here. -/
namespace Go.Proofs.YtmedomglemllnaaGreatDoor
set_option linter.unusedSimpArgs false
set_option linter.unusedVariables false
open Go.RowKit
attribute [local go_sem] Oper.semAt_some

def aboveT (k : Int) : List Tm → Tm → Tm
  | [], b => b
  | a :: r, b => .mk k 0 0 [] [a, aboveT k r b]
theorem RCs.tms {w : World} {S : Nat → Prop} {ts : List Tm} {es : List Value} (h : RCs w S (ts.map Tm.d) es) : ∃ (A3 A4 : Nat → Option Addr) (c3 c4 : Nat → Nat), ∀ j (hj : j < ts.length), es[j * 5]? = some (.int .i64 ts[j].k) ∧ es[j * 5 + 1]? = some (.int .i64 ts[j].n) ∧ es[j * 5 + 2]? = some (.int .i64 ts[j].a) ∧ es[j * 5 + 3]? = some (.slice (A3 j) ts[j].ls.length (c3 j)) ∧ es[j * 5 + 4]? = some (.slice (A4 j) ts[j].ks.length (c4 j)) := by
  have key : ∀ j, ∃ (A3 A4 : Option Addr) (c3 c4 : Nat), ∀ hj : j < ts.length, es[j * 5]? = some (.int .i64 ts[j].k) ∧ es[j * 5 + 1]? = some (.int .i64 ts[j].n) ∧ es[j * 5 + 2]? = some (.int .i64 ts[j].a) ∧ es[j * 5 + 3]? = some (.slice A3 ts[j].ls.length c3) ∧ es[j * 5 + 4]? = some (.slice A4 ts[j].ks.length c4) := by
    intro j
    by_cases hj : j < ts.length
    · obtain ⟨cs, g1, g2, g3⟩ := h.get (z := 5) (fun d hd => by obtain ⟨t, _, rfl⟩ := List.mem_map.1 hd; exact Tm.size_d t) (i := j) (d := ts[j].d) (by simp [hj])
      obtain ⟨A1, c1, K1, k1, rfl, _⟩ := RC.tm.1 g1
      exact ⟨A1, K1, c1, k1, fun _ => ⟨g3 0 _ rfl, g3 1 _ rfl, g3 2 _ rfl, g3 3 _ rfl, g3 4 _ rfl⟩⟩
    · exact ⟨none, none, 0, 0, fun h => absurd h hj⟩
  exact ⟨fun j => (key j).choose, fun j => (key j).choose_spec.choose, fun j => (key j).choose_spec.choose_spec.choose, fun j => (key j).choose_spec.choose_spec.choose_spec.choose, fun j => (key j).choose_spec.choose_spec.choose_spec.choose_spec⟩
theorem sizes_tms (ts : List Tm) : D.sizes (ts.map Tm.d) = ts.length * 5 := by
  rw [D.sizes_eq (z := 5) (fun d hd => by obtain ⟨t, _, rfl⟩ := List.mem_map.1 hd; exact Tm.size_d t), List.length_map]
section
variable {X : Nat → Prop} {w0 w : World} {l l1 l2 : List Ch}
end
end Go.Proofs.YtmedomglemllnaaGreatDoor
