/- A range over a function, in the terms of the state of a call at work: the statement, a round, the end of a function that holds one; what is walked outside a round holds within. No statement of the seat is proved here. -/
import Derived.Test.YteelplgdojjakaaGreatDoorMgRow
import Derived.RangeFuncRecord
import Derived.OrdersIn
import Derived.RangeFuncSeq
import Derived.RangeFuncBound
import Derived.RangeFuncCalls
import Derived.OwnWalkIn
import Derived.TacticsInMore
import Derived.LoopNIn
import Derived.LoopIn
import Derived.Shelf.Abstract
import Derived.Shelf.RegionOpen
import Derived.Laws.MakeOwn
namespace Go.Proofs.YteelplgdojjakaaGreatDoor
set_option linter.unusedSimpArgs false
set_option linter.unusedVariables false
open Go.RowKit

section
variable {P : Program} {ops : Array Oper} {Q : Exit → Act → World → Prop} {n l : Nat}
/-- The fence of a round. -/
abbrev Rn (l : Nat) : Fence := Fence.wide.inRound l
theorem callsRn {f : FuncId} {args : Array Value} {w : World} {R : Ending → World → Prop} (h : Calls P f args w R) : CallsIn (Rn l) n P f args w R := by
  have h1 : CallsIn Fence.wide n P f args w R := callsIn_wide.2 h
  refine ⟨trivial, fun cs hr => ?_⟩
  obtain ⟨e, w', fr, r, s, x⟩ := h1.2 cs (room_wide _)
  exact ⟨e, w', fr, r, s, x⟩
theorem rowsRn {row : String} {args : Array Value} {w : World} {R : Value → World → Prop} (h : Rows P row args w R) : RowsIn (Rn l) n P row args w R := by
  intro c cs _
  obtain ⟨v, w', r, s⟩ := h c cs
  exact ⟨v, w', r, stepsIn_wide.2 s⟩
def noDefer (o : Oper) : Bool := match o.op with | .defer _ => false | _ => true
theorem noDefer_spec {o : Oper} (h : noDefer o = true) : ∀ c, o.op ≠ .defer c := fun c e => by simp [noDefer, e] at h
theorem uponRn {o : Oper} {a : Act} {K : Act → World → Prop} {r : Result Next} (h : o.upon P a K Q r) : o.uponIn (Rn l) n P a K Q r := by
  cases r with
  | ok x w' =>
    cases x <;> simp only [Oper.upon, Oper.uponIn] at h ⊢ <;> first
      | exact h
      | exact ⟨fun e => (by cases e), callsRn h⟩
      | exact ⟨fun e => (by cases e), rowsRn h⟩
      | exact h.elim
  | halt x w' => cases x <;> simp only [Oper.upon, Oper.uponIn] at h ⊢ <;> exact h
theorem wpOpRn {i : Nat} {K : Act → World → Prop} {a : Act} {w : World} (hd : ops.all noDefer = true) (hL : ¬ LetsOut Q) (h : wpOp P ops Q i K a w) : wpOpIn (Rn l) n P ops Q i K a w := by
  unfold wpOp at h
  unfold wpOpIn
  cases ho : ops[i]? with
  | none => simp only [ho] at h ⊢; exact h
  | some o =>
    simp only [ho] at h ⊢
    have hnd := noDefer_spec (Array.all_eq_true_iff_forall_mem.1 hd o (Array.mem_of_getElem? ho))
    split
    · rename_i hw
      simp only [hw, if_true] at h
      rcases h with h | h
      · refine ⟨fun _ _ => trivial, ?_⟩
        rw [Oper.semAt_eq _ _ _ hnd]
        exact uponRn h
      · exact absurd h.2 hL
    · rename_i hw
      simp only [hw] at h
      exact ⟨fun _ _ => trivial, h⟩
theorem wpAnyRn {md : Region.Mode} (hd : ops.all noDefer = true) (hL : ¬ LetsOut Q) : ∀ (fuel : Nat) (listed : Array Bool) (a : Act) (w : World), wpAny P md ops Q fuel listed a w → wpAnyIn (Rn l) n P md ops Q fuel listed a w
  | 0, _, _, _, h => h
  | fuel + 1, listed, a, w, h => ⟨h.1, fun i hi => wpOpIn_mono (fun a w h => wpAnyRn hd hL fuel _ a w h) (wpOpRn hd hL (h.2 i hi))⟩
theorem wpOpsRn (hd : ops.all noDefer = true) (hL : ¬ LetsOut Q) : ∀ (is : List Nat) (a : Act) (w : World), wpOps P ops Q is a w → wpOpsIn (Rn l) n P ops Q is a w
  | [], _, _, h => h
  | i :: is, a, w, h => by
    rw [wpOps_cons] at h
    rw [wpOpsIn_cons]
    exact wpOpIn_mono (fun a w h => wpOpsRn hd hL is a w h) (wpOpRn hd hL h)
/-- A region in a round, walked as outside. -/
theorem regionRn {id : Nat} {a : Act} {w : World} (hd : ops.all noDefer = true) (hL : ¬ LetsOut Q) (h : wpList P ops Q ops.toList a w) : (Code.region id ops false).wpIn (Rn l) n P Q a w := by
  refine wpIn_region (wpOpsRn hd hL _ a w ?_)
  have := wpOps_eq_wpList (P := P) (ops := ops) (Q := Q) ops.toList 0 (fun j => by simp)
  rw [List.range_eq_range']
  simpa using (congrFun (congrFun this a) w).mpr h
theorem regionRnD {id : Nat} {a : Act} {w : World} {S : World → Prop} (late : List Nat) (hd : ops.all noDefer = true) (hL : ¬ LetsOut Q) (hm : P.follows .mixedOrders = true)
    (h : wpL P .any ops Q S late ops.size (Array.replicate ops.size false) a w.drew) : (Code.region id ops true).wpIn (Rn l) n P Q a w :=
  wpIn_region_any hm (wpAnyRn hd hL _ _ _ _ (wpL.any _ _ _ _ h))
end

/-- A loop's record. -/
def recL (fn : FuncId) (tmps : Array Value) (ps : Array Tmp) (assign body : Code) (D : Nat) (st : LoopState) (pe : Option Code) : Loop := { state := st, pending := pe, fn, tmps, params := ps, assign, body, defers := D }
section
variable {P : Program} {X : Nat → Prop} {w0 w : World} {l l' : List Ch}
/-- 'for .. := range g': the record is laid, g is called; what a round has left pending is taken up. -/
theorem wp_rangeH {g : Operand} {ps : Array Tmp} {assign body : Code} {Q : Exit → Act → World → Prop} {a : Act} {gf : Nat} {lb : Array Value} (H : Hp X w0 w l) (hg : a.eval g = .func (.func gf) #[] lb) (eg : ∀ args w, (callFunc gf args).run P w = .ok (.enter gf args) w)
    (h : ∀ fn D L rc w1, D ≠ L → rc = recL fn a.tmps ps assign body D → Hp X w0 w1 (.obj L (.loop (rc .ready none)) :: .obj D (.deferred (some [])) :: l) →
      CallsIn Fence.wide 0 P gf (#[.func (.yield L) #[] #[]] ++ lb) w1 fun e w3 => ∃ v, e = .returned v ∧ ∃ st pe l', st ≠ .busy ∧ Hp X w0 w3 (.obj L (.loop (rc st pe)) :: l') ∧
        ∀ w4, Hp X w0 w4 l' → match pe with
          | none => Q .normal { a with defers := { target := .collected D, args := #[] } :: a.defers } w4
          | some c => c.wp P Q { a with defers := { target := .collected D, args := #[] } :: a.defers } w4) :
    (Code.rangeFunc g ps assign body).wp P Q a w := by
  refine (wpIn_wide (n := 0)).1 (wpIn_rangeFunc ?_)
  intro fn _
  have H1 := (H.allocObj (.deferred (some []))).allocObj (.loop (recL fn a.tmps ps assign body w.heap.size .ready none))
  rw [World.size_alloc] at H1
  obtain ⟨W1, hW1⟩ : ∃ W1, (w.alloc (.deferred (some []))).alloc (.loop (recL fn a.tmps ps assign body w.heap.size .ready none)) = W1 := ⟨_, rfl⟩
  rw [hW1] at H1
  refine ⟨w.heap.size + 1, [{ target := .collected w.heap.size, args := #[] }], W1, { target := .fn (.func gf) lb, args := #[.func (.yield (w.heap.size + 1)) #[] #[]] }, W1, gf,
    #[.func (.yield (w.heap.size + 1)) #[] #[]] ++ lb, W1, ?_, ?_, fun _ _ => trivial, ?_, fun e => (by cases e), ?_⟩
  · rw [← hW1]; exact run_enterLoop_outer _ _ _ _ _
  · simp only [resolve, hg]
    simp [go_sem]
  · simp [invoke, go_sem, eg]
  · refine (h fn w.heap.size (w.heap.size + 1) _ _ (by omega) rfl H1).mono ?_
    rintro e w3 ⟨v, rfl, st, pe, l', hst, H3, hQ⟩
    have ho := H3.objAt .head
    refine ⟨pe, _, run_endLoop ho hst, ?_⟩
    have H4 := (H3.putObj (w1 := w3.putObj (w.heap.size + 1) (.loop { recL fn a.tmps ps assign body w.heap.size st pe with state := .exhausted })) .head rfl rfl rfl rfl).tl
    have := hQ _ H4
    cases pe with
    | none => exact this
    | some c => exact wpIn_wide.2 this
/-- A round. -/
theorem roundH {fn L D : Nat} {tmps : Array Value} {ps : Array Tmp} {assign body : Code} {xs : Array Value} {R : Ending → World → Prop} {rc : LoopState → Option Code → Loop} (hrc : rc = recL fn tmps ps assign body D) (H : Hp X w0 w (.obj L (.loop (rc .ready none)) :: l)) (hs : xs.size = ps.size)
    (h : assign.wpIn (Rn L) 0 P (Exit.then (fun a1 w1 => ∃ l1, Hp X w0 w1 (.obj L (.loop (rc .ready none)) :: l1) ∧ ∀ w2, Hp X w0 w2 (.obj L (.loop (rc .busy none)) :: l1) → body.wpIn (Rn L) 0 P (roundPost P L R) a1 w2) (fun _ _ _ => False))
      { tmps := (ps.zip xs).foldl (fun t (p, v) => t.setIfInBounds p v) tmps, defers := [] } w) : YieldAt Fence.wide 0 P L xs w R := by
  subst hrc
  have hy := run_yield (P := P) (args := xs) (H.objAt .head) hs
  refine ⟨fn, _, assign, body, hy, roundIn_of_wpIn trivial (wpIn_mono h ?_)⟩
  rintro e a1 w1 hq
  cases e with
  | normal =>
    obtain ⟨l1, H1, hb⟩ := hq
    exact ⟨_, run_beginRound (H1.objAt .head) rfl, hb _ (H1.putObj .head rfl rfl rfl rfl)⟩
  | _ => exact hq
theorem roundEnd {fn L D : Nat} {tmps : Array Value} {ps : Array Tmp} {assign body : Code} {R : Ending → World → Prop} {l1 : List Ch} {rc : LoopState → Option Code → Loop} (hrc : rc = recL fn tmps ps assign body D) (jump : Option Code) (H : Hp X w0 w l1) (p : Pick l1 (.obj L (.loop (rc .busy none))) l)
    (h : ∀ w', Hp X w0 w' (.obj L (.loop (rc (if jump.isNone then .ready else .done) jump)) :: l) → R (.returned (.bool jump.isNone)) w') : ∃ v w', (Instr.endRound L jump).run P w = .ok v w' ∧ R (.returned v) w' := by
  subst hrc
  exact ⟨_, _, run_endRound jump ((H.pick p).objAt .head), h _ ((H.pick p).putObj .head rfl rfl rfl rfl)⟩
theorem roundNext {fn L D : Nat} {tmps : Array Value} {ps : Array Tmp} {assign body : Code} {R : Ending → World → Prop} {l1 : List Ch} {a : Act} {rc : LoopState → Option Code → Loop} (hrc : rc = recL fn tmps ps assign body D) (H : Hp X w0 w l1) (p : Pick l1 (.obj L (.loop (rc .busy none))) l)
    (h : ∀ w', Hp X w0 w' (.obj L (.loop (rc .ready none)) :: l) → R (.returned (.bool true)) w') : roundPost P L R .normal a w := roundEnd hrc none H p h
theorem roundRet {fn L D : Nat} {tmps : Array Value} {ps : Array Tmp} {assign body : Code} {R : Ending → World → Prop} {l1 : List Ch} {a : Act} {rc : LoopState → Option Code → Loop} (hrc : rc = recL fn tmps ps assign body D) (H : Hp X w0 w l1) (p : Pick l1 (.obj L (.loop (rc .busy none))) l)
    (h : ∀ w', Hp X w0 w' (.obj L (.loop (rc .done (some .ret))) :: l) → R (.returned (.bool false)) w') : roundPost P L R .ret a w := roundEnd hrc (some .ret) H p h
theorem no_lets {L : Nat} {R : Ending → World → Prop} : ¬ LetsOut (roundPost P L R) := fun ⟨_, _, h⟩ => h
theorem no_letsThen {K : Act → World → Prop} {Q : Exit → Act → World → Prop} (h : ¬ LetsOut Q) : ¬ LetsOut (Exit.then K Q) := fun ⟨a, w, hq⟩ => h ⟨a, w, hq⟩
/-- A function that holds a range over a function: entered. -/
theorem enterM {f : FuncId} {fn : Func} {c : Code} {args : Array Value} {R : Ending → World → Prop} (hf : P.funcs[f]? = some fn) (hb : fn.body = some c)
    (h : c.wp P (bodyPostM Fence.wide 0 P fn R) { tmps := args ++ Array.replicate (fn.ntmps - args.size) undef, defers := [] } w) : Calls P f args w R :=
  callsIn_wide.1 (callsIn_of_wp_marks hf hb trivial (wpIn_wide.2 h))
/-- .. left. -/
theorem leaveM {fn : Func} {tmps : Array Value} {D : Nat} {R : Ending → World → Prop} {v : Value} (H : Hp X w0 w l) (p : Pick l (.obj D (.deferred (some []))) l')
    (h : ∀ w', Hp X w0 w' l' → (results fn tmps).run P w' = .ok v w' ∧ R (.returned v) w') : bodyPostM Fence.wide 0 P fn R .ret { tmps, defers := [{ target := .collected D, args := #[] }] } w :=
  ⟨by simp, .inl ⟨D, _, rfl, run_takeDeferred ((H.pick p).objAt .head), ⟨v, h _ (Hp.putObj (o' := .deferred none) (w1 := w.putObj D (.deferred none)) (H.pick p) .head rfl rfl rfl rfl).tl⟩⟩⟩
end
end Go.Proofs.YteelplgdojjakaaGreatDoor
/- slices.Backward over terms: its closure, whatever the loop's body keeps. No statement of the seat is proved here. -/
namespace Go.Proofs.YteelplgdojjakaaGreatDoor
set_option linter.unusedSimpArgs false
set_option linter.unusedVariables false
open Go.RowKit
attribute [local go_sem] Oper.semAt_some

set_option maxRecDepth 100000 in
set_option maxHeartbeats 2000000 in
theorem backward1 {L bs n c : Nat} {A : Option Addr} {k0 k1 k2 : Nat → Int} {v3 v4 : Nat → Value} (hn : n ≤ 4294967296) (J : Nat → World → Prop)
    (hrd : ∀ k W, J k W → W.cell? ⟨bs, 0, none⟩ = some (.slice A n c) ∧ ∀ j, j < n → ∃ b o, A = some ⟨b, o, none⟩ ∧ W.cell? ⟨b, o + j * 5, none⟩ = some (.int .i64 (k0 j)) ∧ W.cell? ⟨b, o + j * 5 + 1, none⟩ = some (.int .i64 (k1 j)) ∧ W.cell? ⟨b, o + j * 5 + 2, none⟩ = some (.int .i64 (k2 j)) ∧ W.cell? ⟨b, o + j * 5 + 3, none⟩ = some (v3 j) ∧ W.cell? ⟨b, o + j * 5 + 4, none⟩ = some (v4 j))
    (hY : ∀ j W, j < n → J (j + 1) W → YieldAt Fence.wide 0 Tryz.prog L #[.int .i64 j, .agg #[.int .i64 (k0 j), .int .i64 (k1 j), .int .i64 (k2 j), v3 j, v4 j]] W fun e W' => e = .returned (.bool true) ∧ J j W')
    {W : World} (h0 : J n W) : CallsIn Fence.wide 0 Tryz.prog 230 #[.func (.yield L) #[] #[], .pointer (some ⟨bs, 0, none⟩)] W fun e W' => (∃ v, e = .returned v) ∧ J 0 W' := by
  have hb0 := (hrd _ _ h0).1
  refine callsIn_of_wp Tryz.func230 rfl trivial ?_
  simp only [Tryz.ntmps230, List.size_toArray, List.length_cons, List.length_nil, Nat.reduceAdd, Nat.reduceSub, Array.replicate_succ, Array.replicate_zero, List.push_toArray, List.append_toArray, List.nil_append, List.cons_append]
  gi_wp2
  gi_loopw [3] (fun i wr => ∃ k : Nat, k ≤ n ∧ i = .int .i64 ((k : Int) - 1) ∧ J k wr) (fun i _ => (intOf i + 1).toNat)
  case atStart => exact ⟨n, Nat.le_refl _, rfl, h0⟩
  case round =>
    clear h0 hb0
    obtain ⟨k, hk, rfl, hJ⟩ := hrel
    rcases k with _ | k
    · gi_wp2
      go_end0
      exact ⟨⟨_, rfl⟩, hJ⟩
    · obtain ⟨hb, hc⟩ := hrd _ _ hJ
      obtain ⟨b, o, rfl, p0, p1, p2, p3, p4⟩ := hc k (by omega)
      obtain ⟨fn, tmps, assign, body, hy, hR⟩ := hY k wr (by omega) hJ
      clear hrd hY hc
      have e : ((k + 1 : Nat) : Int) - 1 = (k : Int) := by omega
      rw [e]
      clear e
      gi_wp2
      refine ⟨rfl, hR.mono ?_⟩
      rintro e W3 ⟨rfl, hJ3⟩
      gi_wp2
      go_roundw
      case rel => exact ⟨k, by omega, rfl, hJ3⟩
      case measure => simp [intOf]
/-- A call hands back a term of its own, and leaves the rest. -/
def PTmH (X : Nat → Prop) (w0 : World) (l : List Ch) (t : Tm) (e : Ending) (w' : World) : Prop := ∃ A c K k, e = .returned (.agg #[.int .i64 t.k, .int .i64 t.n, .int .i64 t.a, .slice A t.ls.length c, .slice K t.ks.length k]) ∧
  Hp X w0 w' (.dat t.d [.int .i64 t.k, .int .i64 t.n, .int .i64 t.a, .slice A t.ls.length c, .slice K t.ks.length k] :: l)
set_option maxRecDepth 100000 in
set_option maxHeartbeats 1000000 in
theorem backward_calls {X : Nat → Prop} {w0 w : World} {l : List Ch} {A : Option Addr} {n c : Nat} (H : Hp X w0 w l) :
    Calls Tryz.prog 166 #[.slice A n c] w fun e w' => ∃ g, e = .returned (.func (.func 230) #[] #[.pointer (some ⟨g, 0, none⟩)]) ∧ Hp X w0 w' (.box g 24 [.slice A n c] :: l) := by
  have hmf : ∀ (fn : Fn) (first cap : Array Value) (w : World), (Instr.makeFunc fn first cap).run Tryz.prog w = .ok (.func fn first cap) w := fun _ _ _ _ => rfl
  go_enter Tryz.func166, Tryz.ntmps166
  go_wp2_with fail
  go_ret
  exact ⟨_, rfl, H.alloc [.slice A n c] _⟩
/-- A row laid above a term, below nodes of a kind. -/
def aboveT (k : Int) : List Tm → Tm → Tm
  | [], b => b
  | a :: r, b => .mk k 0 0 [] [a, aboveT k r b]
theorem aboveT_drop {k : Int} {ts : List Tm} {b : Tm} {j : Nat} (h : j < ts.length) : aboveT k (ts.drop j) b = .mk k 0 0 [] [ts[j], aboveT k (ts.drop (j + 1)) b] := by
  rw [List.drop_eq_getElem_cons h, aboveT]
/-- The cells of a row of terms. -/
theorem RCs.tms {w : World} {S : Nat → Prop} {ts : List Tm} {es : List Value} (h : RCs w S (ts.map Tm.d) es) : ∃ (A3 A4 : Nat → Option Addr) (c3 c4 : Nat → Nat), ∀ j (hj : j < ts.length), es[j * 5]? = some (.int .i64 ts[j].k) ∧ es[j * 5 + 1]? = some (.int .i64 ts[j].n) ∧ es[j * 5 + 2]? = some (.int .i64 ts[j].a) ∧ es[j * 5 + 3]? = some (.slice (A3 j) ts[j].ls.length (c3 j)) ∧ es[j * 5 + 4]? = some (.slice (A4 j) ts[j].ks.length (c4 j)) := by
  have key : ∀ j, ∃ (A3 A4 : Option Addr) (c3 c4 : Nat), ∀ hj : j < ts.length, es[j * 5]? = some (.int .i64 ts[j].k) ∧ es[j * 5 + 1]? = some (.int .i64 ts[j].n) ∧ es[j * 5 + 2]? = some (.int .i64 ts[j].a) ∧ es[j * 5 + 3]? = some (.slice A3 ts[j].ls.length c3) ∧ es[j * 5 + 4]? = some (.slice A4 ts[j].ks.length c4) := by
    intro j
    by_cases hj : j < ts.length
    · obtain ⟨cs, g1, g2, g3⟩ := h.get (z := 5) (fun d hd => by obtain ⟨t, _, rfl⟩ := List.mem_map.1 hd; exact Tm.size_d t) (i := j) (d := ts[j].d) (by simp [hj])
      obtain ⟨A1, c1, K1, k1, rfl, _⟩ := RC.tm.1 g1
      exact ⟨A1, K1, c1, k1, fun _ => ⟨g3 0 _ rfl, g3 1 _ rfl, g3 2 _ rfl, g3 3 _ rfl, g3 4 _ rfl⟩⟩
    · exact ⟨none, none, 0, 0, fun h => absurd h hj⟩
  exact ⟨fun j => (key j).choose, fun j => (key j).choose_spec.choose, fun j => (key j).choose_spec.choose_spec.choose, fun j => (key j).choose_spec.choose_spec.choose_spec.choose, fun j => (key j).choose_spec.choose_spec.choose_spec.choose_spec⟩
theorem take5 {es c1 c2 : List Value} {j : Nat} {u0 u1 u2 u3 u4 : Value} (h : es.take ((j + 1) * 5) = c1 ++ c2) (h1 : c1.length = j * 5) (h2 : c2.length = 5) (q : es[j * 5]? = some u0 ∧ es[j * 5 + 1]? = some u1 ∧ es[j * 5 + 2]? = some u2 ∧ es[j * 5 + 3]? = some u3 ∧ es[j * 5 + 4]? = some u4) : c1 = es.take (j * 5) ∧ c2 = [u0, u1, u2, u3, u4] := by
  have e1 : c1 = es.take (j * 5) := by
    have := congrArg (List.take (j * 5)) h
    rw [List.take_take, List.take_append_of_le_length (by omega), ← h1, List.take_length] at this
    rw [← this, h1]
    congr 1
    omega
  refine ⟨e1, ?_⟩
  have g : ∀ i, i < 5 → c2[i]? = es[j * 5 + i]? := fun i hi => by
    have := congrArg (fun l => l[j * 5 + i]?) h
    simp only [List.getElem?_take] at this
    rw [if_pos (by omega), List.getElem?_append_right (by omega)] at this
    rw [this]
    congr 1
    omega
  match c2, h2 with
  | [a0, a1, a2, a3, a4], _ =>
    have g0 := g 0 (by omega); have g1 := g 1 (by omega); have g2 := g 2 (by omega); have g3 := g 3 (by omega); have g4 := g 4 (by omega)
    rw [Nat.add_zero, q.1] at g0
    rw [q.2.1] at g1; rw [q.2.2.1] at g2; rw [q.2.2.2.1] at g3; rw [q.2.2.2.2] at g4
    simp only [List.getElem?_cons_zero, List.getElem?_cons_succ, Option.some.injEq] at g0 g1 g2 g3 g4
    rw [g0, g1, g2, g3, g4]
theorem sizes_tms (ts : List Tm) : D.sizes (ts.map Tm.d) = ts.length * 5 := by
  rw [D.sizes_eq (z := 5) (fun d hd => by obtain ⟨t, _, rfl⟩ := List.mem_map.1 hd; exact Tm.size_d t), List.length_map]
section
variable {X : Nat → Prop} {w0 w : World} {l l1 l2 : List Ch}
/-- The last of some terms, taken away. -/
theorem Hp.lastTm {ts : List Tm} {es : List Value} {j : Nat} {u0 u1 u2 u3 u4 : Value} (H : Hp X w0 w l) (p : Pick l (.dat (.s ((ts.take (j + 1)).map Tm.d)) (es.take ((j + 1) * 5))) l1) (hj : j < ts.length)
    (q : es[j * 5]? = some u0 ∧ es[j * 5 + 1]? = some u1 ∧ es[j * 5 + 2]? = some u2 ∧ es[j * 5 + 3]? = some u3 ∧ es[j * 5 + 4]? = some u4) :
    Hp X w0 w (.dat (.s ((ts.take j).map Tm.d)) (es.take (j * 5)) :: .dat ts[j].d [u0, u1, u2, u3, u4] :: l1) := by
  have H1 := H.pick p
  rw [take_map Tm.d hj] at H1
  obtain ⟨c1, c2, he, hl1, hl2, H2⟩ := H1.cut .head
  rw [sizes_tms, List.length_take] at hl1
  obtain ⟨rfl, rfl⟩ := take5 he (by rw [hl1]; congr 1; omega) (by rw [hl2]; simp [D.sizes, Tm.size_d]) q
  exact (H2.unone (.tail .head)).swap
/-- A node of two kids, out of a box. -/
theorem Hp.node2 {k : Int} {a b : Tm} {g : Nat} {a0 a1 a2 a3 a4 b0 b1 b2 b3 b4 : Value} {l3 : List Ch} (H : Hp no w0 w l) (p0 : Pick l (.box g 35 [a0, a1, a2, a3, a4, b0, b1, b2, b3, b4]) l1) (pa : Pick l1 (.dat a.d [a0, a1, a2, a3, a4]) l2) (pb : Pick l2 (.dat b.d [b0, b1, b2, b3, b4]) l3) (hk : inI k) :
    Hp no w0 w (.dat (Tm.mk k 0 0 [] [a, b]).d [.int .i64 k, .int .i64 0, .int .i64 0, .slice none 0 0, .slice (some ⟨g, 0, none⟩) 2 2] :: l3) := by
  have H1 := (((H.pick p0).pick (.tail pa)).one1 .head)
  have H2 := (H1.pick (.tail (.tail pb))).one1 .head
  have H3 := H2.join (.tail .head) .head
  have H4 := H3.boxrow (n := 2) (z := 5) (.tail .head) .head rfl (by simp [Tm.size_d]) (by unfold M; omega)
  have H5 := H4.nil 38 1
  exact Hp.tm (ls := []) (ks := [a, b]) H5 .head .head hk (by unfold inI; omega) (by unfold inI; omega)
end
end Go.Proofs.YteelplgdojjakaaGreatDoor
/- A row that is lent: behind each row lie twelve marks. How it lies in memory; what is pushed onto a row whose cells are known. No statement of the seat is proved here. -/
namespace Go.Proofs.YteelplgdojjakaaGreatDoor
set_option linter.unusedSimpArgs false
set_option linter.unusedVariables false
open Go.RowKit

mutual
/-- As RC; and behind each row lie its marks. -/
def KC (mk : Nat → List D) (w : World) (S : Nat → Prop) : D → List Value → Prop
  | .i n, cs => cs = [.int .i64 n] ∧ inI n
  | .b x, cs => cs = [.bool x]
  | .s ds, cs => KCs mk w S ds cs
  | .l e z ds, cs => ∃ b c es ms, cs = [.slice (some ⟨b, 0, none⟩) ds.length c] ∧ ds.length + 12 ≤ c ∧ c ≤ maxLen ∧ ds.length ≤ M ∧ (∀ d ∈ ds, d.size = z) ∧ b < w.heap.size ∧ S b ∧ KCs mk w S ds es ∧ (mk e).length = 12 ∧ (∀ d ∈ mk e, d.size = z) ∧ RCs w S (mk e) ms ∧ (∀ j u, (es ++ ms)[j]? = some u → w.cell? ⟨b, j, none⟩ = some u)
def KCs (mk : Nat → List D) (w : World) (S : Nat → Prop) : List D → List Value → Prop
  | [], cs => cs = []
  | d :: ds, cs => ∃ c1 c2, cs = c1 ++ c2 ∧ KC mk w S d c1 ∧ KCs mk w S ds c2
end
mutual
theorem KC.frame {mk : Nat → List D} {w w' : World} {S S' : Nat → Prop} (hsz : w.heap.size ≤ w'.heap.size) (hS : ∀ k, k < w.heap.size → S k → S' k) (hw : ∀ k, k < w.heap.size → S k → w'.heap[k]? = w.heap[k]?) :
    (d : D) → (cs : List Value) → KC mk w S d cs → KC mk w' S' d cs
  | .i n, cs, h => h
  | .b x, cs, h => h
  | .s ds, cs, h => by
    unfold KC at h ⊢
    exact KCs.frame hsz hS hw ds cs h
  | .l e z ds, cs, h => by
    unfold KC at h ⊢
    obtain ⟨b, c, es, ms, h1, h2, h3, h4, h5, h6, h7, h8, h9, h10, h11, h12⟩ := h
    exact ⟨b, c, es, ms, h1, h2, h3, h4, h5, Nat.lt_of_lt_of_le h6 hsz, hS b h6 h7, KCs.frame hsz hS hw ds es h8, h9, h10, RCs.frame hsz hS hw _ _ h11, fun j u hu => (World.cell?_of_block (hw b h6 h7)).trans (h12 j u hu)⟩
theorem KCs.frame {mk : Nat → List D} {w w' : World} {S S' : Nat → Prop} (hsz : w.heap.size ≤ w'.heap.size) (hS : ∀ k, k < w.heap.size → S k → S' k) (hw : ∀ k, k < w.heap.size → S k → w'.heap[k]? = w.heap[k]?) :
    (ds : List D) → (cs : List Value) → KCs mk w S ds cs → KCs mk w' S' ds cs
  | [], cs, h => h
  | d :: ds, cs, h => by
    unfold KCs at h ⊢
    obtain ⟨c1, c2, h1, h2, h3⟩ := h
    exact ⟨c1, c2, h1, KC.frame hsz hS hw d c1 h2, KCs.frame hsz hS hw ds c2 h3⟩
end
mutual
theorem KC.rc {mk : Nat → List D} {w : World} {S : Nat → Prop} : (d : D) → (cs : List Value) → KC mk w S d cs → RC w S d cs
  | .i n, cs, h => by unfold KC at h; unfold RC; exact h
  | .b x, cs, h => by unfold KC at h; unfold RC; exact h
  | .s ds, cs, h => by
    unfold KC at h; unfold RC
    exact KCs.rcs ds cs h
  | .l e z ds, cs, h => by
    unfold KC at h; unfold RC
    obtain ⟨b, c, es, ms, h1, h2, h3, h4, h5, h6, h7, h8, h9, h10, h11, h12⟩ := h
    refine ⟨_, c, h1, by omega, h3, h4, h5, .inr ⟨b, 0, es, rfl, h6, h7, KCs.rcs ds es h8, fun j u hu => ?_⟩⟩
    rw [Nat.zero_add]
    exact h12 j u (by rw [List.getElem?_append_left (List.getElem?_eq_some_iff.1 hu).1]; exact hu)
theorem KCs.rcs {mk : Nat → List D} {w : World} {S : Nat → Prop} : (ds : List D) → (cs : List Value) → KCs mk w S ds cs → RCs w S ds cs
  | [], cs, h => by unfold KCs at h; unfold RCs; exact h
  | d :: ds, cs, h => by
    unfold KCs at h; unfold RCs
    obtain ⟨c1, c2, h1, h2, h3⟩ := h
    exact ⟨c1, c2, h1, KC.rc d c1 h2, KCs.rcs ds c2 h3⟩
end
theorem KC.len {mk : Nat → List D} {w : World} {S : Nat → Prop} {d : D} {cs : List Value} (h : KC mk w S d cs) : cs.length = d.size := RC.len d cs h.rc
theorem KCs.append {mk : Nat → List D} {w : World} {S : Nat → Prop} {ds es : List D} {cs fs : List Value} (h : KCs mk w S ds cs) (k : KCs mk w S es fs) : KCs mk w S (ds ++ es) (cs ++ fs) := by
  induction ds generalizing cs with
  | nil => unfold KCs at h; subst h; simpa using k
  | cons d ds ih =>
    unfold KCs at h
    obtain ⟨c1, c2, rfl, h2, h3⟩ := h
    rw [List.cons_append, List.append_assoc]
    unfold KCs
    exact ⟨c1, _, rfl, h2, ih h3⟩
theorem KCs.single {mk : Nat → List D} {w : World} {S : Nat → Prop} {d : D} {cs : List Value} (h : KC mk w S d cs) : KCs mk w S [d] cs := by
  unfold KCs
  exact ⟨cs, [], by simp, h, by unfold KCs; rfl⟩
theorem KCs.nil {mk : Nat → List D} {w : World} {S : Nat → Prop} : KCs mk w S [] [] := by unfold KCs; rfl
/-- The element at i of a row that is lent. -/
theorem KCs.get {mk : Nat → List D} {w : World} {S : Nat → Prop} {ds : List D} {es : List Value} {z : Nat} (h : KCs mk w S ds es) (hz : ∀ d ∈ ds, d.size = z) {i : Nat} {d : D} (hd : ds[i]? = some d) :
    ∃ cs, KC mk w S d cs ∧ cs.length = z ∧ ∀ j u, cs[j]? = some u → es[i * z + j]? = some u := by
  induction ds generalizing es i with
  | nil => simp at hd
  | cons d0 ds ih =>
    unfold KCs at h
    obtain ⟨c1, c2, rfl, h2, h3⟩ := h
    have hl : c1.length = z := h2.len.trans (hz d0 (by simp))
    rcases i with _ | i
    · simp only [List.getElem?_cons_zero, Option.some.injEq] at hd
      subst hd
      refine ⟨c1, h2, hl, fun j u hu => ?_⟩
      have hj := (List.getElem?_eq_some_iff.1 hu).1
      rw [Nat.zero_mul, Nat.zero_add, List.getElem?_append_left hj]
      exact hu
    · obtain ⟨cs, g1, g2, g3⟩ := ih h3 (fun d hd => hz d (by simp [hd])) (by simpa using hd)
      refine ⟨cs, g1, g2, fun j u hu => ?_⟩
      have : (i + 1) * z + j = c1.length + (i * z + j) := by rw [hl, Nat.add_mul]; omega
      rw [this, List.getElem?_append_right (by omega)]
      simpa using g3 j u hu
/-- A row that is lent: its value; its elements; its marks. -/
theorem KC.row {mk : Nat → List D} {w : World} {S : Nat → Prop} {e z : Nat} {ds : List D} {v : Value} (h : KC mk w S (.l e z ds) [v]) :
    ∃ b c, v = .slice (some ⟨b, 0, none⟩) ds.length c ∧ ds.length + 12 ≤ c ∧ c ≤ maxLen ∧ ds.length ≤ M ∧ b < w.heap.size ∧ S b ∧
      (∀ i d, ds[i]? = some d → ∃ cs, KC mk w S d cs ∧ cs.length = z ∧ ∀ j u, cs[j]? = some u → w.cell? ⟨b, i * z + j, none⟩ = some u) ∧
      (∀ i d, (mk e)[i]? = some d → ∃ cs, RC w S d cs ∧ cs.length = z ∧ ∀ j u, cs[j]? = some u → w.cell? ⟨b, (ds.length + i) * z + j, none⟩ = some u) := by
  unfold KC at h
  obtain ⟨b, c, es, ms, h1, h2, h3, h4, h5, h6, h7, h8, h9, h10, h11, h12⟩ := h
  refine ⟨b, c, by simpa using h1, h2, h3, h4, h6, h7, fun i d hd => ?_, fun i d hd => ?_⟩
  · obtain ⟨cs, g1, g2, g3⟩ := h8.get h5 hd
    exact ⟨cs, g1, g2, fun j u hu => h12 _ u (by have := g3 j u hu; rw [List.getElem?_append_left (List.getElem?_eq_some_iff.1 this).1]; exact this)⟩
  · obtain ⟨cs, g1, g2, g3⟩ := h11.get h10 hd
    have hl : es.length = ds.length * z := (RCs.len _ _ (KCs.rcs _ _ h8)).trans (D.sizes_eq h5)
    refine ⟨cs, g1, g2, fun j u hu => h12 _ u ?_⟩
    rw [show (ds.length + i) * z + j = es.length + (i * z + j) by rw [hl, Nat.add_mul]; omega, List.getElem?_append_right (by omega)]
    simpa using g3 j u hu

section
variable {X : Nat → Prop} {w0 w w1 : World} {l l' l1 l2 l3 : List Ch}
variable {P : Program} {ops : Array Oper} {rest : List Oper} {o : Oper} {a : Act} {Q : Exit → Act → World → Prop}
/-- 'out = append(out, x)', out a row whose cells are known, x a box of one element. -/
theorem wp_pushK {K : Act → World → Prop} (s x : Operand) (t : TypeId) (ho : o.op = .call { callee := .builtin .append, args := #[s, x], argTypes := #[t, t] }) {e z : Nat} (hT : SlT P t e z)
    {n : Nat} {es : List Value} {out : Value} {cs : List Value} {g c e1 : Nat} (hs : a.eval s = out) (hx : a.eval x = .slice (some ⟨g, 0, none⟩) 1 c) (H : Hp X w0 w l) (p3 : Pick l (.box g e1 cs) l1) (p1 : Pick l1 (.raw e z n out es) l2)
    (hlen : cs.length = z) (hone : ∀ u ∈ cs, u.oneCell' = true) (hM : n + 1 ≤ 5000000000)
    (h : ∀ v' w', Hp X w0 w' (.raw e z (n + 1) v' (es ++ cs) :: l2) → K (a.put o.dst v') w') : o.wp P a w K Q := by
  have hcell := H.boxlies p3
  obtain ⟨L, hL, hn⟩ := ((H.pick p3).pick (.tail p1)).own
  simp only [Chs] at hL
  obtain ⟨L1, _, rfl, ⟨rfl, h1⟩, L2, L3, rfl, h2, h3⟩ := hL
  have hB : ∀ k, out.ownBlock = some k → w0.heap.size ≤ k := fun k hk => (h1.lt k (by simp [hk])).1
  obtain ⟨ht, i, zv, hi, hzv, hsz, hzs, hz0, hby⟩ := hT
  have hb : (n + 1) * i.bytes ≤ 140737488355328 := by
    have : (n + 1) * i.bytes ≤ 5000000000 * 1024 := Nat.mul_le_mul hM hby
    omega
  obtain ⟨v', w', hrun, r1, r2, _, r4⟩ := run_append_own_at (P := P) w w0.heap.size t o.type e i zv z i.bytes ht hi hzv hsz rfl hzs hz0 out n es h1 ⟨g, 0, none⟩ 1 c cs (by omega)
    hcell hone (by unfold maxLen; omega) hb H.ext.size
  have hfin := h v' w' ⟨H.ext.grown r2 (fun k hk => .inr (hB k hk)), v'.ownBlock.toList ++ L3, by
    unfold Chs
    refine ⟨_, L3, rfl, ⟨rfl, r1⟩, h3.frame H.ext.size r2.size (fun k hk hx => r2.block k (Nat.lt_of_lt_of_le hk H.ext.size) (fun e => ?_)) (fun k hk => r2.block k (h3.lt k hk).2 (fun e => ?_))⟩
    · have := hB k e.symm; omega
    · exact (List.nodup_append.1 hn).2.2 k (by simp [← e]) k (by simp [hk]) rfl, by
    have n2 := (List.nodup_append.1 (List.nodup_append.1 hn).2.1).2.1
    refine List.nodup_append.2 ⟨by cases v'.ownBlock <;> simp, n2, fun x hx y hy e => ?_⟩
    subst e
    rcases r4 with r4 | r4
    · rw [r4] at hx
      exact (List.nodup_append.1 hn).2.2 x hx x (by simp [hy]) rfl
    · have hx' : x = w.heap.size := by rw [r4] at hx; simpa using hx
      have := (h3.lt x hy).2
      omega⟩
  unfold Oper.wp execOp
  simp only [ho, resolve, invoke, builtin, Sem.run_bind, Sem.run_pure, Result.andThen_ok, List.map_toArray, List.map_cons, List.map_nil, hs, hx, hrun]
  exact hfin
theorem wpList_pushK (hgd : o.guard = none) (s x : Operand) (t : TypeId) (ho : o.op = .call { callee := .builtin .append, args := #[s, x], argTypes := #[t, t] }) {e z : Nat} (hT : SlT P t e z)
    {n : Nat} {es : List Value} {out : Value} {cs : List Value} {g c e1 : Nat} (hs : a.eval s = out) (hx : a.eval x = .slice (some ⟨g, 0, none⟩) 1 c) (H : Hp X w0 w l) (p3 : Pick l (.box g e1 cs) l1) (p1 : Pick l1 (.raw e z n out es) l2)
    (hlen : cs.length = z) (hone : ∀ u ∈ cs, u.oneCell' = true) (hM : n + 1 ≤ 5000000000)
    (h : ∀ v' w', Hp X w0 w' (.raw e z (n + 1) v' (es ++ cs) :: l2) → wpList P ops Q rest (a.put o.dst v') w') : wpList P ops Q (o :: rest) a w :=
  wpList_plain hgd fun _ hK => wp_pushK s x t ho hT hs hx H p3 p1 hlen hone hM fun v' w' h1 => hK _ _ (h v' w' h1)
/-- What is said of a piece. -/
theorem Hp.gh {K : List Nat} {p : World → Prop} (H : Hp X w0 w l) (q : Pick l (.gh K p) l') : p w := by
  obtain ⟨L, hL, _⟩ := (H.pick q).own
  simp only [Chs] at hL
  obtain ⟨L1, L2, rfl, h, _⟩ := hL
  exact h.2.2.1
/-- A call hands back what is said of its own blocks. -/
theorem Hp.resGh {p : World → Prop} (H : Hp X w0 w l) (hx : Ext no w w1) (hp : p w1) (hst : ∀ w' : World, w1.heap.size ≤ w'.heap.size → (∀ k, w.heap.size ≤ k → k < w1.heap.size → w'.heap[k]? = w1.heap[k]?) → p w') : ∃ K, Hp X w0 w1 (.gh K p :: l) := by
  obtain ⟨L, h, hn⟩ := (H.call hx).own
  obtain ⟨L', h', hn'⟩ := H.own
  have hxx := (H.call hx).ext
  refine ⟨List.range' w.heap.size (w1.heap.size - w.heap.size), hxx, List.range' w.heap.size (w1.heap.size - w.heap.size) ++ L', ?_, ?_⟩
  · unfold Chs
    refine ⟨_, L', rfl, ⟨rfl, fun k hk => ?_, hp, fun w' hz hk => hst w' hz (fun k h1 h2 => hk k (by rw [List.mem_range'_1]; omega))⟩, h'.frame H.ext.size hx.size (fun k hk _ => hx.block k (Nat.lt_of_lt_of_le hk H.ext.size) no_not) (fun k hk => hx.block k (h'.lt k hk).2 no_not)⟩
    rw [List.mem_range'_1] at hk
    have := H.ext.size
    omega
  · refine List.nodup_append.2 ⟨List.nodup_range' .., hn', fun x hx1 y hy e => ?_⟩
    rw [List.mem_range'_1] at hx1
    have := (h'.lt y hy).2
    omega
/-- What is said of two pieces gives what is said of both. -/
theorem Hp.gh2 {K1 K2 : List Nat} {p q r : World → Prop} (H : Hp X w0 w (.gh K1 p :: .gh K2 q :: l)) (h : ∀ w, p w → q w → r w) : Hp X w0 w (.gh (K1 ++ K2) r :: l) := by
  refine Hp.turn (ds := [_, _]) (ds' := [_]) H fun L hL => ?_
  simp only [Chs] at hL ⊢
  obtain ⟨L1, _, rfl, ⟨rfl, a1, a2, a3⟩, L2, _, rfl, ⟨rfl, b1, b2, b3⟩, rfl⟩ := hL
  refine ⟨L1 ++ L2, [], by simp, ⟨rfl, fun k hk => ?_, h _ a2 b2, fun w' hz hk => h _ (a3 w' hz fun k h1 => hk k (by simp [h1])) (b3 w' hz fun k h1 => hk k (by simp [h1]))⟩, rfl⟩
  rcases List.mem_append.1 hk with hk | hk
  · exact a1 k hk
  · exact b1 k hk
theorem Hp.gh0 {p : World → Prop} (H : Hp X w0 w l) (h : ∀ w, p w) : Hp X w0 w (.gh [] p :: l) := by
  obtain ⟨L, hL, hn⟩ := H.own
  exact ⟨H.ext, L, by unfold Chs; exact ⟨[], L, rfl, ⟨rfl, by simp, h _, fun _ _ _ => h _⟩, hL⟩, hn⟩
theorem Hp.rawLen' {e z n : Nat} {v : Value} {es : List Value} (H : Hp X w0 w l) (p : Pick l (.raw e z n v es) l') : ∃ A c, v = .slice A n c ∧ n ≤ c ∧ c ≤ maxLen ∧ es.length = n * z := by
  obtain ⟨L, hL, _⟩ := (H.pick p).own
  simp only [Chs] at hL
  obtain ⟨L1, L2, rfl, ⟨rfl, hl, hcase⟩, _⟩ := hL
  rcases hcase with ⟨rfl, rfl⟩ | ⟨g, cap, cur, rfl, k1, k2, k3, k4, k5, k6⟩
  · exact ⟨none, 0, rfl, Nat.le_refl _, by unfold maxLen; omega, hl⟩
  · exact ⟨_, cap, rfl, k3, k4, hl⟩
/-- A row whose cells are known: n marked ones and the marks behind: lent. -/
theorem KC.of {mk : Nat → List D} {S : Nat → Prop} {e z c n : Nat} {A : Option Addr} {ds : List D} {es ms : List Value} (H : Hp X w0 w l) (p : Pick l (.raw e z (n + 12) (.slice A (n + 12) c) (es ++ ms)) l') (hn : n = ds.length) (hz : ∀ d ∈ ds, d.size = z) (hM : ds.length ≤ M)
    (hk : KCs mk w S ds es) (h1 : (mk e).length = 12) (h2 : ∀ d ∈ mk e, d.size = z) (hm : RCs w S (mk e) ms) (hS : ∀ b, w0.heap.size ≤ b → S b) : ∃ b, A = some ⟨b, 0, none⟩ ∧ w0.heap.size ≤ b ∧ KC mk w S (.l e z ds) [.slice A n c] := by
  subst hn
  obtain ⟨L, hL, hn⟩ := (H.pick p).own
  simp only [Chs] at hL
  obtain ⟨L1, L2, rfl, ⟨rfl, hl, hcase⟩, _⟩ := hL
  rcases hcase with ⟨hv, h0⟩ | ⟨g, cap, cur, hv, k1, k2, k3, k4, k5, k6⟩
  · omega
  · simp only [Value.slice.injEq, true_and] at hv
    obtain ⟨rfl, rfl⟩ := hv
    refine ⟨g, rfl, k1, ?_⟩
    unfold KC
    refine ⟨g, c, es, ms, rfl, k3, k4, hM, hz, ?_, hS g k1, hk, h1, h2, hm, fun j u hu => ?_⟩
    · rcases Nat.lt_or_ge g w.heap.size with hlt | hge
      · exact hlt
      · rw [Array.getElem?_eq_none hge] at k2; cases k2
    · rw [cell_of_row w g j cur e (0, 0) k2]
      rw [← k6] at hu
      rw [List.getElem?_take] at hu
      split at hu
      · simpa using hu
      · cases hu
theorem fold_list : ∀ (cs : List Value) (k : Nat) (b : Array Value), b.size = k + cs.length → (List.foldl (fun (a : Array Value) (x : Value × Nat) => a.setIfInBounds x.snd x.fst) b (cs.zipIdx k)).toList = b.toList.take k ++ cs
  | [], k, b, h => by
    simp only [List.length_nil, Nat.add_zero] at h
    subst h
    simp only [List.zipIdx, List.foldl_nil, List.append_nil]
    exact (List.take_of_length_le (by simp)).symm
  | c :: cs, k, b, h => by
    simp only [List.length_cons] at h
    rw [List.zipIdx_cons, List.foldl_cons, fold_list cs (k + 1) (b.setIfInBounds k c) (by rw [Array.size_setIfInBounds]; omega)]
    have hk : k < (b.setIfInBounds k c).toList.length := by rw [Array.length_toList, Array.size_setIfInBounds]; omega
    rw [List.take_succ_eq_append_getElem hk]
    simp [Array.toList_setIfInBounds, List.take_set_of_le]
/-- Cells laid one by one over as many others. -/
theorem fold_cells {cs : List Value} {z : Nat} (h : cs.length = z) (b : Array Value) (hb : b.size = z) : List.foldl (fun (a : Array Value) (x : Value × Nat) => a.setIfInBounds x.snd x.fst) b cs.zipIdx = cs.toArray := by
  apply Array.ext'
  rw [fold_list cs 0 b (by omega)]
  simp
/-- A row that is made, empty, with room. -/
theorem make_row {t e z : Nat} (hT : SlT P t e z) (c : Nat) (hc : c ≤ 5000000000) : ∃ cl : List Value, cl.length = c * z ∧ ∀ w : World, (Instr.makeSlice t (.int .i64 0) (.int .i64 (c : Int))).run P w = .ok (.slice (some ⟨w.heap.size, 0, none⟩) 0 c) (w.alloc (.cells cl.toArray e)) := by
  obtain ⟨ht, i, zv, hi, hzv, hsz, hzs, hz0, hby⟩ := hT
  have hb : (i.bytes : Int) * c ≤ 281474976710656 := by
    have : i.bytes * c ≤ 1024 * 5000000000 := Nat.mul_le_mul hby hc
    have h2 : ((i.bytes * c : Nat) : Int) ≤ 281474976710656 := by omega
    rw [Int.natCast_mul] at h2
    exact h2
  refine ⟨(madeCells zv.cells (c * i.size)).toList, ?_, fun w => ?_⟩
  · rw [Array.length_toList, size_madeCells, hsz]
  · have h := run_make (P := P) (w := w) t e i zv ht hi hzv .i64 .i64 0 c (by omega) (by omega) hb (by omega)
    rw [h]
    simp
theorem Hp.made {e z c g : Nat} {cl : List Value} (H : Hp no w0 w l) (p : Pick l (.box g e cl) l') (hl : cl.length = c * z) (hc : c ≤ maxLen) : Hp no w0 w (.raw e z 0 (.slice (some ⟨g, 0, none⟩) 0 c) [] :: l') :=
  Hp.turn1 (ds' := [_]) H p fun L hL => by
    obtain ⟨rfl, hg, hb⟩ := hL
    simp only [Chs]
    exact ⟨[g], [], rfl, ⟨by simp [Value.ownBlock], by simp, .inr ⟨g, c, cl.toArray, rfl, hg.resolve_left no_not, hb, by omega, hc, by simpa using hl, by simp⟩⟩, rfl⟩
end
end Go.Proofs.YteelplgdojjakaaGreatDoor
