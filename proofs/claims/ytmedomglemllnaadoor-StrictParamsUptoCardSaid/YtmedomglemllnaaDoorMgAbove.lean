/- A range over a function, in the terms of the state of a call at work: the statement, a round, the end of a function that holds one; what is walked outside a round holds within. No statement of the seat is proved here. -/
import Derived.Test.YtmedomglemllnaaDoorMgRow
import Derived.RangeFuncRecord
import Derived.OrdersIn
import Derived.RangeFuncSeq
import Derived.RangeFuncBound
import Derived.RangeFuncCalls
import Derived.OwnWalkIn
import Derived.TacticsInMore
import Derived.LoopNIn
import Derived.LoopIn
import Derived.Shelf.Abstract
import Derived.Shelf.RegionOpen
namespace Go.Proofs.YtmedomglemllnaaDoor
set_option linter.unusedSimpArgs false
set_option linter.unusedVariables false
open Go.RowKit

section
variable {P : Program} {ops : Array Oper} {Q : Exit → Act → World → Prop} {n l : Nat}
/-- The fence of a round. -/
abbrev Rn (l : Nat) : Fence := Fence.wide.inRound l
theorem callsRn {f : FuncId} {args : Array Value} {w : World} {R : Ending → World → Prop} (h : Calls P f args w R) : CallsIn (Rn l) n P f args w R := by
  have h1 : CallsIn Fence.wide n P f args w R := callsIn_wide.2 h
  refine ⟨trivial, fun cs hr => ?_⟩
  obtain ⟨e, w', fr, r, s, x⟩ := h1.2 cs (room_wide _)
  exact ⟨e, w', fr, r, s, x⟩
theorem rowsRn {row : String} {args : Array Value} {w : World} {R : Value → World → Prop} (h : Rows P row args w R) : RowsIn (Rn l) n P row args w R := by
  intro c cs _
  obtain ⟨v, w', r, s⟩ := h c cs
  exact ⟨v, w', r, stepsIn_wide.2 s⟩
def noDefer (o : Oper) : Bool := match o.op with | .defer _ => false | _ => true
theorem noDefer_spec {o : Oper} (h : noDefer o = true) : ∀ c, o.op ≠ .defer c := fun c e => by simp [noDefer, e] at h
theorem uponRn {o : Oper} {a : Act} {K : Act → World → Prop} {r : Result Next} (h : o.upon P a K Q r) : o.uponIn (Rn l) n P a K Q r := by
  cases r with
  | ok x w' =>
    cases x <;> simp only [Oper.upon, Oper.uponIn] at h ⊢ <;> first
      | exact h
      | exact ⟨fun e => (by cases e), callsRn h⟩
      | exact ⟨fun e => (by cases e), rowsRn h⟩
      | exact h.elim
  | halt x w' => cases x <;> simp only [Oper.upon, Oper.uponIn] at h ⊢ <;> exact h
theorem wpOpRn {i : Nat} {K : Act → World → Prop} {a : Act} {w : World} (hd : ops.all noDefer = true) (hL : ¬ LetsOut Q) (h : wpOp P ops Q i K a w) : wpOpIn (Rn l) n P ops Q i K a w := by
  unfold wpOp at h
  unfold wpOpIn
  cases ho : ops[i]? with
  | none => simp only [ho] at h ⊢; exact h
  | some o =>
    simp only [ho] at h ⊢
    have hnd := noDefer_spec (Array.all_eq_true_iff_forall_mem.1 hd o (Array.mem_of_getElem? ho))
    split
    · rename_i hw
      simp only [hw, if_true] at h
      rcases h with h | h
      · refine ⟨fun _ _ => trivial, ?_⟩
        rw [Oper.semAt_eq _ _ _ hnd]
        exact uponRn h
      · exact absurd h.2 hL
    · rename_i hw
      simp only [hw] at h
      exact ⟨fun _ _ => trivial, h⟩
theorem wpAnyRn {md : Region.Mode} (hd : ops.all noDefer = true) (hL : ¬ LetsOut Q) : ∀ (fuel : Nat) (listed : Array Bool) (a : Act) (w : World), wpAny P md ops Q fuel listed a w → wpAnyIn (Rn l) n P md ops Q fuel listed a w
  | 0, _, _, _, h => h
  | fuel + 1, listed, a, w, h => ⟨h.1, fun i hi => wpOpIn_mono (fun a w h => wpAnyRn hd hL fuel _ a w h) (wpOpRn hd hL (h.2 i hi))⟩
theorem wpOpsRn (hd : ops.all noDefer = true) (hL : ¬ LetsOut Q) : ∀ (is : List Nat) (a : Act) (w : World), wpOps P ops Q is a w → wpOpsIn (Rn l) n P ops Q is a w
  | [], _, _, h => h
  | i :: is, a, w, h => by
    rw [wpOps_cons] at h
    rw [wpOpsIn_cons]
    exact wpOpIn_mono (fun a w h => wpOpsRn hd hL is a w h) (wpOpRn hd hL h)
/-- A region in a round, walked as outside. -/
theorem regionRn {id : Nat} {a : Act} {w : World} (hd : ops.all noDefer = true) (hL : ¬ LetsOut Q) (h : wpList P ops Q ops.toList a w) : (Code.region id ops false).wpIn (Rn l) n P Q a w := by
  refine wpIn_region (wpOpsRn hd hL _ a w ?_)
  have := wpOps_eq_wpList (P := P) (ops := ops) (Q := Q) ops.toList 0 (fun j => by simp)
  rw [List.range_eq_range']
  simpa using (congrFun (congrFun this a) w).mpr h
theorem regionRnD {id : Nat} {a : Act} {w : World} {S : World → Prop} (late : List Nat) (hd : ops.all noDefer = true) (hL : ¬ LetsOut Q) (hm : P.follows .mixedOrders = true)
    (h : wpL P .any ops Q S late ops.size (Array.replicate ops.size false) a w.drew) : (Code.region id ops true).wpIn (Rn l) n P Q a w :=
  wpIn_region_any hm (wpAnyRn hd hL _ _ _ _ (wpL.any _ _ _ _ h))
end

/-- A loop's record. -/
def recL (fn : FuncId) (tmps : Array Value) (ps : Array Tmp) (assign body : Code) (D : Nat) (st : LoopState) (pe : Option Code) : Loop := { state := st, pending := pe, fn, tmps, params := ps, assign, body, defers := D }
section
variable {P : Program} {X : Nat → Prop} {w0 w : World} {l l' : List Ch}
/-- 'for .. := range g': the record is laid, g is called; what a round has left pending is taken up. -/
theorem wp_rangeH {g : Operand} {ps : Array Tmp} {assign body : Code} {Q : Exit → Act → World → Prop} {a : Act} {gf : Nat} {lb : Array Value} (H : Hp X w0 w l) (hg : a.eval g = .func (.func gf) #[] lb) (eg : ∀ args w, (callFunc gf args).run P w = .ok (.enter gf args) w)
    (h : ∀ fn D L rc w1, D ≠ L → rc = recL fn a.tmps ps assign body D → Hp X w0 w1 (.obj L (.loop (rc .ready none)) :: .obj D (.deferred (some [])) :: l) →
      CallsIn Fence.wide 0 P gf (#[.func (.yield L) #[] #[]] ++ lb) w1 fun e w3 => ∃ v, e = .returned v ∧ ∃ st pe l', st ≠ .busy ∧ Hp X w0 w3 (.obj L (.loop (rc st pe)) :: l') ∧
        ∀ w4, Hp X w0 w4 l' → match pe with
          | none => Q .normal { a with defers := { target := .collected D, args := #[] } :: a.defers } w4
          | some c => c.wp P Q { a with defers := { target := .collected D, args := #[] } :: a.defers } w4) :
    (Code.rangeFunc g ps assign body).wp P Q a w := by
  refine (wpIn_wide (n := 0)).1 (wpIn_rangeFunc ?_)
  intro fn _
  have H1 := (H.allocObj (.deferred (some []))).allocObj (.loop (recL fn a.tmps ps assign body w.heap.size .ready none))
  rw [World.size_alloc] at H1
  obtain ⟨W1, hW1⟩ : ∃ W1, (w.alloc (.deferred (some []))).alloc (.loop (recL fn a.tmps ps assign body w.heap.size .ready none)) = W1 := ⟨_, rfl⟩
  rw [hW1] at H1
  refine ⟨w.heap.size + 1, [{ target := .collected w.heap.size, args := #[] }], W1, { target := .fn (.func gf) lb, args := #[.func (.yield (w.heap.size + 1)) #[] #[]] }, W1, gf,
    #[.func (.yield (w.heap.size + 1)) #[] #[]] ++ lb, W1, ?_, ?_, fun _ _ => trivial, ?_, fun e => (by cases e), ?_⟩
  · rw [← hW1]; exact run_enterLoop_outer _ _ _ _ _
  · simp only [resolve, hg]
    simp [go_sem]
  · simp [invoke, go_sem, eg]
  · refine (h fn w.heap.size (w.heap.size + 1) _ _ (by omega) rfl H1).mono ?_
    rintro e w3 ⟨v, rfl, st, pe, l', hst, H3, hQ⟩
    have ho := H3.objAt .head
    refine ⟨pe, _, run_endLoop ho hst, ?_⟩
    have H4 := (H3.putObj (w1 := w3.putObj (w.heap.size + 1) (.loop { recL fn a.tmps ps assign body w.heap.size st pe with state := .exhausted })) .head rfl rfl rfl rfl).tl
    have := hQ _ H4
    cases pe with
    | none => exact this
    | some c => exact wpIn_wide.2 this
/-- A round. -/
theorem roundH {fn L D : Nat} {tmps : Array Value} {ps : Array Tmp} {assign body : Code} {xs : Array Value} {R : Ending → World → Prop} {rc : LoopState → Option Code → Loop} (hrc : rc = recL fn tmps ps assign body D) (H : Hp X w0 w (.obj L (.loop (rc .ready none)) :: l)) (hs : xs.size = ps.size)
    (h : assign.wpIn (Rn L) 0 P (Exit.then (fun a1 w1 => ∃ l1, Hp X w0 w1 (.obj L (.loop (rc .ready none)) :: l1) ∧ ∀ w2, Hp X w0 w2 (.obj L (.loop (rc .busy none)) :: l1) → body.wpIn (Rn L) 0 P (roundPost P L R) a1 w2) (fun _ _ _ => False))
      { tmps := (ps.zip xs).foldl (fun t (p, v) => t.setIfInBounds p v) tmps, defers := [] } w) : YieldAt Fence.wide 0 P L xs w R := by
  subst hrc
  have hy := run_yield (P := P) (args := xs) (H.objAt .head) hs
  refine ⟨fn, _, assign, body, hy, roundIn_of_wpIn trivial (wpIn_mono h ?_)⟩
  rintro e a1 w1 hq
  cases e with
  | normal =>
    obtain ⟨l1, H1, hb⟩ := hq
    exact ⟨_, run_beginRound (H1.objAt .head) rfl, hb _ (H1.putObj .head rfl rfl rfl rfl)⟩
  | _ => exact hq
theorem roundEnd {fn L D : Nat} {tmps : Array Value} {ps : Array Tmp} {assign body : Code} {R : Ending → World → Prop} {l1 : List Ch} {rc : LoopState → Option Code → Loop} (hrc : rc = recL fn tmps ps assign body D) (jump : Option Code) (H : Hp X w0 w l1) (p : Pick l1 (.obj L (.loop (rc .busy none))) l)
    (h : ∀ w', Hp X w0 w' (.obj L (.loop (rc (if jump.isNone then .ready else .done) jump)) :: l) → R (.returned (.bool jump.isNone)) w') : ∃ v w', (Instr.endRound L jump).run P w = .ok v w' ∧ R (.returned v) w' := by
  subst hrc
  exact ⟨_, _, run_endRound jump ((H.pick p).objAt .head), h _ ((H.pick p).putObj .head rfl rfl rfl rfl)⟩
theorem roundNext {fn L D : Nat} {tmps : Array Value} {ps : Array Tmp} {assign body : Code} {R : Ending → World → Prop} {l1 : List Ch} {a : Act} {rc : LoopState → Option Code → Loop} (hrc : rc = recL fn tmps ps assign body D) (H : Hp X w0 w l1) (p : Pick l1 (.obj L (.loop (rc .busy none))) l)
    (h : ∀ w', Hp X w0 w' (.obj L (.loop (rc .ready none)) :: l) → R (.returned (.bool true)) w') : roundPost P L R .normal a w := roundEnd hrc none H p h
theorem roundRet {fn L D : Nat} {tmps : Array Value} {ps : Array Tmp} {assign body : Code} {R : Ending → World → Prop} {l1 : List Ch} {a : Act} {rc : LoopState → Option Code → Loop} (hrc : rc = recL fn tmps ps assign body D) (H : Hp X w0 w l1) (p : Pick l1 (.obj L (.loop (rc .busy none))) l)
    (h : ∀ w', Hp X w0 w' (.obj L (.loop (rc .done (some .ret))) :: l) → R (.returned (.bool false)) w') : roundPost P L R .ret a w := roundEnd hrc (some .ret) H p h
theorem no_lets {L : Nat} {R : Ending → World → Prop} : ¬ LetsOut (roundPost P L R) := fun ⟨_, _, h⟩ => h
theorem no_letsThen {K : Act → World → Prop} {Q : Exit → Act → World → Prop} (h : ¬ LetsOut Q) : ¬ LetsOut (Exit.then K Q) := fun ⟨a, w, hq⟩ => h ⟨a, w, hq⟩
/-- A function that holds a range over a function: entered. -/
theorem enterM {f : FuncId} {fn : Func} {c : Code} {args : Array Value} {R : Ending → World → Prop} (hf : P.funcs[f]? = some fn) (hb : fn.body = some c)
    (h : c.wp P (bodyPostM Fence.wide 0 P fn R) { tmps := args ++ Array.replicate (fn.ntmps - args.size) undef, defers := [] } w) : Calls P f args w R :=
  callsIn_wide.1 (callsIn_of_wp_marks hf hb trivial (wpIn_wide.2 h))
/-- .. left. -/
theorem leaveM {fn : Func} {tmps : Array Value} {D : Nat} {R : Ending → World → Prop} {v : Value} (H : Hp X w0 w l) (p : Pick l (.obj D (.deferred (some []))) l')
    (h : ∀ w', Hp X w0 w' l' → (results fn tmps).run P w' = .ok v w' ∧ R (.returned v) w') : bodyPostM Fence.wide 0 P fn R .ret { tmps, defers := [{ target := .collected D, args := #[] }] } w :=
  ⟨by simp, .inl ⟨D, _, rfl, run_takeDeferred ((H.pick p).objAt .head), ⟨v, h _ (Hp.putObj (o' := .deferred none) (w1 := w.putObj D (.deferred none)) (H.pick p) .head rfl rfl rfl rfl).tl⟩⟩⟩
end
end Go.Proofs.YtmedomglemllnaaDoor
/- slices.Backward over terms: its closure, whatever the loop's body keeps. No statement of the seat is proved here. -/
namespace Go.Proofs.YtmedomglemllnaaDoor
set_option linter.unusedSimpArgs false
set_option linter.unusedVariables false
open Go.RowKit
attribute [local go_sem] Oper.semAt_some

set_option maxRecDepth 100000 in
set_option maxHeartbeats 2000000 in
theorem backward1 {L bs n c : Nat} {A : Option Addr} {k0 k1 k2 : Nat → Int} {v3 v4 : Nat → Value} (hn : n ≤ 4294967296) (J : Nat → World → Prop)
    (hrd : ∀ k W, J k W → W.cell? ⟨bs, 0, none⟩ = some (.slice A n c) ∧ ∀ j, j < n → ∃ b o, A = some ⟨b, o, none⟩ ∧ W.cell? ⟨b, o + j * 5, none⟩ = some (.int .i64 (k0 j)) ∧ W.cell? ⟨b, o + j * 5 + 1, none⟩ = some (.int .i64 (k1 j)) ∧ W.cell? ⟨b, o + j * 5 + 2, none⟩ = some (.int .i64 (k2 j)) ∧ W.cell? ⟨b, o + j * 5 + 3, none⟩ = some (v3 j) ∧ W.cell? ⟨b, o + j * 5 + 4, none⟩ = some (v4 j))
    (hY : ∀ j W, j < n → J (j + 1) W → YieldAt Fence.wide 0 Tryd.prog L #[.int .i64 j, .agg #[.int .i64 (k0 j), .int .i64 (k1 j), .int .i64 (k2 j), v3 j, v4 j]] W fun e W' => e = .returned (.bool true) ∧ J j W')
    {W : World} (h0 : J n W) : CallsIn Fence.wide 0 Tryd.prog 184 #[.func (.yield L) #[] #[], .pointer (some ⟨bs, 0, none⟩)] W fun e W' => (∃ v, e = .returned v) ∧ J 0 W' := by
  have hb0 := (hrd _ _ h0).1
  refine callsIn_of_wp Tryd.func184 rfl trivial ?_
  simp only [Tryd.ntmps184, List.size_toArray, List.length_cons, List.length_nil, Nat.reduceAdd, Nat.reduceSub, Array.replicate_succ, Array.replicate_zero, List.push_toArray, List.append_toArray, List.nil_append, List.cons_append]
  gi_wp2
  gi_loopw [3] (fun i wr => ∃ k : Nat, k ≤ n ∧ i = .int .i64 ((k : Int) - 1) ∧ J k wr) (fun i _ => (intOf i + 1).toNat)
  case atStart => exact ⟨n, Nat.le_refl _, rfl, h0⟩
  case round =>
    clear h0 hb0
    obtain ⟨k, hk, rfl, hJ⟩ := hrel
    rcases k with _ | k
    · gi_wp2
      go_end0
      exact ⟨⟨_, rfl⟩, hJ⟩
    · obtain ⟨hb, hc⟩ := hrd _ _ hJ
      obtain ⟨b, o, rfl, p0, p1, p2, p3, p4⟩ := hc k (by omega)
      obtain ⟨fn, tmps, assign, body, hy, hR⟩ := hY k wr (by omega) hJ
      clear hrd hY hc
      have e : ((k + 1 : Nat) : Int) - 1 = (k : Int) := by omega
      rw [e]
      clear e
      gi_wp2
      refine ⟨rfl, hR.mono ?_⟩
      rintro e W3 ⟨rfl, hJ3⟩
      gi_wp2
      go_roundw
      case rel => exact ⟨k, by omega, rfl, hJ3⟩
      case measure => simp [intOf]
/-- A call hands back a term of its own, and leaves the rest. -/
def PTmH (X : Nat → Prop) (w0 : World) (l : List Ch) (t : Tm) (e : Ending) (w' : World) : Prop := ∃ A c K k, e = .returned (.agg #[.int .i64 t.k, .int .i64 t.n, .int .i64 t.a, .slice A t.ls.length c, .slice K t.ks.length k]) ∧
  Hp X w0 w' (.dat t.d [.int .i64 t.k, .int .i64 t.n, .int .i64 t.a, .slice A t.ls.length c, .slice K t.ks.length k] :: l)
set_option maxRecDepth 100000 in
set_option maxHeartbeats 1000000 in
theorem backward_calls {X : Nat → Prop} {w0 w : World} {l : List Ch} {A : Option Addr} {n c : Nat} (H : Hp X w0 w l) :
    Calls Tryd.prog 137 #[.slice A n c] w fun e w' => ∃ g, e = .returned (.func (.func 184) #[] #[.pointer (some ⟨g, 0, none⟩)]) ∧ Hp X w0 w' (.box g 24 [.slice A n c] :: l) := by
  have hmf : ∀ (fn : Fn) (first cap : Array Value) (w : World), (Instr.makeFunc fn first cap).run Tryd.prog w = .ok (.func fn first cap) w := fun _ _ _ _ => rfl
  go_enter Tryd.func137, Tryd.ntmps137
  go_wp2_with fail
  go_ret
  exact ⟨_, rfl, H.alloc [.slice A n c] _⟩
/-- A row laid above a term, below nodes of a kind. -/
def aboveT (k : Int) : List Tm → Tm → Tm
  | [], b => b
  | a :: r, b => .mk k 0 0 [] [a, aboveT k r b]
theorem aboveT_drop {k : Int} {ts : List Tm} {b : Tm} {j : Nat} (h : j < ts.length) : aboveT k (ts.drop j) b = .mk k 0 0 [] [ts[j], aboveT k (ts.drop (j + 1)) b] := by
  rw [List.drop_eq_getElem_cons h, aboveT]
/-- The cells of a row of terms. -/
theorem RCs.tms {w : World} {S : Nat → Prop} {ts : List Tm} {es : List Value} (h : RCs w S (ts.map Tm.d) es) : ∃ (A3 A4 : Nat → Option Addr) (c3 c4 : Nat → Nat), ∀ j (hj : j < ts.length), es[j * 5]? = some (.int .i64 ts[j].k) ∧ es[j * 5 + 1]? = some (.int .i64 ts[j].n) ∧ es[j * 5 + 2]? = some (.int .i64 ts[j].a) ∧ es[j * 5 + 3]? = some (.slice (A3 j) ts[j].ls.length (c3 j)) ∧ es[j * 5 + 4]? = some (.slice (A4 j) ts[j].ks.length (c4 j)) := by
  have key : ∀ j, ∃ (A3 A4 : Option Addr) (c3 c4 : Nat), ∀ hj : j < ts.length, es[j * 5]? = some (.int .i64 ts[j].k) ∧ es[j * 5 + 1]? = some (.int .i64 ts[j].n) ∧ es[j * 5 + 2]? = some (.int .i64 ts[j].a) ∧ es[j * 5 + 3]? = some (.slice A3 ts[j].ls.length c3) ∧ es[j * 5 + 4]? = some (.slice A4 ts[j].ks.length c4) := by
    intro j
    by_cases hj : j < ts.length
    · obtain ⟨cs, g1, g2, g3⟩ := h.get (z := 5) (fun d hd => by obtain ⟨t, _, rfl⟩ := List.mem_map.1 hd; exact Tm.size_d t) (i := j) (d := ts[j].d) (by simp [hj])
      obtain ⟨A1, c1, K1, k1, rfl, _⟩ := RC.tm.1 g1
      exact ⟨A1, K1, c1, k1, fun _ => ⟨g3 0 _ rfl, g3 1 _ rfl, g3 2 _ rfl, g3 3 _ rfl, g3 4 _ rfl⟩⟩
    · exact ⟨none, none, 0, 0, fun h => absurd h hj⟩
  exact ⟨fun j => (key j).choose, fun j => (key j).choose_spec.choose, fun j => (key j).choose_spec.choose_spec.choose, fun j => (key j).choose_spec.choose_spec.choose_spec.choose, fun j => (key j).choose_spec.choose_spec.choose_spec.choose_spec⟩
theorem take5 {es c1 c2 : List Value} {j : Nat} {u0 u1 u2 u3 u4 : Value} (h : es.take ((j + 1) * 5) = c1 ++ c2) (h1 : c1.length = j * 5) (h2 : c2.length = 5) (q : es[j * 5]? = some u0 ∧ es[j * 5 + 1]? = some u1 ∧ es[j * 5 + 2]? = some u2 ∧ es[j * 5 + 3]? = some u3 ∧ es[j * 5 + 4]? = some u4) : c1 = es.take (j * 5) ∧ c2 = [u0, u1, u2, u3, u4] := by
  have e1 : c1 = es.take (j * 5) := by
    have := congrArg (List.take (j * 5)) h
    rw [List.take_take, List.take_append_of_le_length (by omega), ← h1, List.take_length] at this
    rw [← this, h1]
    congr 1
    omega
  refine ⟨e1, ?_⟩
  have g : ∀ i, i < 5 → c2[i]? = es[j * 5 + i]? := fun i hi => by
    have := congrArg (fun l => l[j * 5 + i]?) h
    simp only [List.getElem?_take] at this
    rw [if_pos (by omega), List.getElem?_append_right (by omega)] at this
    rw [this]
    congr 1
    omega
  match c2, h2 with
  | [a0, a1, a2, a3, a4], _ =>
    have g0 := g 0 (by omega); have g1 := g 1 (by omega); have g2 := g 2 (by omega); have g3 := g 3 (by omega); have g4 := g 4 (by omega)
    rw [Nat.add_zero, q.1] at g0
    rw [q.2.1] at g1; rw [q.2.2.1] at g2; rw [q.2.2.2.1] at g3; rw [q.2.2.2.2] at g4
    simp only [List.getElem?_cons_zero, List.getElem?_cons_succ, Option.some.injEq] at g0 g1 g2 g3 g4
    rw [g0, g1, g2, g3, g4]
theorem sizes_tms (ts : List Tm) : D.sizes (ts.map Tm.d) = ts.length * 5 := by
  rw [D.sizes_eq (z := 5) (fun d hd => by obtain ⟨t, _, rfl⟩ := List.mem_map.1 hd; exact Tm.size_d t), List.length_map]
section
variable {X : Nat → Prop} {w0 w : World} {l l1 l2 : List Ch}
/-- The last of some terms, taken away. -/
theorem Hp.lastTm {ts : List Tm} {es : List Value} {j : Nat} {u0 u1 u2 u3 u4 : Value} (H : Hp X w0 w l) (p : Pick l (.dat (.s ((ts.take (j + 1)).map Tm.d)) (es.take ((j + 1) * 5))) l1) (hj : j < ts.length)
    (q : es[j * 5]? = some u0 ∧ es[j * 5 + 1]? = some u1 ∧ es[j * 5 + 2]? = some u2 ∧ es[j * 5 + 3]? = some u3 ∧ es[j * 5 + 4]? = some u4) :
    Hp X w0 w (.dat (.s ((ts.take j).map Tm.d)) (es.take (j * 5)) :: .dat ts[j].d [u0, u1, u2, u3, u4] :: l1) := by
  have H1 := H.pick p
  rw [take_map Tm.d hj] at H1
  obtain ⟨c1, c2, he, hl1, hl2, H2⟩ := H1.cut .head
  rw [sizes_tms, List.length_take] at hl1
  obtain ⟨rfl, rfl⟩ := take5 he (by rw [hl1]; congr 1; omega) (by rw [hl2]; simp [D.sizes, Tm.size_d]) q
  exact (H2.unone (.tail .head)).swap
/-- A node of two kids, out of a box. -/
theorem Hp.node2 {k : Int} {a b : Tm} {g : Nat} {a0 a1 a2 a3 a4 b0 b1 b2 b3 b4 : Value} {l3 : List Ch} (H : Hp no w0 w l) (p0 : Pick l (.box g 26 [a0, a1, a2, a3, a4, b0, b1, b2, b3, b4]) l1) (pa : Pick l1 (.dat a.d [a0, a1, a2, a3, a4]) l2) (pb : Pick l2 (.dat b.d [b0, b1, b2, b3, b4]) l3) (hk : inI k) :
    Hp no w0 w (.dat (Tm.mk k 0 0 [] [a, b]).d [.int .i64 k, .int .i64 0, .int .i64 0, .slice none 0 0, .slice (some ⟨g, 0, none⟩) 2 2] :: l3) := by
  have H1 := (((H.pick p0).pick (.tail pa)).one1 .head)
  have H2 := (H1.pick (.tail (.tail pb))).one1 .head
  have H3 := H2.join (.tail .head) .head
  have H4 := H3.boxrow (n := 2) (z := 5) (.tail .head) .head rfl (by simp [Tm.size_d]) (by unfold M; omega)
  have H5 := H4.nil 33 1
  exact Hp.tm (ls := []) (ks := [a, b]) H5 .head .head hk (by unfold inI; omega) (by unfold inI; omega)
end
end Go.Proofs.YtmedomglemllnaaDoor
/- tele: a row laid above a term: contract. No statement of the seat is proved here. -/
namespace Go.Proofs.YtmedomglemllnaaDoor
set_option linter.unusedSimpArgs false
set_option linter.unusedVariables false
open Go.RowKit
attribute [local go_sem] Oper.semAt_some

set_option maxRecDepth 100000 in
set_option maxHeartbeats 4000000 in
theorem above_calls {w0 w : World} {l : List Ch} {ts : List Tm} {b : Tm} {A B K : Option Addr} {c cb kb : Nat} {k : Int} (H : Hp no w0 w (.dat (.l 26 5 (ts.map Tm.d)) [.slice A ts.length c] :: .dat b.d [.int .i64 b.k, .int .i64 b.n, .int .i64 b.a, .slice B b.ls.length cb, .slice K b.ks.length kb] :: l)) (hk : inI k) :
    Calls Tryd.prog 78 #[.agg #[.slice A ts.length c], .int .i64 k, .agg #[.int .i64 b.k, .int .i64 b.n, .int .i64 b.a, .slice B b.ls.length cb, .slice K b.ks.length kb]] w (PTmH no w0 l (aboveT k ts b)) := by
  have hM := (H.rd .head).lenM
  obtain ⟨es, hes, H1⟩ := H.unrow .head
  clear H
  have H := H1
  clear H1
  refine enterM Tryd.func78 rfl ?_
  simp only [Tryd.ntmps78, List.size_toArray, List.length_cons, List.length_nil, Nat.reduceAdd, Nat.reduceSub, Array.replicate_succ, Array.replicate_zero, List.push_toArray, List.append_toArray, List.nil_append, List.cons_append]
  go_wp2_with fail
  refine callsH (by (repeat (first | with_reducible exact H | with_reducible exact H0_ | with_reducible apply Hp.alloc | with_reducible apply Hp.allocMap | with_reducible apply Hp.drew | with_reducible apply Hp.drewN | with_reducible apply Hp.set)); (try any_goals (repeat (first | with_reducible exact Upd.head | with_reducible apply Upd.tail)))) ?_
  clear H; intro w1 H; (try simp only [size_drew_, size_drewN_, World.size_alloc, World.size_setCell, List.set_cons_zero, List.set_cons_succ] at H)
  refine (backward_calls H).mono ?_
  rintro e w2 ⟨bs, rfl, H2⟩
  clear H
  have H := H2
  clear H2
  go_wp2_with fail
  obtain ⟨A3, A4, c3, c4, hv⟩ := RCs.tms (by have h := H.rd (d := .s (ts.map Tm.d)) (by (repeat (first | with_reducible exact Pick.head | with_reducible apply Pick.tail))); unfold RC at h; exact h)
  refine wp_rangeH H rfl (enters_of Tryd.func184 (by kernel_rfl) rfl) ?_
  intro fn D L rc w3 hDL hrc H3
  clear H
  simp only [List.length_map] at H3 hes
  have HV := Lib.hid hv
  clear hv
  refine (backward1 (n := ts.length) (c := c) (A := A) (bs := bs) (k0 := fun j => (ts[j]?.getD b).k) (k1 := fun j => (ts[j]?.getD b).n) (k2 := fun j => (ts[j]?.getD b).a) (v3 := fun j => .slice (A3 j) (ts[j]?.getD b).ls.length (c3 j)) (v4 := fun j => .slice (A4 j) (ts[j]?.getD b).ks.length (c4 j)) hM.1
    (fun j W => ∃ r B K cb kb, Tm.k r = Tm.k r ∧ r = aboveT k (ts.drop j) b ∧ j ≤ ts.length ∧ Hp no w0 W (.obj L (.loop (rc .ready none)) :: .obj D (.deferred (some [])) :: .box bs 24 [.slice A ts.length c] :: .box (w.heap.size + 1 + 1 + 1) 26 [.int .i64 0, .int .i64 0, .int .i64 0, .slice none 0 0, .slice none 0 0] ::
      .box (w.heap.size + 1 + 1) 26 [.int .i64 r.k, .int .i64 r.n, .int .i64 r.a, .slice B r.ls.length cb, .slice K r.ks.length kb] :: .box (w.heap.size + 1) 22 [.int .i64 k] :: .box w.heap.size 110 [.slice A ts.length c] :: .raw 26 5 ts.length (.slice A ts.length c) es ::
      .dat (.s ((ts.take j).map Tm.d)) (es.take (j * 5)) :: .dat r.d [.int .i64 r.k, .int .i64 r.n, .int .i64 r.a, .slice B r.ls.length cb, .slice K r.ks.length kb] :: l)) ?rd ?round ?start).mono ?_
  case rd =>
    rintro j W ⟨r, B, K, cb, kb, _, hr, hj, H⟩
    have hb := (H.blk (g := bs) (by (repeat (first | with_reducible exact Pick.head | with_reducible apply Pick.tail)))).cells 0
    refine ⟨hb, fun i hi => ?_⟩
    obtain ⟨g, c', he, hc, hcell, hg⟩ := H.rawAt (e := 26) (v := .slice A ts.length c) (by (repeat (first | with_reducible exact Pick.head | with_reducible apply Pick.tail))) (by omega)
    simp only [Value.slice.injEq, true_and] at he
    obtain ⟨rfl, rfl⟩ := he
    obtain ⟨q0, q1, q2, q3, q4⟩ := HV.out i hi
    simp only [List.getElem?_eq_getElem hi, Option.getD_some]
    refine ⟨g, 0, rfl, ?_⟩
    simp only [Nat.zero_add]
    exact ⟨hcell _ _ q0, hcell _ _ q1, hcell _ _ q2, hcell _ _ q3, hcell _ _ q4⟩
  case start =>
    refine ⟨b, B, K, cb, kb, rfl, by rw [List.drop_length]; rfl, Nat.le_refl _, ?_⟩
    rw [List.take_length, List.take_of_length_le (by omega)]
    exact H3
  case round =>
    rintro j W hj ⟨r, B, K, cb, kb, _, hr, _, H⟩
    clear H3
    have HRC := Lib.hid hrc
    refine roundH hrc H rfl ?_
    clear hrc
    simp only [List.getElem?_eq_getElem hj, Option.getD_some]
    obtain ⟨i1, i2, i3, _⟩ := Hp.untm (t := r) (H.pick (by (repeat (first | with_reducible exact Pick.head | with_reducible apply Pick.tail))))
    have HI := Lib.hid (And.intro i1 (And.intro i2 i3))
    clear i1 i2 i3
    refine regionRn (by kernel_rfl) (no_letsThen fun ⟨_, _, h⟩ => h) ?_
    have hr_ := H.rules; simp only [Rules, and_true] at hr_; have hd_ := H.dif; simp only [Dif, Neq, and_true] at hd_; obtain ⟨ho_, hz_⟩ := H.old0
    go_wp2_with fail
    clear hr_ hd_ ho_ hz_
    refine ⟨_, (H.alloc [_, _, _, _, _] 26).swap, fun w5 H5 => ?_⟩
    clear H
    have H := H5
    clear H5
    refine wpIn_block ?_
    refine regionRn (by kernel_rfl) (fun ⟨_, _, h⟩ => h) ?_
    have hr_ := H.rules; simp only [Rules, and_true] at hr_; have hd_ := H.dif; simp only [Dif, Neq, and_true] at hd_; obtain ⟨ho_, hz_⟩ := H.old0
    go_wp2_with fail
    clear hr_ hd_ ho_ hz_
    refine endH (by (repeat (first | with_reducible exact H | with_reducible exact H0_ | with_reducible apply Hp.alloc | with_reducible apply Hp.allocMap | with_reducible apply Hp.drew | with_reducible apply Hp.drewN | with_reducible apply Hp.set)); (try any_goals (repeat (first | with_reducible exact Upd.head | with_reducible apply Upd.tail)))) ?_
    clear H; intro w6 H; (try simp only [size_drew_, size_drewN_, World.size_alloc, World.size_setCell, List.set_cons_zero, List.set_cons_succ] at H)
    refine roundNext HRC.out H (by (repeat (first | with_reducible exact Pick.head | with_reducible apply Pick.tail))) (fun w7 H7 => ⟨rfl, by omega, ?_⟩)
    clear H
    subst hr
    rw [aboveT_drop hj]
    have H := H7.lastTm (j := j) (by (repeat (first | with_reducible exact Pick.head | with_reducible apply Pick.tail))) hj (HV.out j hj)
    have H := H.node2 (a := ts[j]) (b := aboveT k (ts.drop (j + 1)) b) (by (repeat (first | with_reducible exact Pick.head | with_reducible apply Pick.tail))) (by (repeat (first | with_reducible exact Pick.head | with_reducible apply Pick.tail))) (by (repeat (first | with_reducible exact Pick.head | with_reducible apply Pick.tail))) hk
    (repeat apply Exists.intro)
    simp only [Tm.k_mk, Tm.n_mk, Tm.a_mk, Tm.ls_mk, Tm.ks_mk, List.length_nil, List.length_cons, Nat.reduceAdd, Nat.zero_add, ← List.map_take]
    exact (H.arr (by (repeat (first | with_reducible exact Arr.nil | refine Arr.cons (by (repeat (first | with_reducible exact Pick.head | with_reducible apply Pick.tail))) ?_)) <;> exact Arr.of_subl (by (repeat (first | with_reducible exact Subl.refl _ | with_reducible apply Subl.drop)))))
  · rintro e w8 ⟨⟨v, rfl⟩, r, B, K, cb, kb, _, hr, _, H⟩
    refine ⟨v, rfl, .ready, none, _, by decide, H, fun w9 H => ?_⟩
    simp only [List.drop_zero] at hr
    subst hr
    clear HV hrc H3 hes
    dsimp only
    have hr_ := H.rules; simp only [Rules, and_true] at hr_; have hd_ := H.dif; simp only [Dif, Neq, and_true] at hd_; obtain ⟨ho_, hz_⟩ := H.old0
    go_wp2_with fail
    clear hr_ hd_ ho_ hz_
    refine endH (by (repeat (first | with_reducible exact H | with_reducible exact H0_ | with_reducible apply Hp.alloc | with_reducible apply Hp.allocMap | with_reducible apply Hp.drew | with_reducible apply Hp.drewN | with_reducible apply Hp.set)); (try any_goals (repeat (first | with_reducible exact Upd.head | with_reducible apply Upd.tail)))) ?_
    clear H; intro w10 H; (try simp only [size_drew_, size_drewN_, World.size_alloc, World.size_setCell, List.set_cons_zero, List.set_cons_succ] at H)
    refine leaveM (v := .agg #[_, _, _, _, _]) H (by (repeat (first | with_reducible exact Pick.head | with_reducible apply Pick.tail))) (fun w11 H => ⟨Res.one Tryd.results78 (H.resBox (by (repeat (first | with_reducible exact Pick.head | with_reducible apply Pick.tail))) aggTerm rfl rfl), _, _, _, _, rfl, ?_⟩)
    exact (Hp.only (Hp.pick H (by (repeat (first | with_reducible exact Pick.head | with_reducible apply Pick.tail)))) (.keep (by (repeat (first | with_reducible exact Subl.refl _ | with_reducible apply Subl.drop)))))
end Go.Proofs.YtmedomglemllnaaDoor
