/- A range over a function, in the terms of the state of a call at work: the statement, a round, the end of a function that holds one; what is walked outside a round holds within. No statement of the seat is proved here. -/
import Derived.Test.YteelplgdojjakaaDoorRow
import Derived.RangeFuncRecord
import Derived.OrdersIn
import Derived.RangeFuncSeq
namespace Go.Proofs.YteelplgdojjakaaDoor
set_option linter.unusedSimpArgs false
set_option linter.unusedVariables false
open Go.RowKit

section
variable {P : Program} {ops : Array Oper} {Q : Exit → Act → World → Prop} {n l : Nat}
/-- The fence of a round. -/
abbrev Rn (l : Nat) : Fence := Fence.wide.inRound l
theorem callsRn {f : FuncId} {args : Array Value} {w : World} {R : Ending → World → Prop} (h : Calls P f args w R) : CallsIn (Rn l) n P f args w R := by
  have h1 : CallsIn Fence.wide n P f args w R := callsIn_wide.2 h
  refine ⟨trivial, fun cs hr => ?_⟩
  obtain ⟨e, w', fr, r, s, x⟩ := h1.2 cs (room_wide _)
  exact ⟨e, w', fr, r, s, x⟩
theorem rowsRn {row : String} {args : Array Value} {w : World} {R : Value → World → Prop} (h : Rows P row args w R) : RowsIn (Rn l) n P row args w R := by
  intro c cs _
  obtain ⟨v, w', r, s⟩ := h c cs
  exact ⟨v, w', r, stepsIn_wide.2 s⟩
def noDefer (o : Oper) : Bool := match o.op with | .defer _ => false | _ => true
theorem noDefer_spec {o : Oper} (h : noDefer o = true) : ∀ c, o.op ≠ .defer c := fun c e => by simp [noDefer, e] at h
theorem uponRn {o : Oper} {a : Act} {K : Act → World → Prop} {r : Result Next} (h : o.upon P a K Q r) : o.uponIn (Rn l) n P a K Q r := by
  cases r with
  | ok x w' =>
    cases x <;> simp only [Oper.upon, Oper.uponIn] at h ⊢ <;> first
      | exact h
      | exact ⟨fun e => (by cases e), callsRn h⟩
      | exact ⟨fun e => (by cases e), rowsRn h⟩
      | exact h.elim
  | halt x w' => cases x <;> simp only [Oper.upon, Oper.uponIn] at h ⊢ <;> exact h
theorem wpOpRn {i : Nat} {K : Act → World → Prop} {a : Act} {w : World} (hd : ops.all noDefer = true) (hL : ¬ LetsOut Q) (h : wpOp P ops Q i K a w) : wpOpIn (Rn l) n P ops Q i K a w := by
  unfold wpOp at h
  unfold wpOpIn
  cases ho : ops[i]? with
  | none => simp only [ho] at h ⊢; exact h
  | some o =>
    simp only [ho] at h ⊢
    have hnd := noDefer_spec (Array.all_eq_true_iff_forall_mem.1 hd o (Array.mem_of_getElem? ho))
    split
    · rename_i hw
      simp only [hw, if_true] at h
      rcases h with h | h
      · refine ⟨fun _ _ => trivial, ?_⟩
        rw [Oper.semAt_eq _ _ _ hnd]
        exact uponRn h
      · exact absurd h.2 hL
    · rename_i hw
      simp only [hw] at h
      exact ⟨fun _ _ => trivial, h⟩
theorem wpAnyRn {md : Region.Mode} (hd : ops.all noDefer = true) (hL : ¬ LetsOut Q) : ∀ (fuel : Nat) (listed : Array Bool) (a : Act) (w : World), wpAny P md ops Q fuel listed a w → wpAnyIn (Rn l) n P md ops Q fuel listed a w
  | 0, _, _, _, h => h
  | fuel + 1, listed, a, w, h => ⟨h.1, fun i hi => wpOpIn_mono (fun a w h => wpAnyRn hd hL fuel _ a w h) (wpOpRn hd hL (h.2 i hi))⟩
theorem wpOpsRn (hd : ops.all noDefer = true) (hL : ¬ LetsOut Q) : ∀ (is : List Nat) (a : Act) (w : World), wpOps P ops Q is a w → wpOpsIn (Rn l) n P ops Q is a w
  | [], _, _, h => h
  | i :: is, a, w, h => by
    rw [wpOps_cons] at h
    rw [wpOpsIn_cons]
    exact wpOpIn_mono (fun a w h => wpOpsRn hd hL is a w h) (wpOpRn hd hL h)
/-- A region in a round, walked as outside. -/
theorem regionRn {id : Nat} {a : Act} {w : World} (hd : ops.all noDefer = true) (hL : ¬ LetsOut Q) (h : wpList P ops Q ops.toList a w) : (Code.region id ops false).wpIn (Rn l) n P Q a w := by
  refine wpIn_region (wpOpsRn hd hL _ a w ?_)
  have := wpOps_eq_wpList (P := P) (ops := ops) (Q := Q) ops.toList 0 (fun j => by simp)
  rw [List.range_eq_range']
  simpa using (congrFun (congrFun this a) w).mpr h
theorem regionRnD {id : Nat} {a : Act} {w : World} {S : World → Prop} (late : List Nat) (hd : ops.all noDefer = true) (hL : ¬ LetsOut Q) (hm : P.follows .mixedOrders = true)
    (h : wpL P .any ops Q S late ops.size (Array.replicate ops.size false) a w.drew) : (Code.region id ops true).wpIn (Rn l) n P Q a w :=
  wpIn_region_any hm (wpAnyRn hd hL _ _ _ _ (wpL.any _ _ _ _ h))
end

/-- A loop's record. -/
def recL (fn : FuncId) (tmps : Array Value) (ps : Array Tmp) (assign body : Code) (D : Nat) (st : LoopState) (pe : Option Code) : Loop := { state := st, pending := pe, fn, tmps, params := ps, assign, body, defers := D }
section
variable {P : Program} {X : Nat → Prop} {w0 w : World} {l l' : List Ch}
/-- 'for .. := range g': the record is laid, g is called; what a round has left pending is taken up. -/
theorem wp_rangeH {g : Operand} {ps : Array Tmp} {assign body : Code} {Q : Exit → Act → World → Prop} {a : Act} {gf : Nat} {lb : Array Value} (H : Hp X w0 w l) (hg : a.eval g = .func (.func gf) #[] lb) (eg : ∀ args w, (callFunc gf args).run P w = .ok (.enter gf args) w)
    (h : ∀ fn D L rc w1, D ≠ L → rc = recL fn a.tmps ps assign body D → Hp X w0 w1 (.obj L (.loop (rc .ready none)) :: .obj D (.deferred (some [])) :: l) →
      CallsIn Fence.wide 0 P gf (#[.func (.yield L) #[] #[]] ++ lb) w1 fun e w3 => ∃ v, e = .returned v ∧ ∃ st pe l', st ≠ .busy ∧ Hp X w0 w3 (.obj L (.loop (rc st pe)) :: l') ∧
        ∀ w4, Hp X w0 w4 l' → match pe with
          | none => Q .normal { a with defers := { target := .collected D, args := #[] } :: a.defers } w4
          | some c => c.wp P Q { a with defers := { target := .collected D, args := #[] } :: a.defers } w4) :
    (Code.rangeFunc g ps assign body).wp P Q a w := by
  refine (wpIn_wide (n := 0)).1 (wpIn_rangeFunc ?_)
  intro fn _
  have H1 := (H.allocObj (.deferred (some []))).allocObj (.loop (recL fn a.tmps ps assign body w.heap.size .ready none))
  rw [World.size_alloc] at H1
  obtain ⟨W1, hW1⟩ : ∃ W1, (w.alloc (.deferred (some []))).alloc (.loop (recL fn a.tmps ps assign body w.heap.size .ready none)) = W1 := ⟨_, rfl⟩
  rw [hW1] at H1
  refine ⟨w.heap.size + 1, [{ target := .collected w.heap.size, args := #[] }], W1, { target := .fn (.func gf) lb, args := #[.func (.yield (w.heap.size + 1)) #[] #[]] }, W1, gf,
    #[.func (.yield (w.heap.size + 1)) #[] #[]] ++ lb, W1, ?_, ?_, fun _ _ => trivial, ?_, fun e => (by cases e), ?_⟩
  · rw [← hW1]; exact run_enterLoop_outer _ _ _ _ _
  · simp only [resolve, hg]
    simp [go_sem]
  · simp [invoke, go_sem, eg]
  · refine (h fn w.heap.size (w.heap.size + 1) _ _ (by omega) rfl H1).mono ?_
    rintro e w3 ⟨v, rfl, st, pe, l', hst, H3, hQ⟩
    have ho := H3.objAt .head
    refine ⟨pe, _, run_endLoop ho hst, ?_⟩
    have H4 := (H3.putObj (w1 := w3.putObj (w.heap.size + 1) (.loop { recL fn a.tmps ps assign body w.heap.size st pe with state := .exhausted })) .head rfl rfl rfl rfl).tl
    have := hQ _ H4
    cases pe with
    | none => exact this
    | some c => exact wpIn_wide.2 this
/-- A round. -/
theorem roundH {fn L D : Nat} {tmps : Array Value} {ps : Array Tmp} {assign body : Code} {xs : Array Value} {R : Ending → World → Prop} {rc : LoopState → Option Code → Loop} (hrc : rc = recL fn tmps ps assign body D) (H : Hp X w0 w (.obj L (.loop (rc .ready none)) :: l)) (hs : xs.size = ps.size)
    (h : assign.wpIn (Rn L) 0 P (Exit.then (fun a1 w1 => ∃ l1, Hp X w0 w1 (.obj L (.loop (rc .ready none)) :: l1) ∧ ∀ w2, Hp X w0 w2 (.obj L (.loop (rc .busy none)) :: l1) → body.wpIn (Rn L) 0 P (roundPost P L R) a1 w2) (fun _ _ _ => False))
      { tmps := (ps.zip xs).foldl (fun t (p, v) => t.setIfInBounds p v) tmps, defers := [] } w) : YieldAt Fence.wide 0 P L xs w R := by
  subst hrc
  have hy := run_yield (P := P) (args := xs) (H.objAt .head) hs
  refine ⟨fn, _, assign, body, hy, roundIn_of_wpIn trivial (wpIn_mono h ?_)⟩
  rintro e a1 w1 hq
  cases e with
  | normal =>
    obtain ⟨l1, H1, hb⟩ := hq
    exact ⟨_, run_beginRound (H1.objAt .head) rfl, hb _ (H1.putObj .head rfl rfl rfl rfl)⟩
  | _ => exact hq
theorem roundEnd {fn L D : Nat} {tmps : Array Value} {ps : Array Tmp} {assign body : Code} {R : Ending → World → Prop} {l1 : List Ch} {rc : LoopState → Option Code → Loop} (hrc : rc = recL fn tmps ps assign body D) (jump : Option Code) (H : Hp X w0 w l1) (p : Pick l1 (.obj L (.loop (rc .busy none))) l)
    (h : ∀ w', Hp X w0 w' (.obj L (.loop (rc (if jump.isNone then .ready else .done) jump)) :: l) → R (.returned (.bool jump.isNone)) w') : ∃ v w', (Instr.endRound L jump).run P w = .ok v w' ∧ R (.returned v) w' := by
  subst hrc
  exact ⟨_, _, run_endRound jump ((H.pick p).objAt .head), h _ ((H.pick p).putObj .head rfl rfl rfl rfl)⟩
theorem roundNext {fn L D : Nat} {tmps : Array Value} {ps : Array Tmp} {assign body : Code} {R : Ending → World → Prop} {l1 : List Ch} {a : Act} {rc : LoopState → Option Code → Loop} (hrc : rc = recL fn tmps ps assign body D) (H : Hp X w0 w l1) (p : Pick l1 (.obj L (.loop (rc .busy none))) l)
    (h : ∀ w', Hp X w0 w' (.obj L (.loop (rc .ready none)) :: l) → R (.returned (.bool true)) w') : roundPost P L R .normal a w := roundEnd hrc none H p h
theorem roundRet {fn L D : Nat} {tmps : Array Value} {ps : Array Tmp} {assign body : Code} {R : Ending → World → Prop} {l1 : List Ch} {a : Act} {rc : LoopState → Option Code → Loop} (hrc : rc = recL fn tmps ps assign body D) (H : Hp X w0 w l1) (p : Pick l1 (.obj L (.loop (rc .busy none))) l)
    (h : ∀ w', Hp X w0 w' (.obj L (.loop (rc .done (some .ret))) :: l) → R (.returned (.bool false)) w') : roundPost P L R .ret a w := roundEnd hrc (some .ret) H p h
theorem no_lets {L : Nat} {R : Ending → World → Prop} : ¬ LetsOut (roundPost P L R) := fun ⟨_, _, h⟩ => h
theorem no_letsThen {K : Act → World → Prop} {Q : Exit → Act → World → Prop} (h : ¬ LetsOut Q) : ¬ LetsOut (Exit.then K Q) := fun ⟨a, w, hq⟩ => h ⟨a, w, hq⟩
/-- A function that holds a range over a function: entered. -/
theorem enterM {f : FuncId} {fn : Func} {c : Code} {args : Array Value} {R : Ending → World → Prop} (hf : P.funcs[f]? = some fn) (hb : fn.body = some c)
    (h : c.wp P (bodyPostM Fence.wide 0 P fn R) { tmps := args ++ Array.replicate (fn.ntmps - args.size) undef, defers := [] } w) : Calls P f args w R :=
  callsIn_wide.1 (callsIn_of_wp_marks hf hb trivial (wpIn_wide.2 h))
/-- .. left. -/
theorem leaveM {fn : Func} {tmps : Array Value} {D : Nat} {R : Ending → World → Prop} {v : Value} (H : Hp X w0 w l) (p : Pick l (.obj D (.deferred (some []))) l')
    (h : ∀ w', Hp X w0 w' l' → (results fn tmps).run P w' = .ok v w' ∧ R (.returned v) w') : bodyPostM Fence.wide 0 P fn R .ret { tmps, defers := [{ target := .collected D, args := #[] }] } w :=
  ⟨by simp, .inl ⟨D, _, rfl, run_takeDeferred ((H.pick p).objAt .head), ⟨v, h _ (Hp.putObj (o' := .deferred none) (w1 := w.putObj D (.deferred none)) (H.pick p) .head rfl rfl rfl rfl).tl⟩⟩⟩
end
end Go.Proofs.YteelplgdojjakaaDoor
