/- strict: what it computes; no program in sight. No statement of the seat is proved here. -/
import Derived.Test.YtmedomglemllnaaGreatDoorMgSplitSpec
import Derived.Test.YtmedomglemllnaaGreatDoorFree
import Derived.Test.YtmedomglemllnaaGreatDoorHp
import Derived.Test.YtmedomglemllnaaGreatDoorMgBack
import Derived.Laws.StructEq
import Derived.Recover
namespace Go.Proofs.YtmedomglemllnaaGreatDoor
set_option linter.unusedSimpArgs false
set_option linter.unusedVariables false
open Go.RowKit

abbrev Mk := Option Int
def standsM : Mk → Tm → Bool
  | none, t => selfT t
  | some n, t => freeT n (n + 1) 0 t
def isM : Mk → Tm → Bool
  | none, t => decide (t.k = 11)
  | some n, t => decide (t.k = 1) && decide (t.n = n)
def upM (v : Mk) (n : Int) : Mk := v.map (· + n)
theorem upM_up (v : Mk) (m n : Int) : upM (upM v m) n = upM v (m + n) := by cases v <;> simp [upM]; omega
def freeRow (v : Mk) (i : Nat) : List Tm → Bool
  | [] => true
  | t :: ts => !standsM (upM v i) t && freeRow v (i + 1) ts
theorem freeRow_drop {v : Mk} {ts : List Tm} {j : Nat} (h : j < ts.length) : freeRow v j (ts.drop j) = (!standsM (upM v j) ts[j] && freeRow v (j + 1) (ts.drop (j + 1))) := by
  rw [List.drop_eq_getElem_cons h, freeRow]
abbrev zDc : Dc := ⟨0, 0, zT, zT, [], [], [], []⟩
def argsS (g : Tm → Bool) (at' : Mk) (q : Nat → Bool) (k : Nat) : List Tm → Bool
  | [] => true
  | x :: xs => (!standsM at' x || (g x && q k)) && argsS g at' q (k + 1) xs
theorem argsS_drop {g : Tm → Bool} {at' : Mk} {q : Nat → Bool} {xs : List Tm} {j : Nat} (h : j < xs.length) : argsS g at' q j (xs.drop j) = ((!standsM at' xs[j] || (g xs[j] && q j)) && argsS g at' q (j + 1) (xs.drop (j + 1))) := by
  rw [List.drop_eq_getElem_cons h, argsS]
def strictF (ds : List Dc) (par : Nat → Nat → Bool) : Nat → Mk → Tm → Bool
  | 0, _, _ => false
  | f + 1, v, t =>
    if standsM v t = false then true
    else if freeRow v 0 (openAll t).1 = false then false
    else if isM (upM v (countT t)) (spineT (openAll t).2).1 = true then (spineT (openAll t).2).2.all fun x => !standsM (upM v (countT t)) x
    else if (spineT (openAll t).2).1.k = 8 ∧ 0 ≤ (spineT (openAll t).2).1.n ∧ (spineT (openAll t).2).1.n < ds.length then
      if (ds.getD (spineT (openAll t).2).1.n.toNat zDc).kind = 3 ∧ (ds.getD (spineT (openAll t).2).1.n.toNat zDc).params.length ≤ (spineT (openAll t).2).2.length then
        (((spineT (openAll t).2).2.drop (ds.getD (spineT (openAll t).2).1.n.toNat zDc).params.length).all fun x => !standsM (upM v (countT t)) x) &&
        argsS (strictF ds par f (upM v (countT t))) (upM v (countT t)) (par (spineT (openAll t).2).1.n.toNat) 0 ((spineT (openAll t).2).2.take (ds.getD (spineT (openAll t).2).1.n.toNat zDc).params.length)
      else false
    else false
def endS (ds : List Dc) (par : Nat → Nat → Bool) (g : Tm → Bool) (v : Mk) (s : Tm × List Tm) : Bool :=
  if isM v s.1 = true then s.2.all fun x => !standsM v x
  else if s.1.k = 8 ∧ 0 ≤ s.1.n ∧ s.1.n < ds.length then
    if (ds.getD s.1.n.toNat zDc).kind = 3 ∧ (ds.getD s.1.n.toNat zDc).params.length ≤ s.2.length then
      ((s.2.drop (ds.getD s.1.n.toNat zDc).params.length).all fun x => !standsM v x) && argsS g v (par s.1.n.toNat) 0 (s.2.take (ds.getD s.1.n.toNat zDc).params.length)
    else false
  else false
theorem strictF_eq (ds : List Dc) (par : Nat → Nat → Bool) (f : Nat) (v : Mk) (t : Tm) : strictF ds par (f + 1) v t =
    if standsM v t = false then true else if freeRow v 0 (openAll t).1 = false then false else endS ds par (strictF ds par f (upM v (countT t))) (upM v (countT t)) (spineT (openAll t).2) := by
  rw [strictF]
  unfold endS
  rfl
def strictQ (ds : List Dc) (par : Nat → Nat → Bool) (v : Mk) (t : Tm) : Bool := strictF ds par (sizeT t) v t
def typesQ (ds : List Dc) (par : Nat → Nat → Bool) (v : Mk) (i : Nat) : List Tm → Bool
  | [] => true
  | t :: ts => strictQ ds par (upM v i) t && typesQ ds par v (i + 1) ts
theorem typesQ_drop {ds : List Dc} {par : Nat → Nat → Bool} {v : Mk} {ts : List Tm} {j : Nat} (h : j < ts.length) : typesQ ds par v j (ts.drop j) = (strictQ ds par (upM v j) ts[j] && typesQ ds par v (j + 1) (ts.drop (j + 1))) := by
  rw [List.drop_eq_getElem_cons h, typesQ]
def ctorP (ds : List Dc) (par : Nat → Nat → Bool) (v : Int) (c : Ct) : Bool :=
  typesQ ds par (some v) 0 (openAll c.ty).1 && !standsM (upM (some v) (countT c.ty)) (openAll c.ty).2
def stepP (ds : List Dc) (par : Nat → Nat → Bool) (d : Dc) (a : Nat) : Bool :=
  (d.members.all fun m => freeRow (some ((d.params.length : Int) - 1 - a)) 0 m.index) && d.ctors.all (ctorP ds par ((d.params.length : Int) - 1 - a))
def parT (ds : List Dc) : Nat → Nat → Nat → Bool
  | 0 => fun _ _ => false
  | n + 1 => fun num a => if num = n then stepP (ds.take n) (parT ds n) (ds.getD n zDc) a else parT ds n num a
def parQ (ds : List Dc) (num a : Nat) : Bool := parT ds (num + 1) num a
theorem parT_eq (ds : List Dc) {n num : Nat} (h : num < n) (a : Nat) : parT ds n num a = parQ ds num a := by
  induction n with
  | zero => omega
  | succ n ih =>
    by_cases he : num = n
    · subst he; rfl
    · rw [parT]
      dsimp only
      rw [if_neg he]; exact ih (by omega)
theorem parQ_eq (ds : List Dc) (num a : Nat) : parQ ds num a = stepP (ds.take num) (parT ds num) (ds.getD num zDc) a := by
  unfold parQ
  rw [parT]
  dsimp only
  rw [if_pos rfl]
def paramV (ds : List Dc) (num a : Int) : Bool :=
  if 0 ≤ num ∧ num < ds.length ∧ (ds.getD num.toNat zDc).kind = 3 ∧ 0 ≤ a ∧ a < (ds.getD num.toNat zDc).params.length then parQ ds num.toNat a.toNat else false
def ctorS (ds : List Dc) (c : Ct) : Bool :=
  typesQ ds (parT ds ds.length) none 0 (openAll c.ty).1 && (decide ((spineT (openAll c.ty).2).1.k = 11) && (spineT (openAll c.ty).2).2.all fun x => !selfT x)
def positiveV (ds : List Dc) (d : Dc) : Bool := decide (d.kind = 3) && d.ctors.all (ctorS ds)
theorem parT_take {ds ds' : List Dc} {n : Nat} (h : ds.take n = ds'.take n) : parT ds n = parT ds' n := by
  induction n with
  | zero => rfl
  | succ n ih =>
    have h1 : ds.take n = ds'.take n := by
      have := congrArg (List.take n) h
      simpa [List.take_take] using this
    have h2 : ds.getD n zDc = ds'.getD n zDc := by
      have := congrArg (fun l => l.getD n zDc) h
      simpa [List.getD_eq_getElem?_getD, List.getElem?_take] using this
    funext num a
    rw [parT, parT, h1, ih h1, h2]
theorem strictQ_free {ds : List Dc} {par : Nat → Nat → Bool} {v : Mk} {t : Tm} (h : standsM v t = false) : strictQ ds par v t = true := by
  unfold strictQ
  obtain ⟨f, hf⟩ : ∃ f, sizeT t = f + 1 := ⟨sizeT t - 1, by have := sizeT_eq t; omega⟩
  rw [hf, strictF, if_pos h]
end Go.Proofs.YtmedomglemllnaaGreatDoor
/- Maps of a call's own, with numbers as keys: insertion, lookup. No statement of the seat is proved here. -/
namespace Go.Proofs.YtmedomglemllnaaGreatDoor
set_option linter.unusedSimpArgs false
set_option linter.unusedVariables false
open Go.RowKit

theorem ents_append (l : List (Int × Value)) (x : Int × Value) (k : Nat) : ents k (l ++ [x]) = ents k l ++ [{ key := .int .i64 x.1, val := x.2, born := k + l.length }] := by
  induction l generalizing k with
  | nil => rfl
  | cons y l ih =>
    simp only [List.cons_append, ents, ih, List.length_cons]
    rw [show k + 1 + l.length = k + (l.length + 1) by omega]
theorem find_none (l : List (Int × Value)) (k : Int) (j i : Nat) (h : l.lookup k = none) : Instr.findNow (.int .i64) (.int .i64 k) (ents j l) i = some none := by
  induction l generalizing j i with
  | nil => rfl
  | cons y l ih =>
    simp only [List.lookup] at h
    split at h
    · cases h
    · rename_i hne
      have : (k == y.1) = false := hne
      simp [ents, Instr.findNow, Instr.sameNow, this, ih _ _ h]
theorem find_some (l : List (Int × Value)) (k : Int) (v : Value) (j i : Nat) (h : l.lookup k = some v) : ∃ n, Instr.findNow (.int .i64) (.int .i64 k) (ents j l) i = some (some (n, v)) := by
  induction l generalizing j i with
  | nil => cases h
  | cons y l ih =>
    simp only [List.lookup] at h
    split at h
    · rename_i he
      simp only [Option.some.injEq] at h
      have : (k == y.1) = true := he
      exact ⟨i, by simp [ents, Instr.findNow, Instr.sameNow, this, h]⟩
    · rename_i hne
      have : (k == y.1) = false := hne
      obtain ⟨n, hn⟩ := ih (j + 1) (i + 1) h
      exact ⟨n, by simp [ents, Instr.findNow, Instr.sameNow, this, hn]⟩
section
variable {P : Program} {w w0 : World} {l l' : List Ch} {X : Nat → Prop}
theorem checkKey_int {kt : TypeId} {k : Int} (hk : P.underlying kt = some (.int .i64)) (b : Bool) : (Instr.checkKey b 10000 kt (.int .i64 k)).run P w = .ok () w := by
  show (Instr.checkKey b (9999 + 1) kt (.int .i64 k)).run P w = .ok () w
  unfold Instr.checkKey
  simp only [Sem.run_bind, run_underlying hk, Result.andThen_ok]
  rfl
theorem run_insertM {t kt et : TypeId} {g : Nat} {es : List (Int × Value)} {k : Int} {v : Value} (hu : P.underlying t = some (.map kt et)) (hk : P.underlying kt = some (.int .i64)) (hb : Mp w g es) (hn : es.lookup k = none) :
    (Instr.mapUpdate t (.map (some g)) (.int .i64 k) v).run P w = .ok () { w with heap := w.heap.setIfInBounds g (.map (ents 0 (es ++ [(k, v)])).toArray (es ++ [(k, v)]).length) } := by
  unfold Instr.mapUpdate Instr.findKey
  unfold Mp at hb
  simp [run_underlying hu, run_underlying hk, checkKey_int hk, getObj, setObj, Sem.run, hb, find_none es k 0 0 hn, ents_append]
theorem run_lookupM {t kt et : TypeId} {g : Nat} {es : List (Int × Value)} {k : Int} {z : Value} (hu : P.underlying t = some (.map kt et)) (hk : P.underlying kt = some (.int .i64)) (hz : (zeroValue et).run P w = .ok z w) (hb : Mp w g es) :
    (Instr.lookup t (.map (some g)) (.int .i64 k) true).run P w = .ok (.tuple #[(es.lookup k).getD z, .bool (es.lookup k).isSome]) w := by
  unfold Instr.lookup Instr.findKey
  unfold Mp at hb
  cases hl : es.lookup k with
  | none => simp [run_underlying hu, run_underlying hk, checkKey_int hk, getObj, Sem.run, hb, find_none es k 0 0 hl, hz]
  | some v =>
    obtain ⟨n, hn⟩ := find_some es k v 0 0 hl
    simp [run_underlying hu, run_underlying hk, checkKey_int hk, getObj, Sem.run, hb, hn]
theorem Hp.insert {g : Nat} {es : List (Int × Value)} {k : Int} {v : Value} (H : Hp X w0 w l) (u : Upd l (.map g es) (.map g (es ++ [(k, v)])) l') :
    Hp X w0 { w with heap := w.heap.setIfInBounds g (.map (ents 0 (es ++ [(k, v)])).toArray (es ++ [(k, v)]).length) } l' := by
  obtain ⟨L, h, hn⟩ := H.own
  obtain ⟨_, ⟨_, hg, hm⟩, _⟩ := h.sub u
  have hlt : g < w.heap.size := (Array.getElem?_eq_some_iff.1 hm).1
  have hfr : ∀ j, j ≠ g → (w.heap.setIfInBounds g (.map (ents 0 (es ++ [(k, v)])).toArray (es ++ [(k, v)]).length))[j]? = w.heap[j]? := fun j hj => by
    rw [Array.getElem?_setIfInBounds, if_neg (Ne.symm hj)]
  refine ⟨⟨H.ext.os, H.ext.tape, H.ext.output, by simpa using H.ext.size, fun j hj hx => (hfr j (by omega)).trans (H.ext.block j hj hx)⟩, L, h.upd u H.ext.size (by simp) hn (fun j hj _ => hfr j (by omega)) ?_ ?_, hn⟩
  · rintro K ⟨rfl, h1, h2⟩
    refine ⟨rfl, h1, ?_⟩
    unfold Mp
    simp [Array.getElem?_setIfInBounds, hlt]
  · rintro K ⟨rfl, h1, h2⟩ j hj hne
    exact hfr j (by simpa using hne)
theorem Hp.mp {g : Nat} {es : List (Int × Value)} (H : Hp X w0 w l) (p : Pick l (.map g es) l') : Mp w g es := by
  obtain ⟨L, h, _⟩ := (H.pick p).own
  unfold Chs at h
  obtain ⟨L1, L2, rfl, h1, h2⟩ := h
  exact h1.2.2
variable {ops : Array Oper} {rest : List Oper} {a : Act} {Q : Exit → Act → World → Prop}
theorem wpList_insert {d : Option Tmp} {t kt et : TypeId} {m x y : Operand} {ty : TypeId} {po : String} {af : Array Edge} {g : Nat} {es : List (Int × Value)} {k : Int} {v : Value} (hu : P.underlying t = some (.map kt et)) (hk : P.underlying kt = some (.int .i64))
    (hm : a.eval m = .map (some g)) (hx : a.eval x = .int .i64 k) (hy : a.eval y = v) (H : Hp X w0 w l) (u : Upd l (.map g es) (.map g (es ++ [(k, v)])) l') (hn : es.lookup k = none)
    (h : ∀ w', Hp X w0 w' l' → wpList P ops Q rest (a.put d undef) w') : wpList P ops Q (⟨d, .insert t m x y, ty, po, af, none⟩ :: rest) a w :=
  wpList_plain rfl fun K hK => by
    have hp : ∃ l1, Pick l (.map g es) l1 := u.pick
    obtain ⟨l1, p⟩ := hp
    unfold Oper.wp execOp
    simp only [hm, hx, hy, Sem.run_bind, run_insertM hu hk (H.mp p) hn, Result.andThen_ok, Sem.run_pure]
    exact hK _ _ (h _ (H.insert u))
theorem wpList_lookup {d : Option Tmp} {t kt et : TypeId} {m x : Operand} {ty : TypeId} {po : String} {af : Array Edge} {g : Nat} {es : List (Int × Value)} {k : Int} {z : Value} (hu : P.underlying t = some (.map kt et)) (hk : P.underlying kt = some (.int .i64)) (hz : (zeroValue et).run P w = .ok z w)
    (hm : a.eval m = .map (some g)) (hx : a.eval x = .int .i64 k) (H : Hp X w0 w l) (p : Pick l (.map g es) l')
    (h : wpList P ops Q rest (a.put d (.tuple #[(es.lookup k).getD z, .bool (es.lookup k).isSome])) w) : wpList P ops Q (⟨d, .lookup t m x true, ty, po, af, none⟩ :: rest) a w :=
  wpList_plain rfl fun K hK => by
    unfold Oper.wp execOp
    simp only [hm, hx, Sem.run_bind, run_lookupM hu hk hz (H.mp p), Result.andThen_ok, Sem.run_pure]
    exact hK _ _ h
theorem run_zero {t : TypeId} {z : Value} {w : World} (h : (P.info? t).map (·.zero) = some (some z)) : (zeroValue t).run P w = .ok z w := by
  cases hi : P.info? t with
  | none => simp [hi] at h
  | some i =>
    simp [hi] at h
    simp [zeroValue, typeInfo, hi, h]
theorem atInsert {d : Option Tmp} {t : TypeId} {m x y : Operand} {ty : TypeId} {po : String} {af : Array Edge} (h : wpList P ops Q (⟨d, .insert t m x y, ty, po, af, none⟩ :: rest) a w) : wpList P ops Q (⟨d, .insert t m x y, ty, po, af, none⟩ :: rest) a w := h
theorem atLookup {d : Option Tmp} {t : TypeId} {m x : Operand} {ty : TypeId} {po : String} {af : Array Edge} (h : wpList P ops Q (⟨d, .lookup t m x true, ty, po, af, none⟩ :: rest) a w) : wpList P ops Q (⟨d, .lookup t m x true, ty, po, af, none⟩ :: rest) a w := h
end
end Go.Proofs.YtmedomglemllnaaGreatDoor
/- Maps with pairs of numbers as keys, and truths: what is found, what is laid; a block that turns, and frames. No statement of the seat is proved here. -/
namespace Go.Proofs.YtmedomglemllnaaGreatDoor
set_option linter.unusedSimpArgs false
set_option linter.unusedVariables false
open Go.RowKit

abbrev Ky := Nat × Nat
def keyP (k : Ky) : Value := .agg #[.int .i64 (k.1 : Int), .int .i64 (k.2 : Int)]
def entsP (j : Nat) : List (Ky × Bool) → List MapEntry
  | [] => []
  | x :: l => { key := keyP x.1, val := .bool x.2, born := j } :: entsP (j + 1) l
def mapO (es : List (Ky × Bool)) : Obj := .map (entsP 0 es).toArray es.length
theorem entsP_append (l : List (Ky × Bool)) (x : Ky × Bool) (k : Nat) : entsP k (l ++ [x]) = entsP k l ++ [{ key := keyP x.1, val := .bool x.2, born := k + l.length }] := by
  induction l generalizing k with
  | nil => rfl
  | cons y l ih =>
    simp only [List.cons_append, entsP, ih, List.length_cons]
    rw [show k + 1 + l.length = k + (l.length + 1) by omega]
structure PairT (P : Program) (kt : TypeId) : Prop where
  str : ∃ fs, P.underlying kt = some (.struct fs)
  eq : ∀ (w : World) (a b : Ky), (Op.equal kt (keyP a) (keyP b)).run P w = .ok (decide (a = b)) w
  ck : ∀ (w : World) (b : Bool) (k : Ky), (Instr.checkKey b 10000 kt (keyP k)).run P w = .ok () w
section
variable {P : Program} {w w0 w1 : World} {l l' : List Ch}
theorem findP_none {kt : TypeId} (hT : PairT P kt) (l : List (Ky × Bool)) (k : Ky) (j i : Nat) (h : l.lookup k = none) : (Instr.findAsking kt (keyP k) (entsP j l) i).run P w = .ok none w := by
  induction l generalizing j i with
  | nil => rfl
  | cons y l ih =>
    simp only [List.lookup] at h
    split at h
    · cases h
    · rename_i hne
      have hne' : ¬ k = y.1 := fun e => by simp [e] at hne
      simp only [entsP, Instr.findAsking, Sem.run_bind, hT.eq, Result.andThen_ok, decide_eq_false hne', Bool.false_eq_true, if_false]
      exact ih _ _ h
theorem findP_some {kt : TypeId} (hT : PairT P kt) (l : List (Ky × Bool)) (k : Ky) (v : Bool) (j i : Nat) (h : l.lookup k = some v) : ∃ n, (Instr.findAsking kt (keyP k) (entsP j l) i).run P w = .ok (some (n, .bool v)) w := by
  induction l generalizing j i with
  | nil => cases h
  | cons y l ih =>
    simp only [List.lookup] at h
    split at h
    · rename_i he
      simp only [Option.some.injEq] at h
      have he' : k = y.1 := by simpa using he
      exact ⟨i, by simp only [entsP, Instr.findAsking, Sem.run_bind, hT.eq, Result.andThen_ok, decide_eq_true he', if_true, h]; rfl⟩
    · rename_i hne
      have hne' : ¬ k = y.1 := fun e => by simp [e] at hne
      obtain ⟨n, hn⟩ := ih (j + 1) (i + 1) h
      exact ⟨n, by simp only [entsP, Instr.findAsking, Sem.run_bind, hT.eq, Result.andThen_ok, decide_eq_false hne', Bool.false_eq_true, if_false]; exact hn⟩
theorem run_findP {kt : TypeId} (hT : PairT P kt) (l : List (Ky × Bool)) (k : Ky) : ∃ r, (Instr.findKey kt (keyP k) (entsP 0 l)).run P w = .ok r w ∧ (l.lookup k = none → r = none) ∧ ∀ v, l.lookup k = some v → ∃ n, r = some (n, .bool v) := by
  obtain ⟨fs, hfs⟩ := hT.str
  have key : (l = [] ∧ Instr.findNow (.struct fs) (keyP k) (entsP 0 l) 0 = some none) ∨ Instr.findNow (.struct fs) (keyP k) (entsP 0 l) 0 = none := by
    cases l with
    | nil => exact .inl ⟨rfl, rfl⟩
    | cons y l => exact .inr (by simp [entsP, Instr.findNow, Instr.sameNow])
  rcases key with ⟨rfl, hk⟩ | hk
  · refine ⟨none, ?_, fun _ => rfl, fun v h => by cases h⟩
    unfold Instr.findKey
    simp only [Sem.run_bind, run_underlying hfs, Result.andThen_ok, hk]
    rfl
  · unfold Instr.findKey
    simp only [Sem.run_bind, run_underlying hfs, Result.andThen_ok, hk]
    cases hl : l.lookup k with
    | none => exact ⟨none, findP_none hT l k 0 0 hl, fun _ => rfl, fun v h => by cases h⟩
    | some v =>
      obtain ⟨n, hn⟩ := findP_some (w := w) hT l k v 0 0 hl
      exact ⟨_, hn, (by intro h; cases h), fun v' h => ⟨n, by cases h; rfl⟩⟩
def World.at_ (w : World) (g : Nat) (o : Obj) : World := { w with heap := w.heap.setIfInBounds g o }
theorem run_getP {g c : Nat} {es : Array MapEntry} (hb : w.heap[g]? = some (.map es c)) : (Sem.getObj g Sem.pure).run P w = .ok (.map es c) w := by
  simp [Sem.run, hb]
theorem run_setP {g c : Nat} {es : Array MapEntry} {o : Obj} (hb : w.heap[g]? = some (.map es c)) : (Sem.setObj g o (Sem.pure ())).run P w = .ok () (World.at_ w g o) := by
  simp [Sem.run, hb, World.at_]
theorem run_insertP {t kt et : TypeId} {g : Nat} {es : List (Ky × Bool)} {k : Ky} {v : Bool} (hu : P.underlying t = some (.map kt et)) (hT : PairT P kt) (hb : w.heap[g]? = some (mapO es)) (hn : es.lookup k = none) :
    (Instr.mapUpdate t (.map (some g)) (keyP k) (.bool v)).run P w = .ok () (World.at_ w g (mapO (es ++ [(k, v)]))) := by
  obtain ⟨r, hr, h1, _⟩ := run_findP (w := w) hT es k
  obtain rfl := h1 hn
  unfold Instr.mapUpdate
  unfold mapO at hb
  simp [run_underlying hu, hT.ck, getObj, setObj, Sem.run_bind, run_getP hb, hr, run_setP hb, mapO, entsP_append]
  done
theorem run_lookupP {t kt et : TypeId} {g : Nat} {es : List (Ky × Bool)} {k : Ky} (hu : P.underlying t = some (.map kt et)) (hT : PairT P kt) (hz : (zeroValue et).run P w = .ok (.bool false) w) (hb : w.heap[g]? = some (mapO es)) :
    (Instr.lookup t (.map (some g)) (keyP k) true).run P w = .ok (.tuple #[.bool ((es.lookup k).getD false), .bool (es.lookup k).isSome]) w := by
  obtain ⟨r, hr, h1, h2⟩ := run_findP (w := w) hT es k
  unfold Instr.lookup
  unfold mapO at hb
  cases hl : es.lookup k with
  | none =>
    obtain rfl := h1 hl
    simp [run_underlying hu, hT.ck, getObj, Sem.run_bind, run_getP hb, hr, hz]
    done
  | some v =>
    obtain ⟨n, rfl⟩ := h2 v hl
    simp [run_underlying hu, hT.ck, getObj, Sem.run_bind, run_getP hb, hr]
    done
theorem World.at_ext {g : Nat} {o : Obj} : Ext (fun k => k = g) w (World.at_ w g o) := ⟨rfl, rfl, rfl, by simp [World.at_], fun k _ hk => by
  unfold World.at_
  simp only
  rw [Array.getElem?_setIfInBounds_ne (Ne.symm hk)]⟩
theorem World.at_at {g : Nat} {o : Obj} (hg : g < w.heap.size) : (World.at_ w g o).heap[g]? = some o := by
  unfold World.at_
  simp [hg]
theorem World.at_size {g : Nat} {o : Obj} : (World.at_ w g o).heap.size = w.heap.size := by simp [World.at_]
def NoRow : List Ch → Prop
  | [] => True
  | .row _ _ _ _ :: _ => False
  | _ :: l => NoRow l
theorem Chs.norow {X Y : Nat → Prop} {B : Nat} {L : List Nat} (h : Chs X w B l L) (hB : B ≤ w.heap.size) (hsz : w.heap.size ≤ w1.heap.size) (hX : ∀ k, X k → Y k) (hl : NoRow l) (hw : ∀ k ∈ L, w1.heap[k]? = w.heap[k]?) : Chs Y w1 B l L := by
  induction l generalizing L with
  | nil => exact h
  | cons c l ih =>
    unfold Chs at h ⊢
    obtain ⟨L1, L2, rfl, h1, h2⟩ := h
    have hw1 : ∀ k ∈ L1, w1.heap[k]? = w.heap[k]? := fun k hk => hw k (by simp [hk])
    refine ⟨L1, L2, rfl, ?_, ih h2 (by cases c <;> first | exact hl | exact hl.elim) (fun k hk => hw k (by simp [hk]))⟩
    cases c with
    | box g t cs =>
      obtain ⟨rfl, h1, h2⟩ := h1
      exact ⟨rfl, h1.imp (hX _) id, (hw1 g (by simp)).trans h2⟩
    | dat d cs => exact RO.frame _ _ _ hw1 h1
    | row e z ds v => exact hl.elim
    | map g es =>
      obtain ⟨rfl, h1, h2⟩ := h1
      exact ⟨rfl, h1, (hw1 g (by simp)).trans h2⟩
    | obj g o =>
      obtain ⟨rfl, h1, h2⟩ := h1
      exact ⟨rfl, h1, (hw1 g (by simp)).trans h2⟩
    | raw e z n v es =>
      obtain ⟨rfl, h3⟩ := h1
      exact ⟨rfl, ownsRow.frame h3 (fun k hk => hw1 k (by simp [hk]))⟩
    | gh K p =>
      obtain ⟨rfl, h3, _, h4⟩ := h1
      exact ⟨rfl, fun k hk => ⟨(h3 k hk).1, Nat.lt_of_lt_of_le (h3 k hk).2 hsz⟩, h4 w1 hsz hw1, fun w' hz' hw' => h4 w' (Nat.le_trans hsz hz') (fun k hk => (hw' k hk).trans (hw1 k hk))⟩
theorem Hp.rebase {g : Nat} {o : Obj} (H : Hp no w0 w l) (hx : Ext (fun k => k = g) w w1) (hg : g < w0.heap.size) (ho : w1.heap[g]? = some o) (hl : NoRow l) : Hp no (World.at_ w0 g o) w1 l := by
  obtain ⟨L, h, hn⟩ := H.own
  refine ⟨⟨hx.os.trans H.ext.os, hx.tape.trans H.ext.tape, hx.output.trans H.ext.output, by rw [World.at_size]; exact Nat.le_trans H.ext.size hx.size, fun j hj _ => ?_⟩, L, ?_, hn⟩
  · rw [World.at_size] at hj
    by_cases hjg : j = g
    · subst hjg
      rw [ho, World.at_at hg]
    · exact (hx.block j (Nat.lt_of_lt_of_le hj H.ext.size) hjg).trans ((H.ext.block j hj no_not).trans ((World.at_ext (w := w0) (g := g) (o := o)).block j hj hjg).symm)
  · rw [World.at_size]
    refine h.norow H.ext.size hx.size (fun _ h => h) hl fun k hk => hx.block k (h.lt k hk).2 (fun e => ?_)
    rcases (h.lt k hk).1 with hh | hh
    · exact no_not hh
    · omega
theorem Hp.callG {g : Nat} {es : List (Int × Value)} (H : Hp no w0 w (.map g es :: l)) (hx : Ext (fun k => k = g) w w1) : Hp no w0 w1 l := by
  obtain ⟨L, h, hn⟩ := H.own
  unfold Chs at h
  obtain ⟨L1, L2, rfl, ⟨rfl, hg, _⟩, h2⟩ := h
  have hold : ∀ k, k < w0.heap.size → w1.heap[k]? = w.heap[k]? := fun k hk => hx.block k (Nat.lt_of_lt_of_le hk H.ext.size) (by omega)
  refine ⟨H.ext.trans hx (fun _ _ h => h) (fun i hi e => by omega), L2, h2.frame H.ext.size hx.size (fun k hk _ => hold k hk) (fun k hk => hx.block k (h2.lt k hk).2 (fun e => ?_)), (List.nodup_append.1 hn).2.1⟩
  exact (List.nodup_append.1 hn).2.2 g (by simp) k hk e.symm
theorem RC.turn {S : Nat → Prop} {g : Nat} {d : D} {cs : List Value} (h : RC w S d cs) (hx : Ext (fun k => k = g) w w1) (hs : ¬ S g) : RC w1 S d cs := h.ext hx (fun k _ hk e => hs (e ▸ hk))
variable {ops : Array Oper} {rest : List Oper} {a : Act} {Q : Exit → Act → World → Prop}
theorem wpList_mapUpdateP {d : Option Tmp} {t kt et : TypeId} {m x y : Operand} {ty : TypeId} {po : String} {af : Array Edge} {g : Nat} {es : List (Ky × Bool)} {k : Ky} {v : Bool} (hu : P.underlying t = some (.map kt et)) (hT : PairT P kt)
    (hm : a.eval m = .map (some g)) (hx : a.eval x = keyP k) (hy : a.eval y = .bool v) (hb : w.heap[g]? = some (mapO es)) (hn : es.lookup k = none)
    (h : wpList P ops Q rest (a.put d undef) (World.at_ w g (mapO (es ++ [(k, v)])))) : wpList P ops Q (⟨d, .mapUpdate t m x y, ty, po, af, none⟩ :: rest) a w :=
  wpList_plain rfl fun K hK => by
    unfold Oper.wp execOp
    simp only [hm, hx, hy, Sem.run_bind, run_insertP hu hT hb hn, Result.andThen_ok, Sem.run_pure]
    exact hK _ _ h
theorem wpList_lookupP {d : Option Tmp} {t kt et : TypeId} {m x : Operand} {ty : TypeId} {po : String} {af : Array Edge} {g : Nat} {es : List (Ky × Bool)} {k : Ky} (hu : P.underlying t = some (.map kt et)) (hT : PairT P kt) (hz : (zeroValue et).run P w = .ok (.bool false) w)
    (hm : a.eval m = .map (some g)) (hx : a.eval x = keyP k) (hb : w.heap[g]? = some (mapO es))
    (h : wpList P ops Q rest (a.put d (.tuple #[.bool ((es.lookup k).getD false), .bool (es.lookup k).isSome])) w) : wpList P ops Q (⟨d, .lookup t m x true, ty, po, af, none⟩ :: rest) a w :=
  wpList_plain rfl fun K hK => by
    unfold Oper.wp execOp
    simp only [hm, hx, Sem.run_bind, run_lookupP hu hT hz hb, Result.andThen_ok, Sem.run_pure]
    exact hK _ _ h
end
end Go.Proofs.YtmedomglemllnaaGreatDoor
/- strict: must, held: what is thrown is caught: contracts. No statement of the seat is proved here. -/
namespace Go.Proofs.YtmedomglemllnaaGreatDoor
set_option linter.unusedSimpArgs false
set_option linter.unusedVariables false
open Go.RowKit

def looseP : List PanicEntry := [{ v := .iface 228 (.agg #[]), recovered := false }]
def PLs (w : World) (q : Bool) (e : Ending) (w' : World) : Prop := e = (if q then .returned (.tuple #[]) else .panicked looseP) ∧ Ext no w w'
theorem PLs.yes {w w' : World} {q : Bool} {e : Ending} (h : PLs w q e w') (hq : q = true) : e = .returned (.tuple #[]) := by rw [h.1, hq]; rfl
theorem PLs.no {w w' : World} {q : Bool} {e : Ending} (h : PLs w q e w') (hq : q = false) : e = .panicked looseP := by rw [h.1, hq]; rfl
theorem tmust_calls {w : World} {S : Nat → Prop} {bs : List Bool} {A : Option Addr} {n c : Nat} (h : RC w S (.l 4 1 (bs.map D.b)) [.slice A n c]) (hn : n = bs.length) :
    Calls Tryz.prog 128 #[.slice A n c] w (PLs w (bs.all id)) := by
  subst hn
  go_enter Tryz.func128, Tryz.ntmps128
  go_wp2_with fail
  refine (contains_false h rfl).mono ?_
  rintro e w1 ⟨rfl, hx1⟩
  cases hq : bs.all id
  · have HQ := Lib.hid hq
    clear hq
    go_wp2_with fail
    exact ⟨rfl, by rw [HQ.out]; rfl, hx1⟩
  · have HQ := Lib.hid hq
    clear hq
    go_wp2_with fail
    go_end0
    exact ⟨by rw [HQ.out]; rfl, hx1⟩
theorem tmust1 {w0 w : World} {l l' : List Ch} {g e : Nat} {a : Bool} (H : Hp no w0 w l) (p : Pick l (.box g e [.bool a]) l') : Calls Tryz.prog 128 #[.slice (some ⟨g, 0, none⟩) 1 1] w (PLs w a) := by
  have h := tmust_calls (bs := [a]) (Blk.truths1 (H.blk p)) rfl
  simpa using h
theorem tmust2 {w0 w : World} {l l' : List Ch} {g e : Nat} {a b : Bool} (H : Hp no w0 w l) (p : Pick l (.box g e [.bool a, .bool b]) l') : Calls Tryz.prog 128 #[.slice (some ⟨g, 0, none⟩) 2 2] w (PLs w (a && b)) := by
  have h := tmust_calls (bs := [a, b]) (Blk.truths (bs := [a, b]) (H.blk p) rfl (by simp)) rfl
  simpa using h
theorem tmust3 {w0 w : World} {l l' : List Ch} {g e : Nat} {a b c : Bool} (H : Hp no w0 w l) (p : Pick l (.box g e [.bool a, .bool b, .bool c]) l') : Calls Tryz.prog 128 #[.slice (some ⟨g, 0, none⟩) 3 3] w (PLs w (a && (b && c))) := by
  have h := tmust_calls (bs := [a, b, c]) (Blk.truths (bs := [a, b, c]) (H.blk p) rfl (by simp)) rfl
  simpa using h
def Right (ds : List Dc) (n : Nat) (es : List (Ky × Bool)) : Prop := ∀ x ∈ es, x.1.1 < n ∧ x.2 = parQ ds x.1.1 x.1.2
theorem Right.nil {ds : List Dc} {n : Nat} : Right ds n [] := fun _ h => by cases h
theorem Right.app {ds : List Dc} {n : Nat} {es fs : List (Ky × Bool)} (h : Right ds n es) (k : Right ds n fs) : Right ds n (es ++ fs) := fun x hx => (List.mem_append.1 hx).elim (h x) (k x)
theorem Right.more {ds : List Dc} {n m : Nat} {es : List (Ky × Bool)} (h : Right ds n es) (hn : n ≤ m) : Right ds m es := fun x hx => ⟨Nat.lt_of_lt_of_le (h x hx).1 hn, (h x hx).2⟩
theorem Right.look {ds : List Dc} {n : Nat} {es : List (Ky × Bool)} {k : Ky} {v : Bool} (h : Right ds n es) (hl : es.lookup k = some v) : v = parQ ds k.1 k.2 := by
  induction es with
  | nil => cases hl
  | cons x es ih =>
    simp only [List.lookup] at hl
    split at hl
    · rename_i he
      have he' : k = x.1 := by simpa using he
      cases hl
      rw [he']
      exact (h x (by simp)).2
    · exact ih (fun y hy => h y (by simp [hy])) hl
theorem Right.none {ds : List Dc} {n : Nat} {es : List (Ky × Bool)} {k : Ky} (h : Right ds n es) (hk : n ≤ k.1) : es.lookup k = none := by
  induction es with
  | nil => rfl
  | cons x es ih =>
    have hx := (h x (by simp)).1
    have hne : ¬ k = x.1 := fun e => by rw [e] at hk; omega
    simp only [List.lookup]
    split
    · rename_i he
      exact absurd (by simpa using he) hne
    · exact ih fun y hy => h y (by simp [hy])
theorem look_app {es fs : List (Ky × Bool)} {k : Ky} (h1 : es.lookup k = none) (h2 : fs.lookup k = none) : (es ++ fs).lookup k = none := by
  induction es with
  | nil => exact h2
  | cons x es ih =>
    simp only [List.lookup] at h1
    simp only [List.cons_append, List.lookup]
    split
    · rename_i he
      rw [he] at h1
      cases h1
    · rename_i he
      rw [he] at h1
      exact ih h1
def Kn (W : World) (g : Nat) (ds : List Dc) (n : Nat) (es : List (Ky × Bool)) (w' : World) : Prop := ∃ ex, Ext (fun k => k = g) W w' ∧ w'.heap[g]? = some (mapO (es ++ ex)) ∧ Right ds n ex
theorem Kn.of {W w : World} {g : Nat} {ds : List Dc} {n : Nat} {es ex : List (Ky × Bool)} (hx : Ext no (World.at_ W g (mapO (es ++ ex))) w) (hg : g < W.heap.size) (hr : Right ds n ex) : Kn W g ds n es w :=
  ⟨ex, World.at_ext.trans hx (fun _ _ h => h) (fun _ _ h => h.elim), (hx.block g (by rw [World.at_size]; exact hg) no_not).trans (World.at_at hg), hr⟩
theorem Kn.seq {W w w' : World} {g : Nat} {ds : List Dc} {n : Nat} {es ex : List (Ky × Bool)} (hx : Ext (fun k => k = g) W w) (hr : Right ds n ex) (h : Kn w g ds n (es ++ ex) w') : Kn W g ds n es w' := by
  obtain ⟨ey, h1, h2, h3⟩ := h
  exact ⟨ex ++ ey, hx.trans h1 (fun _ _ h => h) (fun _ _ h => h), by rw [← List.append_assoc]; exact h2, hr.app h3⟩
def PLo (W : World) (g : Nat) (ds : List Dc) (n : Nat) (es : List (Ky × Bool)) (q : Bool) (e : Ending) (w' : World) : Prop := e = (if q then .returned (.tuple #[]) else .panicked looseP) ∧ Kn W g ds n es w'
theorem PLo.yes {W w' : World} {g : Nat} {ds : List Dc} {n : Nat} {es : List (Ky × Bool)} {q : Bool} {e : Ending} (h : PLo W g ds n es q e w') (hq : q = true) : e = .returned (.tuple #[]) := by rw [h.1, hq]; rfl
theorem PLo.no {W w' : World} {g : Nat} {ds : List Dc} {n : Nat} {es : List (Ky × Bool)} {q : Bool} {e : Ending} (h : PLo W g ds n es q e w') (hq : q = false) : e = .panicked looseP := by rw [h.1, hq]; rfl

set_option maxRecDepth 100000 in
set_option maxHeartbeats 2000000 in
theorem theld1_panicking {w0 w : World} {l : List Ch} {bo : Nat} {q : Bool} (H : Hp no w0 w (.box bo 4 [.bool q] :: l)) :
    CallsD Tryz.prog 207 #[.pointer (some ⟨bo, 0, none⟩)] (.panicking looseP) w fun e u' w' =>
      e = .returned (.tuple #[]) ∧ u' = .panicking [{ v := .iface 228 (.agg #[]), recovered := true }] ∧ Hp no w0 w' (.box bo 4 [.bool false] :: l) := by
  refine callsD_of_wpS Tryz.func207 rfl fun c₀ cs hu => ?_
  have hta : ∀ w, (Instr.typeAssert (.iface 228 (.agg #[])) 20 228 true).run Tryz.prog w = .ok (.tuple #[.agg #[], .bool true]) w := fun w => run_assert_same Tryz.underlying228 rfl w
  simp only [Tryz.ntmps207, List.size_toArray, List.length_cons, List.length_nil, Nat.reduceAdd, Nat.reduceSub, Array.replicate_succ, Array.replicate_zero, List.push_toArray, List.append_toArray, List.nil_append, List.cons_append]
  apply wpS_seq
  apply wpS_region
  simp [wpOpsS, go_sem, recoverD, hu, looseP, Exit.thenS]
  refine wpS_of_wp ?_
  have hr_ := H.rules; simp only [Rules, and_true] at hr_; have hd_ := H.dif; simp only [Dif, Neq, and_true] at hd_; obtain ⟨ho_, hz_⟩ := H.old0
  go_wp2_with fail
  (try clear hr_ hd_ ho_ hz_)
  have H := H.set (g := bo) (t := 4) (i := 0) (cs := [.bool q]) (v := .bool false) .head
  simp only [List.set_cons_zero] at H
  have H := H.alloc [] 228
  have H := H.only (.drop (Subl.refl _))
  have HH := Lib.hid H
  clear H hta
  cases c₀
  simp_all [bodyPostS, results, Tryz.results207]
  exact HH.out
set_option maxRecDepth 100000 in
set_option maxHeartbeats 1000000 in
theorem theld1_idle {bo : Nat} {w : World} :
    CallsD Tryz.prog 207 #[.pointer (some ⟨bo, 0, none⟩)] .returning w fun e u' w' => e = .returned (.tuple #[]) ∧ u' = .returning ∧ w' = w := by
  refine callsD_of_wpS Tryz.func207 rfl fun c₀ cs hu => ?_
  simp only [Tryz.ntmps207, List.size_toArray, List.length_cons, List.length_nil, Nat.reduceAdd, Nat.reduceSub, Array.replicate_succ, Array.replicate_zero, List.push_toArray, List.append_toArray, List.nil_append, List.cons_append]
  apply wpS_seq
  apply wpS_region
  simp [wpOpsS, go_sem, recoverD, hu, Exit.thenS]
  refine wpS_of_wp ?_
  go_wp2_with fail
  cases c₀
  simp_all [bodyPostS, results, Tryz.results207]
set_option maxRecDepth 100000 in
set_option maxHeartbeats 2000000 in
theorem theld_calls {w : World} {F : FuncId} {caps : Array Value} {q : Bool} {g : Nat} {ds : List Dc} {n : Nat} {es : List (Ky × Bool)} (hg : g < w.heap.size) (eg : ∀ args w, (callFunc F args).run Tryz.prog w = .ok (.enter F args) w)
    (hf : ∀ w', Ext no w w' → Calls Tryz.prog F caps w' (PLo w' g ds n es q)) :
    Calls Tryz.prog 125 #[.func (.func F) #[] caps] w (fun e w' => e = .returned (.bool q) ∧ Kn w g ds n es w') := by
  have HF := Lib.hid hf
  have HG := Lib.hid hg
  clear hf hg
  have hmf : ∀ (fn : Fn) (first cap : Array Value) (w : World), (Instr.makeFunc fn first cap).run Tryz.prog w = .ok (.func fn first cap) w := fun _ _ _ _ => rfl
  go_enter_defers Tryz.func125, Tryz.ntmps125
  have H := Hp.start no w
  go_wp2_with fail
  refine callsH (by (repeat (first | with_reducible exact H | with_reducible exact H0_ | with_reducible apply Hp.alloc | with_reducible apply Hp.allocMap | with_reducible apply Hp.drew | with_reducible apply Hp.drewN | with_reducible apply Hp.set)); (try any_goals (repeat (first | with_reducible exact Upd.head | with_reducible apply Upd.tail)))) ?_
  clear H; intro w1 H; (try simp only [size_drew_, size_drewN_, World.size_alloc, World.size_setCell, List.set_cons_zero, List.set_cons_succ] at H)
  refine (HF.out w1 H.ext).mono ?_
  rintro e w2 hm
  obtain ⟨ex, hx, hk, hr⟩ := hm.2
  have H := H.rebase hx HG.out hk trivial
  have HR := Lib.hid hr
  have HS : Hid ((World.at_ w g (mapO (es ++ ex))).heap.size = w.heap.size) := World.at_size
  clear hx hk hr
  cases q with
  | false =>
    obtain rfl := hm.no rfl
    clear hm
    refine leaves_cons (f := 207) (args := #[.pointer (some ⟨w.heap.size, 0, none⟩)]) (by simp) (by simp [go_sem]) ?_
    refine (theld1_panicking (q := false) (H.arr (by (repeat (first | with_reducible exact Arr.nil | refine Arr.cons (by (repeat (first | with_reducible exact Pick.head | with_reducible apply Pick.tail))) ?_)) <;> exact Arr.of_subl (by (repeat (first | with_reducible exact Subl.refl _ | with_reducible apply Subl.drop)))))).mono ?_
    rintro e u' w'' ⟨rfl, rfl, H3⟩
    clear H
    have H := H3
    clear H3
    have hr_ := H.rules
    simp only [Rules, and_true] at hr_
    have HH := Lib.hid H
    clear H
    simp [Leaves, settle, results, Tryz.results125, go_sem, hr_]
    exact Kn.of HH.out.ext HG.out HR.out
  | true =>
    obtain rfl := hm.yes rfl
    clear hm
    have hr_ := H.rules; simp only [Rules, and_true] at hr_; have hd_ := H.dif; simp only [Dif, Neq, and_true] at hd_; obtain ⟨ho_, hz_⟩ := H.old0
    go_wp2_with fail
    clear hr_ hd_ ho_ hz_
    have H := H.set (g := w.heap.size) (t := 4) (i := 0) (cs := [.bool false]) (v := .bool true) .head
    simp only [List.set_cons_zero] at H
    refine leaves_cons (f := 207) (args := #[.pointer (some ⟨w.heap.size, 0, none⟩)]) (by simp) (by simp [go_sem]) ?_
    refine theld1_idle.mono ?_
    rintro e u' w'' ⟨rfl, rfl, rfl⟩
    have hr_ := H.rules
    simp only [Rules, and_true] at hr_
    have HH := Lib.hid H
    clear H
    simp [Leaves, settle, results, Tryz.results125, go_sem, hr_]
    exact Kn.of HH.out.ext HG.out HR.out
end Go.Proofs.YtmedomglemllnaaGreatDoor
/- strict: the type of its map's keys. No statement of the seat is proved here. -/
namespace Go.Proofs.YtmedomglemllnaaGreatDoor
set_option linter.unusedSimpArgs false
set_option linter.unusedVariables false
open Go.RowKit

theorem part_int {P : Program} {w : World} {t : TypeId} {k : IntKind} {cs : Array Value} {i : Nat} {v : Value} (ht : P.underlying t = some (.int k)) (h : cs[i]? = some v) : (part t cs i).run P w = .ok v w := by
  unfold part isAgg
  simp [Sem.run_bind, run_underlying ht, h]
theorem ckInt (w : World) (b : Bool) (k : Int) : (Instr.checkKey b 9999 3 (.int .i64 k)).run Tryz.prog w = .ok () w := by
  show (Instr.checkKey b (9998 + 1) _ _).run Tryz.prog w = .ok () w
  unfold Instr.checkKey
  simp [Sem.run_bind, run_underlying Tryz.underlying3]
theorem pairT : PairT Tryz.prog 231 where
  str := ⟨_, Tryz.underlying231⟩
  eq := fun w a b => by
    have hs : Tryz.prog.underlying 231 = some (.struct (Tryz.prog.fieldsOf 231)) := by unfold Program.fieldsOf; rw [Tryz.underlying231]
    unfold Op.equal Op.maxDepth keyP
    rw [run_equalIn_struct w 9999 _ _ _ hs (by kernel_rfl)]
    unfold Program.fieldsOf
    rw [Tryz.underlying231]
    simp [Op.eqFields, Sem.run_bind, part_int Tryz.underlying3, run_equalIn_int, Tryz.underlying3]
    obtain ⟨a1, a2⟩ := a
    obtain ⟨b1, b2⟩ := b
    by_cases h1 : a1 = b1 <;> by_cases h2 : a2 = b2 <;> simp [h1, h2] <;> omega
  ck := fun w b k => by
    show (Instr.checkKey b (9999 + 1) _ (keyP k)).run Tryz.prog w = .ok () w
    unfold Instr.checkKey keyP
    simp [Sem.run_bind, run_underlying Tryz.underlying231, part_int Tryz.underlying3, ckInt]
end Go.Proofs.YtmedomglemllnaaGreatDoor
