/- Maps of a call's own, with numbers as keys: insertion, lookup. No statement of the seat is proved here. -/
import Derived.Test.YteelplgdojjakaaDoorHp
namespace Go.Proofs.YteelplgdojjakaaDoor
set_option linter.unusedSimpArgs false
set_option linter.unusedVariables false
open Go.RowKit

theorem ents_append (l : List (Int × Value)) (x : Int × Value) (k : Nat) : ents k (l ++ [x]) = ents k l ++ [{ key := .int .i64 x.1, val := x.2, born := k + l.length }] := by
  induction l generalizing k with
  | nil => rfl
  | cons y l ih =>
    simp only [List.cons_append, ents, ih, List.length_cons]
    rw [show k + 1 + l.length = k + (l.length + 1) by omega]
theorem find_none (l : List (Int × Value)) (k : Int) (j i : Nat) (h : l.lookup k = none) : Instr.findNow (.int .i64) (.int .i64 k) (ents j l) i = some none := by
  induction l generalizing j i with
  | nil => rfl
  | cons y l ih =>
    simp only [List.lookup] at h
    split at h
    · cases h
    · rename_i hne
      have : (k == y.1) = false := hne
      simp [ents, Instr.findNow, Instr.sameNow, this, ih _ _ h]
theorem find_some (l : List (Int × Value)) (k : Int) (v : Value) (j i : Nat) (h : l.lookup k = some v) : ∃ n, Instr.findNow (.int .i64) (.int .i64 k) (ents j l) i = some (some (n, v)) := by
  induction l generalizing j i with
  | nil => cases h
  | cons y l ih =>
    simp only [List.lookup] at h
    split at h
    · rename_i he
      simp only [Option.some.injEq] at h
      have : (k == y.1) = true := he
      exact ⟨i, by simp [ents, Instr.findNow, Instr.sameNow, this, h]⟩
    · rename_i hne
      have : (k == y.1) = false := hne
      obtain ⟨n, hn⟩ := ih (j + 1) (i + 1) h
      exact ⟨n, by simp [ents, Instr.findNow, Instr.sameNow, this, hn]⟩
section
variable {P : Program} {w w0 : World} {l l' : List Ch} {X : Nat → Prop}
theorem checkKey_int {kt : TypeId} {k : Int} (hk : P.underlying kt = some (.int .i64)) (b : Bool) : (Instr.checkKey b 10000 kt (.int .i64 k)).run P w = .ok () w := by
  show (Instr.checkKey b (9999 + 1) kt (.int .i64 k)).run P w = .ok () w
  unfold Instr.checkKey
  simp only [Sem.run_bind, run_underlying hk, Result.andThen_ok]
  rfl
theorem run_insertM {t kt et : TypeId} {g : Nat} {es : List (Int × Value)} {k : Int} {v : Value} (hu : P.underlying t = some (.map kt et)) (hk : P.underlying kt = some (.int .i64)) (hb : Mp w g es) (hn : es.lookup k = none) :
    (Instr.mapUpdate t (.map (some g)) (.int .i64 k) v).run P w = .ok () { w with heap := w.heap.setIfInBounds g (.map (ents 0 (es ++ [(k, v)])).toArray (es ++ [(k, v)]).length) } := by
  unfold Instr.mapUpdate Instr.findKey
  unfold Mp at hb
  simp [run_underlying hu, run_underlying hk, checkKey_int hk, getObj, setObj, Sem.run, hb, find_none es k 0 0 hn, ents_append]
theorem run_lookupM {t kt et : TypeId} {g : Nat} {es : List (Int × Value)} {k : Int} {z : Value} (hu : P.underlying t = some (.map kt et)) (hk : P.underlying kt = some (.int .i64)) (hz : (zeroValue et).run P w = .ok z w) (hb : Mp w g es) :
    (Instr.lookup t (.map (some g)) (.int .i64 k) true).run P w = .ok (.tuple #[(es.lookup k).getD z, .bool (es.lookup k).isSome]) w := by
  unfold Instr.lookup Instr.findKey
  unfold Mp at hb
  cases hl : es.lookup k with
  | none => simp [run_underlying hu, run_underlying hk, checkKey_int hk, getObj, Sem.run, hb, find_none es k 0 0 hl, hz]
  | some v =>
    obtain ⟨n, hn⟩ := find_some es k v 0 0 hl
    simp [run_underlying hu, run_underlying hk, checkKey_int hk, getObj, Sem.run, hb, hn]
theorem Hp.insert {g : Nat} {es : List (Int × Value)} {k : Int} {v : Value} (H : Hp X w0 w l) (u : Upd l (.map g es) (.map g (es ++ [(k, v)])) l') :
    Hp X w0 { w with heap := w.heap.setIfInBounds g (.map (ents 0 (es ++ [(k, v)])).toArray (es ++ [(k, v)]).length) } l' := by
  obtain ⟨L, h, hn⟩ := H.own
  obtain ⟨_, ⟨_, hg, hm⟩, _⟩ := h.sub u
  have hlt : g < w.heap.size := (Array.getElem?_eq_some_iff.1 hm).1
  have hfr : ∀ j, j ≠ g → (w.heap.setIfInBounds g (.map (ents 0 (es ++ [(k, v)])).toArray (es ++ [(k, v)]).length))[j]? = w.heap[j]? := fun j hj => by
    rw [Array.getElem?_setIfInBounds, if_neg (Ne.symm hj)]
  refine ⟨⟨H.ext.os, H.ext.tape, H.ext.output, by simpa using H.ext.size, fun j hj hx => (hfr j (by omega)).trans (H.ext.block j hj hx)⟩, L, h.upd u H.ext.size (by simp) hn (fun j hj _ => hfr j (by omega)) ?_ ?_, hn⟩
  · rintro K ⟨rfl, h1, h2⟩
    refine ⟨rfl, h1, ?_⟩
    unfold Mp
    simp [Array.getElem?_setIfInBounds, hlt]
  · rintro K ⟨rfl, h1, h2⟩ j hj hne
    exact hfr j (by simpa using hne)
theorem Hp.mp {g : Nat} {es : List (Int × Value)} (H : Hp X w0 w l) (p : Pick l (.map g es) l') : Mp w g es := by
  obtain ⟨L, h, _⟩ := (H.pick p).own
  unfold Chs at h
  obtain ⟨L1, L2, rfl, h1, h2⟩ := h
  exact h1.2.2
variable {ops : Array Oper} {rest : List Oper} {a : Act} {Q : Exit → Act → World → Prop}
theorem wpList_insert {d : Option Tmp} {t kt et : TypeId} {m x y : Operand} {ty : TypeId} {po : String} {af : Array Edge} {g : Nat} {es : List (Int × Value)} {k : Int} {v : Value} (hu : P.underlying t = some (.map kt et)) (hk : P.underlying kt = some (.int .i64))
    (hm : a.eval m = .map (some g)) (hx : a.eval x = .int .i64 k) (hy : a.eval y = v) (H : Hp X w0 w l) (u : Upd l (.map g es) (.map g (es ++ [(k, v)])) l') (hn : es.lookup k = none)
    (h : ∀ w', Hp X w0 w' l' → wpList P ops Q rest (a.put d undef) w') : wpList P ops Q (⟨d, .insert t m x y, ty, po, af, none⟩ :: rest) a w :=
  wpList_plain rfl fun K hK => by
    have hp : ∃ l1, Pick l (.map g es) l1 := u.pick
    obtain ⟨l1, p⟩ := hp
    unfold Oper.wp execOp
    simp only [hm, hx, hy, Sem.run_bind, run_insertM hu hk (H.mp p) hn, Result.andThen_ok, Sem.run_pure]
    exact hK _ _ (h _ (H.insert u))
theorem wpList_lookup {d : Option Tmp} {t kt et : TypeId} {m x : Operand} {ty : TypeId} {po : String} {af : Array Edge} {g : Nat} {es : List (Int × Value)} {k : Int} {z : Value} (hu : P.underlying t = some (.map kt et)) (hk : P.underlying kt = some (.int .i64)) (hz : (zeroValue et).run P w = .ok z w)
    (hm : a.eval m = .map (some g)) (hx : a.eval x = .int .i64 k) (H : Hp X w0 w l) (p : Pick l (.map g es) l')
    (h : wpList P ops Q rest (a.put d (.tuple #[(es.lookup k).getD z, .bool (es.lookup k).isSome])) w) : wpList P ops Q (⟨d, .lookup t m x true, ty, po, af, none⟩ :: rest) a w :=
  wpList_plain rfl fun K hK => by
    unfold Oper.wp execOp
    simp only [hm, hx, Sem.run_bind, run_lookupM hu hk hz (H.mp p), Result.andThen_ok, Sem.run_pure]
    exact hK _ _ h
theorem run_zero {t : TypeId} {z : Value} {w : World} (h : (P.info? t).map (·.zero) = some (some z)) : (zeroValue t).run P w = .ok z w := by
  cases hi : P.info? t with
  | none => simp [hi] at h
  | some i =>
    simp [hi] at h
    simp [zeroValue, typeInfo, hi, h]
theorem run_makeC {t e z bytes : Nat} {zv : Value} {cs : List Value} (n : Nat) (hu : P.underlying t = some (.slice e)) (hi : (P.info? e).map (fun i => (i.zero, i.size, i.bytes)) = some (some zv, z, bytes)) (hc : madeCells zv.cells (n * z) = cs.toArray) (hb : bytes * n ≤ 281474976710656) (hn : n ≤ 9223372036854775807) (w : World) :
    (Instr.makeSlice t (.int .i64 n) (.int .i64 n)).run P w = .ok (.slice (some ⟨w.heap.size, 0, none⟩) n n) (w.alloc (.cells cs.toArray e)) := by
  obtain ⟨i, g1, g2, g3, g4⟩ := info_parts hi
  have := run_make (P := P) w t e i zv hu g1 g2 .i64 .i64 n n (by omega) (by omega) (by rw [g4, ← Int.natCast_mul]; exact Int.ofNat_le.2 hb) (by omega)
  rw [this, Int.toNat_natCast, g3, hc]
theorem atInsert {d : Option Tmp} {t : TypeId} {m x y : Operand} {ty : TypeId} {po : String} {af : Array Edge} (h : wpList P ops Q (⟨d, .insert t m x y, ty, po, af, none⟩ :: rest) a w) : wpList P ops Q (⟨d, .insert t m x y, ty, po, af, none⟩ :: rest) a w := h
theorem atLookup {d : Option Tmp} {t : TypeId} {m x : Operand} {ty : TypeId} {po : String} {af : Array Edge} (h : wpList P ops Q (⟨d, .lookup t m x true, ty, po, af, none⟩ :: rest) a w) : wpList P ops Q (⟨d, .lookup t m x true, ty, po, af, none⟩ :: rest) a w := h
end
end Go.Proofs.YteelplgdojjakaaDoor
