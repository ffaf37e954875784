/- law 04: TeleOpens: what its walk needs: bounds of what comes in, parts of rows, contracts in the law's own terms. No statement of the seat is proved here. -/
import Derived.Test.YteelplgdojjakaaDoorRead
import Derived.Test.YteelplgdojjakaaDoorPuts
import Derived.Test.YteelplgdojjakaaDoorGreat
import Derived.Test.YteelplgdojjakaaDoorClean
import Derived.Test.YteelplgdojjakaaDoorLaw04
import Derived.Test.YteelplgdojjakaaDoorSpine2
import Derived.Test.YteelplgdojjakaaDoorOpen2
namespace Go.Proofs.YteelplgdojjakaaDoor
set_option linter.unusedSimpArgs false
set_option linter.unusedVariables false
open Go.RowKit

theorem bulk_tm (k n a : Int) (ls : List Lv) (ks : List Tm) : D.bulks (ks.map Tm.d) + 1 ≤ (Tm.mk k n a ls ks).d.bulk := by
  rw [Tm.d]
  simp only [D.bulk, D.bulks, Tm.ds_eq]
  omega
theorem sizesT_bulk {ks : List Tm} (h : ∀ t ∈ ks, sizeT t ≤ t.d.bulk) : sizesT ks ≤ D.bulks (ks.map Tm.d) := by
  induction ks with
  | nil => simp [sizesT]
  | cons t ks ih =>
    have h1 := h t (by simp)
    have h2 := ih fun t ht => h t (by simp [ht])
    simp only [sizesT, List.map_cons, D.bulks]
    omega
theorem sizeT_bulk : ∀ t : Tm, sizeT t ≤ t.d.bulk := by
  intro t
  induction t using Tm.ind_ with
  | h k n a ls ks ih =>
    have h1 := bulk_tm k n a ls ks
    have h2 := sizesT_bulk ih
    rw [sizeT]
    omega
theorem depthsT_bulk {ks : List Tm} (h : ∀ t ∈ ks, depthT t ≤ t.d.bulk) : depthsT ks ≤ D.bulks (ks.map Tm.d) := by
  induction ks with
  | nil => simp [depthsT]
  | cons t ks ih =>
    have h1 := h t (by simp)
    have h2 := ih fun t ht => h t (by simp [ht])
    simp only [depthsT, List.map_cons, D.bulks]
    omega
theorem depthT_bulk : ∀ t : Tm, depthT t ≤ t.d.bulk := by
  intro t
  induction t using Tm.ind_ with
  | h k n a ls ks ih =>
    have h1 := bulk_tm k n a ls ks
    have h2 := depthsT_bulk ih
    rw [depthT]
    omega
theorem countT_depth : ∀ t : Tm, countT t ≤ depthT t
  | .mk k n a ls [x, b] => by
    have := countT_depth b
    rw [countT, depthT, depthsT, depthsT, depthsT]
    split <;> omega
  | .mk k n a ls [] => by simp [countT]
  | .mk k n a ls [_] => by simp [countT]
  | .mk k n a ls (_ :: _ :: _ :: _) => by simp [countT]
theorem spineT_depth : ∀ t : Tm, (spineT t).2.length ≤ depthT t
  | .mk k n a ls [f, x] => by
    have := spineT_depth f
    rw [spineT, depthT, depthsT, depthsT, depthsT]
    split
    · simp; omega
    · simp
  | .mk k n a ls [] => by simp [spineT]
  | .mk k n a ls [_] => by simp [spineT]
  | .mk k n a ls (_ :: _ :: _ :: _) => by simp [spineT]
/-- A row's last elements. -/
def sufA (A : Option Addr) (c i z : Nat) : Option Addr := if c = i then A else A.map (·.add (i * z))
theorem RCs.suf_ {w : World} {S : Nat → Prop} {z : Nat} {ds : List D} {es : List Value} (h : RCs w S ds es) (hz : ∀ d ∈ ds, d.size = z) (i : Nat) : RCs w S (ds.drop i) (es.drop (i * z)) := by
  induction ds generalizing i es with
  | nil =>
    unfold RCs at h
    subst h
    simp
    unfold RCs; rfl
  | cons d ds ih =>
    cases i with
    | zero => simpa using h
    | succ i =>
      unfold RCs at h
      obtain ⟨c1, c2, rfl, g1, g2⟩ := h
      have hc : c1.length = z := (RC.len _ _ g1).trans (hz d (by simp))
      have := ih g2 (fun d hd => hz d (by simp [hd])) i
      rw [List.drop_succ_cons, show (i + 1) * z = c1.length + i * z by rw [hc, Nat.succ_mul]; omega, List.drop_length_add_append]
      exact this
theorem RC.suf_ {w : World} {S : Nat → Prop} {e z n c i : Nat} {ds : List D} {A : Option Addr} (h : RC w S (.l e z ds) [.slice A n c]) (hi : i ≤ n) : RC w S (.l e z (ds.drop i)) [.slice (sufA A c i z) (n - i) (c - i)] := by
  unfold RC at h ⊢
  obtain ⟨A', c', h1, h2, h3, h4, h5, h6⟩ := h
  simp only [List.cons.injEq, Value.slice.injEq, and_true] at h1
  obtain ⟨rfl, rfl, rfl⟩ := h1
  have hl : (ds.drop i).length = ds.length - i := by simp
  refine ⟨sufA A c i z, c - i, by rw [hl], by omega, by omega, by omega, fun d hd => h5 d (List.mem_of_mem_drop hd), ?_⟩
  rcases h6 with rfl | ⟨b, o, es, rfl, hb, h8, h9, h10⟩
  · exact .inl (by simp)
  · by_cases h0 : ds.drop i = []
    · exact .inl h0
    have hc : ¬ c = i := fun e => h0 (List.drop_eq_nil_of_le (by omega))
    refine .inr ⟨b, o + i * z, es.drop (i * z), ?_, hb, h8, h9.suf_ h5 i, fun j u hu => ?_⟩
    · rw [sufA, if_neg hc]; simp [Addr.add_lit]
    · rw [List.getElem?_drop] at hu
      rw [Nat.add_assoc]
      exact h10 _ u hu
theorem sizeTm (w : World) : (Go.sizeOf (Tryd.prog.elem 28)).run Tryd.prog w = .ok 5 w := by kernel_rfl
theorem elemTm : Tryd.prog.underlying 28 = some (.slice (Tryd.prog.elem 28)) := by kernel_rfl
theorem runPre (A : Option Addr) {n c i : Nat} (hi : i ≤ n) (hn : n ≤ c) (w : World) : (Instr.sliceAt 28 (.slice A n c) none (some (.int .i64 (i : Int))) none).run Tryd.prog w = .ok (.slice A i c) w := by
  rw [run_sliceAt_slice w 28 _ _ _ _ elemTm, run_slice_h w 28 _ _ _ elemTm .i64 _ (by omega) (by omega), sizeTm]
  have e : (Option.map (fun x => Addr.add x (0 * 5)) A) = A := by cases A with
    | none => rfl
    | some a => cases a; simp [Addr.add]
  simp [Result.andThen, sliced, e]
theorem runSuf (A : Option Addr) {n c i : Nat} (hi : i ≤ n) (hn : n ≤ c) (w : World) : (Instr.sliceAt 28 (.slice A n c) (some (.int .i64 (i : Int))) none none).run Tryd.prog w = .ok (.slice (sufA A c i 5) (n - i) (c - i)) w := by
  rw [run_sliceAt_slice w 28 _ _ _ _ elemTm, run_slice_l w 28 _ _ _ elemTm .i64 _ (by omega) (by omega), sizeTm]
  simp [Result.andThen, sliced, sufA]
/-- Open, where there are as many. -/
theorem openS {S : Nat → Prop} {t r : Tm} {ls : List Tm} {w : World} {v : Value} (hT : Tab w) (h : TV w S t v) (n : Int) (hb : countT t ≤ 1000000000 ∨ n ≤ 1000000000) (hn : inI n) (ho : openN n t = some (ls, r)) : Calls Tryd.prog 23 #[v, .int .i64 n] w fun e w' =>
    ∃ A c B cb K kb, e = .returned (.tuple #[.slice A ls.length c, .agg #[.int .i64 r.k, .int .i64 r.n, .int .i64 r.a, .slice B r.ls.length cb, .slice K r.ks.length kb], .bool true]) ∧
      Hp no w w' [.dat (.l 30 5 (ls.map Tm.d)) [.slice A ls.length c], .dat r.d [.int .i64 r.k, .int .i64 r.n, .int .i64 r.a, .slice B r.ls.length cb, .slice K r.ks.length kb]] := by
  refine (teleOpen hT h n hb hn).mono ?_
  rintro e w' ⟨A, c, B, cb, K, kb, ls', r', he, rfl, H⟩
  rw [ho] at he ⊢
  simp only [Option.getD_some, Prod.mk.injEq] at he
  obtain ⟨rfl, rfl⟩ := he
  exact ⟨A, c, B, cb, K, kb, rfl, H⟩
/-- Open, where there are fewer. -/
theorem openF {S : Nat → Prop} {t : Tm} {w : World} {v : Value} (hT : Tab w) (h : TV w S t v) (n : Int) (hb : countT t ≤ 1000000000 ∨ n ≤ 1000000000) (hn : inI n) (ho : openN n t = none) : Calls Tryd.prog 23 #[v, .int .i64 n] w fun e w' =>
    ∃ A c B cb K kb, e = .returned (.tuple #[.slice A 0 c, .agg #[.int .i64 0, .int .i64 0, .int .i64 0, .slice B 0 cb, .slice K 0 kb], .bool false]) ∧ Ext no w w' := by
  refine (teleOpen hT h n hb hn).mono ?_
  rintro e w' ⟨A, c, B, cb, K, kb, ls', r', he, rfl, H⟩
  rw [ho] at he ⊢
  simp only [Option.getD_none, Prod.mk.injEq] at he
  obtain ⟨rfl, rfl⟩ := he
  exact ⟨A, c, B, cb, K, kb, rfl, H.ext⟩
/-- Size, of what is not great. -/
theorem sizeN {S : Nat → Prop} {t : Tm} {w : World} {v : Value} (h : TV w S t v) (hb : sizeT t ≤ 4000000000) : Calls Tryd.prog 21 #[v] w (PV w (.int .i64 (sizeT t : Nat))) := by
  have := size_calls t w S v h
  rwa [show wrap64 ((sizeT t : Nat) : Int) = (sizeT t : Nat) by unfold wrap64; omega] at this
theorem openN_above (ts : List Tm) (b : Tm) : openN ts.length (aboveT 4 ts b) = some (ts, b) := by
  have := openT_above ts b 0
  unfold openN
  rw [if_neg (by omega)]
  simpa [openT] using this
theorem openN_few {ts : List Tm} {b : Tm} {m : Nat} (h : m ≤ ts.length) : openN m (aboveT 4 ts b) = some (ts.take m, aboveT 4 (ts.drop m) b) := by
  unfold openN
  rw [if_neg (by omega)]
  simpa using openT_few ts b h
theorem openN_many (ts : List Tm) (b : Tm) : openN ((ts.length : Int) + countT b + 1) (aboveT 4 ts b) = none := by
  unfold openN
  rw [if_neg (by omega)]
  exact openT_many _ _ (by rw [countT_above]; omega)
theorem openN_put (ts : List Tm) (b : Tm) (by_ : List Tm) : openN ts.length (putT (aboveT 4 ts b) by_) = some (walkA (putF by_) 0 ts, walkT (putF by_) (walkE 0 ts.length) b) := by
  unfold openN
  rw [if_neg (by omega)]
  simpa using open_put ts b by_
theorem openN_lift (ts : List Tm) (b : Tm) (n fr : Int) : openN ts.length (liftT (aboveT 4 ts b) n fr) = some (walkA (liftF n fr) 0 ts, walkT (liftF n fr) (walkE 0 ts.length) b) := by
  unfold openN
  rw [if_neg (by omega)]
  simpa using open_lift ts b n fr
theorem RCs.pre4 {w : World} {S : Nat → Prop} {ds : List D} {es : List Value} (h : RCs w S ds es) (i : Nat) : RCs w S (ds.take i) (es.take (D.sizes (ds.take i))) := by
  induction ds generalizing i es with
  | nil => simp [D.sizes]; unfold RCs; rfl
  | cons d ds ih =>
    cases i with
    | zero => simp [D.sizes]; unfold RCs; rfl
    | succ i =>
      unfold RCs at h
      obtain ⟨c1, c2, rfl, g1, g2⟩ := h
      have hc := RC.len _ _ g1
      simp only [List.take_succ_cons, D.sizes]
      rw [← hc, List.take_length_add_append]
      unfold RCs
      exact ⟨c1, _, rfl, g1, ih g2 i⟩
theorem RC.pre4 {w : World} {S : Nat → Prop} {e z n c i : Nat} {ds : List D} {A : Option Addr} (h : RC w S (.l e z ds) [.slice A n c]) (hi : i ≤ n) : RC w S (.l e z (ds.take i)) [.slice A i c] := by
  unfold RC at h ⊢
  obtain ⟨A', c', h1, h2, h3, h4, h5, h6⟩ := h
  simp only [List.cons.injEq, Value.slice.injEq, and_true] at h1
  obtain ⟨rfl, rfl, rfl⟩ := h1
  have hl : (ds.take i).length = i := by simp; omega
  refine ⟨A, c, by rw [hl], by omega, h3, by rw [hl]; omega, fun d hd => h5 d (List.mem_of_mem_take hd), ?_⟩
  rcases h6 with rfl | ⟨b, o, es, h7, hb, h8, h9, h10⟩
  · exact .inl (by simp)
  · by_cases h0 : ds.take i = []
    · exact .inl h0
    refine .inr ⟨b, o, es.take (D.sizes (ds.take i)), h7, hb, h8, h9.pre4 i, fun j u hu => h10 j u ?_⟩
    rw [List.getElem?_take] at hu
    split at hu
    · exact hu
    · cases hu
/-- rows, by lengths. -/
theorem rowsN {w : World} {S1 S2 : Nat → Prop} {xs ys : List Tm} {A B : Option Addr} {n m c1 c2 : Nat} (h : RC w S1 (.l 30 5 (xs.map Tm.d)) [.slice A n c1]) (k : RC w S2 (.l 30 5 (ys.map Tm.d)) [.slice B m c2]) (hn : n = xs.length) (hm : m = ys.length) : Calls Tryd.prog 24 #[.slice A n c1, .slice B m c2] w (PB w (xs = ys)) := by
  subst hn hm
  exact rows04_calls h k
theorem take_lr (l r : List Tm) : ((l ++ r).map Tm.d).take l.length = l.map Tm.d := by
  rw [List.map_append]
  exact List.take_left' (by simp)
theorem drop_lr (l r : List Tm) : ((l ++ r).map Tm.d).drop l.length = r.map Tm.d := by
  rw [List.map_append]
  exact List.drop_left' (by simp)
theorem oks {w : World} {S : Nat → Prop} {ts : List Tm} {A : Option Addr} {c : Nat} (h : RC w S (.l 30 5 (ts.map Tm.d)) [.slice A ts.length c]) : ∀ t ∈ ts, TmOK t := by
  intro t ht
  obtain ⟨j, hj, rfl⟩ := List.getElem_of_mem ht
  obtain ⟨b, o, A1, ca1, K1, ck1, rfl, hb, hS, hd, _⟩ := h.atTm hj
  exact RC.ok _ hd
/-- A body, from a region on. -/
def fromR (n : Nat) : Code → Code
  | .seq (.region id ops d) b => if id = n then .seq (.region id ops d) b else fromR n b
  | .seq (.seq (.region id ops d) y) b => if id = n then .seq (.seq (.region id ops d) y) b else fromR n b
  | .seq _ b => fromR n b
  | c => c
/-- Guard of the walk's arm: a region's number. -/
theorem atR (n : Nat) {P : Program} {Q : Exit → Act → World → Prop} {a : Act} {w : World} {ops : Array Oper} {d : Bool} {b : Code} (h : (Code.seq (Code.region n ops d) b).wp P Q a w) : (Code.seq (Code.region n ops d) b).wp P Q a w := h
theorem atR2 (n : Nat) {P : Program} {Q : Exit → Act → World → Prop} {a : Act} {w : World} {ops : Array Oper} {d : Bool} {b y : Code} (h : (Code.seq (Code.seq (Code.region n ops d) y) b).wp P Q a w) : (Code.seq (Code.seq (Code.region n ops d) y) b).wp P Q a w := h
/-- What came in. -/
structure TIn (w : World) (row by_ : List Tm) (t T : Tm) (n : Int) (f : Nat) (A B A0 K0 : Option Addr) (c cb ca ck : Nat) : Prop where
  tab : Tab w
  hrow : RC w anyW (.l 30 5 (row.map Tm.d)) [.slice A row.length c]
  ht : RC w anyW t.d [.int .i64 t.k, .int .i64 t.n, .int .i64 t.a, .slice A0 t.ls.length ca, .slice K0 t.ks.length ck]
  hby : RC w anyW (.l 30 5 (by_.map Tm.d)) [.slice B by_.length cb]
  hrl : row.length ≤ 1048576
  hbl : by_.length ≤ 1048576
  hcT : countT t ≤ 1048576
  hsT : sizeT t ≤ 1048576
  hsR : sizesT row ≤ 1048576
  hDT : depthT t ≤ 1048576
  hDR : depthsT row ≤ 1048576
  hrc : row.length ≤ c
  hf : min (max n 0) (row.length : Int) = (f : Int)
  hfl : f ≤ row.length
  hTT : T = aboveT 4 row t
end Go.Proofs.YteelplgdojjakaaDoor
