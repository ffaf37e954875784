/- From the row's own reading of the arguments to the data that this proof speaks of: what is read is data; its bulk bounds how great it is. No statement of the seat is proved here. -/
import Derived.Test.YtmedomglemllnaaGreatDoorTypes
import Derived.Test.YtmedomglemllnaaGreatDoorRows
import Derived.Carry
import Derived.WideShapes
import Derived.ChangeShapes
namespace Go.Proofs.YtmedomglemllnaaGreatDoor
set_option linter.unusedSimpArgs false
set_option linter.unusedVariables false
open Go.RowKit

mutual
def D.bulk : D → Nat
  | .i _ => 1
  | .b _ => 1
  | .l _ _ ds => D.bulks ds + 1
  | .s ds => D.bulks ds + 1
def D.bulks : List D → Nat
  | [] => 0
  | d :: ds => d.bulk + D.bulks ds
end
theorem D.bulks_append (a b : List D) : D.bulks (a ++ b) = D.bulks a + D.bulks b := by
  induction a with
  | nil => simp [D.bulks]
  | cons d a ih => simp only [List.cons_append, D.bulks, ih]; omega
theorem D.bulk_pos (d : D) : 1 ≤ d.bulk := by cases d <;> simp [D.bulk]
theorem D.len_bulks (ds : List D) : ds.length ≤ D.bulks ds := by
  induction ds with
  | nil => simp [D.bulks]
  | cons d ds ih => have := d.bulk_pos; simp only [List.length_cons, D.bulks]; omega
def contig (P : Program) : List Field → Nat → Nat → Bool
  | [], o, tot => o == tot
  | f :: fs, o, tot => f.offset == o && contig P fs (o + P.cellsOf f.type) tot
def tyOK (P : Program) (TS : List TypeId) (t : TypeId) : Bool := match P.underlying t with
  | some .bool => P.cellsOf t == 1
  | some (.int .i64) => P.cellsOf t == 1
  | some (.slice e) => P.cellsOf t == 1 && TS.contains e && decide (0 < P.cellsOf e)
  | some (.struct fs) => contig P fs.toList 0 (P.cellsOf t) && fs.toList.all fun f => TS.contains f.type
  | _ => false
mutual
def Shp (P : Program) : Nat → TypeId → D → Prop
  | 0, _, _ => False
  | n + 1, t, d => match P.underlying t with
    | some .bool => ∃ b, d = .b b
    | some (.int _) => ∃ i, d = .i i
    | some (.slice e) => ∃ ds, d = .l e (P.cellsOf e) ds ∧ ∀ x ∈ ds, Shp P n e x
    | some (.struct fs) => ∃ ds, d = .s ds ∧ Shps P n fs.toList ds
    | _ => False
def Shps (P : Program) : Nat → List Field → List D → Prop
  | _, [], ds => ds = []
  | n, f :: fs, ds => ∃ d r, ds = d :: r ∧ Shp P n f.type d ∧ Shps P n fs r
end
theorem mapM_cons_some {α β : Type} {f : α → Option β} {a : α} {l : List α} {ys : List β} (h : (a :: l).mapM f = some ys) : ∃ y r, ys = y :: r ∧ f a = some y ∧ l.mapM f = some r := by
  rw [List.mapM_cons] at h
  simp only [Option.bind_eq_bind, Option.bind_eq_some_iff, Option.pure_def, Option.some.injEq] at h
  obtain ⟨y, h1, r, h2, h3⟩ := h
  exact ⟨y, r, h3.symm, h1, h2⟩
theorem mapM_nil_some {α β : Type} {f : α → Option β} {ys : List β} (h : ([] : List α).mapM f = some ys) : ys = [] := by simpa using h.symm
theorem mapM_get {α β : Type} {f : α → Option β} {l : List α} {ys : List β} (h : l.mapM f = some ys) : ys.length = l.length ∧ ∀ (i : Nat) a, l[i]? = some a → ∃ y, ys[i]? = some y ∧ f a = some y := by
  induction l generalizing ys with
  | nil => obtain rfl := mapM_nil_some h; simp
  | cons a l ih =>
    obtain ⟨y, r, rfl, h1, h2⟩ := mapM_cons_some h
    obtain ⟨i1, i2⟩ := ih h2
    refine ⟨by simp [i1], fun i b hb => ?_⟩
    rcases i with _ | i
    · simp only [List.getElem?_cons_zero, Option.some.injEq] at hb ⊢
      exact ⟨y, rfl, hb ▸ h1⟩
    · simp only [List.getElem?_cons_succ] at hb ⊢
      exact i2 i b hb
theorem cells_get {w : World} {a : Addr} {n : Nat} {cs : List Value} (h : w.cells? 0 a n = some cs) : cs.length = n ∧ ∀ j u, cs[j]? = some u → w.cell? (a.add j) = some u := by
  unfold World.cells? at h
  simp only [Nat.zero_le, if_true] at h
  obtain ⟨h1, h2⟩ := mapM_get h
  refine ⟨by simpa using h1, fun j u hu => ?_⟩
  have hj : j < n := by
    have := (List.getElem?_eq_some_iff.1 hu).1
    simp at h1; omega
  obtain ⟨y, g1, g2⟩ := h2 j j (by simp [hj])
  rw [hu] at g1
  cases g1
  exact g2
theorem bulkAll_mem {H : Type} {x : DataW H} {l : List (DataW H)} (h : x ∈ l) : Rows.uptoBulk x ≤ Rows.uptoBulkAll l := by
  induction l with
  | nil => cases h
  | cons y l ih =>
    simp only [Rows.uptoBulkAll]
    rcases List.mem_cons.1 h with rfl | h
    · omega
    · have := ih h; omega
theorem bulk_pos {H : Type} (d : DataW H) : 1 ≤ Rows.uptoBulk d := by
  cases d with
  | lit l => cases l <;> simp [Rows.uptoBulk]
  | _ => simp [Rows.uptoBulk]
theorem bulkAll_append {H : Type} (a b : List (DataW H)) : Rows.uptoBulkAll (a ++ b) = Rows.uptoBulkAll a + Rows.uptoBulkAll b := by
  induction a with
  | nil => simp [Rows.uptoBulkAll]
  | cons d a ih => simp only [List.cons_append, Rows.uptoBulkAll, ih]; omega
section
variable {H : Type} {enc : TypeId × Value → H} {P : Program} {w : World} {sp : Nat → Bool} {held : Bool}
def Rd1 (P : Program) (w : World) (n : Nat) (t : TypeId) (cs : List Value) (x : DataW H) : Prop := ∃ d : D, RC w (fun _ => True) d cs ∧ Shp P n t d ∧ d.bulk ≤ Rows.uptoBulk x
theorem rd_fields {n : Nat} {TS : List TypeId} {cs : List Value} (ih : ∀ (t : TypeId) (cs : List Value) (x : DataW H × List MemPlace), t ∈ TS → DataW.trod enc P w 0 sp held n t cs = some x → Rows.uptoBulk x.1 ≤ 1048576 → Rd1 P w n t cs x.1)
    : ∀ (fs : List Field) (o : Nat) (xs : List (DataW H × List MemPlace)), contig P fs o cs.length = true → (fs.all fun f => TS.contains f.type) = true →
      fs.mapM (fun f => DataW.trod enc P w 0 sp held n f.type ((cs.drop f.offset).take (P.cellsOf f.type))) = some xs → Rows.uptoBulkAll (xs.map (·.1)) ≤ 1048576 →
      ∃ ds : List D, RCs w (fun _ => True) ds (cs.drop o) ∧ Shps P n fs ds ∧ D.bulks ds ≤ Rows.uptoBulkAll (xs.map (·.1))
  | [], o, xs, hc, _, hm, _ => by
    obtain rfl := mapM_nil_some hm
    have : o = cs.length := by simpa [contig] using hc
    subst this
    exact ⟨[], by unfold RCs; simp, by unfold Shps; rfl, by simp [D.bulks]⟩
  | f :: fs, o, xs, hc, ha, hm, hb => by
    obtain ⟨y, r, rfl, h1, h2⟩ := mapM_cons_some hm
    simp only [contig, Bool.and_eq_true, beq_iff_eq] at hc
    obtain ⟨rfl, hc⟩ := hc
    simp only [List.all_cons, Bool.and_eq_true] at ha
    simp only [List.map_cons, Rows.uptoBulkAll] at hb ⊢
    obtain ⟨d, g1, g2, g3⟩ := ih _ _ _ (by simpa using ha.1) h1 (by omega)
    obtain ⟨ds, k1, k2, k3⟩ := rd_fields ih fs _ r hc ha.2 h2 (by omega)
    refine ⟨d :: ds, ?_, by unfold Shps; exact ⟨d, ds, rfl, g2, k2⟩, by simp only [D.bulks]; omega⟩
    unfold RCs
    exact ⟨_, _, by rw [← List.drop_drop, List.take_append_drop], g1, k1⟩
theorem addr_add_add (a : Addr) (i j : Nat) : (a.add i).add j = a.add (i + j) := by
  unfold Addr.add
  (repeat' split) <;> simp_all <;> omega
theorem rd_elems {n z len : Nat} {e : TypeId} {a : Addr} {elems : List (DataW H × List MemPlace)} (hz : 0 < z) (hm : (List.range len).mapM (fun i => (w.cells? 0 (a.add (i * z)) z).bind (DataW.trod enc P w 0 sp held n e)) = some elems)
    (ih : ∀ (cs : List Value) (x : DataW H × List MemPlace), x ∈ elems → DataW.trod enc P w 0 sp held n e cs = some x → Rd1 P w n e cs x.1) : ∀ k ≤ len,
    ∃ (ds : List D) (es : List Value), RCs w (fun _ => True) ds es ∧ ds.length = k ∧ es.length = k * z ∧ (∀ x ∈ ds, Shp P n e x ∧ x.size = z) ∧ (∀ j u, es[j]? = some u → w.cell? (a.add j) = some u) ∧ D.bulks ds ≤ Rows.uptoBulkAll ((elems.take k).map (·.1))
  | 0, _ => ⟨[], [], by unfold RCs; rfl, rfl, by simp, by simp, by simp, by simp [D.bulks]⟩
  | k + 1, hk => by
    obtain ⟨ds, es, h1, h2, h3, h4, h5, h6⟩ := rd_elems hz hm ih k (by omega)
    obtain ⟨hl, hg⟩ := mapM_get hm
    obtain ⟨y, g1, g2⟩ := hg k k (by rw [List.getElem?_range (by omega)])
    simp only [Option.bind_eq_some_iff] at g2
    obtain ⟨cs, g2, g3⟩ := g2
    obtain ⟨c1, c2⟩ := cells_get g2
    obtain ⟨d, r1, r2, r3⟩ := ih cs y (List.mem_of_getElem? g1) g3
    refine ⟨ds ++ [d], es ++ cs, h1.append (RCs.single r1), by simp [h2], by simp [h3, c1, Nat.add_mul], ?_, ?_, ?_⟩
    · intro x hx
      rcases List.mem_append.1 hx with hx | hx
      · exact h4 x hx
      · obtain rfl : x = d := by simpa using hx
        exact ⟨r2, by rw [← RC.len _ _ r1, c1]⟩
    · intro j u hu
      have e0 : es.length = k * z := h3
      rcases Nat.lt_or_ge j es.length with hj | hj
      · rw [List.getElem?_append_left hj] at hu
        exact h5 j u hu
      · rw [List.getElem?_append_right hj] at hu
        have := c2 _ u hu
        have e : (a.add (k * z)).add (j - es.length) = a.add j := by
          rw [addr_add_add]
          congr 1
          omega
        rw [e] at this
        exact this
    · rw [List.take_add_one, g1, D.bulks_append]
      simp only [Option.toList_some, List.map_append, List.map_cons, List.map_nil, bulkAll_append, Rows.uptoBulkAll, D.bulks]
      omega
theorem cell_spot {w : World} {a : Addr} {u : Value} (h : w.cell? a = some u) : a.spot = none := by
  unfold World.cell? at h
  split at h
  · split at h
    · cases h
    · rename_i hs
      simpa using hs
  · cases h
theorem trod_rc {TS : List TypeId} (hTS : TS.all (tyOK P TS) = true) : ∀ (n : Nat) (t : TypeId) (cs : List Value) (x : DataW H × List MemPlace), t ∈ TS → DataW.trod enc P w 0 sp held n t cs = some x → Rows.uptoBulk x.1 ≤ 1048576 → Rd1 P w n t cs x.1
  | 0, _, _, _, _, h, _ => by simp [DataW.trod] at h
  | n + 1, t, cs, x, ht, h, hb => by
    have hok := List.all_eq_true.1 hTS t ht
    unfold tyOK at hok
    unfold DataW.trod at h
    split at hok
    · rename_i hu
      rw [hu] at h
      split at h <;> first | (exfalso; simp only [Option.some.injEq, reduceCtorEq] at *; done) | skip
      · simp only [Option.some.injEq] at h
        subst h
        exact ⟨.b _, by unfold RC; rfl, by unfold Shp; rw [hu]; exact ⟨_, rfl⟩, by simp [D.bulk, Rows.uptoBulk]⟩
    · rename_i hu
      rw [hu] at h
      split at h <;> first | (exfalso; simp only [Option.some.injEq, reduceCtorEq] at *; done) | skip
      · rename_i k k' m heq
        cases heq
        split at h
        · rename_i hw
          obtain ⟨rfl, hw⟩ := hw
          simp only [Option.some.injEq] at h
          subst h
          exact ⟨.i m, by unfold RC; exact ⟨rfl, by simpa [Lit.wf, IntKind.min, IntKind.max, IntKind.signed, IntKind.bits, inI] using hw⟩, by unfold Shp; rw [hu]; exact ⟨_, rfl⟩, by simp [D.bulk, Rows.uptoBulk]⟩
        · cases h
    · rename_i e hu
      rw [hu] at h
      simp only [Bool.and_eq_true, decide_eq_true_eq, beq_iff_eq] at hok
      split at h <;> first | (exfalso; simp only [Option.some.injEq, reduceCtorEq] at *; done) | skip
      · simp only [Option.some.injEq] at h
        subst h
        exact ⟨.l e (P.cellsOf e) [], RC.nil, by unfold Shp; rw [hu]; exact ⟨_, rfl, by simp⟩, by simp [D.bulk, D.bulks, Rows.uptoBulk]⟩
      · rename_i e' a len cap heq
        cases heq
        dsimp only at h
        split at h
        · rename_i hc
          simp only [Option.bind_eq_some_iff, Option.map_eq_some_iff] at h
          obtain ⟨elems, h1, rest, h2, rfl⟩ := h
          simp only [Rows.uptoBulk] at hb
          have hlen : elems.length = len := by have := (mapM_get h1).1; simpa using this
          obtain ⟨ds, es, g1, g2, g3, g4, g5, g6⟩ := rd_elems (e := e) hok.2 h1 (fun cs x hx hr => trod_rc hTS n e cs x (by simpa using hok.1.2) hr (by
            have := bulkAll_mem (List.mem_map_of_mem (f := (·.1)) hx)
            omega)) len (Nat.le_refl _)
          have hle := D.len_bulks ds
          rw [← hlen, List.take_length] at g6
          subst g2
          refine ⟨.l e (P.cellsOf e) ds, ?_, by unfold Shp; rw [hu]; exact ⟨ds, rfl, fun x hx => (g4 x hx).1⟩, by simp only [D.bulk, Rows.uptoBulk]; omega⟩
          unfold RC
          refine ⟨some a, cap, rfl, hc.2.1, hc.2.2, by unfold M; omega, fun d hd => (g4 d hd).2, ?_⟩
          rcases ds with _ | ⟨d, ds⟩
          · exact .inl rfl
          · have hes : 0 < es.length := by
              rw [g3]
              exact Nat.mul_pos (by simp) hok.2
            have h0 := g5 0 es[0] (by simp [hes])
            have hs : a.spot = none := by simpa [Addr.add] using cell_spot h0
            obtain ⟨b, o, spt⟩ := a
            obtain rfl : spt = none := hs
            refine .inr ⟨b, o, es, rfl, ?_, trivial, g1, fun j u hu => by have := g5 j u hu; rwa [Addr.add_lit] at this⟩
            have := cell_lt h0
            simpa [Addr.add] using this
        · cases h
    · rename_i fs hu
      rw [hu] at h
      simp only [Bool.and_eq_true] at hok
      have key : ∀ xs : List (DataW H × List MemPlace), cs.length = P.cellsOf t → List.mapM (fun f => DataW.trod enc P w 0 sp held n f.type (List.take (P.cellsOf f.type) (List.drop f.offset cs))) fs.toList = some xs → Rows.uptoBulkAll (xs.map (·.1)) + 1 ≤ 1048576 → Rd1 P w (n + 1) t cs (.agg (xs.map (·.1))) := by
        intro xs hl hm hb
        obtain ⟨ds, g1, g2, g3⟩ := rd_fields (fun t cs x ht h hb => trod_rc hTS n t cs x ht h hb) fs.toList 0 xs (by rw [hl]; exact hok.1) hok.2 hm (by omega)
        exact ⟨.s ds, by unfold RC; simpa using g1, by unfold Shp; rw [hu]; exact ⟨ds, rfl, g2⟩, by simp only [D.bulk, Rows.uptoBulk]; omega⟩
      split at h <;> first | (exfalso; simp only [Option.some.injEq, reduceCtorEq] at *; done) | skip
      · rename_i fs' heq
        cases heq
        split at h
        · rename_i hl
          simp only [Option.map_eq_some_iff] at h
          obtain ⟨xs, h1, rfl⟩ := h
          exact key xs hl h1 (by simpa [Rows.uptoBulk] using hb)
        · cases h
      · rename_i hno
        exact absurd rfl (by first | (apply_assumption) | (intro e; simp_all))
    · cases hok
end

/- the program's types -/
section
variable {P : Program}
theorem shp_int {n : Nat} {t : TypeId} {d : D} {k : IntKind} (hu : P.underlying t = some (.int k)) (h : Shp P n t d) : ∃ i, d = .i i := by
  cases n with
  | zero => unfold Shp at h; exact h.elim
  | succ n => unfold Shp at h; rw [hu] at h; exact h
theorem choose_map {α β : Type} {f : α → β} {l : List β} (h : ∀ x ∈ l, ∃ a, x = f a) : ∃ k : List α, l = k.map f := by
  induction l with
  | nil => exact ⟨[], rfl⟩
  | cons x l ih =>
    obtain ⟨a, rfl⟩ := h x (by simp)
    obtain ⟨k, rfl⟩ := ih fun y hy => h y (by simp [hy])
    exact ⟨a :: k, rfl⟩
theorem shp_list {α : Type} {f : α → D} {n z : Nat} {t e : TypeId} {d : D} (hu : P.underlying t = some (.slice e)) (hz : P.cellsOf e = z) (h : Shp P n t d) (he : ∀ m < n, ∀ x, Shp P m e x → ∃ a, x = f a) : ∃ l : List α, d = .l e z (l.map f) := by
  cases n with
  | zero => unfold Shp at h; exact h.elim
  | succ n =>
    unfold Shp at h
    rw [hu] at h
    obtain ⟨ds, rfl, h⟩ := h
    obtain ⟨l, rfl⟩ := choose_map fun x hx => he n (by omega) x (h x hx)
    exact ⟨l, by rw [hz]⟩
theorem shp_str {n : Nat} {t : TypeId} {fs : Array Field} {d : D} (hu : P.underlying t = some (.struct fs)) (h : Shp P n t d) : ∃ m ds, n = m + 1 ∧ d = .s ds ∧ Shps P m fs.toList ds := by
  cases n with
  | zero => unfold Shp at h; exact h.elim
  | succ n =>
    unfold Shp at h
    rw [hu] at h
    obtain ⟨ds, rfl, h⟩ := h
    exact ⟨n, ds, rfl, rfl, h⟩
end
theorem shp_pt (n : Nat) (d : D) (h : Shp Tryz.prog n 237 d) : ∃ x, d = ptD x := by
  obtain ⟨m, ds, rfl, rfl, hs⟩ := shp_str Tryz.underlying237 h
  simp only [Shps, List.toList_toArray] at hs
  obtain ⟨d1, _, rfl, h1, d2, _, rfl, h2, rfl⟩ := hs
  obtain ⟨a, rfl⟩ := shp_int Tryz.underlying3 h1
  obtain ⟨b, rfl⟩ := shp_int Tryz.underlying3 h2
  exact ⟨(a, b), rfl⟩
theorem shp_lv (n : Nat) (d : D) (h : Shp Tryz.prog n 47 d) : ∃ x, d = lvD x := by
  obtain ⟨m, ds, rfl, rfl, hs⟩ := shp_str Tryz.underlying47 h
  simp only [Shps, List.toList_toArray] at hs
  obtain ⟨d1, _, rfl, h1, rfl⟩ := hs
  obtain ⟨l, rfl⟩ := shp_list (f := ptD) Tryz.underlying45 (show Tryz.prog.cellsOf 237 = 2 by kernel_rfl) h1 fun m _ x hx => shp_pt m x hx
  exact ⟨l, rfl⟩
theorem shp_tm (n : Nat) : ∀ (d : D), Shp Tryz.prog n 26 d → ∃ t : Tm, d = t.d := by
  induction n using Nat.strongRecOn with
  | ind n ih =>
  intro d h
  obtain ⟨m, ds, rfl, rfl, hs⟩ := shp_str Tryz.underlying26 h
  simp only [Shps, List.toList_toArray] at hs
  obtain ⟨d1, _, rfl, h1, d2, _, rfl, h2, d3, _, rfl, h3, d4, _, rfl, h4, d5, _, rfl, h5, rfl⟩ := hs
  obtain ⟨k, rfl⟩ := shp_int Tryz.underlying23 h1
  obtain ⟨a, rfl⟩ := shp_int Tryz.underlying3 h2
  obtain ⟨b, rfl⟩ := shp_int Tryz.underlying3 h3
  obtain ⟨ls, rfl⟩ := shp_list (f := lvD) Tryz.underlying24 (show Tryz.prog.cellsOf 47 = 1 by kernel_rfl) h4 fun m _ x hx => shp_lv m x hx
  obtain ⟨ks, rfl⟩ := shp_list (f := Tm.d) Tryz.underlying22 (show Tryz.prog.cellsOf 26 = 5 by kernel_rfl) h5 fun m' hm x hx => ih m' (by omega) x hx
  exact ⟨.mk k a b ls ks, by simp [Tm.d, Tm.ds_eq]⟩
theorem shp_tms {n : Nat} {d : D} (h : Shp Tryz.prog n 22 d) : ∃ l : List Tm, d = .l 26 5 (l.map Tm.d) :=
  shp_list Tryz.underlying22 (show Tryz.prog.cellsOf 26 = 5 by kernel_rfl) h fun m _ x hx => shp_tm m x hx
theorem shp_mb (n : Nat) (d : D) (h : Shp Tryz.prog n 73 d) : ∃ x : Mb, d = x.d := by
  obtain ⟨m, ds, rfl, rfl, hs⟩ := shp_str Tryz.underlying73 h
  simp only [Shps, List.toList_toArray] at hs
  obtain ⟨d1, _, rfl, h1, rfl⟩ := hs
  obtain ⟨l, rfl⟩ := shp_tms h1
  exact ⟨⟨l⟩, rfl⟩
theorem shp_ct (n : Nat) (d : D) (h : Shp Tryz.prog n 148 d) : ∃ x : Ct, d = x.d := by
  obtain ⟨m, ds, rfl, rfl, hs⟩ := shp_str Tryz.underlying148 h
  simp only [Shps, List.toList_toArray] at hs
  obtain ⟨d1, _, rfl, h1, d2, _, rfl, h2, rfl⟩ := hs
  obtain ⟨k, rfl⟩ := shp_int Tryz.underlying3 h1
  obtain ⟨t, rfl⟩ := shp_tm _ _ h2
  exact ⟨⟨k, t⟩, rfl⟩
theorem shp_dc (n : Nat) (d : D) (h : Shp Tryz.prog n 51 d) : ∃ x : Dc, d = x.d := by
  obtain ⟨m, ds, rfl, rfl, hs⟩ := shp_str Tryz.underlying51 h
  simp only [Shps, List.toList_toArray] at hs
  obtain ⟨d1, _, rfl, h1, d2, _, rfl, h2, d3, _, rfl, h3, d4, _, rfl, h4, d5, _, rfl, h5, d6, _, rfl, h6, d7, _, rfl, h7, d8, _, rfl, h8, rfl⟩ := hs
  obtain ⟨k, rfl⟩ := shp_int Tryz.underlying44 h1
  obtain ⟨l, rfl⟩ := shp_int Tryz.underlying3 h2
  obtain ⟨ty, rfl⟩ := shp_tm _ _ h3
  obtain ⟨body, rfl⟩ := shp_tm _ _ h4
  obtain ⟨ps, rfl⟩ := shp_tms h5
  obtain ⟨sort, rfl⟩ := shp_lv _ _ h6
  obtain ⟨ms, rfl⟩ := shp_list (f := Mb.d) Tryz.underlying48 (show Tryz.prog.cellsOf 73 = 1 by kernel_rfl) h7 fun m _ x hx => shp_mb m x hx
  obtain ⟨cs, rfl⟩ := shp_list (f := Ct.d) Tryz.underlying49 (show Tryz.prog.cellsOf 148 = 6 by kernel_rfl) h8 fun m _ x hx => shp_ct m x hx
  exact ⟨⟨k, l, ty, body, ps, sort, ms, cs⟩, rfl⟩
theorem shp_dcs {n : Nat} {d : D} (h : Shp Tryz.prog n 43 d) : ∃ l : List Dc, d = .l 51 16 (l.map Dc.d) :=
  shp_list Tryz.underlying43 (show Tryz.prog.cellsOf 51 = 16 by kernel_rfl) h fun m _ x hx => shp_dc m x hx

def readTys : List TypeId := [3, 23, 44, 237, 45, 47, 24, 26, 22, 73, 48, 148, 49, 51, 43]
theorem readTys_ok : readTys.all (tyOK Tryz.prog readTys) = true := by kernel_rfl
section
open Go.WideShapes Go.ChangeShapes
variable {H : Type} {enc : TypeId × Value → H} {w : World} {sp : Nat → Bool} {held : Bool} {v : Value} {d : DataW H} {ps : List MemPlace} {r : Reach} {base : Nat}
abbrev al : Nat → Prop := fun _ => True
set_option maxRecDepth 100000 in
theorem read_dcs (hv : Value.okWide Tryz.prog w r base 43 v) (h : DataW.Trod enc Tryz.prog w 0 sp held 43 v d ps) (hb : Rows.uptoBulk d ≤ 1048576) :
    ∃ (l : List Dc) (A : Option Addr) (c : Nat), v = .slice A l.length c ∧ RC w al (.l 51 16 (l.map Dc.d)) [.slice A l.length c] ∧ D.bulks (l.map Dc.d) < Rows.uptoBulk d := by
  obtain ⟨a, len, cap, rfl⟩ := okWide_slice Tryz.underlying43 hv
  obtain ⟨n, hn⟩ := h
  obtain ⟨x, h1, h2, h3⟩ := trod_rc readTys_ok n _ _ (_, _) (List.contains_iff_mem.1 rfl) hn hb
  obtain ⟨l, rfl⟩ := shp_dcs h2
  obtain ⟨A0, c, he, _⟩ := h1.slice
  simp only [List.length_map, Value.slice.injEq] at he
  obtain ⟨rfl, rfl, rfl⟩ := he
  exact ⟨l, _, _, rfl, h1, by simp only [D.bulk] at h3; omega⟩
set_option maxRecDepth 100000 in
theorem read_dc (hv : Value.okWide Tryz.prog w r base 51 v) (h : DataW.Trod enc Tryz.prog w 0 sp held 51 v d ps) (hb : Rows.uptoBulk d ≤ 1048576) :
    ∃ (x : Dc) (cs : List Value), v = .agg cs.toArray ∧ RC w al x.d cs ∧ x.d.bulk ≤ Rows.uptoBulk d := by
  obtain ⟨cs, rfl, _⟩ := okWide_struct Tryz.underlying51 hv
  obtain ⟨n, hn⟩ := h
  obtain ⟨x, h1, h2, h3⟩ := trod_rc readTys_ok n _ _ (_, _) (List.contains_iff_mem.1 rfl) hn hb
  obtain ⟨t, rfl⟩ := shp_dc _ _ h2
  exact ⟨t, cs.toList, by simp, h1, h3⟩
end
end Go.Proofs.YtmedomglemllnaaGreatDoor
