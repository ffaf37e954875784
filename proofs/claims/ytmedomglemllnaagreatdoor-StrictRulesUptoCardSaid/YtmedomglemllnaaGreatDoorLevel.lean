/- slices.Clone, and what copies levels and terms' nodes: contracts. -/
import Derived.Test.YtmedomglemllnaaGreatDoorRegion
import Derived.BigQuiet
import Derived.Deep.QuietTactic
import Derived.Deep.RegionHeld3
import Derived.Lib.Hide
import Derived.Laws.EntriesVeiled
namespace Go.Proofs.YtmedomglemllnaaGreatDoor
set_option linter.unusedSimpArgs false
set_option linter.unusedVariables false
open Go.RowKit

def Lies (w : World) (ad : Addr) (es : List Value) : Prop := ∀ j u, es[j]? = some u → w.cell? (ad.add j) = some u
theorem RC.row {w : World} {S : Nat → Prop} {e z n c : Nat} {ds : List D} {ad : Addr} (h : RC w S (.l e z ds) [.slice (some ad) n c]) :
    ∃ es, RCs w S ds es ∧ Lies w ad es ∧ n = ds.length ∧ (∀ d ∈ ds, d.size = z) := by
  unfold RC at h
  obtain ⟨A, c', h1, h2, h3, h4, h5, h6⟩ := h
  simp only [List.cons.injEq, Value.slice.injEq, and_true] at h1
  obtain ⟨rfl, rfl, rfl⟩ := h1
  rcases h6 with rfl | ⟨b, o, es, h7, hb, h8, h9, h10⟩
  · exact ⟨[], by unfold RCs; rfl, fun j u hu => by simp at hu, rfl, h5⟩
  · obtain rfl : ad = ⟨b, o, none⟩ := by simpa using h7
    exact ⟨es, h9, fun j u hu => by rw [Addr.add_lit]; exact h10 j u hu, rfl, h5⟩
theorem RC.nilrow {w : World} {S : Nat → Prop} {e z n c : Nat} {ds : List D} (h : RC w S (.l e z ds) [.slice none n c]) : ds = [] ∧ n = 0 := by
  unfold RC at h
  obtain ⟨A, c', h1, h2, h3, h4, h5, h6⟩ := h
  simp only [List.cons.injEq, Value.slice.injEq, and_true] at h1
  obtain ⟨rfl, rfl, rfl⟩ := h1
  rcases h6 with rfl | ⟨b, o, es, h7, _⟩
  · exact ⟨rfl, rfl⟩
  · cases h7
theorem RG.ext {w w' : World} {B e z : Nat} {S : Nat → Prop} {ds : List D} {v : Value} (h : RG w B S e z ds v) (hx : Ext no w w') : RG w' B S e z ds v := by
  obtain ⟨h1, h2, es, h3, h4⟩ := h
  exact ⟨h1, h2, es, ownsRow.frame h3 (fun k hk => hx.block k (h3.lt k hk).2 no_not), RCs.frame hx.size (fun _ _ h => h) (fun k hk _ => hx.block k hk no_not) _ _ h4⟩
theorem RG.lit {w : World} {B e z : Nat} {S : Nat → Prop} (hB : B ≤ w.heap.size) : RG (w.alloc (.cells #[] e)) B S e z [] (.slice (some ⟨w.heap.size, 0, none⟩) 0 0) :=
  ⟨by unfold M; simp, by simp, [], ⟨by simp, .inr ⟨_, 0, #[], rfl, hB, heap_alloc_new _ _, Nat.le_refl _, Nat.zero_le _, by simp, by simp⟩⟩, by unfold RCs; rfl⟩
theorem RG.rc {w : World} {B e z : Nat} {S : Nat → Prop} {ds : List D} {v : Value} (h : RG w B S e z ds v) : RC w (fun k => S k ∨ B ≤ k) (.l e z ds) [v] := by
  obtain ⟨h1, h2, es, ⟨h3, h4⟩, h5⟩ := h
  unfold RC
  rcases h4 with ⟨rfl, h4⟩ | ⟨g, cap, cur, rfl, g2, g3, g4, g5, g6, g7⟩
  · obtain rfl : ds = [] := List.eq_nil_of_length_eq_zero h4
    exact ⟨none, 0, rfl, Nat.le_refl _, Nat.zero_le _, h1, h2, .inl rfl⟩
  · refine ⟨_, cap, rfl, g4, g5, h1, h2, .inr ⟨g, 0, es, rfl, ?_, .inr g2, RCs.frame (Nat.le_refl _) (fun _ _ h => .inl h.1) (fun _ _ _ => rfl) _ _ h5, fun j u hu => ?_⟩⟩
    · rcases Nat.lt_or_ge g w.heap.size with hlt | hge
      · exact hlt
      · rw [Array.getElem?_eq_none hge] at g3; cases g3
    · rw [Nat.zero_add, cell_of_row w g j cur e (0, 0) g3]
      rw [← g7, List.getElem?_take] at hu
      split at hu
      · simpa using hu
      · cases hu
def PG (w : World) (S : Nat → Prop) (e z : Nat) (ds : List D) (en : Ending) (w' : World) : Prop := ∃ A c, en = .returned (.slice A ds.length c) ∧ RG w' w.heap.size S e z ds (.slice A ds.length c) ∧ Ext no w w'
theorem RG.slice {w : World} {B e z : Nat} {S : Nat → Prop} {ds : List D} {v : Value} (h : RG w B S e z ds v) : ∃ A c, v = .slice A ds.length c := by
  obtain ⟨_, _, es, ⟨_, h⟩, _⟩ := h
  rcases h with ⟨rfl, h⟩ | ⟨g, cap, cur, rfl, _⟩
  · exact ⟨none, 0, by rw [h]⟩
  · exact ⟨_, _, rfl⟩
theorem PG.of {w w' : World} {e z : Nat} {S : Nat → Prop} {ds : List D} {v : Value} (h : RG w' w.heap.size S e z ds v) (hx : Ext no w w') : PG w S e z ds (.returned v) w' := by
  obtain ⟨A, c, rfl⟩ := h.slice
  exact ⟨A, c, rfl, h, hx⟩
def PV (w : World) (v : Value) (e : Ending) (w' : World) : Prop := e = .returned v ∧ Ext no w w'
theorem pts_flat {w : World} {S : Nat → Prop} {B : Nat} {xs : List (Int × Int)} {es : List Value} (h : RCs w S (xs.map ptD) es) : ROs w B (xs.map ptD) es [] := by
  induction xs generalizing es with
  | nil => unfold RCs at h; subst h; unfold ROs; exact ⟨rfl, rfl⟩
  | cons x xs ih =>
    simp only [List.map_cons] at h ⊢
    unfold RCs at h
    obtain ⟨c1, c2, rfl, h2, h3⟩ := h
    unfold ROs
    obtain ⟨rfl, i1, i2⟩ := RC.pt.1 h2
    exact ⟨_, c2, [], [], rfl, rfl, RO.pt.2 ⟨rfl, i1, i2, rfl⟩, ih h3⟩
theorem RG.parts {w : World} {S : Nat → Prop} {B e : Nat} {xs : List (Int × Int)} {v : Value} (h : RG w B S e 2 (xs.map ptD) v) : RO w B (.l e 2 (xs.map ptD)) [v] v.ownBlock.toList := by
  obtain ⟨h1, h2, es, h3, h4⟩ := h
  unfold RO
  exact ⟨v, es, [], rfl, h1, h2, h3, pts_flat h4, by simp⟩

section
variable {P : Program} {w : World} {ops : Array Oper} {rest : List Oper} {o : Oper} {a : Act} {Q : Exit → Act → World → Prop}
theorem run_push_none (t ty e : Nat) (i : TypeInfo) (ht : P.underlying t = some (.slice e)) (hi : P.info? e = some i) {B size n : Nat} {v : Value} {xs : List Value} (hown : w.ownsRow B e size v n xs) (c : Nat) :
    (Builtin.append_ #[t, t] ty #[v, .slice none 0 c]).run P w = .ok v w := by
  rcases hown.2 with ⟨rfl, h⟩ | ⟨g, cap, cur, rfl, _, _, hnc, _⟩
  · simp [Builtin.append_, run_underlying ht, sizeOf, typeInfo, hi, Builtin.lenOf, Builtin.firstCells]
  · simp [Builtin.append_, run_underlying ht, sizeOf, typeInfo, hi, Builtin.lenOf, Builtin.firstCells, hnc, storeCells]
theorem wp_pushS (s x : Operand) (t : TypeId) (ho : o.op = .call { callee := .builtin .append, args := #[s, x], argTypes := #[t, t] }) {e z : Nat} (hT : SlT P t e z)
    {B : Nat} {S S' : Nat → Prop} {ds ds' : List D} {v : Value} {A : Option Addr} {m c : Nat}
    (hown : RG w B S e z ds v) (hnew : RC w S' (.l e z ds') [.slice A m c]) (hS : ∀ k, k < w.heap.size → S' k → S k ∧ some k ≠ v.ownBlock)
    (hM : ds.length + ds'.length ≤ M) (hB : B ≤ w.heap.size) (hs : a.eval s = v) (hx : a.eval x = .slice A m c) {K : Act → World → Prop}
    (h : ∀ v' w', RG w' B S e z (ds ++ ds') v' → w.grownBy w' v.ownBlock → (v'.ownBlock = v.ownBlock ∨ v'.ownBlock = some w.heap.size) → K (a.put o.dst v') w') : o.wp P a w K Q := by
  cases A with
  | none =>
    obtain ⟨rfl, rfl⟩ := hnew.nilrow
    obtain ⟨ht, i, zv, hi, _⟩ := hT
    have hown' := hown
    obtain ⟨_, _, es, h3, _⟩ := hown
    have hrun := run_push_none (P := P) (w := w) t o.type e i ht hi h3 c
    have := h v w (by simpa using hown') (World.grownBy.refl _ _) (.inl rfl)
    unfold Oper.wp execOp
    simp only [ho, resolve, invoke, builtin, Sem.run_bind, Sem.run_pure, Result.andThen_ok, List.map_toArray, List.map_cons, List.map_nil, hs, hx, hrun]
    exact this
  | some ad =>
    obtain ⟨es, h1, h2, rfl, h4⟩ := hnew.row
    exact wp_pushC s x t ho hT hs hx hown (RCs.frame (Nat.le_refl _) hS (fun _ _ _ => rfl) _ _ h1) h4 rfl h2 hM hB h
end
set_option maxHeartbeats 400000 in
theorem cloneParts {A : Option Addr} {n c : Nat} {w : World} {S : Nat → Prop} {ds : List D} (h : RC w S (.l 237 2 ds) [.slice A n c]) :
    Calls Tryz.prog 229 #[.slice A n c] w (PG w S 237 2 ds) := by
  have hq := fun w => Lib.run_eql_slice_nil (P := Tryz.prog) w 45 _ A n c 0 0 Tryz.underlying45
  have hM := h.lenM
  cases A with
  | none =>
    obtain ⟨rfl, rfl⟩ := h.nilrow
    go_enter Tryz.func229, Tryz.ntmps229
    go_wp2_with fail
    go_ret
    exact PG.of RG.nil (Ext.refl _ _)
  | some ad =>
    obtain ⟨es, h1, h2, rfl, h4⟩ := h.row
    go_enter Tryz.func229, Tryz.ntmps229
    go_wp2_with (at_builtin; go_must (refine wpList_pushC (v := .slice (some ⟨w.heap.size, 0, none⟩) 0 0) (ad := ad) (m := ds.length) (c := c) (B := w.heap.size) (S := S) (ds := []) (cs := es) rfl (.tmp 5) (.tmp 6) 45 rfl stParts rfl rfl (RG.lit (Nat.le_refl _)) (RCs.frame (by simp) (fun k hk hS => ⟨hS, by simp [Value.ownBlock]; omega⟩) (fun k hk _ => Below.heap_alloc _ _ _ hk) _ _ h1) h4 rfl (fun j u hu => ((Ext.refl no w).alloc _).keep (h2 j u hu)) (by simp [M]; omega) (by simp) ?_); intro v' w' hg hgr hat)
    go_ret
    exact PG.of hg (((Ext.refl _ _).alloc _).grown hgr (by simp [Value.ownBlock]))

set_option maxHeartbeats 400000 in
theorem cloneLevels {A : Option Addr} {n c : Nat} {w : World} {S : Nat → Prop} {ds : List D} (h : RC w S (.l 47 1 ds) [.slice A n c]) :
    Calls Tryz.prog 228 #[.slice A n c] w (PG w S 47 1 ds) := by
  have hq := fun w => Lib.run_eql_slice_nil (P := Tryz.prog) w 24 _ A n c 0 0 Tryz.underlying24
  have hM := h.lenM
  cases A with
  | none =>
    obtain ⟨rfl, rfl⟩ := h.nilrow
    go_enter Tryz.func228, Tryz.ntmps228
    go_wp2_with fail
    go_ret
    exact PG.of RG.nil (Ext.refl _ _)
  | some ad =>
    obtain ⟨es, h1, h2, rfl, h4⟩ := h.row
    go_enter Tryz.func228, Tryz.ntmps228
    go_wp2_with (at_builtin; go_must (refine wpList_pushC (v := .slice (some ⟨w.heap.size, 0, none⟩) 0 0) (ad := ad) (m := ds.length) (c := c) (B := w.heap.size) (S := S) (ds := []) (cs := es) rfl (.tmp 5) (.tmp 6) 24 rfl stLevels rfl rfl (RG.lit (Nat.le_refl _)) (RCs.frame (by simp) (fun k hk hS => ⟨hS, by simp [Value.ownBlock]; omega⟩) (fun k hk _ => Below.heap_alloc _ _ _ hk) _ _ h1) h4 rfl (fun j u hu => ((Ext.refl no w).alloc _).keep (h2 j u hu)) (by simp [M]; omega) (by simp) ?_); intro v' w' hg hgr hat)
    go_ret
    exact PG.of hg (((Ext.refl _ _).alloc _).grown hgr (by simp [Value.ownBlock]))


theorem ownsRow.set1 {w : World} {B e n k : Nat} {v u : Value} {xs : List Value} {g cap : Nat} (h : w.ownsRow B e 1 v n xs) (hv : v = .slice (some ⟨g, 0, none⟩) n cap) (hk : k < n) : (w.setCell ⟨g, k, none⟩ u).ownsRow B e 1 v n (xs.set k u) := by
  obtain ⟨h1, h2⟩ := h
  refine ⟨by simpa using h1, ?_⟩
  rcases h2 with ⟨h2, h3⟩ | ⟨g', cap', cur, h2, h3, h4, h5, h6, h7, h8⟩
  · omega
  · rw [h2] at hv
    obtain ⟨rfl, rfl⟩ : g' = g ∧ cap' = cap := by simpa using hv
    refine .inr ⟨g', cap', cur.setIfInBounds k u, h2, h3, ?_, h5, h6, by simpa using h7, ?_⟩
    · simp [World.setCell, Array.getElem?_modify, h4]
    · rw [Array.toList_setIfInBounds, List.take_set, h8]

def LvRow (w : World) (B : Nat) (S : Nat → Prop) (v : Value) (xs : List Lv) (k : Nat) : Prop :=
  ∃ es1 es2 L, w.ownsRow B 47 1 v xs.length (es1 ++ es2) ∧ ROs w B ((xs.take k).map lvD) es1 L ∧ (v.ownBlock.toList ++ L).Nodup ∧ RCs w (fun k => S k ∧ some k ≠ v.ownBlock) ((xs.drop k).map lvD) es2
theorem LvRow.start {w : World} {B : Nat} {S : Nat → Prop} {v : Value} {xs : List Lv} (h : RG w B S 47 1 (xs.map lvD) v) : LvRow w B S v xs 0 := by
  obtain ⟨h1, h2, es, h3, h4⟩ := h
  refine ⟨[], es, [], by simpa using h3, by simp only [List.take_zero, List.map_nil]; unfold ROs; exact ⟨rfl, rfl⟩, ?_, by simpa using h4⟩
  cases v.ownBlock <;> simp
theorem LvRow.done {w : World} {B : Nat} {S : Nat → Prop} {v : Value} {xs : List Lv} {k : Nat} (h : LvRow w B S v xs k) (hk : ¬ k < xs.length) (hM : xs.length ≤ 4294967296) : ∃ L, RO w B (.l 47 1 (xs.map lvD)) [v] L ∧ L.Nodup := by
  obtain ⟨es1, es2, L, h1, h2, h3, h4⟩ := h
  rw [take_all hk] at h2
  rw [List.drop_eq_nil_of_le (by omega)] at h4
  simp only [List.map_nil] at h4
  unfold RCs at h4
  subst h4
  refine ⟨v.ownBlock.toList ++ L, ?_, h3⟩
  unfold RO
  exact ⟨v, es1, L, rfl, by simpa [M] using hM, lvs_size _, by simpa using h1, h2, rfl⟩
theorem LvRow.step {w w1 : World} {B B1 : Nat} {S : Nat → Prop} {v u : Value} {xs : List Lv} {k g cap : Nat} (h : LvRow w B S v xs k) (hk : k < xs.length) (hv : v = .slice (some ⟨g, 0, none⟩) xs.length cap)
    (hx : Ext no w w1) {L1 : List Nat} (hn : RO w1 B1 (.l 237 2 (xs[k].map ptD)) [u] L1) (hnd : L1.Nodup) (hB : w.heap.size ≤ B1) (hB2 : B ≤ w.heap.size) : LvRow (w1.setCell ⟨g, k, none⟩ u) B S v xs (k + 1) := by
  obtain ⟨es1, es2, L, h1, h2, h3, h4⟩ := h
  have hob : v.ownBlock = some g := by rw [hv]; rfl
  have hg := h1.lt g hob
  have hl1 : es1.length = k := by rw [h2.len, D.sizes_eq (z := 1) (lvs_size _)]; simp; omega
  rw [List.drop_eq_getElem_cons hk, List.map_cons] at h4
  unfold RCs at h4
  obtain ⟨c1, c2, rfl, h5, h6⟩ := h4
  obtain ⟨A, c, rfl, _⟩ := RC.lv.1 h5
  have hLlt : ∀ x ∈ L, x < w.heap.size ∧ x ≠ g := fun x hx => ⟨(ROs.lt _ _ _ h2 x hx).2, fun e => by
    have := (List.nodup_append.1 h3).2.2 g (by simp [hob]) x hx
    omega⟩
  have hL1 : ∀ x ∈ L1, w.heap.size ≤ x := fun x hx => by have := (RO.lt _ _ _ hn x hx).1; omega
  have hfr : ∀ x, x < w.heap.size → x ≠ g → (w1.setCell ⟨g, k, none⟩ u).heap[x]? = w.heap[x]? := fun x hx1 hx2 => (Below.heap_setCell _ _ _ _ hx2).trans (hx.block x hx1 no_not)
  have hfr1 : ∀ x, x ≠ g → (w1.setCell ⟨g, k, none⟩ u).heap[x]? = w1.heap[x]? := fun x hx2 => Below.heap_setCell _ _ _ _ hx2
  have hsz : w.heap.size ≤ (w1.setCell ⟨g, k, none⟩ u).heap.size := by simpa [World.setCell] using hx.size
  refine ⟨es1 ++ [u], c2, L ++ L1, ?_, ?_, ?_, ?_⟩
  · have h1' : w1.ownsRow B 47 1 v xs.length (es1 ++ ([.slice A xs[k].length c] ++ c2)) := ownsRow.frame h1 (fun x hx' => hx.block x (h1.lt x hx').2 no_not)
    have := ownsRow.set1 (u := u) h1' hv hk
    rw [List.set_append, if_neg (by omega), hl1, Nat.sub_self] at this
    simpa using this
  · rw [take_map lvD hk]
    refine ROs.append (ROs.frame _ _ _ (fun x hx' => hfr x (hLlt x hx').1 (hLlt x hx').2) h2) (ROs.single (RO.lv.2 ⟨u, rfl, ?_⟩))
    exact RO.frame _ _ _ (fun x hx' => hfr1 x (by have := hL1 x hx'; omega)) (RO.weaken _ _ _ (fun x hx' => by have := hL1 x hx'; omega) hn)
  · rw [← List.append_assoc]
    refine List.nodup_append.2 ⟨h3, hnd, fun x hx y hy e => ?_⟩
    have := hL1 y hy
    rcases List.mem_append.1 hx with hx | hx
    · rw [hob] at hx
      have : x = g := by simpa using hx
      omega
    · have := (hLlt x hx).1
      omega
  · exact RCs.frame hsz (fun _ _ h => h) (fun x hx1 hS => hfr x hx1 (fun e => hS.2 (by rw [hob, e]))) _ _ h6
theorem LvRow.ext {w w' : World} {B : Nat} {S : Nat → Prop} {v : Value} {xs : List Lv} {k : Nat} (h : LvRow w B S v xs k) (hx : Ext no w w') : LvRow w' B S v xs k := by
  obtain ⟨es1, es2, L, h1, h2, h3, h4⟩ := h
  exact ⟨es1, es2, L, ownsRow.frame h1 (fun x hx' => hx.block x (h1.lt x hx').2 no_not), ROs.frame _ _ _ (fun x hx' => hx.block x (ROs.lt _ _ _ h2 x hx').2 no_not) h2, h3, RCs.frame hx.size (fun _ _ h => h) (fun x hx' _ => hx.block x hx' no_not) _ _ h4⟩
theorem LvRow.at_ {w : World} {B : Nat} {S : Nat → Prop} {v : Value} {xs : List Lv} {k : Nat} (h : LvRow w B S v xs k) (hk : k < xs.length) :
    ∃ g cap A c, v = .slice (some ⟨g, 0, none⟩) xs.length cap ∧ B ≤ g ∧ g < w.heap.size ∧ w.cell? ⟨g, k, none⟩ = some (.slice A xs[k].length c) ∧ w.frozen? ⟨g, k, none⟩ = false ∧ RC w S (.l 237 2 (xs[k].map ptD)) [.slice A xs[k].length c] := by
  obtain ⟨es1, es2, L, h1, h2, h3, h4⟩ := h
  have hl1 : es1.length = k := by rw [h2.len, D.sizes_eq (z := 1) (lvs_size _)]; simp; omega
  rw [List.drop_eq_getElem_cons hk, List.map_cons] at h4
  unfold RCs at h4
  obtain ⟨c1, c2, rfl, h5, h6⟩ := h4
  obtain ⟨A, c, rfl, h7⟩ := RC.lv.1 h5
  have hlt := h1.lt
  rcases h1.2 with ⟨_, h8⟩ | ⟨g, cap, cur, h8, h9, h10, h11, h12, h13, h14⟩
  · omega
  · refine ⟨g, cap, A, c, h8, h9, (hlt g (by rw [h8]; rfl)).2, ?_, by simp [World.frozen?, h10], RC.frame (Nat.le_refl _) (fun _ _ h => h.1) (fun _ _ _ => rfl) _ _ h7⟩
    rw [cell_of_row w g k cur _ (0, 0) h10]
    have : (cur.toList.take (xs.length * 1))[k]? = some (.slice A xs[k].length c) := by
      rw [h14, List.getElem?_append_right (by omega), hl1, Nat.sub_self]; rfl
    rw [List.getElem?_take] at this
    split at this
    · simpa using this
    · cases this

def TH (w : World) (S : Nat → Prop) (t : Tm) (v : Value) (w' : World) : Prop := ∃ A4 c4 L K ck, v = .agg #[.int .i64 t.k, .int .i64 t.n, .int .i64 t.a, .slice A4 t.ls.length c4, .slice K t.ks.length ck] ∧ inI t.k ∧ inI t.n ∧ inI t.a ∧
  RO w' w.heap.size (.l 47 1 (t.ls.map lvD)) [.slice A4 t.ls.length c4] L ∧ L.Nodup ∧ RC w' S (.l 26 5 (t.ks.map Tm.d)) [.slice K t.ks.length ck]
def PH (w : World) (S : Nat → Prop) (t : Tm) (e : Ending) (w' : World) : Prop := ∃ v, e = .returned v ∧ TH w S t v w' ∧ Ext no w w'
theorem LvRow.far {w : World} {B : Nat} {S : Nat → Prop} {v u : Value} {xs : List Lv} {k : Nat} {p : Addr} (h : LvRow w B S v xs k) (hp : p.block < B) (hS : ∀ x, S x → x ≠ p.block) : LvRow (w.setCell p u) B S v xs k := by
  obtain ⟨es1, es2, L, h1, h2, h3, h4⟩ := h
  exact ⟨es1, es2, L, ownsRow.frame h1 (fun x hx' => Below.heap_setCell _ _ _ _ (by have := (h1.lt x hx').1; omega)), ROs.frame _ _ _ (fun x hx' => Below.heap_setCell _ _ _ _ (by have := (ROs.lt _ _ _ h2 x hx').1; omega)) h2, h3,
    RCs.frame (by simp [World.setCell]) (fun _ _ h => h) (fun x _ hx' => Below.heap_setCell _ _ _ _ (hS x hx'.1)) _ _ h4⟩
set_option maxHeartbeats 1000000 in
theorem own_calls {w : World} {S : Nat → Prop} {t : Tm} {v : Value} (h : TV w S t v) : Calls Tryz.prog 163 #[v] w (PH w S t) := by
  obtain ⟨A0, ca, K0, ck, rfl, hrc⟩ := h
  obtain ⟨_, _, _, _, he, i1, i2, i3, hls, hks⟩ := RC.tm.1 hrc
  simp only [List.cons.injEq, Value.slice.injEq, and_true, true_and] at he
  obtain ⟨⟨rfl, rfl⟩, rfl, rfl⟩ := he
  have hM := hls.lenM
  go_enter Tryz.func163, Tryz.ntmps163
  go_wp2_with fail
  refine (cloneLevels (hls.bd.ext0 (((Ext.refl _ _).alloc _).alloc _))).mono ?_
  rintro e w1 ⟨A4, c4, rfl, hg, hx1⟩
  simp only [List.length_map] at hg ⊢
  have b1 := ((Blk.new rfl).alloc _).ext0 hx1
  have b2 := (Blk.new (g := w.heap.size + 1) (by simp)).ext0 hx1
  have hsz := hx1.size
  simp only [World.size_alloc] at hsz hg
  have hx0 : Ext no w (w1.setCell ⟨w.heap.size, 3, none⟩ (.slice A4 t.ls.length c4)) := ((((Ext.refl _ _).alloc _).alloc _).seq hx1).setCell (by simp) _
  have c1 := b1.cells
  have f1 := b1.frz
  go_wp2_with fail
  have b1' := b1.set 3 (.slice A4 t.ls.length c4)
  have b2' := b2.far (p := ⟨w.heap.size, 3, none⟩) (by simp) (.slice A4 t.ls.length c4)
  have hrow := (LvRow.start hg).far (p := ⟨w.heap.size, 3, none⟩) (u := .slice A4 t.ls.length c4) (by simp; omega) (fun x hx => by have := hx.2; simp; omega)
  clear c1 f1 b1 b2
  generalize w1.setCell ⟨w.heap.size, 3, none⟩ (.slice A4 t.ls.length c4) = W0 at b1' b2' hrow hx0
  go_loopw [11] (fun i wr => ∃ k : Nat, k ≤ t.ls.length ∧ i = .int .i64 k ∧ LvRow wr (w.heap.size + 1 + 1) (fun k => S k ∧ k < w.heap.size) (.slice A4 t.ls.length c4) t.ls k ∧ Ext (fun b => some b = (Value.slice A4 t.ls.length c4).ownBlock) W0 wr) (fun i _ => t.ls.length - (intOf i).toNat)
  case atStart => exact ⟨0, Nat.zero_le _, rfl, hrow, Ext.refl _ _⟩
  case round =>
    obtain ⟨k, hk, rfl, hrow, hext⟩ := hrel
    by_cases hlt : k < t.ls.length
    · obtain ⟨g, cap, A, c, hv, hg1, hg2, hc, hf, hpc⟩ := hrow.at_ hlt
      obtain ⟨rfl, rfl⟩ : A4 = some ⟨g, 0, none⟩ ∧ c4 = cap := by simpa using hv
      have b1 := b1'.ext hext (by simp [Value.ownBlock]; omega)
      have c1 : wr.cell? ⟨w.heap.size, 3, none⟩ = some (.slice (some ⟨g, 0, none⟩) t.ls.length c4) := b1.cells 3
      clear hv
      go_wp2_with fail
      refine wp_region_L (fun w' => w'.cell? ⟨w.heap.size, 3, none⟩ = some (.slice (some ⟨g, 0, none⟩) t.ls.length c4) ∧ w'.cell? ⟨g, k, none⟩ = some (.slice A t.ls[k].length c)) [12] (by kernel_rfl) ?_
      have hS : (fun w' : World => w'.cell? ⟨w.heap.size, 3, none⟩ = some (.slice (some ⟨g, 0, none⟩) t.ls.length c4) ∧ w'.cell? ⟨g, k, none⟩ = some (.slice A t.ls[k].length c)) wr.drew := ⟨c1, hc⟩
      refine wpL_take (i := 0) (v := ?v1_) rfl (by kernel_rfl) (fun _ _ _ h => h) hS (by rfl) (fun w_ hw_ => ?h1_) ?_
      case h1_ => (try simp only [Cells_cons, Cells_nil, and_true] at hw_); go_split_ands; go_simp; try with_reducible rfl
      simp only [List.getElem_toArray, List.getElem_cons_zero, List.getElem_cons_succ, Act.put, List.setIfInBounds_toArray, List.set_cons_zero, List.set_cons_succ]
      refine wpL_take (i := 1) (v := ?v2_) rfl (by kernel_rfl) (fun _ _ _ h => h) hS (by rfl) (fun w_ hw_ => ?h2_) ?_
      case h2_ => (try simp only [Cells_cons, Cells_nil, and_true] at hw_); go_split_ands; go_simp; try with_reducible rfl
      simp only [List.getElem_toArray, List.getElem_cons_zero, List.getElem_cons_succ, Act.put, List.setIfInBounds_toArray, List.set_cons_zero, List.set_cons_succ]
      refine wpL_take (i := 2) (v := ?v3_) rfl (by kernel_rfl) (fun _ _ _ h => h) hS (by rfl) (fun w_ hw_ => ?h3_) ?_
      case h3_ => (try simp only [Cells_cons, Cells_nil, and_true] at hw_); go_split_ands; go_simp; try with_reducible rfl
      simp only [List.getElem_toArray, List.getElem_cons_zero, List.getElem_cons_succ, Act.put, List.setIfInBounds_toArray, List.set_cons_zero, List.set_cons_succ]
      refine wpL_take (i := 3) (v := ?v4_) rfl (by kernel_rfl) (fun _ _ _ h => h) hS (by rfl) (fun w_ hw_ => ?h4_) ?_
      case h4_ => (try simp only [Cells_cons, Cells_nil, and_true] at hw_); go_split_ands; go_simp; try with_reducible rfl
      simp only [List.getElem_toArray, List.getElem_cons_zero, List.getElem_cons_succ, Act.put, List.setIfInBounds_toArray, List.set_cons_zero, List.set_cons_succ]
      refine wpL_take (i := 4) (v := ?v5_) rfl (by kernel_rfl) (fun _ _ _ h => h) hS (by rfl) (fun w_ hw_ => ?h5_) ?_
      case h5_ => (try simp only [Cells_cons, Cells_nil, and_true] at hw_); go_split_ands; go_simp; try with_reducible rfl
      simp only [List.getElem_toArray, List.getElem_cons_zero, List.getElem_cons_succ, Act.put, List.setIfInBounds_toArray, List.set_cons_zero, List.set_cons_succ]
      refine wpL_take (i := 5) (v := ?v6_) rfl (by kernel_rfl) (fun _ _ _ h => h) hS (by rfl) (fun w_ hw_ => ?h6_) ?_
      case h6_ => (try simp only [Cells_cons, Cells_nil, and_true] at hw_); go_split_ands; go_simp; try with_reducible rfl
      simp only [List.getElem_toArray, List.getElem_cons_zero, List.getElem_cons_succ, Act.put, List.setIfInBounds_toArray, List.set_cons_zero, List.set_cons_succ]
      refine wpL_take (i := 6) (v := ?v7_) rfl (by kernel_rfl) (fun _ _ _ h => h) hS (by rfl) (fun w_ hw_ => ?h7_) ?_
      case h7_ => (try simp only [Cells_cons, Cells_nil, and_true] at hw_); go_split_ands; go_simp; try with_reducible rfl
      simp only [List.getElem_toArray, List.getElem_cons_zero, List.getElem_cons_succ, Act.put, List.setIfInBounds_toArray, List.set_cons_zero, List.set_cons_succ]
      refine wpL_take (i := 7) (v := ?v8_) rfl (by kernel_rfl) (fun _ _ _ h => h) hS (by rfl) (fun w_ hw_ => ?h8_) ?_
      case h8_ => (try simp only [Cells_cons, Cells_nil, and_true] at hw_); go_split_ands; go_simp; try with_reducible rfl
      simp only [List.getElem_toArray, List.getElem_cons_zero, List.getElem_cons_succ, Act.put, List.setIfInBounds_toArray, List.set_cons_zero, List.set_cons_succ]
      refine wpL_take (i := 8) (v := ?v9_) rfl (by kernel_rfl) (fun _ _ _ h => h) hS (by rfl) (fun w_ hw_ => ?h9_) ?_
      case h9_ => (try simp only [Cells_cons, Cells_nil, and_true] at hw_); go_split_ands; go_simp; try with_reducible rfl
      simp only [List.getElem_toArray, List.getElem_cons_zero, List.getElem_cons_succ, Act.put, List.setIfInBounds_toArray, List.set_cons_zero, List.set_cons_succ]
      refine wpL_do (i := 9) rfl (by kernel_rfl) (by rfl) (fun K_ hK_ => ?_)
      go_simp
      refine (cloneParts (hpc.ext0 (Ext.refl _ _).drew)).mono ?_
      rintro e w2 ⟨A2, c2, rfl, hpg, hx2⟩
      simp only [List.length_map] at hpg ⊢
      have f2 := hx2.frz (p := ⟨g, k, none⟩) hg2 no_not hf
      refine hK_ _ _ (fun _ => ⟨hx2.keep c1, hx2.keep hc⟩) (fun hS2 => ?_)
      have hS2 := hS2 (by decide)
      refine wpL_take (i := 10) (v := ?v10_) rfl (by kernel_rfl) (fun _ _ _ h => h) hS2 (by rfl) (fun w_ hw_ => ?h10_) ?_
      case h10_ => (try simp only [Cells_cons, Cells_nil, and_true] at hw_); go_split_ands; go_simp; try with_reducible rfl
      simp only [List.getElem_toArray, List.getElem_cons_zero, List.getElem_cons_succ, Act.put, List.setIfInBounds_toArray, List.set_cons_zero, List.set_cons_succ]
      refine wpL_take (i := 11) (v := ?v11_) rfl (by kernel_rfl) (fun _ _ _ h => h) hS2 (by rfl) (fun w_ hw_ => ?h11_) ?_
      case h11_ => (try simp only [Cells_cons, Cells_nil, and_true] at hw_); go_split_ands; go_simp; try with_reducible rfl
      simp only [List.getElem_toArray, List.getElem_cons_zero, List.getElem_cons_succ, Act.put, List.setIfInBounds_toArray, List.set_cons_zero, List.set_cons_succ]
      have c3 := hx2.keep hc
      refine wpL_do (i := 12) rfl (by kernel_rfl) (by rfl) (fun K_ hK_ => ?_)
      go_simp
      refine hK_ _ _ (fun h => absurd (by decide) h) (fun _ => ?_)
      refine wpL_done (by kernel_rfl) ?_ _
      go_wp2_with fail
      go_roundw
      case rel => exact ⟨k + 1, by omega, by go_num, hrow.step hlt rfl hx2.undrew (RG.parts hpg) (opt_nodup _) (Nat.le_refl _) (by have := hext.size; have := b2'.lt; omega), hext.trans ((hx2.undrew.mono (Z := fun b => some b = (Value.slice (some ⟨g, 0, none⟩) t.ls.length c4).ownBlock) (fun _ _ h => h.elim)).setCell (p := ⟨g, k, none⟩) (.inl rfl) _) (fun _ _ h => h) (fun _ _ h => h)⟩
      case measure => simp [intOf]; omega
    · obtain ⟨L, hro, hnd⟩ := hrow.done hlt hM.1
      have hne : ∀ x, x < w.heap.size + 1 + 1 → ¬ some x = (Value.slice A4 t.ls.length c4).ownBlock := fun x hx e => by
        have := (hg.2.2.choose_spec.1).lt x e.symm
        omega
      have b1 := b1'.ext hext (hne _ (by omega))
      have b2 := b2'.ext hext (hne _ (by omega))
      have c1 := b1.cells
      have c2 := b2.cells
      have f2 := b2.frz
      go_wp2_with fail
      refine bodyPost_ret (v := .agg #[.int .i64 t.k, .int .i64 t.n, .int .i64 t.a, .slice A4 t.ls.length c4, .slice K0 t.ks.length ck]) (by simp [results, Tryz.results163, go_sem, c2]) rfl ⟨_, rfl, ⟨A4, c4, L, K0, ck, rfl, i1, i2, i3, ?_, hnd, ?_⟩, ?_⟩
      · exact (hro.ext (Ext.set5 _ _ _ _ _ _ _) (fun k h1 _ e => by omega)).ge (by omega)
      · exact ((hks.bd.ext (hx0.old hext (fun i hi => hne i (by omega))) (fun _ _ _ => no_not)).ext (Ext.set5 _ _ _ _ _ _ _) (fun k _ h1 e => by have := h1.2; omega)).frame (Nat.le_refl _) (fun _ _ h => h.1) (fun _ _ _ => rfl)
      · exact (hx0.old hext (fun i hi => hne i (by omega))).old (Ext.set5 _ _ _ _ _ _ _) (fun k h1 e => by omega)
end Go.Proofs.YtmedomglemllnaaGreatDoor
