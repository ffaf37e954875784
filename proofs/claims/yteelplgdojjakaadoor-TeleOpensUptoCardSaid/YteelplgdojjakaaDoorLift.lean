/- term.Lift: contract. -/
import Derived.Test.YteelplgdojjakaaDoorTerm
namespace Go.Proofs.YteelplgdojjakaaDoor
set_option linter.unusedSimpArgs false
set_option linter.unusedVariables false
open Go.RowKit

/-- Is the node an outer variable, from so many on? -/
def outer (b fr : Int) (t : Tm) : Bool := t.k == 1 && decide (b ≤ t.n) && decide (fr ≤ wrap64 (t.n - b))
def liftF (n fr : Int) : Turn := fun b t => .inr (t.k, if outer b fr t then wrap64 (t.n + n) else t.n, t.a, t.ls)
/-- Lift. -/
def liftT (t : Tm) (n fr : Int) : Tm := walkT (liftF n fr) 0 t
def IntAt (w : World) (b : Nat) (n : Int) : Prop := w.cell? ⟨b, 0, none⟩ = some (.int .i64 n)
theorem run_enter {P : Program} {f : FuncId} {fn : Func} (hf : P.funcs[f]? = some fn) (h : ((fn.name == "runtime.NumGoroutine") || fn.body.isNone) = false) (args : Array Value) (w : World) : (callFunc f args).run P w = .ok (.enter f args) w := by
  simp only [Bool.or_eq_false_iff] at h
  have h1 : ¬ fn.name = "runtime.NumGoroutine" := by simpa using h.1
  have h2 : ¬ fn.body = none := fun e => by rw [e] at h; simp at h
  simp [callFunc, hf, h1, h2]
theorem IntAt.ext {w w' : World} {b : Nat} {n : Int} (h : IntAt w b n) (hx : Ext no w w') : IntAt w' b n := hx.keep h
theorem PTurn.mk {w W w' : World} {S : Nat → Prop} {t : Tm} {h : Int × Int × Int × List Lv} {v : Value} (hW : Ext no w W) (h1 : TH W S (.mk h.1 h.2.1 h.2.2.1 h.2.2.2 t.ks) v w') (hx : Ext no W w') : PTurn w S t (.inr h) (.returned (.tuple #[v, .bool false])) w' := by
  obtain ⟨A4, c4, L, K, ck, rfl, i1, i2, i3, hro, hnd, hks⟩ := h1
  exact ⟨_, rfl, ⟨A4, c4, L, K, ck, rfl, i1, i2, i3, hro.ge hW.size, hnd, hks⟩, hW.seq hx⟩
set_option maxRecDepth 100000 in
set_option maxHeartbeats 2000000 in
theorem lift1_calls (bf bn : Nat) (n fr : Int) : TurnC 75 #[.pointer (some ⟨bf, 0, none⟩), .pointer (some ⟨bn, 0, none⟩)] (fun w => IntAt w bf fr ∧ IntAt w bn n) (liftF n fr) := by
  refine ⟨fun w w' h hx => ⟨h.1.ext hx, h.2.ext hx⟩, fun args w => run_enter Tryd.func75 (by kernel_rfl) args w, ?_⟩
  rintro w S b t v ⟨hf, hn⟩ hT hb ⟨A0, ca, K0, ck, rfl, hrc⟩
  unfold IntAt at hf hn
  have lf := cell_lt hf
  have ln := cell_lt hn
  obtain ⟨_, _, _, _, he, i1, i2, i3, hls, hks⟩ := RC.tm.1 hrc
  clear he hls hks
  show Calls Tryd.prog 75 #[.agg #[.int .i64 b, .func (.func 75) #[] #[.pointer (some ⟨bf, 0, none⟩), .pointer (some ⟨bn, 0, none⟩)]], _, .pointer (some ⟨bf, 0, none⟩), .pointer (some ⟨bn, 0, none⟩)] w _
  go_enter Tryd.func75, Tryd.ntmps75
  go_wp2_with fail
  refine (means_calls b t.n).mono ?_
  rintro e w1 ⟨rfl, hx1⟩
  have b0 := (((Blk.new rfl).alloc _).alloc _).ext0 hx1
  have b1 := ((Blk.new (g := w.heap.size + 1) (by simp)).alloc _).ext0 hx1
  have b2 := (Blk.new (g := w.heap.size + 1 + 1) (by simp)).ext0 hx1
  have hx0 := ((((Ext.refl no w).alloc _).alloc _).alloc _).seq hx1
  have hf1 := hx0.keep hf
  have hn1 := hx0.keep hn
  have lf1 := cell_lt hf1
  have ln1 := cell_lt hn1
  have nf : bf ≠ w.heap.size + 1 + 1 := by omega
  have c1 := b1.cells
  have f1 := b1.frz
  have l2 := b2.lt
  have hrc1 := hrc.bd.ext0 hx0
  obtain ⟨_, _, _, _, he1, _, _, _, hls1, hks1⟩ := RC.tm.1 hrc1
  simp only [List.cons.injEq, Value.slice.injEq, and_true, true_and] at he1
  obtain ⟨⟨rfl, rfl⟩, rfl, rfl⟩ := he1
  clear hf hn hrc hx1 b0 lf ln nf
  by_cases h1 : t.k = 1
  · have g1 : (t.k == 1) = true := by simpa using h1
    by_cases h2 : b ≤ t.n
    · have g2 : decide (b ≤ t.n) = true := by simpa using h2
      by_cases h3 : fr ≤ wrap64 (t.n - b)
      · have g3 : decide (fr ≤ wrap64 (t.n - b)) = true := by simpa using h3
        have E := Lib.hid (show liftF n fr b t = .inr (t.k, wrap64 (t.n + n), t.a, t.ls) by simp [liftF, outer, g1, g2, g3])
        clear h1 h2 h3
        go_wp2_with fail
        have hxw := ((Ext.refl (fun x => x = w.heap.size + 1) w1).setCell (p := ⟨w.heap.size + 1, 1, none⟩) (.inl rfl) (.int .i64 (wrap64 (t.n + n))))
        refine (own_calls (t := .mk t.k (wrap64 (t.n + n)) t.a t.ls t.ks) (S := fun x => S x ∧ x < w.heap.size) ⟨A0, ca, K0, ck, rfl, RC.tm.2 ⟨_, _, _, _, rfl, i1, wrap64_inI _, i3, hls1.ext hxw (fun x _ hx e => by have := hx.2; omega), hks1.ext hxw (fun x _ hx e => by have := hx.2; omega)⟩⟩).mono ?_
        rintro e w2 ⟨v, rfl, ⟨A4, c4, L, K4, k4, rfl, j1, j2, j3, hro, hnd, hks4⟩, hx2⟩
        have b2' := (b2.ext hxw (by omega)).ext0 hx2
        have c2 := b2'.cells
        have f2 := b2'.frz
        have hx3 : Ext no w w2 := (hx0.old hxw (by omega)).seq hx2
        have hsz := hxw.size
        simp only [Tm.k_mk, Tm.n_mk, Tm.a_mk, Tm.ls_mk, Tm.ks_mk] at j1 j2 j3 hro hks4 ⊢
        go_wp2_with fail
        refine bodyPost_ret (v := .tuple #[.agg #[.int .i64 t.k, .int .i64 (wrap64 (t.n + n)), .int .i64 t.a, .slice A4 t.ls.length c4, .slice K4 t.ks.length k4], .bool false]) (by simp [results, Tryd.results75, go_sem, c2]) rfl ?_
        rw [E.out]
        refine PTurn.mk (W := w) (Ext.refl _ _) ⟨A4, c4, L, K4, k4, rfl, j1, j2, j3, ?_, hnd, ?_⟩ (hx3.old (Ext.set5 _ _ _ _ _ _ _) (fun x h1 e => by omega))
        · exact (hro.ext (Ext.set5 _ _ _ _ _ _ _) (fun x h1 _ e => by omega)).ge (by omega)
        · exact RC.frame (Nat.le_refl _) (fun _ _ h => h.1) (fun _ _ _ => rfl) _ _ (hks4.ext (Ext.set5 _ _ _ _ _ _ _) (fun x _ hx e => by have := hx.2; omega))
      · have g3 : decide (fr ≤ wrap64 (t.n - b)) = false := by simpa using h3
        have E := Lib.hid (show liftF n fr b t = .inr (t.k, t.n, t.a, t.ls) by simp [liftF, outer, g1, g2, g3])
        clear h1 h2 h3
        go_wp2_with fail
        have hxw := Ext.refl (fun x => x = w.heap.size + 1) w1
        refine (own_calls (t := .mk t.k (t.n) t.a t.ls t.ks) (S := fun x => S x ∧ x < w.heap.size) ⟨A0, ca, K0, ck, rfl, RC.tm.2 ⟨_, _, _, _, rfl, i1, i2, i3, hls1.ext hxw (fun x _ hx e => by have := hx.2; omega), hks1.ext hxw (fun x _ hx e => by have := hx.2; omega)⟩⟩).mono ?_
        rintro e w2 ⟨v, rfl, ⟨A4, c4, L, K4, k4, rfl, j1, j2, j3, hro, hnd, hks4⟩, hx2⟩
        have b2' := (b2.ext hxw (by omega)).ext0 hx2
        have c2 := b2'.cells
        have f2 := b2'.frz
        have hx3 : Ext no w w2 := (hx0.old hxw (by omega)).seq hx2
        have hsz := hxw.size
        simp only [Tm.k_mk, Tm.n_mk, Tm.a_mk, Tm.ls_mk, Tm.ks_mk] at j1 j2 j3 hro hks4 ⊢
        go_wp2_with fail
        refine bodyPost_ret (v := .tuple #[.agg #[.int .i64 t.k, .int .i64 (t.n), .int .i64 t.a, .slice A4 t.ls.length c4, .slice K4 t.ks.length k4], .bool false]) (by simp [results, Tryd.results75, go_sem, c2]) rfl ?_
        rw [E.out]
        refine PTurn.mk (W := w) (Ext.refl _ _) ⟨A4, c4, L, K4, k4, rfl, j1, j2, j3, ?_, hnd, ?_⟩ (hx3.old (Ext.set5 _ _ _ _ _ _ _) (fun x h1 e => by omega))
        · exact (hro.ext (Ext.set5 _ _ _ _ _ _ _) (fun x h1 _ e => by omega)).ge (by omega)
        · exact RC.frame (Nat.le_refl _) (fun _ _ h => h.1) (fun _ _ _ => rfl) _ _ (hks4.ext (Ext.set5 _ _ _ _ _ _ _) (fun x _ hx e => by have := hx.2; omega))
    · have g2 : decide (b ≤ t.n) = false := by simpa using h2
      have E := Lib.hid (show liftF n fr b t = .inr (t.k, t.n, t.a, t.ls) by simp [liftF, outer, g1, g2])
      clear h1 h2
      go_wp2_with fail
      · skip
        have hxw := Ext.refl (fun x => x = w.heap.size + 1) w1
        refine (own_calls (t := .mk t.k (t.n) t.a t.ls t.ks) (S := fun x => S x ∧ x < w.heap.size) ⟨A0, ca, K0, ck, rfl, RC.tm.2 ⟨_, _, _, _, rfl, i1, i2, i3, hls1.ext hxw (fun x _ hx e => by have := hx.2; omega), hks1.ext hxw (fun x _ hx e => by have := hx.2; omega)⟩⟩).mono ?_
        rintro e w2 ⟨v, rfl, ⟨A4, c4, L, K4, k4, rfl, j1, j2, j3, hro, hnd, hks4⟩, hx2⟩
        have b2' := (b2.ext hxw (by omega)).ext0 hx2
        have c2 := b2'.cells
        have f2 := b2'.frz
        have hx3 : Ext no w w2 := (hx0.old hxw (by omega)).seq hx2
        have hsz := hxw.size
        simp only [Tm.k_mk, Tm.n_mk, Tm.a_mk, Tm.ls_mk, Tm.ks_mk] at j1 j2 j3 hro hks4 ⊢
        go_wp2_with fail
        refine bodyPost_ret (v := .tuple #[.agg #[.int .i64 t.k, .int .i64 (t.n), .int .i64 t.a, .slice A4 t.ls.length c4, .slice K4 t.ks.length k4], .bool false]) (by simp [results, Tryd.results75, go_sem, c2]) rfl ?_
        rw [E.out]
        refine PTurn.mk (W := w) (Ext.refl _ _) ⟨A4, c4, L, K4, k4, rfl, j1, j2, j3, ?_, hnd, ?_⟩ (hx3.old (Ext.set5 _ _ _ _ _ _ _) (fun x h1 e => by omega))
        · exact (hro.ext (Ext.set5 _ _ _ _ _ _ _) (fun x h1 _ e => by omega)).ge (by omega)
        · exact RC.frame (Nat.le_refl _) (fun _ _ h => h.1) (fun _ _ _ => rfl) _ _ (hks4.ext (Ext.set5 _ _ _ _ _ _ _) (fun x _ hx e => by have := hx.2; omega))
  · have g1 : (t.k == 1) = false := by simpa using h1
    have E := Lib.hid (show liftF n fr b t = .inr (t.k, t.n, t.a, t.ls) by simp [liftF, outer, g1])
    clear h1
    go_wp2_with fail
    · skip
      · skip
        have hxw := Ext.refl (fun x => x = w.heap.size + 1) w1
        refine (own_calls (t := .mk t.k (t.n) t.a t.ls t.ks) (S := fun x => S x ∧ x < w.heap.size) ⟨A0, ca, K0, ck, rfl, RC.tm.2 ⟨_, _, _, _, rfl, i1, i2, i3, hls1.ext hxw (fun x _ hx e => by have := hx.2; omega), hks1.ext hxw (fun x _ hx e => by have := hx.2; omega)⟩⟩).mono ?_
        rintro e w2 ⟨v, rfl, ⟨A4, c4, L, K4, k4, rfl, j1, j2, j3, hro, hnd, hks4⟩, hx2⟩
        have b2' := (b2.ext hxw (by omega)).ext0 hx2
        have c2 := b2'.cells
        have f2 := b2'.frz
        have hx3 : Ext no w w2 := (hx0.old hxw (by omega)).seq hx2
        have hsz := hxw.size
        simp only [Tm.k_mk, Tm.n_mk, Tm.a_mk, Tm.ls_mk, Tm.ks_mk] at j1 j2 j3 hro hks4 ⊢
        go_wp2_with fail
        refine bodyPost_ret (v := .tuple #[.agg #[.int .i64 t.k, .int .i64 (t.n), .int .i64 t.a, .slice A4 t.ls.length c4, .slice K4 t.ks.length k4], .bool false]) (by simp [results, Tryd.results75, go_sem, c2]) rfl ?_
        rw [E.out]
        refine PTurn.mk (W := w) (Ext.refl _ _) ⟨A4, c4, L, K4, k4, rfl, j1, j2, j3, ?_, hnd, ?_⟩ (hx3.old (Ext.set5 _ _ _ _ _ _ _) (fun x h1 e => by omega))
        · exact (hro.ext (Ext.set5 _ _ _ _ _ _ _) (fun x h1 _ e => by omega)).ge (by omega)
        · exact RC.frame (Nat.le_refl _) (fun _ _ h => h.1) (fun _ _ _ => rfl) _ _ (hks4.ext (Ext.set5 _ _ _ _ _ _ _) (fun x _ hx e => by have := hx.2; omega))

set_option maxRecDepth 100000 in
set_option maxHeartbeats 1000000 in
theorem lift_calls {w : World} {S : Nat → Prop} {t : Tm} {v : Value} (hT : Tab w) (n fr : Int) (hv : TV w S t v) : Calls Tryd.prog 33 #[v, .int .i64 n, .int .i64 fr] w (PTm w (liftT t n fr)) := by
  obtain ⟨A0, ca, K0, ck, rfl, hrc⟩ := hv
  go_enter Tryd.func33, Tryd.ntmps33
  go_wp2_with fail
  have hxa : Ext no w _ := ((((Ext.refl no w).alloc (.cells #[.int .i64 t.k, .int .i64 t.n, .int .i64 t.a, .slice A0 t.ls.length ca, .slice K0 t.ks.length ck] 30)).alloc (.cells #[.int .i64 n] 3)).alloc (.cells #[.int .i64 fr] 3)).alloc (.cells #[.int .i64 0, .int .i64 0, .int .i64 0, .slice none 0 0, .slice none 0 0] 30)
  refine (walk_calls (lift1_calls (w.heap.size + 1 + 1) (w.heap.size + 1) n fr) t _ S 0 _ ⟨?_, ?_⟩ (hT.ext hxa) ⟨by decide, by decide⟩ ⟨_, _, _, _, rfl, hrc.ext0 hxa⟩).mono ?_
  · exact ((Blk.new (by simp)).alloc _).cells 0
  · exact (((Blk.new (g := w.heap.size + 1) (by simp)).alloc _).alloc _).cells 0
  rintro e w1 ⟨v, rfl, ⟨A1, c1, K1, k1, L, rfl, hro, hnd⟩, hx1⟩
  have b3 := (Blk.new (g := w.heap.size + 1 + 1 + 1) (by simp)).ext0 hx1
  have hx0 := hxa.seq hx1
  have c3 := b3.cells
  have f3 := b3.frz
  clear hrc hx1 hxa
  go_wp2_with fail
  refine bodyPost_ret (v := .agg #[.int .i64 (walkT (liftF n fr) 0 t).k, .int .i64 (walkT (liftF n fr) 0 t).n, .int .i64 (walkT (liftF n fr) 0 t).a, .slice A1 (walkT (liftF n fr) 0 t).ls.length c1, .slice K1 (walkT (liftF n fr) 0 t).ks.length k1]) (by simp [results, Tryd.results33, go_sem, c3]) rfl ⟨_, rfl, ⟨A1, c1, K1, k1, _, rfl, (hro.ext (Ext.set5 _ _ _ _ _ _ _) (fun x h1 _ e => by first | omega | (simp at h1; omega))).ge (by first | omega | (simp; omega)), hnd⟩, hx0.old (Ext.set5 _ _ _ _ _ _ _) (fun x h1 e => by omega)⟩
end Go.Proofs.YteelplgdojjakaaDoor
