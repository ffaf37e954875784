/- term.Lift: contract. -/
import Derived.Test.YtmedomglemllnaaDoorMgWalkG
import Derived.Test.YtmedomglemllnaaDoorMgAbove
namespace Go.Proofs.YtmedomglemllnaaDoor
set_option linter.unusedSimpArgs false
set_option linter.unusedVariables false
open Go.RowKit

/-- Is the node an outer variable, from so many on? -/
def outer (b fr : Int) (t : Tm) : Bool := t.k == 1 && decide (b ≤ t.n) && decide (fr ≤ wrap64 (t.n - b))
def liftF (n fr : Int) : Turn := fun b t => .inr (t.k, if outer b fr t then wrap64 (t.n + n) else t.n, t.a, t.ls)
/-- Lift. -/
def liftT (t : Tm) (n fr : Int) : Tm := walkT (liftF n fr) 0 t
def IntAt (w : World) (b : Nat) (n : Int) : Prop := w.cell? ⟨b, 0, none⟩ = some (.int .i64 n)
theorem run_enter {P : Program} {f : FuncId} {fn : Func} (hf : P.funcs[f]? = some fn) (h : ((fn.name == "runtime.NumGoroutine") || fn.body.isNone) = false) (args : Array Value) (w : World) : (callFunc f args).run P w = .ok (.enter f args) w := by
  simp only [Bool.or_eq_false_iff] at h
  have h1 : ¬ fn.name = "runtime.NumGoroutine" := by simpa using h.1
  have h2 : ¬ fn.body = none := fun e => by rw [e] at h; simp at h
  simp [callFunc, hf, h1, h2]
theorem IntAt.ext {w w' : World} {b : Nat} {n : Int} (h : IntAt w b n) (hx : Ext no w w') : IntAt w' b n := hx.keep h
theorem PTurn.mk {w W w' : World} {S : Nat → Prop} {t : Tm} {h : Int × Int × Int × List Lv} {v : Value} (hW : Ext no w W) (h1 : TH W S (.mk h.1 h.2.1 h.2.2.1 h.2.2.2 t.ks) v w') (hx : Ext no W w') : PTurn w S t (.inr h) (.returned (.tuple #[v, .bool false])) w' := by
  obtain ⟨A4, c4, L, K, ck, rfl, i1, i2, i3, hro, hnd, hks⟩ := h1
  exact ⟨_, rfl, ⟨A4, c4, L, K, ck, rfl, i1, i2, i3, hro.ge hW.size, hnd, hks⟩, hW.seq hx⟩
set_option maxRecDepth 100000 in
set_option maxHeartbeats 2000000 in
theorem lift1_calls (bf bn : Nat) (n fr : Int) : TurnC 67 #[.pointer (some ⟨bf, 0, none⟩), .pointer (some ⟨bn, 0, none⟩)] (fun w => IntAt w bf fr ∧ IntAt w bn n) (liftF n fr) := by
  refine ⟨fun w w' h hx => ⟨h.1.ext hx, h.2.ext hx⟩, fun args w => run_enter Tryd.func67 (by kernel_rfl) args w, ?_⟩
  rintro w S b t v ⟨hf, hn⟩ hT hb ⟨A0, ca, K0, ck, rfl, hrc⟩
  unfold IntAt at hf hn
  have lf := cell_lt hf
  have ln := cell_lt hn
  obtain ⟨_, _, _, _, he, i1, i2, i3, hls, hks⟩ := RC.tm.1 hrc
  clear he hls hks
  show Calls Tryd.prog 67 #[.agg #[.int .i64 b, .func (.func 67) #[] #[.pointer (some ⟨bf, 0, none⟩), .pointer (some ⟨bn, 0, none⟩)]], _, .pointer (some ⟨bf, 0, none⟩), .pointer (some ⟨bn, 0, none⟩)] w _
  go_enter Tryd.func67, Tryd.ntmps67
  go_wp2_with fail
  refine (means_calls b t.n).mono ?_
  rintro e w1 ⟨rfl, hx1⟩
  have b0 := (((Blk.new rfl).alloc _).alloc _).ext0 hx1
  have b1 := ((Blk.new (g := w.heap.size + 1) (by simp)).alloc _).ext0 hx1
  have b2 := (Blk.new (g := w.heap.size + 1 + 1) (by simp)).ext0 hx1
  have hx0 := ((((Ext.refl no w).alloc _).alloc _).alloc _).seq hx1
  have hf1 := hx0.keep hf
  have hn1 := hx0.keep hn
  have lf1 := cell_lt hf1
  have ln1 := cell_lt hn1
  have nf : bf ≠ w.heap.size + 1 + 1 := by omega
  have c1 := b1.cells
  have f1 := b1.frz
  have l2 := b2.lt
  have hrc1 := hrc.bd.ext0 hx0
  obtain ⟨_, _, _, _, he1, _, _, _, hls1, hks1⟩ := RC.tm.1 hrc1
  simp only [List.cons.injEq, Value.slice.injEq, and_true, true_and] at he1
  obtain ⟨⟨rfl, rfl⟩, rfl, rfl⟩ := he1
  clear hf hn hrc hx1 b0 lf ln nf
  by_cases h1 : t.k = 1
  · have g1 : (t.k == 1) = true := by simpa using h1
    by_cases h2 : b ≤ t.n
    · have g2 : decide (b ≤ t.n) = true := by simpa using h2
      by_cases h3 : fr ≤ wrap64 (t.n - b)
      · have g3 : decide (fr ≤ wrap64 (t.n - b)) = true := by simpa using h3
        have E := Lib.hid (show liftF n fr b t = .inr (t.k, wrap64 (t.n + n), t.a, t.ls) by simp [liftF, outer, g1, g2, g3])
        clear h1 h2 h3
        go_wp2_with fail
        have hxw := ((Ext.refl (fun x => x = w.heap.size + 1) w1).setCell (p := ⟨w.heap.size + 1, 1, none⟩) (.inl rfl) (.int .i64 (wrap64 (t.n + n))))
        refine (own_calls (t := .mk t.k (wrap64 (t.n + n)) t.a t.ls t.ks) (S := fun x => S x ∧ x < w.heap.size) ⟨A0, ca, K0, ck, rfl, RC.tm.2 ⟨_, _, _, _, rfl, i1, wrap64_inI _, i3, hls1.ext hxw (fun x _ hx e => by have := hx.2; omega), hks1.ext hxw (fun x _ hx e => by have := hx.2; omega)⟩⟩).mono ?_
        rintro e w2 ⟨v, rfl, ⟨A4, c4, L, K4, k4, rfl, j1, j2, j3, hro, hnd, hks4⟩, hx2⟩
        have b2' := (b2.ext hxw (by omega)).ext0 hx2
        have c2 := b2'.cells
        have f2 := b2'.frz
        have hx3 : Ext no w w2 := (hx0.old hxw (by omega)).seq hx2
        have hsz := hxw.size
        simp only [Tm.k_mk, Tm.n_mk, Tm.a_mk, Tm.ls_mk, Tm.ks_mk] at j1 j2 j3 hro hks4 ⊢
        go_wp2_with fail
        refine bodyPost_ret (v := .tuple #[.agg #[.int .i64 t.k, .int .i64 (wrap64 (t.n + n)), .int .i64 t.a, .slice A4 t.ls.length c4, .slice K4 t.ks.length k4], .bool false]) (by simp [results, Tryd.results67, go_sem, c2]) rfl ?_
        rw [E.out]
        refine PTurn.mk (W := w) (Ext.refl _ _) ⟨A4, c4, L, K4, k4, rfl, j1, j2, j3, ?_, hnd, ?_⟩ (hx3.old (Ext.set5 _ _ _ _ _ _ _) (fun x h1 e => by omega))
        · exact (hro.ext (Ext.set5 _ _ _ _ _ _ _) (fun x h1 _ e => by omega)).ge (by omega)
        · exact RC.frame (Nat.le_refl _) (fun _ _ h => h.1) (fun _ _ _ => rfl) _ _ (hks4.ext (Ext.set5 _ _ _ _ _ _ _) (fun x _ hx e => by have := hx.2; omega))
      · have g3 : decide (fr ≤ wrap64 (t.n - b)) = false := by simpa using h3
        have E := Lib.hid (show liftF n fr b t = .inr (t.k, t.n, t.a, t.ls) by simp [liftF, outer, g1, g2, g3])
        clear h1 h2 h3
        go_wp2_with fail
        have hxw := Ext.refl (fun x => x = w.heap.size + 1) w1
        refine (own_calls (t := .mk t.k (t.n) t.a t.ls t.ks) (S := fun x => S x ∧ x < w.heap.size) ⟨A0, ca, K0, ck, rfl, RC.tm.2 ⟨_, _, _, _, rfl, i1, i2, i3, hls1.ext hxw (fun x _ hx e => by have := hx.2; omega), hks1.ext hxw (fun x _ hx e => by have := hx.2; omega)⟩⟩).mono ?_
        rintro e w2 ⟨v, rfl, ⟨A4, c4, L, K4, k4, rfl, j1, j2, j3, hro, hnd, hks4⟩, hx2⟩
        have b2' := (b2.ext hxw (by omega)).ext0 hx2
        have c2 := b2'.cells
        have f2 := b2'.frz
        have hx3 : Ext no w w2 := (hx0.old hxw (by omega)).seq hx2
        have hsz := hxw.size
        simp only [Tm.k_mk, Tm.n_mk, Tm.a_mk, Tm.ls_mk, Tm.ks_mk] at j1 j2 j3 hro hks4 ⊢
        go_wp2_with fail
        refine bodyPost_ret (v := .tuple #[.agg #[.int .i64 t.k, .int .i64 (t.n), .int .i64 t.a, .slice A4 t.ls.length c4, .slice K4 t.ks.length k4], .bool false]) (by simp [results, Tryd.results67, go_sem, c2]) rfl ?_
        rw [E.out]
        refine PTurn.mk (W := w) (Ext.refl _ _) ⟨A4, c4, L, K4, k4, rfl, j1, j2, j3, ?_, hnd, ?_⟩ (hx3.old (Ext.set5 _ _ _ _ _ _ _) (fun x h1 e => by omega))
        · exact (hro.ext (Ext.set5 _ _ _ _ _ _ _) (fun x h1 _ e => by omega)).ge (by omega)
        · exact RC.frame (Nat.le_refl _) (fun _ _ h => h.1) (fun _ _ _ => rfl) _ _ (hks4.ext (Ext.set5 _ _ _ _ _ _ _) (fun x _ hx e => by have := hx.2; omega))
    · have g2 : decide (b ≤ t.n) = false := by simpa using h2
      have E := Lib.hid (show liftF n fr b t = .inr (t.k, t.n, t.a, t.ls) by simp [liftF, outer, g1, g2])
      clear h1 h2
      go_wp2_with fail
      · skip
        have hxw := Ext.refl (fun x => x = w.heap.size + 1) w1
        refine (own_calls (t := .mk t.k (t.n) t.a t.ls t.ks) (S := fun x => S x ∧ x < w.heap.size) ⟨A0, ca, K0, ck, rfl, RC.tm.2 ⟨_, _, _, _, rfl, i1, i2, i3, hls1.ext hxw (fun x _ hx e => by have := hx.2; omega), hks1.ext hxw (fun x _ hx e => by have := hx.2; omega)⟩⟩).mono ?_
        rintro e w2 ⟨v, rfl, ⟨A4, c4, L, K4, k4, rfl, j1, j2, j3, hro, hnd, hks4⟩, hx2⟩
        have b2' := (b2.ext hxw (by omega)).ext0 hx2
        have c2 := b2'.cells
        have f2 := b2'.frz
        have hx3 : Ext no w w2 := (hx0.old hxw (by omega)).seq hx2
        have hsz := hxw.size
        simp only [Tm.k_mk, Tm.n_mk, Tm.a_mk, Tm.ls_mk, Tm.ks_mk] at j1 j2 j3 hro hks4 ⊢
        go_wp2_with fail
        refine bodyPost_ret (v := .tuple #[.agg #[.int .i64 t.k, .int .i64 (t.n), .int .i64 t.a, .slice A4 t.ls.length c4, .slice K4 t.ks.length k4], .bool false]) (by simp [results, Tryd.results67, go_sem, c2]) rfl ?_
        rw [E.out]
        refine PTurn.mk (W := w) (Ext.refl _ _) ⟨A4, c4, L, K4, k4, rfl, j1, j2, j3, ?_, hnd, ?_⟩ (hx3.old (Ext.set5 _ _ _ _ _ _ _) (fun x h1 e => by omega))
        · exact (hro.ext (Ext.set5 _ _ _ _ _ _ _) (fun x h1 _ e => by omega)).ge (by omega)
        · exact RC.frame (Nat.le_refl _) (fun _ _ h => h.1) (fun _ _ _ => rfl) _ _ (hks4.ext (Ext.set5 _ _ _ _ _ _ _) (fun x _ hx e => by have := hx.2; omega))
  · have g1 : (t.k == 1) = false := by simpa using h1
    have E := Lib.hid (show liftF n fr b t = .inr (t.k, t.n, t.a, t.ls) by simp [liftF, outer, g1])
    clear h1
    go_wp2_with fail
    · skip
      · skip
        have hxw := Ext.refl (fun x => x = w.heap.size + 1) w1
        refine (own_calls (t := .mk t.k (t.n) t.a t.ls t.ks) (S := fun x => S x ∧ x < w.heap.size) ⟨A0, ca, K0, ck, rfl, RC.tm.2 ⟨_, _, _, _, rfl, i1, i2, i3, hls1.ext hxw (fun x _ hx e => by have := hx.2; omega), hks1.ext hxw (fun x _ hx e => by have := hx.2; omega)⟩⟩).mono ?_
        rintro e w2 ⟨v, rfl, ⟨A4, c4, L, K4, k4, rfl, j1, j2, j3, hro, hnd, hks4⟩, hx2⟩
        have b2' := (b2.ext hxw (by omega)).ext0 hx2
        have c2 := b2'.cells
        have f2 := b2'.frz
        have hx3 : Ext no w w2 := (hx0.old hxw (by omega)).seq hx2
        have hsz := hxw.size
        simp only [Tm.k_mk, Tm.n_mk, Tm.a_mk, Tm.ls_mk, Tm.ks_mk] at j1 j2 j3 hro hks4 ⊢
        go_wp2_with fail
        refine bodyPost_ret (v := .tuple #[.agg #[.int .i64 t.k, .int .i64 (t.n), .int .i64 t.a, .slice A4 t.ls.length c4, .slice K4 t.ks.length k4], .bool false]) (by simp [results, Tryd.results67, go_sem, c2]) rfl ?_
        rw [E.out]
        refine PTurn.mk (W := w) (Ext.refl _ _) ⟨A4, c4, L, K4, k4, rfl, j1, j2, j3, ?_, hnd, ?_⟩ (hx3.old (Ext.set5 _ _ _ _ _ _ _) (fun x h1 e => by omega))
        · exact (hro.ext (Ext.set5 _ _ _ _ _ _ _) (fun x h1 _ e => by omega)).ge (by omega)
        · exact RC.frame (Nat.le_refl _) (fun _ _ h => h.1) (fun _ _ _ => rfl) _ _ (hks4.ext (Ext.set5 _ _ _ _ _ _ _) (fun x _ hx e => by have := hx.2; omega))

set_option maxRecDepth 100000 in
set_option maxHeartbeats 1000000 in
theorem lift_calls {w : World} {S : Nat → Prop} {t : Tm} {v : Value} (hT : Tab w) (n fr : Int) (hv : TV w S t v) : Calls Tryd.prog 26 #[v, .int .i64 n, .int .i64 fr] w (PTm w (liftT t n fr)) := by
  obtain ⟨A0, ca, K0, ck, rfl, hrc⟩ := hv
  go_enter Tryd.func26, Tryd.ntmps26
  go_wp2_with fail
  have hxa : Ext no w _ := ((((Ext.refl no w).alloc (.cells #[.int .i64 t.k, .int .i64 t.n, .int .i64 t.a, .slice A0 t.ls.length ca, .slice K0 t.ks.length ck] 26)).alloc (.cells #[.int .i64 n] 3)).alloc (.cells #[.int .i64 fr] 3)).alloc (.cells #[.int .i64 0, .int .i64 0, .int .i64 0, .slice none 0 0, .slice none 0 0] 26)
  refine (walk_calls (lift1_calls (w.heap.size + 1 + 1) (w.heap.size + 1) n fr) t _ S 0 _ ⟨?_, ?_⟩ (hT.ext hxa) ⟨by decide, by decide⟩ ⟨_, _, _, _, rfl, hrc.ext0 hxa⟩).mono ?_
  · exact ((Blk.new (by simp)).alloc _).cells 0
  · exact (((Blk.new (g := w.heap.size + 1) (by simp)).alloc _).alloc _).cells 0
  rintro e w1 ⟨v, rfl, ⟨A1, c1, K1, k1, L, rfl, hro, hnd⟩, hx1⟩
  have b3 := (Blk.new (g := w.heap.size + 1 + 1 + 1) (by simp)).ext0 hx1
  have hx0 := hxa.seq hx1
  have c3 := b3.cells
  have f3 := b3.frz
  clear hrc hx1 hxa
  go_wp2_with fail
  refine bodyPost_ret (v := .agg #[.int .i64 (walkT (liftF n fr) 0 t).k, .int .i64 (walkT (liftF n fr) 0 t).n, .int .i64 (walkT (liftF n fr) 0 t).a, .slice A1 (walkT (liftF n fr) 0 t).ls.length c1, .slice K1 (walkT (liftF n fr) 0 t).ks.length k1]) (by simp [results, Tryd.results26, go_sem, c3]) rfl ⟨_, rfl, ⟨A1, c1, K1, k1, _, rfl, (hro.ext (Ext.set5 _ _ _ _ _ _ _) (fun x h1 _ e => by first | omega | (simp at h1; omega))).ge (by first | omega | (simp; omega)), hnd⟩, hx0.old (Ext.set5 _ _ _ _ _ _ _) (fun x h1 e => by omega)⟩
end Go.Proofs.YtmedomglemllnaaDoor
/- tele: own, owns, of, Pis, Lams, Apps: contracts. No statement of the seat is proved here. -/
namespace Go.Proofs.YtmedomglemllnaaDoor
set_option linter.unusedSimpArgs false
set_option linter.unusedVariables false
open Go.RowKit

/-- All numbers of a term are int64's. -/
inductive TmOK : Tm → Prop where
  | mk {k n a : Int} {ls : List Lv} {ks : List Tm} (h1 : inI k) (h2 : inI n) (h3 : inI a) (h : ∀ t ∈ ks, TmOK t) : TmOK (.mk k n a ls ks)
theorem RC.ok : ∀ (t : Tm) {w : World} {S : Nat → Prop} {cs : List Value}, RC w S t.d cs → TmOK t := by
  intro t
  induction t using Tm.ind_ with
  | h k n a ls ks ih =>
  intro w S cs h
  obtain ⟨_, _, _, _, _, i1, i2, i3, _, hks⟩ := RC.tm.1 h
  refine .mk i1 i2 i3 fun t ht => ?_
  obtain ⟨j, hj, rfl⟩ := List.getElem_of_mem ht
  obtain ⟨_, _, _, _, _, _, _, _, _, hr, _⟩ := RC.atTm hks hj
  exact ih _ (by simp) hr
theorem wrap_in {n : Int} (h : inI n) : wrap64 n = n := by unfold inI at h; unfold wrap64; omega
theorem lift0 : ∀ {t : Tm} (b : Int), TmOK t → walkT (liftF 0 0) b t = t := by
  intro t
  induction t using Tm.ind_ with
  | h k n a ls ks ih =>
  intro b h
  cases h with
  | mk h1 h2 h3 h =>
  have hs : ∀ (ts : List Tm) (i : Nat), (∀ t ∈ ts, t ∈ ks) → walkTs (liftF 0 0) k b i ts = ts := by
    intro ts
    induction ts with
    | nil => intro i _; rfl
    | cons t ts ihs =>
      intro i hm
      rw [walkTs, ih t (hm t (by simp)) _ (h t (hm t (by simp))), ihs _ fun t ht => hm t (by simp [ht])]
  simp only [walkT, liftF, Tm.k_mk, Tm.n_mk, Tm.a_mk, Tm.ls_mk, Int.add_zero, wrap_in h2, ite_self]
  rw [hs ks 0 fun _ h => h]
theorem liftT0 {t : Tm} (h : TmOK t) : liftT t 0 0 = t := lift0 0 h

set_option maxRecDepth 100000 in
set_option maxHeartbeats 2000000 in
theorem teleOwn {S : Nat → Prop} {t : Tm} {w : World} {v : Value} (hT : Tab w) (h : TV w S t v) : Calls Tryd.prog 79 #[v] w (PTm w t) := by
  obtain ⟨A0, ca, K0, ck, rfl, hrc⟩ := h
  have hok := Lib.hid (liftT0 (RC.ok _ hrc))
  have HT := Lib.hid hT
  clear hT
  go_enter Tryd.func79, Tryd.ntmps79
  go_wp2_with fail
  have H := Hp.start no w
  refine callsH (by (repeat (first | with_reducible exact H | with_reducible exact H0_ | with_reducible apply Hp.alloc | with_reducible apply Hp.allocMap | with_reducible apply Hp.drew | with_reducible apply Hp.drewN | with_reducible apply Hp.set)); (try any_goals (repeat (first | with_reducible exact Upd.head | with_reducible apply Upd.tail)))) ?_
  clear H; intro w1 H; (try simp only [size_drew_, size_drewN_, World.size_alloc, World.size_setCell, List.set_cons_zero, List.set_cons_succ] at H)
  refine (lift_calls (t := t) (S := S) (HT.out.ext H.ext) 0 0 ⟨_, _, _, _, rfl, hrc.ext0 H.ext⟩).mono ?_
  rw [hok.out]
  rintro e w_ ⟨v, rfl, hto, hx⟩
  obtain ⟨A1, Ac, A2, Ak, rfl, H_⟩ := H.resTm hx hto
  clear H hx hto
  have H := H_
  clear H_
  have hr_ := H.rules; simp only [Rules, and_true] at hr_; have hd_ := H.dif; simp only [Dif, Neq, and_true] at hd_; obtain ⟨ho_, hz_⟩ := H.old0
  go_wp2_with ((with_reducible refine atStore (t := 26) ?_); go_must (refine wpList_storeH (t := 26) rfl rfl (by go_simp <;> first | rfl | exact ⟨rfl, rfl⟩) (by go_simp <;> first | rfl | exact ⟨rfl, rfl⟩) (by exact Hp.norm (by (repeat (first | with_reducible exact H | with_reducible exact H0_ | with_reducible apply Hp.alloc | with_reducible apply Hp.allocMap | with_reducible apply Hp.drew | with_reducible apply Hp.drewN | with_reducible apply Hp.set)); (try any_goals (repeat (first | with_reducible exact Upd.head | with_reducible apply Upd.tail)))) (by ((try simp only [size_drew_, size_drewN_, World.size_alloc, World.size_setCell, List.set_cons_zero, List.set_cons_succ, List.nil_append, List.cons_append]) <;> rfl))) (by (repeat (first | with_reducible exact Upd.head | with_reducible apply Upd.tail))) (by exact aggTerm) (by rfl) (by simp [Value.oneCell']) ?_; clear H; intro w7 H; (try simp only [size_drew_, size_drewN_, World.size_alloc, World.size_setCell, List.set_cons_zero, List.set_cons_succ] at H); (try clear hr_ hd_ ho_ hz_); have hr_ := H.rules; simp only [Rules, and_true] at hr_; have hd_ := H.dif; simp only [Dif, Neq, and_true] at hd_; obtain ⟨ho_, hz_⟩ := H.old0))
  clear hr_ hd_ ho_ hz_
  refine endH (by (repeat (first | with_reducible exact H | with_reducible exact H0_ | with_reducible apply Hp.alloc | with_reducible apply Hp.allocMap | with_reducible apply Hp.drew | with_reducible apply Hp.drewN | with_reducible apply Hp.set)); (try any_goals (repeat (first | with_reducible exact Upd.head | with_reducible apply Upd.tail)))) ?_
  clear H; intro w8 H; (try simp only [size_drew_, size_drewN_, World.size_alloc, World.size_setCell, List.set_cons_zero, List.set_cons_succ] at H)
  exact bodyPost_ret (v := .agg #[_, _, _, _, _]) (Res.one Tryd.results79 (H.resBox (by (repeat (first | with_reducible exact Pick.head | with_reducible apply Pick.tail))) aggTerm rfl rfl)) rfl (H.ptm (by (repeat (first | with_reducible exact Pick.head | with_reducible apply Pick.tail))))
set_option maxRecDepth 100000 in
set_option maxHeartbeats 2000000 in
theorem teleOwns {S : Nat → Prop} {ts : List Tm} {w : World} {A : Option Addr} {n c : Nat} (hT : Tab w) (h : RC w S (.l 26 5 (ts.map Tm.d)) [.slice A n c]) (hn : n = ts.length) : Calls Tryd.prog 136 #[.slice A n c] w (PSl w 26 5 (ts.map Tm.d)) := by
  subst hn
  have hM := h.lenM
  have HT := Lib.hid hT
  clear hT
  go_enter Tryd.func136, Tryd.ntmps136
  go_wp2_with fail
  have H := Hp.start no w
  replace H := H.nil 26 5
  go_loopw [2, 7] (fun out i wr => ∃ j : Nat, j ≤ ts.length ∧ i = .int .i64 j ∧ Hp no w wr [.dat (.l 26 5 ((ts.take j).map Tm.d)) [out]]) (fun _ i _ => ts.length - (intOf i).toNat)
  case atStart => exact ⟨0, Nat.zero_le _, rfl, H⟩
  case round =>
    clear H
    obtain ⟨j, hj, rfl, H⟩ := hrel
    by_cases hlt : j < ts.length
    · obtain ⟨b, o, A1, ca, K1, ck, rfl, hb, hS, hd, p0, p1, p2, p3, p4⟩ := h.atTm hlt
      have HD := Lib.hid hd
      clear hd
      have hr_ := H.rules; simp only [Rules, and_true] at hr_; have hd_ := H.dif; simp only [Dif, Neq, and_true] at hd_; obtain ⟨ho_, hz_⟩ := H.old0
      go_wp2_with fail
      clear hr_ hd_ ho_ hz_
      refine callsH (by (repeat (first | with_reducible exact H | with_reducible exact H0_ | with_reducible apply Hp.alloc | with_reducible apply Hp.allocMap | with_reducible apply Hp.drew | with_reducible apply Hp.drewN | with_reducible apply Hp.set)); (try any_goals (repeat (first | with_reducible exact Upd.head | with_reducible apply Upd.tail)))) ?_
      clear H; intro w2 H; (try simp only [size_drew_, size_drewN_, World.size_alloc, World.size_setCell, List.set_cons_zero, List.set_cons_succ] at H)
      refine (teleOwn (HT.out.ext H.ext) ⟨_, _, _, _, rfl, HD.out.ext0 H.ext⟩).mono ?_
      rintro e w_ ⟨v, rfl, hto, hx⟩
      obtain ⟨B1, Bc, B2, Bk, rfl, H_⟩ := H.resTm hx hto
      clear H hx hto
      have H := H_
      clear H_
      rename Hp _ _ _ _ => H
      go_wp2_with (at_builtin; go_must (refine wpList_pushH rfl (.tmp 11) (.tmp 14) 24 rfl stTerms (by go_simp <;> first | rfl | exact ⟨rfl, rfl⟩) (by go_simp <;> first | rfl | exact ⟨rfl, rfl⟩) (by exact Hp.norm (by (repeat (first | with_reducible exact H | with_reducible exact H0_ | with_reducible apply Hp.alloc | with_reducible apply Hp.allocMap | with_reducible apply Hp.drew | with_reducible apply Hp.drewN | with_reducible apply Hp.set)); (try any_goals (repeat (first | with_reducible exact Upd.head | with_reducible apply Upd.tail)))) (by ((try simp only [size_drew_, size_drewN_, World.size_alloc, World.size_setCell, List.set_cons_zero, List.set_cons_succ, List.nil_append, List.cons_append]) <;> rfl))) (by (repeat (first | with_reducible exact Pick.head | with_reducible apply Pick.tail))) (by (repeat (first | with_reducible exact Pick.head | with_reducible apply Pick.tail))) (by (repeat (first | with_reducible exact Pick.head | with_reducible apply Pick.tail))) (Tm.size_d _) ?_ ?_; (focus (simp [M]; omega)); clear H; intro v' w4 H))
      go_roundw
      case rel => exact ⟨j + 1, by omega, by go_num, by rw [take_map _ hlt]; exact (H.only (by (repeat (first | with_reducible exact Subl.nil | with_reducible apply Subl.keep | with_reducible apply Subl.drop))))⟩
      case measure => simp [intOf]; omega
    · go_wp2_with fail
      go_ret
      rw [take_all hlt] at H
      exact H.psl .head
end Go.Proofs.YtmedomglemllnaaDoor
/- tele: of, Pis, Apps: contracts. No statement of the seat is proved here. -/
namespace Go.Proofs.YtmedomglemllnaaDoor
set_option linter.unusedSimpArgs false
set_option linter.unusedVariables false
open Go.RowKit

theorem aggRow : AggT Tryd.prog 110 1 := ⟨_, Tryd.underlying110, rfl, by kernel_rfl⟩
theorem aggWork : AggT Tryd.prog 112 1 := ⟨_, Tryd.underlying112, rfl, by kernel_rfl⟩
theorem fieldWork (v : Value) (w : World) : (Instr.field 112 (.agg #[v]) 0).run Tryd.prog w = .ok (.agg #[v]) w := by kernel_rfl
/-- A fresh row within a struct. -/
def PSlA (w : World) (e z : Nat) (ds : List D) (en : Ending) (w' : World) : Prop := ∃ A c, en = .returned (.agg #[.slice A ds.length c]) ∧ Acc w w' e z ds (.slice A ds.length c) ∧ Ext no w w'
set_option maxRecDepth 100000 in
set_option maxHeartbeats 2000000 in
theorem teleOf {S : Nat → Prop} {ts : List Tm} {w : World} {A : Option Addr} {n c : Nat} (hT : Tab w) (h : RC w S (.l 26 5 (ts.map Tm.d)) [.slice A n c]) (hn : n = ts.length) : Calls Tryd.prog 77 #[.slice A n c] w (PSlA w 26 5 (ts.map Tm.d)) := by
  subst hn
  have HT := Lib.hid hT
  clear hT
  go_enter Tryd.func77, Tryd.ntmps77
  go_wp2_with fail
  have H := Hp.start no w
  refine callsH (by (repeat (first | with_reducible exact H | with_reducible exact H0_ | with_reducible apply Hp.alloc | with_reducible apply Hp.allocMap | with_reducible apply Hp.drew | with_reducible apply Hp.drewN | with_reducible apply Hp.set)); (try any_goals (repeat (first | with_reducible exact Upd.head | with_reducible apply Upd.tail)))) ?_
  clear H; intro w1 H; (try simp only [size_drew_, size_drewN_, World.size_alloc, World.size_setCell, List.set_cons_zero, List.set_cons_succ] at H)
  refine (teleOwns (HT.out.ext H.ext) (h.ext0 H.ext) rfl).mono ?_
  rintro e w_ ⟨B1, Bc, rfl, hacc, hx⟩
  replace H := H.resSl hx hacc
  clear hx hacc
  simp only [List.length_map] at H ⊢
  have hr_ := H.rules; simp only [Rules, and_true] at hr_; have hd_ := H.dif; simp only [Dif, Neq, and_true] at hd_; obtain ⟨ho_, hz_⟩ := H.old0
  go_wp2_with ((with_reducible refine atStore (t := 112) ?_); go_must (refine wpList_storeH (t := 112) rfl rfl (by go_simp <;> first | rfl | exact ⟨rfl, rfl⟩) (by go_simp <;> first | rfl | exact ⟨rfl, rfl⟩) (by exact Hp.norm (by (repeat (first | with_reducible exact H | with_reducible exact H0_ | with_reducible apply Hp.alloc | with_reducible apply Hp.allocMap | with_reducible apply Hp.drew | with_reducible apply Hp.drewN | with_reducible apply Hp.set)); (try any_goals (repeat (first | with_reducible exact Upd.head | with_reducible apply Upd.tail)))) (by ((try simp only [size_drew_, size_drewN_, World.size_alloc, World.size_setCell, List.set_cons_zero, List.set_cons_succ, List.nil_append, List.cons_append]) <;> rfl))) (by (repeat (first | with_reducible exact Upd.head | with_reducible apply Upd.tail))) (by exact aggWork) (by rfl) (by simp [Value.oneCell']) ?_; clear H; intro w7 H; (try simp only [size_drew_, size_drewN_, World.size_alloc, World.size_setCell, List.set_cons_zero, List.set_cons_succ] at H); (try clear hr_ hd_ ho_ hz_); have hr_ := H.rules; simp only [Rules, and_true] at hr_; have hd_ := H.dif; simp only [Dif, Neq, and_true] at hd_; obtain ⟨ho_, hz_⟩ := H.old0))
  clear hr_ hd_ ho_ hz_
  refine endH (by (repeat (first | with_reducible exact H | with_reducible exact H0_ | with_reducible apply Hp.alloc | with_reducible apply Hp.allocMap | with_reducible apply Hp.drew | with_reducible apply Hp.drewN | with_reducible apply Hp.set)); (try any_goals (repeat (first | with_reducible exact Upd.head | with_reducible apply Upd.tail)))) ?_
  clear H; intro w8 H; (try simp only [size_drew_, size_drewN_, World.size_alloc, World.size_setCell, List.set_cons_zero, List.set_cons_succ] at H)
  refine bodyPost_ret (v := .agg #[_]) (Res.one Tryd.results77 (H.resBox (by (repeat (first | with_reducible exact Pick.head | with_reducible apply Pick.tail))) aggWork rfl rfl)) rfl ⟨_, _, by simp only [List.length_map]; rfl, H.acc (by simp only [List.length_map]; exact (by (repeat (first | with_reducible exact Pick.head | with_reducible apply Pick.tail)))), H.ext⟩
set_option maxRecDepth 100000 in
set_option maxHeartbeats 2000000 in
theorem pis_calls {S S2 : Nat → Prop} {ts : List Tm} {b : Tm} {w : World} {v : Value} {A : Option Addr} {n c : Nat} (hT : Tab w) (h : RC w S (.l 26 5 (ts.map Tm.d)) [.slice A n c]) (hn : n = ts.length) (hb : TV w S2 b v) : Calls Tryd.prog 31 #[.slice A n c, v] w (PTm w (aboveT 4 ts b)) := by
  subst hn
  obtain ⟨A0, ca, K0, ck, rfl, hrc⟩ := hb
  have HT := Lib.hid hT
  clear hT
  go_enter Tryd.func31, Tryd.ntmps31
  go_wp2_with fail
  have H := Hp.start no w
  refine regionH (by (repeat (first | with_reducible exact H | with_reducible exact H0_ | with_reducible apply Hp.alloc | with_reducible apply Hp.allocMap | with_reducible apply Hp.drew | with_reducible apply Hp.drewN | with_reducible apply Hp.set)); (try any_goals (repeat (first | with_reducible exact Upd.head | with_reducible apply Upd.tail)))) ?_
  clear H; intro w1 H; (try simp only [size_drew_, size_drewN_, World.size_alloc, World.size_setCell, List.set_cons_zero, List.set_cons_succ] at H)
  refine wp_region_H 7 [false, false, false, false, false, false, false] [] H (.cons (i := 1) rfl .nil) (by kernel_rfl) rfl rfl (fun H_ hR_ => ?_)
  (try clear H0_); have H0_ := H; clear H; have H := H_; clear H_
  refine wpL_reads (is := [(0, ?v1_0), (3, ?v1_1)]) (by kernel_rfl) (Nat.le_of_ble_eq_true rfl) (by intro _ _ d_ _ _ h_; cases d_ <;> exact h_) (by kernel_rfl) hR_ (fun w_ hw_ => ?h1_) ?_
  case h1_ =>
    have ho_ := hw_.old0.1; have hz_ := hw_.old0.2; have hr_ := hw_.rules; clear hw_; simp only [Rules, and_true] at hr_; go_split_ands
    (repeat (first | with_reducible exact RdOps.nil | (refine RdOps.run rfl (by rfl) ?_ ?_; (focus (first | (go_simp; done) | (go_simp; with_reducible rfl))); simp only [List.getElem_toArray, List.getElem_cons_zero, List.getElem_cons_succ, Act.put, List.setIfInBounds_toArray, List.set_cons_zero, List.set_cons_succ]) | (refine RdOps.skip rfl (by rfl) ?_; simp only [List.getElem_toArray, List.getElem_cons_zero, List.getElem_cons_succ, Act.put, List.setIfInBounds_toArray, List.set_cons_zero, List.set_cons_succ])))
  simp only [rdMark, rdAct, List.map_cons, List.map_nil, List.length_cons, List.length_nil, Nat.reduceAdd, Nat.reduceSub, Nat.zero_add, List.getElem?_toArray, List.getElem?_cons_zero, List.getElem?_cons_succ, Option.bind_some, Act.put, List.setIfInBounds_toArray, List.set_cons_zero, List.set_cons_succ]
  refine wpL_do (i := 1) rfl (by kernel_rfl) (by rfl) (fun K_ hK_ => ?_)
  go_simp
  refine (teleOf (HT.out.ext H.ext) (h.ext0 H.ext) rfl).mono ?_
  rintro e w_ ⟨B1, Bc, rfl, hacc, hx⟩
  replace H := H.resSl hx hacc
  clear hx hacc
  simp only [List.length_map] at H ⊢
  have hfw := fieldWork
  refine hK_ _ _ (fun _ => H.sub (by simp)) (fun hR_ => ?_)
  replace hR_ := hR_ (by decide)
  refine wpL_reads (is := [(2, ?v2_0)]) (by kernel_rfl) (Nat.le_of_ble_eq_true rfl) (by intro _ _ d_ _ _ h_; cases d_ <;> exact h_) (by kernel_rfl) hR_ (fun w_ hw_ => ?h2_) ?_
  case h2_ =>
    have ho_ := hw_.old0.1; have hz_ := hw_.old0.2; have hr_ := hw_.rules; clear hw_; simp only [Rules, and_true] at hr_; go_split_ands
    (repeat (first | with_reducible exact RdOps.nil | (refine RdOps.run rfl (by rfl) ?_ ?_; (focus (first | (go_simp; done) | (go_simp; with_reducible rfl))); simp only [List.getElem_toArray, List.getElem_cons_zero, List.getElem_cons_succ, Act.put, List.setIfInBounds_toArray, List.set_cons_zero, List.set_cons_succ]) | (refine RdOps.skip rfl (by rfl) ?_; simp only [List.getElem_toArray, List.getElem_cons_zero, List.getElem_cons_succ, Act.put, List.setIfInBounds_toArray, List.set_cons_zero, List.set_cons_succ])))
  simp only [rdMark, rdAct, List.map_cons, List.map_nil, List.length_cons, List.length_nil, Nat.reduceAdd, Nat.reduceSub, Nat.zero_add, List.getElem?_toArray, List.getElem?_cons_zero, List.getElem?_cons_succ, Option.bind_some, Act.put, List.setIfInBounds_toArray, List.set_cons_zero, List.set_cons_succ]
  refine wpL_do (i := 4) rfl (by kernel_rfl) (by rfl) (fun K_ hK_ => ?_)
  go_simp
  clear hfw
  refine (teleOwn (HT.out.ext H.ext) ⟨_, _, _, _, rfl, hrc.ext0 H.ext⟩).mono ?_
  rintro e w_ ⟨v, rfl, hto, hx⟩
  obtain ⟨C1, Cc, C2, Ck, rfl, H_⟩ := H.resTm hx hto
  clear H hx hto
  have H := H_
  clear H_
  refine hK_ _ _ (fun _ => H.sub (by simp)) (fun hR_ => ?_)
  replace hR_ := hR_ (by decide)
  refine wpL_do (i := 5) rfl (by kernel_rfl) (by rfl) (fun K_ hK_ => ?_)
  go_simp
  refine (above_calls H.swap (by unfold inI; omega)).mono ?_
  rintro e w_ ⟨D1, d1, D2, d2, rfl, H_⟩
  clear H
  have H := H_
  clear H_
  refine hK_ _ _ (fun _ => H.sub (by simp)) (fun hR_ => ?_)
  replace hR_ := hR_ (by decide)
  refine wpL_do (i := 6) rfl (by kernel_rfl) (by rfl) (fun K_ hK_ => ?_)
  refine wp_storeH rfl (by go_simp <;> first | rfl | exact ⟨rfl, rfl⟩) (by go_simp <;> first | rfl | exact ⟨rfl, rfl⟩) H (by (repeat (first | with_reducible exact Upd.head | with_reducible apply Upd.tail))) (by exact aggTerm) (by rfl) (by simp [Value.oneCell']) (fun w9 H_ => ?_)
  clear H; have H := H_; clear H_
  refine hK_ _ _ (fun _ => H.sub (by simp)) (fun _ => ?_)
  refine wpL_done (by kernel_rfl) ?_ _
  go_wp2_with fail
  refine endH (by (repeat (first | with_reducible exact H | with_reducible exact H0_ | with_reducible apply Hp.alloc | with_reducible apply Hp.allocMap | with_reducible apply Hp.drew | with_reducible apply Hp.drewN | with_reducible apply Hp.set)); (try any_goals (repeat (first | with_reducible exact Upd.head | with_reducible apply Upd.tail)))) ?_
  clear H; intro w8 H; (try simp only [size_drew_, size_drewN_, World.size_alloc, World.size_setCell, List.set_cons_zero, List.set_cons_succ] at H)
  exact bodyPost_ret (v := .agg #[_, _, _, _, _]) (Res.one Tryd.results31 (H.resBox (by (repeat (first | with_reducible exact Pick.head | with_reducible apply Pick.tail))) aggTerm rfl rfl)) rfl (H.ptm (by (repeat (first | with_reducible exact Pick.head | with_reducible apply Pick.tail))))

/-- A term at arguments. -/
def appsT (f : Tm) (args : List Tm) : Tm := args.foldl (fun f a => .mk 6 0 0 [] [f, a]) f
theorem appsT_take {f : Tm} {l : List Tm} {j : Nat} (h : j < l.length) : appsT f (l.take (j + 1)) = .mk 6 0 0 [] [appsT f (l.take j), l[j]] := by
  unfold appsT
  rw [List.take_succ_eq_append_getElem h, List.foldl_append]
  rfl
set_option maxRecDepth 100000 in
set_option maxHeartbeats 2000000 in
theorem apps_calls {S S2 : Nat → Prop} {ts : List Tm} {f : Tm} {w : World} {v : Value} {A : Option Addr} {n c : Nat} (hT : Tab w) (h : RC w S (.l 26 5 (ts.map Tm.d)) [.slice A n c]) (hn : n = ts.length) (hb : TV w S2 f v) : Calls Tryd.prog 93 #[v, .slice A n c] w (PTm w (appsT f ts)) := by
  subst hn
  have hM := h.lenM
  obtain ⟨A0, ca, K0, ck, rfl, hrc⟩ := hb
  have HT := Lib.hid hT
  clear hT
  go_enter Tryd.func93, Tryd.ntmps93
  go_wp2_with fail
  have H := Hp.start no w
  refine callsH (by (repeat (first | with_reducible exact H | with_reducible exact H0_ | with_reducible apply Hp.alloc | with_reducible apply Hp.allocMap | with_reducible apply Hp.drew | with_reducible apply Hp.drewN | with_reducible apply Hp.set)); (try any_goals (repeat (first | with_reducible exact Upd.head | with_reducible apply Upd.tail)))) ?_
  clear H; intro w1 H; (try simp only [size_drew_, size_drewN_, World.size_alloc, World.size_setCell, List.set_cons_zero, List.set_cons_succ] at H)
  refine (teleOwn (HT.out.ext H.ext) ⟨_, _, _, _, rfl, hrc.ext0 H.ext⟩).mono ?_
  rintro e w_ ⟨v, rfl, hto, hx⟩
  obtain ⟨B1, Bc, B2, Bk, rfl, H_⟩ := H.resTm hx hto
  clear H hx hto
  have H := H_
  clear H_
  have hr_ := H.rules; simp only [Rules, and_true] at hr_; have hd_ := H.dif; simp only [Dif, Neq, and_true] at hd_; obtain ⟨ho_, hz_⟩ := H.old0
  go_wp2_with ((with_reducible refine atStore (t := 26) ?_); go_must (refine wpList_storeH (t := 26) rfl rfl (by go_simp <;> first | rfl | exact ⟨rfl, rfl⟩) (by go_simp <;> first | rfl | exact ⟨rfl, rfl⟩) (by exact Hp.norm (by (repeat (first | with_reducible exact H | with_reducible exact H0_ | with_reducible apply Hp.alloc | with_reducible apply Hp.allocMap | with_reducible apply Hp.drew | with_reducible apply Hp.drewN | with_reducible apply Hp.set)); (try any_goals (repeat (first | with_reducible exact Upd.head | with_reducible apply Upd.tail)))) (by ((try simp only [size_drew_, size_drewN_, World.size_alloc, World.size_setCell, List.set_cons_zero, List.set_cons_succ, List.nil_append, List.cons_append]) <;> rfl))) (by (repeat (first | with_reducible exact Upd.head | with_reducible apply Upd.tail))) (by exact aggTerm) (by rfl) (by simp [Value.oneCell']) ?_; clear H; intro w2 H; (try simp only [size_drew_, size_drewN_, World.size_alloc, World.size_setCell, List.set_cons_zero, List.set_cons_succ] at H); (try clear hr_ hd_ ho_ hz_); have hr_ := H.rules; simp only [Rules, and_true] at hr_; have hd_ := H.dif; simp only [Dif, Neq, and_true] at hd_; obtain ⟨ho_, hz_⟩ := H.old0))
  clear hr_ hd_ ho_ hz_
  go_loopw [11] (fun i wr => ∃ (j : Nat) (r : Tm) (B K : Option Addr) (cb kb : Nat), j ≤ ts.length ∧ i = .int .i64 j ∧ r = appsT f (ts.take j) ∧ Hp no w wr [.box (w.heap.size + 1) 26 [.int .i64 0, .int .i64 0, .int .i64 0, .slice none 0 0, .slice none 0 0], .box w.heap.size 26 [.int .i64 r.k, .int .i64 r.n, .int .i64 r.a, .slice B r.ls.length cb, .slice K r.ks.length kb], .dat r.d [.int .i64 r.k, .int .i64 r.n, .int .i64 r.a, .slice B r.ls.length cb, .slice K r.ks.length kb]]) (fun i _ => ts.length - (intOf i).toNat)
  case atStart => exact ⟨0, f, _, _, _, _, Nat.zero_le _, rfl, rfl, (H.arr (by (repeat (first | with_reducible exact Arr.nil | refine Arr.cons (by (repeat (first | with_reducible exact Pick.head | with_reducible apply Pick.tail))) ?_)) <;> exact Arr.of_subl (by (repeat (first | with_reducible exact Subl.refl _ | with_reducible apply Subl.drop)))))⟩
  case round =>
    clear H
    obtain ⟨j, r, B, K, cb, kb, hj, rfl, hr, H⟩ := hrel
    have HR := Lib.hid hr
    clear hr
    by_cases hlt : j < ts.length
    · obtain ⟨b, o, A1, ca1, K1, ck1, rfl, hb, hS, hd, p0, p1, p2, p3, p4⟩ := h.atTm hlt
      have HD := Lib.hid hd
      clear hd
      have hr_ := H.rules; simp only [Rules, and_true] at hr_; have hd_ := H.dif; simp only [Dif, Neq, and_true] at hd_; obtain ⟨ho_, hz_⟩ := H.old0
      go_wp2_with fail
      clear hr_ hd_ ho_ hz_
      refine regionH (by (repeat (first | with_reducible exact H | with_reducible exact H0_ | with_reducible apply Hp.alloc | with_reducible apply Hp.allocMap | with_reducible apply Hp.drew | with_reducible apply Hp.drewN | with_reducible apply Hp.set)); (try any_goals (repeat (first | with_reducible exact Upd.head | with_reducible apply Upd.tail)))) ?_
      clear H; intro w3 H; (try simp only [size_drew_, size_drewN_, World.size_alloc, World.size_setCell, List.set_cons_zero, List.set_cons_succ] at H)
      refine wp_region_H 6 [false, false, false, false, false, false] [5] H (.cons (i := 0) rfl (.cons (i := 2) rfl .nil)) (by kernel_rfl) rfl rfl (fun H_ hR_ => ?_)
      (try clear H0_); have H0_ := H; clear H; have H := H_; clear H_
      refine wpL_reads (is := [(0, ?v3_0), (1, ?v3_1)]) (by kernel_rfl) (Nat.le_of_ble_eq_true rfl) (by intro _ _ d_ _ _ h_; cases d_ <;> exact h_) (by kernel_rfl) hR_ (fun w_ hw_ => ?h3_) ?_
      case h3_ =>
        have ho_ := hw_.old0.1; have hz_ := hw_.old0.2; have hr_ := hw_.rules; clear hw_; simp only [Rules, and_true] at hr_; go_split_ands
        (repeat (first | with_reducible exact RdOps.nil | (refine RdOps.run rfl (by rfl) ?_ ?_; (focus (first | (go_simp; done) | (go_simp; with_reducible rfl))); simp only [List.getElem_toArray, List.getElem_cons_zero, List.getElem_cons_succ, Act.put, List.setIfInBounds_toArray, List.set_cons_zero, List.set_cons_succ]) | (refine RdOps.skip rfl (by rfl) ?_; simp only [List.getElem_toArray, List.getElem_cons_zero, List.getElem_cons_succ, Act.put, List.setIfInBounds_toArray, List.set_cons_zero, List.set_cons_succ])))
      simp only [rdMark, rdAct, List.map_cons, List.map_nil, List.length_cons, List.length_nil, Nat.reduceAdd, Nat.reduceSub, Nat.zero_add, List.getElem?_toArray, List.getElem?_cons_zero, List.getElem?_cons_succ, Option.bind_some, Act.put, List.setIfInBounds_toArray, List.set_cons_zero, List.set_cons_succ]
      refine wpL_do (i := 2) rfl (by kernel_rfl) (by rfl) (fun K_ hK_ => ?_)
      go_simp
      refine (teleOwn (HT.out.ext H.ext) ⟨_, _, _, _, rfl, HD.out.ext0 H.ext⟩).mono ?_
      rintro e w_ ⟨v, rfl, hto, hx⟩
      obtain ⟨C1, Cc, C2, Ck, rfl, H_⟩ := H.resTm hx hto
      clear H hx hto
      have H := H_
      clear H_
      refine hK_ _ _ (fun _ => H.sub (by simp)) (fun hR_ => ?_)
      replace hR_ := hR_ (by decide)
      refine wpL_do (i := 3) rfl (by kernel_rfl) (by rfl) (fun K_ hK_ => ?_)
      go_simp
      refine kontH (by (repeat (first | with_reducible exact H | with_reducible exact H0_ | with_reducible apply Hp.alloc | with_reducible apply Hp.allocMap | with_reducible apply Hp.drew | with_reducible apply Hp.drewN | with_reducible apply Hp.set)); (try any_goals (repeat (first | with_reducible exact Upd.head | with_reducible apply Upd.tail)))) ?_
      clear H; intro w4 H; (try simp only [size_drew_, size_drewN_, World.size_alloc, World.size_setCell, List.set_cons_zero, List.set_cons_succ] at H)
      refine hK_ _ _ (fun _ => H.sub (by simp)) (fun hR_ => ?_)
      replace hR_ := hR_ (by decide)
      refine wpL_reads (is := [(4, ?v4_0)]) (by kernel_rfl) (Nat.le_of_ble_eq_true rfl) (by intro _ _ d_ _ _ h_; cases d_ <;> exact h_) (by kernel_rfl) hR_ (fun w_ hw_ => ?h4_) ?_
      case h4_ =>
        have ho_ := hw_.old0.1; have hz_ := hw_.old0.2; have hr_ := hw_.rules; clear hw_; simp only [Rules, and_true] at hr_; go_split_ands
        (repeat (first | with_reducible exact RdOps.nil | (refine RdOps.run rfl (by rfl) ?_ ?_; (focus (first | (go_simp; done) | (go_simp; with_reducible rfl))); simp only [List.getElem_toArray, List.getElem_cons_zero, List.getElem_cons_succ, Act.put, List.setIfInBounds_toArray, List.set_cons_zero, List.set_cons_succ]) | (refine RdOps.skip rfl (by rfl) ?_; simp only [List.getElem_toArray, List.getElem_cons_zero, List.getElem_cons_succ, Act.put, List.setIfInBounds_toArray, List.set_cons_zero, List.set_cons_succ])))
      simp only [rdMark, rdAct, List.map_cons, List.map_nil, List.length_cons, List.length_nil, Nat.reduceAdd, Nat.reduceSub, Nat.zero_add, List.getElem?_toArray, List.getElem?_cons_zero, List.getElem?_cons_succ, Option.bind_some, Act.put, List.setIfInBounds_toArray, List.set_cons_zero, List.set_cons_succ]
      refine wpL_do (i := 5) rfl (by kernel_rfl) (by rfl) (fun K_ hK_ => ?_)
      refine wp_storeH rfl (by go_simp <;> first | rfl | exact ⟨rfl, rfl⟩) (by go_simp <;> first | rfl | exact ⟨rfl, rfl⟩) H (by (repeat (first | with_reducible exact Upd.head | with_reducible apply Upd.tail))) (by exact aggTerm) (by rfl) (by simp [Value.oneCell']) (fun w9 H_ => ?_)
      clear H; have H := H_; clear H_
      refine hK_ _ _ (fun h => absurd (by decide) h) (fun _ => ?_)
      refine wpL_done (by kernel_rfl) ?_ _
      have H := H.node2 (k := 6) (a := r) (b := ts[j]) (by (repeat (first | with_reducible exact Pick.head | with_reducible apply Pick.tail))) (by (repeat (first | with_reducible exact Pick.head | with_reducible apply Pick.tail))) (by (repeat (first | with_reducible exact Pick.head | with_reducible apply Pick.tail))) (by unfold inI; omega)
      go_wp2_with fail
      go_roundw
      case rel =>
        refine ⟨j + 1, .mk 6 0 0 [] [r, ts[j]], ?_⟩
        (iterate 4 apply Exists.intro)
        refine ⟨by omega, by go_num, by rw [appsT_take hlt, HR.out], ?_⟩
        simp only [Tm.k_mk, Tm.n_mk, Tm.a_mk, Tm.ls_mk, Tm.ks_mk, List.length_nil, List.length_cons, Nat.reduceAdd, Nat.zero_add]
        exact (H.arr (by (repeat (first | with_reducible exact Arr.nil | refine Arr.cons (by (repeat (first | with_reducible exact Pick.head | with_reducible apply Pick.tail))) ?_)) <;> exact Arr.of_subl (by (repeat (first | with_reducible exact Subl.refl _ | with_reducible apply Subl.drop)))))
      case measure => simp [intOf]; omega
    · rw [take_all hlt] at HR
      have hr_ := H.rules; simp only [Rules, and_true] at hr_; have hd_ := H.dif; simp only [Dif, Neq, and_true] at hd_; obtain ⟨ho_, hz_⟩ := H.old0
      go_wp2_with ((with_reducible refine atStore (t := 26) ?_); go_must (refine wpList_storeH (t := 26) rfl rfl (by go_simp <;> first | rfl | exact ⟨rfl, rfl⟩) (by go_simp <;> first | rfl | exact ⟨rfl, rfl⟩) (by exact Hp.norm (by (repeat (first | with_reducible exact H | with_reducible exact H0_ | with_reducible apply Hp.alloc | with_reducible apply Hp.allocMap | with_reducible apply Hp.drew | with_reducible apply Hp.drewN | with_reducible apply Hp.set)); (try any_goals (repeat (first | with_reducible exact Upd.head | with_reducible apply Upd.tail)))) (by ((try simp only [size_drew_, size_drewN_, World.size_alloc, World.size_setCell, List.set_cons_zero, List.set_cons_succ, List.nil_append, List.cons_append]) <;> rfl))) (by (repeat (first | with_reducible exact Upd.head | with_reducible apply Upd.tail))) (by exact aggTerm) (by rfl) (by simp [Value.oneCell']) ?_; clear H; intro w7 H; (try simp only [size_drew_, size_drewN_, World.size_alloc, World.size_setCell, List.set_cons_zero, List.set_cons_succ] at H); (try clear hr_ hd_ ho_ hz_); have hr_ := H.rules; simp only [Rules, and_true] at hr_; have hd_ := H.dif; simp only [Dif, Neq, and_true] at hd_; obtain ⟨ho_, hz_⟩ := H.old0))
      clear hr_ hd_ ho_ hz_
      refine endH (by (repeat (first | with_reducible exact H | with_reducible exact H0_ | with_reducible apply Hp.alloc | with_reducible apply Hp.allocMap | with_reducible apply Hp.drew | with_reducible apply Hp.drewN | with_reducible apply Hp.set)); (try any_goals (repeat (first | with_reducible exact Upd.head | with_reducible apply Upd.tail)))) ?_
      clear H; intro w8 H; (try simp only [size_drew_, size_drewN_, World.size_alloc, World.size_setCell, List.set_cons_zero, List.set_cons_succ] at H)
      rw [← HR.out]
      exact bodyPost_ret (v := .agg #[_, _, _, _, _]) (Res.one Tryd.results93 (H.resBox (by (repeat (first | with_reducible exact Pick.head | with_reducible apply Pick.tail))) aggTerm rfl rfl)) rfl (H.ptm (by (repeat (first | with_reducible exact Pick.head | with_reducible apply Pick.tail))))
end Go.Proofs.YtmedomglemllnaaDoor
