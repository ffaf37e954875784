/- tele: a row laid above a term: contract. No statement of the seat is proved here. -/
import Derived.Test.YtmedomglemllnaaGreatDoorMgBack
import Derived.Test.YtmedomglemllnaaGreatDoorMgWalkG
namespace Go.Proofs.YtmedomglemllnaaGreatDoor
set_option linter.unusedSimpArgs false
set_option linter.unusedVariables false
open Go.RowKit
attribute [local go_sem] Oper.semAt_some

end Go.Proofs.YtmedomglemllnaaGreatDoor
/- term.Lift: contract. -/
namespace Go.Proofs.YtmedomglemllnaaGreatDoor
set_option linter.unusedSimpArgs false
set_option linter.unusedVariables false
open Go.RowKit

def outer (b fr : Int) (t : Tm) : Bool := t.k == 1 && decide (b ≤ t.n) && decide (fr ≤ wrap64 (t.n - b))
def liftF (n fr : Int) : Turn := fun b t => .inr (t.k, if outer b fr t then wrap64 (t.n + n) else t.n, t.a, t.ls)
def liftT (t : Tm) (n fr : Int) : Tm := walkT (liftF n fr) 0 t
def IntAt (w : World) (b : Nat) (n : Int) : Prop := w.cell? ⟨b, 0, none⟩ = some (.int .i64 n)
theorem run_enter {P : Program} {f : FuncId} {fn : Func} (hf : P.funcs[f]? = some fn) (h : ((fn.name == "runtime.NumGoroutine") || fn.body.isNone) = false) (args : Array Value) (w : World) : (callFunc f args).run P w = .ok (.enter f args) w := by
  simp only [Bool.or_eq_false_iff] at h
  have h1 : ¬ fn.name = "runtime.NumGoroutine" := by simpa using h.1
  have h2 : ¬ fn.body = none := fun e => by rw [e] at h; simp at h
  simp [callFunc, hf, h1, h2]
theorem IntAt.ext {w w' : World} {b : Nat} {n : Int} (h : IntAt w b n) (hx : Ext no w w') : IntAt w' b n := hx.keep h
theorem PTurn.mk {w W w' : World} {S : Nat → Prop} {t : Tm} {h : Int × Int × Int × List Lv} {v : Value} (hW : Ext no w W) (h1 : TH W S (.mk h.1 h.2.1 h.2.2.1 h.2.2.2 t.ks) v w') (hx : Ext no W w') : PTurn w S t (.inr h) (.returned (.tuple #[v, .bool false])) w' := by
  obtain ⟨A4, c4, L, K, ck, rfl, i1, i2, i3, hro, hnd, hks⟩ := h1
  exact ⟨_, rfl, ⟨A4, c4, L, K, ck, rfl, i1, i2, i3, hro.ge hW.size, hnd, hks⟩, hW.seq hx⟩
set_option maxRecDepth 100000 in
set_option maxHeartbeats 2000000 in
theorem lift1_calls (bf bn : Nat) (n fr : Int) : TurnC 161 #[.pointer (some ⟨bf, 0, none⟩), .pointer (some ⟨bn, 0, none⟩)] (fun w => IntAt w bf fr ∧ IntAt w bn n) (liftF n fr) := by
  refine ⟨fun w w' h hx => ⟨h.1.ext hx, h.2.ext hx⟩, fun args w => run_enter Tryz.func161 (by kernel_rfl) args w, ?_⟩
  rintro w S b t v ⟨hf, hn⟩ hT hb ⟨A0, ca, K0, ck, rfl, hrc⟩
  unfold IntAt at hf hn
  have lf := cell_lt hf
  have ln := cell_lt hn
  obtain ⟨_, _, _, _, he, i1, i2, i3, hls, hks⟩ := RC.tm.1 hrc
  clear he hls hks
  show Calls Tryz.prog 161 #[.agg #[.int .i64 b, .func (.func 161) #[] #[.pointer (some ⟨bf, 0, none⟩), .pointer (some ⟨bn, 0, none⟩)]], _, .pointer (some ⟨bf, 0, none⟩), .pointer (some ⟨bn, 0, none⟩)] w _
  go_enter Tryz.func161, Tryz.ntmps161
  go_wp2_with fail
  refine (means_calls b t.n).mono ?_
  rintro e w1 ⟨rfl, hx1⟩
  have b0 := (((Blk.new rfl).alloc _).alloc _).ext0 hx1
  have b1 := ((Blk.new (g := w.heap.size + 1) (by simp)).alloc _).ext0 hx1
  have b2 := (Blk.new (g := w.heap.size + 1 + 1) (by simp)).ext0 hx1
  have hx0 := ((((Ext.refl no w).alloc _).alloc _).alloc _).seq hx1
  have hf1 := hx0.keep hf
  have hn1 := hx0.keep hn
  have lf1 := cell_lt hf1
  have ln1 := cell_lt hn1
  have nf : bf ≠ w.heap.size + 1 + 1 := by omega
  have c1 := b1.cells
  have f1 := b1.frz
  have l2 := b2.lt
  have hrc1 := hrc.bd.ext0 hx0
  obtain ⟨_, _, _, _, he1, _, _, _, hls1, hks1⟩ := RC.tm.1 hrc1
  simp only [List.cons.injEq, Value.slice.injEq, and_true, true_and] at he1
  obtain ⟨⟨rfl, rfl⟩, rfl, rfl⟩ := he1
  clear hf hn hrc hx1 b0 lf ln nf
  by_cases h1 : t.k = 1
  · have g1 : (t.k == 1) = true := by simpa using h1
    by_cases h2 : b ≤ t.n
    · have g2 : decide (b ≤ t.n) = true := by simpa using h2
      by_cases h3 : fr ≤ wrap64 (t.n - b)
      · have g3 : decide (fr ≤ wrap64 (t.n - b)) = true := by simpa using h3
        have E := Lib.hid (show liftF n fr b t = .inr (t.k, wrap64 (t.n + n), t.a, t.ls) by simp [liftF, outer, g1, g2, g3])
        clear h1 h2 h3
        go_wp2_with fail
        have hxw := ((Ext.refl (fun x => x = w.heap.size + 1) w1).setCell (p := ⟨w.heap.size + 1, 1, none⟩) (.inl rfl) (.int .i64 (wrap64 (t.n + n))))
        refine (own_calls (t := .mk t.k (wrap64 (t.n + n)) t.a t.ls t.ks) (S := fun x => S x ∧ x < w.heap.size) ⟨A0, ca, K0, ck, rfl, RC.tm.2 ⟨_, _, _, _, rfl, i1, wrap64_inI _, i3, hls1.ext hxw (fun x _ hx e => by have := hx.2; omega), hks1.ext hxw (fun x _ hx e => by have := hx.2; omega)⟩⟩).mono ?_
        rintro e w2 ⟨v, rfl, ⟨A4, c4, L, K4, k4, rfl, j1, j2, j3, hro, hnd, hks4⟩, hx2⟩
        have b2' := (b2.ext hxw (by omega)).ext0 hx2
        have c2 := b2'.cells
        have f2 := b2'.frz
        have hx3 : Ext no w w2 := (hx0.old hxw (by omega)).seq hx2
        have hsz := hxw.size
        simp only [Tm.k_mk, Tm.n_mk, Tm.a_mk, Tm.ls_mk, Tm.ks_mk] at j1 j2 j3 hro hks4 ⊢
        go_wp2_with fail
        refine bodyPost_ret (v := .tuple #[.agg #[.int .i64 t.k, .int .i64 (wrap64 (t.n + n)), .int .i64 t.a, .slice A4 t.ls.length c4, .slice K4 t.ks.length k4], .bool false]) (by simp [results, Tryz.results161, go_sem, c2]) rfl ?_
        rw [E.out]
        refine PTurn.mk (W := w) (Ext.refl _ _) ⟨A4, c4, L, K4, k4, rfl, j1, j2, j3, ?_, hnd, ?_⟩ (hx3.old (Ext.set5 _ _ _ _ _ _ _) (fun x h1 e => by omega))
        · exact (hro.ext (Ext.set5 _ _ _ _ _ _ _) (fun x h1 _ e => by omega)).ge (by omega)
        · exact RC.frame (Nat.le_refl _) (fun _ _ h => h.1) (fun _ _ _ => rfl) _ _ (hks4.ext (Ext.set5 _ _ _ _ _ _ _) (fun x _ hx e => by have := hx.2; omega))
      · have g3 : decide (fr ≤ wrap64 (t.n - b)) = false := by simpa using h3
        have E := Lib.hid (show liftF n fr b t = .inr (t.k, t.n, t.a, t.ls) by simp [liftF, outer, g1, g2, g3])
        clear h1 h2 h3
        go_wp2_with fail
        have hxw := Ext.refl (fun x => x = w.heap.size + 1) w1
        refine (own_calls (t := .mk t.k (t.n) t.a t.ls t.ks) (S := fun x => S x ∧ x < w.heap.size) ⟨A0, ca, K0, ck, rfl, RC.tm.2 ⟨_, _, _, _, rfl, i1, i2, i3, hls1.ext hxw (fun x _ hx e => by have := hx.2; omega), hks1.ext hxw (fun x _ hx e => by have := hx.2; omega)⟩⟩).mono ?_
        rintro e w2 ⟨v, rfl, ⟨A4, c4, L, K4, k4, rfl, j1, j2, j3, hro, hnd, hks4⟩, hx2⟩
        have b2' := (b2.ext hxw (by omega)).ext0 hx2
        have c2 := b2'.cells
        have f2 := b2'.frz
        have hx3 : Ext no w w2 := (hx0.old hxw (by omega)).seq hx2
        have hsz := hxw.size
        simp only [Tm.k_mk, Tm.n_mk, Tm.a_mk, Tm.ls_mk, Tm.ks_mk] at j1 j2 j3 hro hks4 ⊢
        go_wp2_with fail
        refine bodyPost_ret (v := .tuple #[.agg #[.int .i64 t.k, .int .i64 (t.n), .int .i64 t.a, .slice A4 t.ls.length c4, .slice K4 t.ks.length k4], .bool false]) (by simp [results, Tryz.results161, go_sem, c2]) rfl ?_
        rw [E.out]
        refine PTurn.mk (W := w) (Ext.refl _ _) ⟨A4, c4, L, K4, k4, rfl, j1, j2, j3, ?_, hnd, ?_⟩ (hx3.old (Ext.set5 _ _ _ _ _ _ _) (fun x h1 e => by omega))
        · exact (hro.ext (Ext.set5 _ _ _ _ _ _ _) (fun x h1 _ e => by omega)).ge (by omega)
        · exact RC.frame (Nat.le_refl _) (fun _ _ h => h.1) (fun _ _ _ => rfl) _ _ (hks4.ext (Ext.set5 _ _ _ _ _ _ _) (fun x _ hx e => by have := hx.2; omega))
    · have g2 : decide (b ≤ t.n) = false := by simpa using h2
      have E := Lib.hid (show liftF n fr b t = .inr (t.k, t.n, t.a, t.ls) by simp [liftF, outer, g1, g2])
      clear h1 h2
      go_wp2_with fail
      · skip
        have hxw := Ext.refl (fun x => x = w.heap.size + 1) w1
        refine (own_calls (t := .mk t.k (t.n) t.a t.ls t.ks) (S := fun x => S x ∧ x < w.heap.size) ⟨A0, ca, K0, ck, rfl, RC.tm.2 ⟨_, _, _, _, rfl, i1, i2, i3, hls1.ext hxw (fun x _ hx e => by have := hx.2; omega), hks1.ext hxw (fun x _ hx e => by have := hx.2; omega)⟩⟩).mono ?_
        rintro e w2 ⟨v, rfl, ⟨A4, c4, L, K4, k4, rfl, j1, j2, j3, hro, hnd, hks4⟩, hx2⟩
        have b2' := (b2.ext hxw (by omega)).ext0 hx2
        have c2 := b2'.cells
        have f2 := b2'.frz
        have hx3 : Ext no w w2 := (hx0.old hxw (by omega)).seq hx2
        have hsz := hxw.size
        simp only [Tm.k_mk, Tm.n_mk, Tm.a_mk, Tm.ls_mk, Tm.ks_mk] at j1 j2 j3 hro hks4 ⊢
        go_wp2_with fail
        refine bodyPost_ret (v := .tuple #[.agg #[.int .i64 t.k, .int .i64 (t.n), .int .i64 t.a, .slice A4 t.ls.length c4, .slice K4 t.ks.length k4], .bool false]) (by simp [results, Tryz.results161, go_sem, c2]) rfl ?_
        rw [E.out]
        refine PTurn.mk (W := w) (Ext.refl _ _) ⟨A4, c4, L, K4, k4, rfl, j1, j2, j3, ?_, hnd, ?_⟩ (hx3.old (Ext.set5 _ _ _ _ _ _ _) (fun x h1 e => by omega))
        · exact (hro.ext (Ext.set5 _ _ _ _ _ _ _) (fun x h1 _ e => by omega)).ge (by omega)
        · exact RC.frame (Nat.le_refl _) (fun _ _ h => h.1) (fun _ _ _ => rfl) _ _ (hks4.ext (Ext.set5 _ _ _ _ _ _ _) (fun x _ hx e => by have := hx.2; omega))
  · have g1 : (t.k == 1) = false := by simpa using h1
    have E := Lib.hid (show liftF n fr b t = .inr (t.k, t.n, t.a, t.ls) by simp [liftF, outer, g1])
    clear h1
    go_wp2_with fail
    · skip
      · skip
        have hxw := Ext.refl (fun x => x = w.heap.size + 1) w1
        refine (own_calls (t := .mk t.k (t.n) t.a t.ls t.ks) (S := fun x => S x ∧ x < w.heap.size) ⟨A0, ca, K0, ck, rfl, RC.tm.2 ⟨_, _, _, _, rfl, i1, i2, i3, hls1.ext hxw (fun x _ hx e => by have := hx.2; omega), hks1.ext hxw (fun x _ hx e => by have := hx.2; omega)⟩⟩).mono ?_
        rintro e w2 ⟨v, rfl, ⟨A4, c4, L, K4, k4, rfl, j1, j2, j3, hro, hnd, hks4⟩, hx2⟩
        have b2' := (b2.ext hxw (by omega)).ext0 hx2
        have c2 := b2'.cells
        have f2 := b2'.frz
        have hx3 : Ext no w w2 := (hx0.old hxw (by omega)).seq hx2
        have hsz := hxw.size
        simp only [Tm.k_mk, Tm.n_mk, Tm.a_mk, Tm.ls_mk, Tm.ks_mk] at j1 j2 j3 hro hks4 ⊢
        go_wp2_with fail
        refine bodyPost_ret (v := .tuple #[.agg #[.int .i64 t.k, .int .i64 (t.n), .int .i64 t.a, .slice A4 t.ls.length c4, .slice K4 t.ks.length k4], .bool false]) (by simp [results, Tryz.results161, go_sem, c2]) rfl ?_
        rw [E.out]
        refine PTurn.mk (W := w) (Ext.refl _ _) ⟨A4, c4, L, K4, k4, rfl, j1, j2, j3, ?_, hnd, ?_⟩ (hx3.old (Ext.set5 _ _ _ _ _ _ _) (fun x h1 e => by omega))
        · exact (hro.ext (Ext.set5 _ _ _ _ _ _ _) (fun x h1 _ e => by omega)).ge (by omega)
        · exact RC.frame (Nat.le_refl _) (fun _ _ h => h.1) (fun _ _ _ => rfl) _ _ (hks4.ext (Ext.set5 _ _ _ _ _ _ _) (fun x _ hx e => by have := hx.2; omega))

set_option maxRecDepth 100000 in
set_option maxHeartbeats 1000000 in
theorem lift_calls {w : World} {S : Nat → Prop} {t : Tm} {v : Value} (hT : Tab w) (n fr : Int) (hv : TV w S t v) : Calls Tryz.prog 80 #[v, .int .i64 n, .int .i64 fr] w (PTm w (liftT t n fr)) := by
  obtain ⟨A0, ca, K0, ck, rfl, hrc⟩ := hv
  go_enter Tryz.func80, Tryz.ntmps80
  go_wp2_with fail
  have hxa : Ext no w _ := ((((Ext.refl no w).alloc (.cells #[.int .i64 t.k, .int .i64 t.n, .int .i64 t.a, .slice A0 t.ls.length ca, .slice K0 t.ks.length ck] 26)).alloc (.cells #[.int .i64 n] 3)).alloc (.cells #[.int .i64 fr] 3)).alloc (.cells #[.int .i64 0, .int .i64 0, .int .i64 0, .slice none 0 0, .slice none 0 0] 26)
  refine (walk_calls (lift1_calls (w.heap.size + 1 + 1) (w.heap.size + 1) n fr) t _ S 0 _ ⟨?_, ?_⟩ (hT.ext hxa) ⟨by decide, by decide⟩ ⟨_, _, _, _, rfl, hrc.ext0 hxa⟩).mono ?_
  · exact ((Blk.new (by simp)).alloc _).cells 0
  · exact (((Blk.new (g := w.heap.size + 1) (by simp)).alloc _).alloc _).cells 0
  rintro e w1 ⟨v, rfl, ⟨A1, c1, K1, k1, L, rfl, hro, hnd⟩, hx1⟩
  have b3 := (Blk.new (g := w.heap.size + 1 + 1 + 1) (by simp)).ext0 hx1
  have hx0 := hxa.seq hx1
  have c3 := b3.cells
  have f3 := b3.frz
  clear hrc hx1 hxa
  go_wp2_with fail
  refine bodyPost_ret (v := .agg #[.int .i64 (walkT (liftF n fr) 0 t).k, .int .i64 (walkT (liftF n fr) 0 t).n, .int .i64 (walkT (liftF n fr) 0 t).a, .slice A1 (walkT (liftF n fr) 0 t).ls.length c1, .slice K1 (walkT (liftF n fr) 0 t).ks.length k1]) (by simp [results, Tryz.results80, go_sem, c3]) rfl ⟨_, rfl, ⟨A1, c1, K1, k1, _, rfl, (hro.ext (Ext.set5 _ _ _ _ _ _ _) (fun x h1 _ e => by first | omega | (simp at h1; omega))).ge (by first | omega | (simp; omega)), hnd⟩, hx0.old (Ext.set5 _ _ _ _ _ _ _) (fun x h1 e => by omega)⟩
end Go.Proofs.YtmedomglemllnaaGreatDoor
/- tele: own, owns, of, Pis, Lams, Apps: contracts. No statement of the seat is proved here. -/
namespace Go.Proofs.YtmedomglemllnaaGreatDoor
set_option linter.unusedSimpArgs false
set_option linter.unusedVariables false
open Go.RowKit

inductive TmOK : Tm → Prop where
  | mk {k n a : Int} {ls : List Lv} {ks : List Tm} (h1 : inI k) (h2 : inI n) (h3 : inI a) (h : ∀ t ∈ ks, TmOK t) : TmOK (.mk k n a ls ks)
theorem RC.ok : ∀ (t : Tm) {w : World} {S : Nat → Prop} {cs : List Value}, RC w S t.d cs → TmOK t := by
  intro t
  induction t using Tm.ind_ with
  | h k n a ls ks ih =>
  intro w S cs h
  obtain ⟨_, _, _, _, _, i1, i2, i3, _, hks⟩ := RC.tm.1 h
  refine .mk i1 i2 i3 fun t ht => ?_
  obtain ⟨j, hj, rfl⟩ := List.getElem_of_mem ht
  obtain ⟨_, _, _, _, _, _, _, _, _, hr, _⟩ := RC.atTm hks hj
  exact ih _ (by simp) hr
theorem wrap_in {n : Int} (h : inI n) : wrap64 n = n := by unfold inI at h; unfold wrap64; omega
theorem lift0 : ∀ {t : Tm} (b : Int), TmOK t → walkT (liftF 0 0) b t = t := by
  intro t
  induction t using Tm.ind_ with
  | h k n a ls ks ih =>
  intro b h
  cases h with
  | mk h1 h2 h3 h =>
  have hs : ∀ (ts : List Tm) (i : Nat), (∀ t ∈ ts, t ∈ ks) → walkTs (liftF 0 0) k b i ts = ts := by
    intro ts
    induction ts with
    | nil => intro i _; rfl
    | cons t ts ihs =>
      intro i hm
      rw [walkTs, ih t (hm t (by simp)) _ (h t (hm t (by simp))), ihs _ fun t ht => hm t (by simp [ht])]
  simp only [walkT, liftF, Tm.k_mk, Tm.n_mk, Tm.a_mk, Tm.ls_mk, Int.add_zero, wrap_in h2, ite_self]
  rw [hs ks 0 fun _ h => h]
theorem liftT0 {t : Tm} (h : TmOK t) : liftT t 0 0 = t := lift0 0 h

set_option maxRecDepth 100000 in
set_option maxHeartbeats 2000000 in
theorem teleOwn {S : Nat → Prop} {t : Tm} {w : World} {v : Value} (hT : Tab w) (h : TV w S t v) : Calls Tryz.prog 63 #[v] w (PTm w t) := by
  obtain ⟨A0, ca, K0, ck, rfl, hrc⟩ := h
  have hok := Lib.hid (liftT0 (RC.ok _ hrc))
  have HT := Lib.hid hT
  clear hT
  go_enter Tryz.func63, Tryz.ntmps63
  go_wp2_with fail
  have H := Hp.start no w
  refine callsH (by (repeat (first | with_reducible exact H | with_reducible exact H0_ | with_reducible apply Hp.alloc | with_reducible apply Hp.allocMap | with_reducible apply Hp.drew | with_reducible apply Hp.drewN | with_reducible apply Hp.set)); (try any_goals (repeat (first | with_reducible exact Upd.head | with_reducible apply Upd.tail)))) ?_
  clear H; intro w1 H; (try simp only [size_drew_, size_drewN_, World.size_alloc, World.size_setCell, List.set_cons_zero, List.set_cons_succ] at H)
  refine (lift_calls (t := t) (S := S) (HT.out.ext H.ext) 0 0 ⟨_, _, _, _, rfl, hrc.ext0 H.ext⟩).mono ?_
  rw [hok.out]
  rintro e w_ ⟨v, rfl, hto, hx⟩
  obtain ⟨A1, Ac, A2, Ak, rfl, H_⟩ := H.resTm hx hto
  clear H hx hto
  have H := H_
  clear H_
  have hr_ := H.rules; simp only [Rules, and_true] at hr_; have hd_ := H.dif; simp only [Dif, Neq, and_true] at hd_; obtain ⟨ho_, hz_⟩ := H.old0
  go_wp2_with ((with_reducible refine atStore (t := 26) ?_); go_must (refine wpList_storeH (t := 26) rfl rfl (by go_simp <;> first | rfl | exact ⟨rfl, rfl⟩) (by go_simp <;> first | rfl | exact ⟨rfl, rfl⟩) (by exact Hp.norm (by (repeat (first | with_reducible exact H | with_reducible exact H0_ | with_reducible apply Hp.alloc | with_reducible apply Hp.allocMap | with_reducible apply Hp.drew | with_reducible apply Hp.drewN | with_reducible apply Hp.set)); (try any_goals (repeat (first | with_reducible exact Upd.head | with_reducible apply Upd.tail)))) (by ((try simp only [size_drew_, size_drewN_, World.size_alloc, World.size_setCell, List.set_cons_zero, List.set_cons_succ, List.nil_append, List.cons_append]) <;> rfl))) (by (repeat (first | with_reducible exact Upd.head | with_reducible apply Upd.tail))) (by exact aggTerm) (by rfl) (by simp [Value.oneCell']) ?_; clear H; intro w7 H; (try simp only [size_drew_, size_drewN_, World.size_alloc, World.size_setCell, List.set_cons_zero, List.set_cons_succ] at H); (try clear hr_ hd_ ho_ hz_); have hr_ := H.rules; simp only [Rules, and_true] at hr_; have hd_ := H.dif; simp only [Dif, Neq, and_true] at hd_; obtain ⟨ho_, hz_⟩ := H.old0))
  clear hr_ hd_ ho_ hz_
  refine endH (by (repeat (first | with_reducible exact H | with_reducible exact H0_ | with_reducible apply Hp.alloc | with_reducible apply Hp.allocMap | with_reducible apply Hp.drew | with_reducible apply Hp.drewN | with_reducible apply Hp.set)); (try any_goals (repeat (first | with_reducible exact Upd.head | with_reducible apply Upd.tail)))) ?_
  clear H; intro w8 H; (try simp only [size_drew_, size_drewN_, World.size_alloc, World.size_setCell, List.set_cons_zero, List.set_cons_succ] at H)
  exact bodyPost_ret (v := .agg #[_, _, _, _, _]) (Res.one Tryz.results63 (H.resBox (by (repeat (first | with_reducible exact Pick.head | with_reducible apply Pick.tail))) aggTerm rfl rfl)) rfl (H.ptm (by (repeat (first | with_reducible exact Pick.head | with_reducible apply Pick.tail))))
set_option maxRecDepth 100000 in
set_option maxHeartbeats 2000000 in
theorem teleOwns {S : Nat → Prop} {ts : List Tm} {w : World} {A : Option Addr} {n c : Nat} (hT : Tab w) (h : RC w S (.l 26 5 (ts.map Tm.d)) [.slice A n c]) (hn : n = ts.length) : Calls Tryz.prog 137 #[.slice A n c] w (PSl w 26 5 (ts.map Tm.d)) := by
  subst hn
  have hM := h.lenM
  have HT := Lib.hid hT
  clear hT
  go_enter Tryz.func137, Tryz.ntmps137
  go_wp2_with fail
  have H := Hp.start no w
  replace H := H.nil 26 5
  go_loopw [2, 7] (fun out i wr => ∃ j : Nat, j ≤ ts.length ∧ i = .int .i64 j ∧ Hp no w wr [.dat (.l 26 5 ((ts.take j).map Tm.d)) [out]]) (fun _ i _ => ts.length - (intOf i).toNat)
  case atStart => exact ⟨0, Nat.zero_le _, rfl, H⟩
  case round =>
    clear H
    obtain ⟨j, hj, rfl, H⟩ := hrel
    by_cases hlt : j < ts.length
    · obtain ⟨b, o, A1, ca, K1, ck, rfl, hb, hS, hd, p0, p1, p2, p3, p4⟩ := h.atTm hlt
      have HD := Lib.hid hd
      clear hd
      have hr_ := H.rules; simp only [Rules, and_true] at hr_; have hd_ := H.dif; simp only [Dif, Neq, and_true] at hd_; obtain ⟨ho_, hz_⟩ := H.old0
      go_wp2_with fail
      clear hr_ hd_ ho_ hz_
      refine callsH (by (repeat (first | with_reducible exact H | with_reducible exact H0_ | with_reducible apply Hp.alloc | with_reducible apply Hp.allocMap | with_reducible apply Hp.drew | with_reducible apply Hp.drewN | with_reducible apply Hp.set)); (try any_goals (repeat (first | with_reducible exact Upd.head | with_reducible apply Upd.tail)))) ?_
      clear H; intro w2 H; (try simp only [size_drew_, size_drewN_, World.size_alloc, World.size_setCell, List.set_cons_zero, List.set_cons_succ] at H)
      refine (teleOwn (HT.out.ext H.ext) ⟨_, _, _, _, rfl, HD.out.ext0 H.ext⟩).mono ?_
      rintro e w_ ⟨v, rfl, hto, hx⟩
      obtain ⟨B1, Bc, B2, Bk, rfl, H_⟩ := H.resTm hx hto
      clear H hx hto
      have H := H_
      clear H_
      rename Hp _ _ _ _ => H
      go_wp2_with (at_builtin; go_must (refine wpList_pushH rfl (.tmp 11) (.tmp 14) 22 rfl stTerms (by go_simp <;> first | rfl | exact ⟨rfl, rfl⟩) (by go_simp <;> first | rfl | exact ⟨rfl, rfl⟩) (by exact Hp.norm (by (repeat (first | with_reducible exact H | with_reducible exact H0_ | with_reducible apply Hp.alloc | with_reducible apply Hp.allocMap | with_reducible apply Hp.drew | with_reducible apply Hp.drewN | with_reducible apply Hp.set)); (try any_goals (repeat (first | with_reducible exact Upd.head | with_reducible apply Upd.tail)))) (by ((try simp only [size_drew_, size_drewN_, World.size_alloc, World.size_setCell, List.set_cons_zero, List.set_cons_succ, List.nil_append, List.cons_append]) <;> rfl))) (by (repeat (first | with_reducible exact Pick.head | with_reducible apply Pick.tail))) (by (repeat (first | with_reducible exact Pick.head | with_reducible apply Pick.tail))) (by (repeat (first | with_reducible exact Pick.head | with_reducible apply Pick.tail))) (Tm.size_d _) ?_ ?_; (focus (simp [M]; omega)); clear H; intro v' w4 H))
      go_roundw
      case rel => exact ⟨j + 1, by omega, by go_num, by rw [take_map _ hlt]; exact (H.only (by (repeat (first | with_reducible exact Subl.nil | with_reducible apply Subl.keep | with_reducible apply Subl.drop))))⟩
      case measure => simp [intOf]; omega
    · go_wp2_with fail
      go_ret
      rw [take_all hlt] at H
      exact H.psl .head
end Go.Proofs.YtmedomglemllnaaGreatDoor
/- tele: of, Pis, Apps: contracts. No statement of the seat is proved here. -/
namespace Go.Proofs.YtmedomglemllnaaGreatDoor
set_option linter.unusedSimpArgs false
set_option linter.unusedVariables false
open Go.RowKit

def appsT (f : Tm) (args : List Tm) : Tm := args.foldl (fun f a => .mk 6 0 0 [] [f, a]) f
end Go.Proofs.YtmedomglemllnaaGreatDoor
/- tele: Count, Lifts; term: Size: contracts. What is appended of old memory. No statement of the seat is proved here. -/
namespace Go.Proofs.YtmedomglemllnaaGreatDoor
set_option linter.unusedSimpArgs false
set_option linter.unusedVariables false
open Go.RowKit

section
variable {X : Nat → Prop} {w0 w w1 : World} {l l' l1 l2 l3 : List Ch}
variable {P : Program} {ops : Array Oper} {rest : List Oper} {o : Oper} {a : Act} {Q : Exit → Act → World → Prop}
theorem wp_pushR {K : Act → World → Prop} (s x : Operand) (t : TypeId) (ho : o.op = .call { callee := .builtin .append, args := #[s, x], argTypes := #[t, t] }) {e z : Nat} (hT : SlT P t e z)
    {ds : List D} {d : D} {out : Value} {cs : List Value} {g c e1 : Nat} (hs : a.eval s = out) (hx : a.eval x = .slice (some ⟨g, 0, none⟩) 1 c) (H : Hp X w0 w l) (p3 : Pick l (.box g e1 cs) l1) (p1 : Pick l1 (.row e z ds out) l2)
    (hd : RC w (fun k => k < w0.heap.size ∧ ¬ X k) d cs) (hz : d.size = z) (hM : ds.length + 1 ≤ M)
    (h : ∀ v' w', Hp X w0 w' (.row e z (ds ++ [d]) v' :: l2) → K (a.put o.dst v') w') : o.wp P a w K Q := by
  have hcell := H.boxlies p3
  obtain ⟨L, hL, hn⟩ := ((H.pick p3).pick (.tail p1)).own
  simp only [Chs] at hL
  obtain ⟨L1, _, rfl, ⟨rfl, h1⟩, L2, L3, rfl, h2, h3⟩ := hL
  have hB : ∀ k, out.ownBlock = some k → w0.heap.size ≤ k := by
    intro k hk
    obtain ⟨_, _, es, h4, _⟩ := h1
    exact (h4.lt k (by simp [hk])).1
  refine wp_pushC s x t ho hT (ds' := [d]) (cs := cs) (m := 1) hs hx h1 ?_ (by simpa using hz) rfl hcell (by simpa using hM) H.ext.size ?_
  · unfold RCs
    refine ⟨cs, [], by simp, RC.frame (Nat.le_refl _) (fun k hk hS => ⟨hS, fun e => ?_⟩) (fun _ _ _ => rfl) _ _ hd, by unfold RCs; rfl⟩
    have := hB k e.symm
    omega
  · intro v' w' g1 g2 g3
    refine h v' w' ⟨H.ext.grown g2 (fun k hk => .inr (hB k hk)), v'.ownBlock.toList ++ L3, ?_, ?_⟩
    · unfold Chs
      refine ⟨_, L3, rfl, ⟨rfl, g1⟩, h3.frame H.ext.size g2.size (fun k hk hx => g2.block k (Nat.lt_of_lt_of_le hk H.ext.size) (fun e => ?_)) (fun k hk => g2.block k (h3.lt k hk).2 (fun e => ?_))⟩
      · have := hB k e.symm; omega
      · exact (List.nodup_append.1 hn).2.2 k (by simp [← e]) k (by simp [hk]) rfl
    · have n2 := (List.nodup_append.1 (List.nodup_append.1 hn).2.1).2.1
      refine List.nodup_append.2 ⟨by cases v'.ownBlock <;> simp, n2, fun x hx y hy e => ?_⟩
      subst e
      rcases g3 with g3 | g3
      · rw [g3] at hx
        exact (List.nodup_append.1 hn).2.2 x hx x (by simp [hy]) rfl
      · have hx' : x = w.heap.size := by rw [g3] at hx; simpa using hx
        have := (h3.lt x hy).2
        omega
theorem wpList_pushR (hgd : o.guard = none) (s x : Operand) (t : TypeId) (ho : o.op = .call { callee := .builtin .append, args := #[s, x], argTypes := #[t, t] }) {e z : Nat} (hT : SlT P t e z)
    {ds : List D} {d : D} {out : Value} {cs : List Value} {g c e1 : Nat} (hs : a.eval s = out) (hx : a.eval x = .slice (some ⟨g, 0, none⟩) 1 c) (H : Hp X w0 w l) (p3 : Pick l (.box g e1 cs) l1) (p1 : Pick l1 (.row e z ds out) l2)
    (hd : RC w (fun k => k < w0.heap.size ∧ ¬ X k) d cs) (hz : d.size = z) (hM : ds.length + 1 ≤ M)
    (h : ∀ v' w', Hp X w0 w' (.row e z (ds ++ [d]) v' :: l2) → wpList P ops Q rest (a.put o.dst v') w') : wpList P ops Q (o :: rest) a w :=
  wpList_plain hgd fun _ hK => wp_pushR s x t ho hT hs hx H p3 p1 hd hz hM fun v' w' h1 => hK _ _ (h v' w' h1)
theorem Hp.rowNil (H : Hp X w0 w l) (e z : Nat) : Hp X w0 w (.row e z [] (.slice none 0 0) :: l) := by
  obtain ⟨L, h, hn⟩ := H.own
  exact ⟨H.ext, L, by unfold Chs; exact ⟨[], L, rfl, ⟨by simp [Value.ownBlock], RG.nil⟩, h⟩, hn⟩
theorem Hp.rowRd {e z : Nat} {ds : List D} {v : Value} (H : Hp X w0 w l) (p : Pick l (.row e z ds v) l') : RC w (fun k => (k < w0.heap.size ∧ ¬ X k) ∨ w0.heap.size ≤ k) (.l e z ds) [v] := by
  obtain ⟨L, hL, _⟩ := (H.pick p).own
  simp only [Chs] at hL
  obtain ⟨L1, _, rfl, ⟨rfl, h1⟩, _⟩ := hL
  exact h1.rc
end

def countT : Tm → Nat
  | .mk k _ _ _ [_, b] => if k = 4 then countT b + 1 else 0
  | _ => 0
theorem Tm.two {t : Tm} (h : t.ks.length = 2) : ∃ k n a ls x y, t = .mk k n a ls [x, y] := by
  obtain ⟨k, n, a, ls, ks⟩ := t
  match ks, h with
  | [x, y], _ => exact ⟨k, n, a, ls, x, y, rfl⟩
theorem countT_step {t : Tm} (h4 : t.k = 4) (h2 : t.ks.length = 2) : countT t = countT (t.ks[1]'(by omega)) + 1 := by
  obtain ⟨k, n, a, ls, x, y, rfl⟩ := Tm.two h2
  simp only [Tm.k_mk] at h4
  rw [countT, if_pos h4]
  rfl
theorem countT_stop {t : Tm} (h : ¬ (t.k = 4 ∧ t.ks.length = 2)) : countT t = 0 := by
  obtain ⟨k, n, a, ls, ks⟩ := t
  match ks with
  | [] => simp [countT]
  | [_] => simp [countT]
  | [x, y] =>
    rw [countT, if_neg]
    intro e
    exact h ⟨e, rfl⟩
  | _ :: _ :: _ :: _ => simp [countT]
set_option maxRecDepth 100000 in
set_option maxHeartbeats 2000000 in
theorem teleCount {S : Nat → Prop} {t : Tm} {w : World} {v : Value} (h : TV w S t v) (hb : countT t ≤ 1000000000000) : Calls Tryz.prog 73 #[v] w (PV w (.int .i64 (countT t))) := by
  obtain ⟨A0, ca, K0, ck, rfl, hrc⟩ := h
  have HRC := Lib.hid hrc
  clear hrc
  go_enter Tryz.func73, Tryz.ntmps73
  go_wp2_with fail
  have H := Hp.start no w
  go_loopw [2] (fun n wr => ∃ (u : Tm) (m : Nat) (B K : Option Addr) (cb kb : Nat), n = .int .i64 m ∧ countT u + m = countT t ∧ RC w S u.d [.int .i64 u.k, .int .i64 u.n, .int .i64 u.a, .slice B u.ls.length cb, .slice K u.ks.length kb] ∧ Hp no w wr [.box w.heap.size 26 [.int .i64 u.k, .int .i64 u.n, .int .i64 u.a, .slice B u.ls.length cb, .slice K u.ks.length kb]]) (fun n _ => countT t - (intOf n).toNat)
  case atStart => exact ⟨t, 0, _, _, _, _, rfl, rfl, HRC.out, by (repeat (first | with_reducible exact H | with_reducible exact H0_ | with_reducible apply Hp.alloc | with_reducible apply Hp.allocMap | with_reducible apply Hp.drew | with_reducible apply Hp.drewN | with_reducible apply Hp.set)); (try any_goals (repeat (first | with_reducible exact Upd.head | with_reducible apply Upd.tail)))⟩
  case round =>
    clear H
    obtain ⟨u, m, B, K, cb, kb, rfl, hm, hrc, H⟩ := hrel
    have HM := Lib.hid hm
    have HR := Lib.hid hrc
    have hmb : m ≤ 1000000000000 := by omega
    clear hm hrc
    by_cases h4 : u.k = 4
    · by_cases h2 : u.ks.length = 2
      · obtain ⟨_, _, _, _, he, _, _, _, _, hks⟩ := RC.tm.1 HR.out
        simp only [List.cons.injEq, Value.slice.injEq, and_true, true_and] at he
        obtain ⟨⟨rfl, rfl⟩, rfl, rfl⟩ := he
        obtain ⟨b, o, A1, ca1, K1, ck1, rfl, hb, hS, hd, p0, p1, p2, p3, p4⟩ := hks.atTm (k := 1) (by omega)
        have HD := Lib.hid hd
        have HS := Lib.hid (countT_step h4 h2)
        clear hd hks
        simp only [Nat.one_mul] at p0 p1 p2 p3 p4
        have hr_ := H.rules; simp only [Rules, and_true] at hr_; have hd_ := H.dif; simp only [Dif, Neq, and_true] at hd_; obtain ⟨ho_, hz_⟩ := H.old0
        go_wp2_with ((with_reducible refine atStore (t := 26) ?_); go_must (refine wpList_storeH (t := 26) rfl rfl (by go_simp <;> first | rfl | exact ⟨rfl, rfl⟩) (by go_simp <;> first | rfl | exact ⟨rfl, rfl⟩) (by exact Hp.norm (by (repeat (first | with_reducible exact H | with_reducible exact H0_ | with_reducible apply Hp.alloc | with_reducible apply Hp.allocMap | with_reducible apply Hp.drew | with_reducible apply Hp.drewN | with_reducible apply Hp.set)); (try any_goals (repeat (first | with_reducible exact Upd.head | with_reducible apply Upd.tail)))) (by ((try simp only [size_drew_, size_drewN_, World.size_alloc, World.size_setCell, List.set_cons_zero, List.set_cons_succ, List.nil_append, List.cons_append]) <;> rfl))) (by (repeat (first | with_reducible exact Upd.head | with_reducible apply Upd.tail))) (by exact aggTerm) (by rfl) (by simp [Value.oneCell']) ?_; clear H; intro w7 H; (try simp only [size_drew_, size_drewN_, World.size_alloc, World.size_setCell, List.set_cons_zero, List.set_cons_succ] at H); (try clear hr_ hd_ ho_ hz_); have hr_ := H.rules; simp only [Rules, and_true] at hr_; have hd_ := H.dif; simp only [Dif, Neq, and_true] at hd_; obtain ⟨ho_, hz_⟩ := H.old0))
        clear hr_ hd_ ho_ hz_
        go_roundw
        case rel => exact ⟨u.ks[1], m + 1, _, _, _, _, by go_num, by have h1 := HM.out; have h5 := HS.out; omega, HD.out, H⟩
        case measure => have h1 := HM.out; have h5 := HS.out; simp [intOf]; omega
      · have HS := Lib.hid (countT_stop (t := u) (fun h => h2 h.2))
        have hr_ := H.rules; simp only [Rules, and_true] at hr_; have hd_ := H.dif; simp only [Dif, Neq, and_true] at hd_; obtain ⟨ho_, hz_⟩ := H.old0
        go_wp2_with fail
        clear hr_ hd_ ho_ hz_
        go_ret
        exact ⟨by have h1 := HM.out; have h5 := HS.out; rw [show countT t = m by omega]; rfl, H.ext⟩
    · have HS := Lib.hid (countT_stop (t := u) (fun h => h4 h.1))
      have hr_ := H.rules; simp only [Rules, and_true] at hr_; have hd_ := H.dif; simp only [Dif, Neq, and_true] at hd_; obtain ⟨ho_, hz_⟩ := H.old0
      go_wp2_with fail
      clear hr_ hd_ ho_ hz_
      go_ret
      exact ⟨by have h1 := HM.out; have h5 := HS.out; rw [show countT t = m by omega]; rfl, H.ext⟩
end Go.Proofs.YtmedomglemllnaaGreatDoor
