/- law 12: app; pi and app over owned terms: contracts. No statement of the seat is proved here. -/
import Derived.Test.YtgbokmphbimihaaDoorMgRefFree
import Derived.Test.YtgbokmphbimihaaDoorRules12
namespace Go.Proofs.YtgbokmphbimihaaDoor
set_option linter.unusedSimpArgs false
set_option linter.unusedVariables false
open Go.RowKit

abbrev nodeL (k : Int) (g : Nat) : List Value := [.int .i64 k, .int .i64 0, .int .i64 0, .slice none 0 0, .slice (some ⟨g, 0, none⟩) 2 2]
abbrev flatL (k n a : Int) : List Value := [.int .i64 k, .int .i64 n, .int .i64 a, .slice none 0 0, .slice none 0 0]
theorem Hp.flatT {X : Nat → Prop} {w0 w : World} {l : List Ch} (H : Hp X w0 w l) {k n a : Int} (h1 : inI k) (h2 : inI n) (h3 : inI a) : Hp X w0 w (.dat (Tm.mk k n a [] []).d (flatL k n a) :: l) :=
  H.flat (RO.tm.2 ⟨_, _, [], [], rfl, rfl, h1, h2, h3, RO.nil, RO.nil⟩)
theorem Hp.nodeOwn {w0 w : World} {l l1 l2 l3 : List Ch} {k : Int} {a b : Tm} {g : Nat} {ca cb : List Value} (H : Hp no w0 w l) (p0 : Pick l (.box g 26 (ca ++ cb)) l1) (p1 : Pick l1 (.dat a.d ca) l2) (p2 : Pick l2 (.dat b.d cb) l3) (hk : inI k) :
    Hp no w0 w (.dat (Tm.mk k 0 0 [] [a, b]).d (nodeL k g) :: l3) := by
  have H1 := (((H.pick p0).pick (.tail p1)).pick (.tail (.tail p2))).one
  have H2 := H1.one1 (d := a.d) (cs := ca) (.tail .head)
  have H3 := H2.join .head .head
  have H4 := H3.boxrow (e := 26) (z := 5) (n := 2) (.tail .head) .head rfl (by simp [Tm.size_d]) (by unfold M; omega)
  have H5 := H4.nil 33 1
  exact H5.tm (k := k) (n := 0) (a := 0) (ls := []) (ks := [a, b]) .head .head hk inIz inIz
set_option maxRecDepth 100000 in
set_option maxHeartbeats 4000000 in
theorem pi12H {w0 w : World} {l l1 l2 : List Ch} {a b : Tm} {ca cb : List Value} (H : Hp no w0 w l) (p1 : Pick l (.dat a.d ca) l1) (p2 : Pick l1 (.dat b.d cb) l2) :
    Calls Tryd.prog 12 #[.agg ca.toArray, .agg cb.toArray] w (fun e w' => ∃ g, e = .returned (.agg (nodeL 4 g).toArray) ∧ Hp no w0 w' (.dat (Tm.mk 4 0 0 [] [a, b]).d (nodeL 4 g) :: l2)) := by
  have H0_ := (H.pick p1).pick (.tail p2)
  obtain ⟨A1, c1, K1, k1, rfl, _⟩ := RC.tm.1 (H.rd p1)
  obtain ⟨A2, c2, K2, k2, rfl, _⟩ := RC.tm.1 (H0_.rd .head)
  clear H p1 p2
  have H := H0_
  clear H0_
  go_enter Tryd.func12, Tryd.ntmps12
  have hr_ := H.rules; simp only [Rules, and_true] at hr_; have hd_ := H.dif; simp only [Dif, Neq, and_true] at hd_; obtain ⟨ho_, hz_⟩ := H.old0
  go_wp2_with ((with_reducible refine atStore (t := 26) ?_); go_must (refine wpList_storeH (t := 26) rfl rfl (by go_simp <;> first | rfl | exact ⟨rfl, rfl⟩) (by go_simp <;> first | rfl | exact ⟨rfl, rfl⟩) (by exact Hp.norm (by (repeat (first | with_reducible exact H | with_reducible exact H0_ | with_reducible apply Hp.alloc | with_reducible apply Hp.allocMap | with_reducible apply Hp.drew | with_reducible apply Hp.drewN | with_reducible apply Hp.set)); (try any_goals (repeat (first | with_reducible exact Upd.head | with_reducible apply Upd.tail)))) (by ((try simp only [size_drew_, size_drewN_, World.size_alloc, World.size_setCell, List.set_cons_zero, List.set_cons_succ, List.nil_append, List.cons_append]) <;> rfl))) (by (repeat (first | with_reducible exact Upd.head | with_reducible apply Upd.tail))) (by exact aggTerm) (by rfl) (by simp [Value.oneCell']) ?_; clear H; intro w7 H; (try simp only [size_drew_, size_drewN_, World.size_alloc, World.size_setCell, List.set_cons_zero, List.set_cons_succ] at H); (try clear hr_ hd_ ho_ hz_); have hr_ := H.rules; simp only [Rules, and_true] at hr_; have hd_ := H.dif; simp only [Dif, Neq, and_true] at hd_; obtain ⟨ho_, hz_⟩ := H.old0))
  (try clear hr_ hd_ ho_ hz_)
  have HN := H.nodeOwn (k := 4) (a := a) (b := b) (g := w.heap.size + 1 + 1 + 1) (ca := [.int .i64 a.k, .int .i64 a.n, .int .i64 a.a, .slice A1 a.ls.length c1, .slice K1 a.ks.length k1]) (cb := [.int .i64 b.k, .int .i64 b.n, .int .i64 b.a, .slice A2 b.ls.length c2, .slice K2 b.ks.length k2]) .head (by (repeat (first | with_reducible exact Pick.head | with_reducible apply Pick.tail))) (by (repeat (first | with_reducible exact Pick.head | with_reducible apply Pick.tail))) (by unfold inI; omega)
  exact bodyPost_ret (v := .agg #[.int .i64 4, .int .i64 0, .int .i64 0, .slice none 0 0, .slice (some ⟨w.heap.size + 1 + 1 + 1, 0, none⟩) 2 2]) (Res.one Tryd.results12 (H.resBox (by (repeat (first | with_reducible exact Pick.head | with_reducible apply Pick.tail))) aggTerm rfl rfl)) rfl
    ⟨_, rfl, HN.only (.keep (by (repeat (first | with_reducible exact Subl.refl _ | with_reducible apply Subl.drop))))⟩
set_option maxRecDepth 100000 in
set_option maxHeartbeats 4000000 in
theorem app12H {w0 w : World} {l l1 l2 : List Ch} {a b : Tm} {ca cb : List Value} (H : Hp no w0 w l) (p1 : Pick l (.dat a.d ca) l1) (p2 : Pick l1 (.dat b.d cb) l2) :
    Calls Tryd.prog 11 #[.agg ca.toArray, .agg cb.toArray] w (fun e w' => ∃ g, e = .returned (.agg (nodeL 6 g).toArray) ∧ Hp no w0 w' (.dat (Tm.mk 6 0 0 [] [a, b]).d (nodeL 6 g) :: l2)) := by
  have H0_ := (H.pick p1).pick (.tail p2)
  obtain ⟨A1, c1, K1, k1, rfl, _⟩ := RC.tm.1 (H.rd p1)
  obtain ⟨A2, c2, K2, k2, rfl, _⟩ := RC.tm.1 (H0_.rd .head)
  clear H p1 p2
  have H := H0_
  clear H0_
  go_enter Tryd.func11, Tryd.ntmps11
  have hr_ := H.rules; simp only [Rules, and_true] at hr_; have hd_ := H.dif; simp only [Dif, Neq, and_true] at hd_; obtain ⟨ho_, hz_⟩ := H.old0
  go_wp2_with ((with_reducible refine atStore (t := 26) ?_); go_must (refine wpList_storeH (t := 26) rfl rfl (by go_simp <;> first | rfl | exact ⟨rfl, rfl⟩) (by go_simp <;> first | rfl | exact ⟨rfl, rfl⟩) (by exact Hp.norm (by (repeat (first | with_reducible exact H | with_reducible exact H0_ | with_reducible apply Hp.alloc | with_reducible apply Hp.allocMap | with_reducible apply Hp.drew | with_reducible apply Hp.drewN | with_reducible apply Hp.set)); (try any_goals (repeat (first | with_reducible exact Upd.head | with_reducible apply Upd.tail)))) (by ((try simp only [size_drew_, size_drewN_, World.size_alloc, World.size_setCell, List.set_cons_zero, List.set_cons_succ, List.nil_append, List.cons_append]) <;> rfl))) (by (repeat (first | with_reducible exact Upd.head | with_reducible apply Upd.tail))) (by exact aggTerm) (by rfl) (by simp [Value.oneCell']) ?_; clear H; intro w7 H; (try simp only [size_drew_, size_drewN_, World.size_alloc, World.size_setCell, List.set_cons_zero, List.set_cons_succ] at H); (try clear hr_ hd_ ho_ hz_); have hr_ := H.rules; simp only [Rules, and_true] at hr_; have hd_ := H.dif; simp only [Dif, Neq, and_true] at hd_; obtain ⟨ho_, hz_⟩ := H.old0))
  (try clear hr_ hd_ ho_ hz_)
  have HN := H.nodeOwn (k := 6) (a := a) (b := b) (g := w.heap.size + 1 + 1 + 1) (ca := [.int .i64 a.k, .int .i64 a.n, .int .i64 a.a, .slice A1 a.ls.length c1, .slice K1 a.ks.length k1]) (cb := [.int .i64 b.k, .int .i64 b.n, .int .i64 b.a, .slice A2 b.ls.length c2, .slice K2 b.ks.length k2]) .head (by (repeat (first | with_reducible exact Pick.head | with_reducible apply Pick.tail))) (by (repeat (first | with_reducible exact Pick.head | with_reducible apply Pick.tail))) (by unfold inI; omega)
  exact bodyPost_ret (v := .agg #[.int .i64 6, .int .i64 0, .int .i64 0, .slice none 0 0, .slice (some ⟨w.heap.size + 1 + 1 + 1, 0, none⟩) 2 2]) (Res.one Tryd.results11 (H.resBox (by (repeat (first | with_reducible exact Pick.head | with_reducible apply Pick.tail))) aggTerm rfl rfl)) rfl
    ⟨_, rfl, HN.only (.keep (by (repeat (first | with_reducible exact Subl.refl _ | with_reducible apply Subl.drop))))⟩
set_option maxRecDepth 100000 in
set_option maxHeartbeats 4000000 in
theorem app12_calls {w : World} {S S1 : Nat → Prop} {a b : Tm} {ca cb : List Value} (ha : RC w S a.d ca) (hb : RC w S1 b.d cb) : Calls Tryd.prog 11 #[.agg ca.toArray, .agg cb.toArray] w (PRa w (Tm.mk 6 0 0 [] [a, b]).d) := by
  obtain ⟨A1, c1, K1, k1, rfl, _⟩ := RC.tm.1 ha
  obtain ⟨A2, c2, K2, k2, rfl, _⟩ := RC.tm.1 hb
  have HA := Lib.hid ha
  have HB := Lib.hid hb
  clear ha hb
  go_enter Tryd.func11, Tryd.ntmps11
  have H := Hp.start no w
  go_wp2_with ((with_reducible refine atStore (t := 26) ?_); go_must (refine wpList_storeH (t := 26) rfl rfl (by go_simp <;> first | rfl | exact ⟨rfl, rfl⟩) (by go_simp <;> first | rfl | exact ⟨rfl, rfl⟩) (by exact Hp.norm (by (repeat (first | with_reducible exact H | with_reducible exact H0_ | with_reducible apply Hp.alloc | with_reducible apply Hp.allocMap | with_reducible apply Hp.drew | with_reducible apply Hp.drewN | with_reducible apply Hp.set)); (try any_goals (repeat (first | with_reducible exact Upd.head | with_reducible apply Upd.tail)))) (by ((try simp only [size_drew_, size_drewN_, World.size_alloc, World.size_setCell, List.set_cons_zero, List.set_cons_succ, List.nil_append, List.cons_append]) <;> rfl))) (by (repeat (first | with_reducible exact Upd.head | with_reducible apply Upd.tail))) (by exact aggTerm) (by rfl) (by simp [Value.oneCell']) ?_; clear H; intro w7 H; (try simp only [size_drew_, size_drewN_, World.size_alloc, World.size_setCell, List.set_cons_zero, List.set_cons_succ] at H); (try clear hr_ hd_ ho_ hz_); have hr_ := H.rules; simp only [Rules, and_true] at hr_; have hd_ := H.dif; simp only [Dif, Neq, and_true] at hd_; obtain ⟨ho_, hz_⟩ := H.old0))
  (try clear hr_ hd_ ho_ hz_)
  have H2 := H.pick (c := .box (w.heap.size + 1 + 1 + 1) 26 _) (by (repeat (first | with_reducible exact Pick.head | with_reducible apply Pick.tail)))
  exact bodyPost_ret (v := .agg #[.int .i64 6, .int .i64 0, .int .i64 0, .slice none 0 0, .slice (some ⟨w.heap.size + 1 + 1 + 1, 0, none⟩) 2 2]) (Res.one Tryd.results11 (H.resBox (by (repeat (first | with_reducible exact Pick.head | with_reducible apply Pick.tail))) aggTerm rfl rfl)) rfl
    ⟨_, rfl, Hp.nodeO (ca := [.int .i64 a.k, .int .i64 a.n, .int .i64 a.a, .slice A1 a.ls.length c1, .slice K1 a.ks.length k1]) H2 (HA.out.ext0 H.ext).any (HB.out.ext0 H.ext).any (by unfold inI; omega), H.ext⟩
end Go.Proofs.YtgbokmphbimihaaDoor
