/- carry: the constant of a name: contract. -/
import Derived.Test.YteelplgdojjakaaDoorCarry3
import Derived.Recover
import Derived.Test.YteelplgdojjakaaDoorMap
namespace Go.Proofs.YteelplgdojjakaaDoor
set_option linter.unusedSimpArgs false
set_option linter.unusedVariables false
open Go.RowKit

set_option maxRecDepth 100000 in
set_option maxHeartbeats 1000000 in
theorem name1_panicking {bn bo : Nat} {x : Int} {q : Bool} {w : World} (hn : Blk w bn 3 #[.int .i64 x]) (ho : Blk w bo 4 #[.bool q]) (hne : bn ≠ bo) :
    CallsD Tryd.prog 129 #[.pointer (some ⟨bn, 0, none⟩), .pointer (some ⟨bo, 0, none⟩)] (.panicking absent) w fun e u' w' =>
      e = .returned (.tuple #[]) ∧ u' = .panicking [{ v := .iface 171 (.agg #[]), recovered := true }] ∧ w' = (((w.setCell ⟨bn, 0, none⟩ (.int .i64 0)).setCell ⟨bo, 0, none⟩ (.bool false)).alloc (.cells #[] 171)) := by
  have c1 := hn.cells
  have c2 := ho.cells
  have f1 := hn.frz
  have f2 := ho.frz
  have l1 := hn.lt
  have l2 := ho.lt
  refine callsD_of_wpS Tryd.func129 rfl fun c₀ cs hu => ?_
  have hta : ∀ w, (Instr.typeAssert (.iface 171 (.agg #[])) 20 171 true).run Tryd.prog w = .ok (.tuple #[.agg #[], .bool true]) w := fun w => run_assert_same Tryd.underlying171 rfl w
  simp only [Tryd.ntmps129, List.size_toArray, List.length_cons, List.length_nil, Nat.reduceAdd, Nat.reduceSub, Array.replicate_succ, Array.replicate_zero, List.push_toArray, List.append_toArray, List.nil_append, List.cons_append]
  apply wpS_seq
  apply wpS_region
  simp [wpOpsS, go_sem, recoverD, hu, absent, Exit.thenS]
  refine wpS_of_wp ?_
  go_wp2_with fail
  cases c₀
  simp_all [bodyPostS, results, Tryd.results129]
set_option maxRecDepth 100000 in
set_option maxHeartbeats 1000000 in
theorem name1_idle {bn bo : Nat} {w : World} :
    CallsD Tryd.prog 129 #[.pointer (some ⟨bn, 0, none⟩), .pointer (some ⟨bo, 0, none⟩)] .returning w fun e u' w' =>
      e = .returned (.tuple #[]) ∧ u' = .returning ∧ w' = w := by
  refine callsD_of_wpS Tryd.func129 rfl fun c₀ cs hu => ?_
  simp only [Tryd.ntmps129, List.size_toArray, List.length_cons, List.length_nil, Nat.reduceAdd, Nat.reduceSub, Array.replicate_succ, Array.replicate_zero, List.push_toArray, List.append_toArray, List.nil_append, List.cons_append]
  apply wpS_seq
  apply wpS_region
  simp [wpOpsS, go_sem, recoverD, hu, Exit.thenS]
  refine wpS_of_wp ?_
  go_wp2_with fail
  cases c₀
  simp_all [bodyPostS, results, Tryd.results129]
/-- The constant of a name, and whether there is one. -/
def PName (w : World) (o : Option Int) (e : Ending) (w' : World) : Prop := e = .returned (.tuple #[.int .i64 (o.getD 0), .bool o.isSome]) ∧ Ext no w w'
theorem nameOf_else {ds : List Dc} {at_ : List Int} {k n a : Int} (h3 : ¬ k = 3) (h8 : ¬ k = 8) (h9 : ¬ k = 9) (h10 : ¬ k = 10) : nameOf ds at_ k n a = none := by
  unfold nameOf
  split
  · simp [h3, h8, h9, h10]
  · rfl
set_option maxRecDepth 100000 in
set_option maxHeartbeats 2000000 in
theorem name_calls {w : World} {S S2 : Nat → Prop} {ds : List Dc} {at_ : List Int} {A B : Option Addr} {c c2 : Nat} {k n a : Int} {v1 v2 : Value} (hds : RC w S (.l 42 16 (ds.map Dc.d)) [.slice A ds.length c]) (hat : RC w S2 (.l 3 1 (at_.map D.i)) [.slice B at_.length c2]) :
    Calls Tryd.prog 98 #[.agg #[.slice A ds.length c, .slice B at_.length c2], .agg #[.int .i64 k, .int .i64 n, .int .i64 a, v1, v2]] w (PName w (nameOf ds at_ k n a)) := by
  have hmf : ∀ (fn : Fn) (first cap : Array Value) (w : World), (Instr.makeFunc fn first cap).run Tryd.prog w = .ok (.func fn first cap) w := fun _ _ _ _ => rfl
  have hmm : ∀ w : World, (Instr.makeMap 175 none).run Tryd.prog w = .ok (.map (some w.heap.size)) (w.alloc (.map #[] 0)) := fun _ => rfl
  by_cases h3 : k = 3
  · subst h3
    go_enter_defers Tryd.func98, Tryd.ntmps98
    have H := Hp.start no w
    go_wp2_with (first | ((with_reducible refine atInsert ?_); go_must (refine wpList_insert Tryd.underlying175 Tryd.underlying26 (by go_simp <;> first | rfl | exact ⟨rfl, rfl⟩) (by go_simp <;> first | rfl | exact ⟨rfl, rfl⟩) (by go_simp <;> first | rfl | exact ⟨rfl, rfl⟩) (by exact Hp.norm (by (repeat (first | with_reducible exact H | with_reducible exact H0_ | with_reducible apply Hp.alloc | with_reducible apply Hp.allocMap | with_reducible apply Hp.drew | with_reducible apply Hp.drewN | with_reducible apply Hp.set)); (try any_goals (repeat (first | with_reducible exact Upd.head | with_reducible apply Upd.tail)))) (by ((try simp only [size_drew_, size_drewN_, World.size_alloc, World.size_setCell, List.set_cons_zero, List.set_cons_succ, List.nil_append, List.cons_append]) <;> rfl))) (by (repeat (first | with_reducible exact Upd.head | with_reducible apply Upd.tail))) (by simp [List.lookup]) ?_; clear H; intro w_ H; (try simp only [size_drew_, size_drewN_, World.size_alloc, World.size_setCell, List.set_cons_zero, List.set_cons_succ] at H); simp only [List.nil_append, List.cons_append] at H; (try clear hr2_); have hr2_ := H.rules; simp only [Rules, and_true] at hr2_)) | ((with_reducible refine atLookup ?_); go_must (refine wpList_lookup Tryd.underlying175 Tryd.underlying26 (z := .nilFunc) (run_zero (t := 173) (by kernel_rfl)) (by go_simp <;> first | rfl | exact ⟨rfl, rfl⟩) (by go_simp <;> first | rfl | exact ⟨rfl, rfl⟩) H (by (repeat (first | with_reducible exact Pick.head | with_reducible apply Pick.tail))) ?_; simp [List.lookup, *])))
    refine callsH (by (repeat (first | with_reducible exact H | with_reducible exact H0_ | with_reducible apply Hp.alloc | with_reducible apply Hp.allocMap | with_reducible apply Hp.drew | with_reducible apply Hp.drewN | with_reducible apply Hp.set)); (try any_goals (repeat (first | with_reducible exact Upd.head | with_reducible apply Upd.tail)))) ?_
    clear H; intro w1 H; (try simp only [size_drew_, size_drewN_, World.size_alloc, World.size_setCell, List.set_cons_zero, List.set_cons_succ] at H)
    refine (must_calls (Blk.truths1 (H.blk .head)) rfl).mono ?_
    rintro e w2 ⟨rfl, hx⟩
    replace H := H.call hx
    clear hx hr2_
    have hr2_ := H.rules
    simp only [Rules, and_true] at hr2_
    go_wp2_with fail
    refine callsH (by (repeat (first | with_reducible exact H | with_reducible exact H0_ | with_reducible apply Hp.alloc | with_reducible apply Hp.allocMap | with_reducible apply Hp.drew | with_reducible apply Hp.drewN | with_reducible apply Hp.set)); (try any_goals (repeat (first | with_reducible exact Upd.head | with_reducible apply Upd.tail)))) ?_
    clear H; intro w3 H; (try simp only [size_drew_, size_drewN_, World.size_alloc, World.size_setCell, List.set_cons_zero, List.set_cons_succ] at H)
    refine (constant_calls (hds.ext0 H.ext) (hat.ext0 H.ext)).mono ?_
    rintro e w4 ⟨he, hx⟩
    replace H := H.call hx
    clear hx hr2_
    cases hq : nameOf ds at_ 3 n a with
    | none =>
      rw [hq] at he
      obtain rfl := he
      have HE := Lib.hid hq
      clear hq
      refine leaves_cons (f := 129) (args := #[.pointer (some ⟨w.heap.size + 1 + 1, 0, none⟩), .pointer (some ⟨w.heap.size + 1 + 1 + 1, 0, none⟩)]) (by simp) (by simp [go_sem]) ?_
      refine (name1_panicking (H.blk (by (repeat (first | with_reducible exact Pick.head | with_reducible apply Pick.tail)))) (H.blk (by (repeat (first | with_reducible exact Pick.head | with_reducible apply Pick.tail)))) (by omega)).mono ?_
      rintro e u' w'' ⟨rfl, rfl, rfl⟩
      have hr_ := H.rules
      simp only [Rules, and_true] at hr_
      have HH := Lib.hid H
      clear H hds hat
      simp [Leaves, settle, results, Tryd.results98, go_sem, hr_]
      have H := HH.out
      exact ⟨by first | rfl | (rw [HE.out]; rfl), (show Hp no w _ _ from (by (repeat (first | with_reducible exact H | with_reducible exact H0_ | with_reducible apply Hp.alloc | with_reducible apply Hp.allocMap | with_reducible apply Hp.drew | with_reducible apply Hp.drewN | with_reducible apply Hp.set)); (try any_goals (repeat (first | with_reducible exact Upd.head | with_reducible apply Upd.tail))))).ext⟩
    | some r =>
      rw [hq] at he
      obtain rfl := he
      have HE := Lib.hid hq
      clear hq
      have hr2_ := H.rules
      simp only [Rules, and_true] at hr2_
      go_wp2_with fail
      refine leaves_cons (f := 129) (args := #[.pointer (some ⟨w.heap.size + 1 + 1, 0, none⟩), .pointer (some ⟨w.heap.size + 1 + 1 + 1, 0, none⟩)]) (by simp) (by simp [go_sem]) ?_
      refine name1_idle.mono ?_
      rintro e u' w'' ⟨rfl, rfl, rfl⟩
      have HH := Lib.hid H
      clear H hds hat
      simp [Leaves, settle, results, Tryd.results98, go_sem, hr2_]
      have H := HH.out
      exact ⟨by first | rfl | (rw [HE.out]; rfl), (show Hp no w _ _ from (by (repeat (first | with_reducible exact H | with_reducible exact H0_ | with_reducible apply Hp.alloc | with_reducible apply Hp.allocMap | with_reducible apply Hp.drew | with_reducible apply Hp.drewN | with_reducible apply Hp.set)); (try any_goals (repeat (first | with_reducible exact Upd.head | with_reducible apply Upd.tail))))).ext⟩
  by_cases h8 : k = 8
  · subst h8
    go_enter_defers Tryd.func98, Tryd.ntmps98
    have H := Hp.start no w
    go_wp2_with (first | ((with_reducible refine atInsert ?_); go_must (refine wpList_insert Tryd.underlying175 Tryd.underlying26 (by go_simp <;> first | rfl | exact ⟨rfl, rfl⟩) (by go_simp <;> first | rfl | exact ⟨rfl, rfl⟩) (by go_simp <;> first | rfl | exact ⟨rfl, rfl⟩) (by exact Hp.norm (by (repeat (first | with_reducible exact H | with_reducible exact H0_ | with_reducible apply Hp.alloc | with_reducible apply Hp.allocMap | with_reducible apply Hp.drew | with_reducible apply Hp.drewN | with_reducible apply Hp.set)); (try any_goals (repeat (first | with_reducible exact Upd.head | with_reducible apply Upd.tail)))) (by ((try simp only [size_drew_, size_drewN_, World.size_alloc, World.size_setCell, List.set_cons_zero, List.set_cons_succ, List.nil_append, List.cons_append]) <;> rfl))) (by (repeat (first | with_reducible exact Upd.head | with_reducible apply Upd.tail))) (by simp [List.lookup]) ?_; clear H; intro w_ H; (try simp only [size_drew_, size_drewN_, World.size_alloc, World.size_setCell, List.set_cons_zero, List.set_cons_succ] at H); simp only [List.nil_append, List.cons_append] at H; (try clear hr2_); have hr2_ := H.rules; simp only [Rules, and_true] at hr2_)) | ((with_reducible refine atLookup ?_); go_must (refine wpList_lookup Tryd.underlying175 Tryd.underlying26 (z := .nilFunc) (run_zero (t := 173) (by kernel_rfl)) (by go_simp <;> first | rfl | exact ⟨rfl, rfl⟩) (by go_simp <;> first | rfl | exact ⟨rfl, rfl⟩) H (by (repeat (first | with_reducible exact Pick.head | with_reducible apply Pick.tail))) ?_; simp [List.lookup, *])))
    refine callsH (by (repeat (first | with_reducible exact H | with_reducible exact H0_ | with_reducible apply Hp.alloc | with_reducible apply Hp.allocMap | with_reducible apply Hp.drew | with_reducible apply Hp.drewN | with_reducible apply Hp.set)); (try any_goals (repeat (first | with_reducible exact Upd.head | with_reducible apply Upd.tail)))) ?_
    clear H; intro w1 H; (try simp only [size_drew_, size_drewN_, World.size_alloc, World.size_setCell, List.set_cons_zero, List.set_cons_succ] at H)
    refine (must_calls (Blk.truths1 (H.blk .head)) rfl).mono ?_
    rintro e w2 ⟨rfl, hx⟩
    replace H := H.call hx
    clear hx hr2_
    have hr2_ := H.rules
    simp only [Rules, and_true] at hr2_
    go_wp2_with fail
    refine callsH (by (repeat (first | with_reducible exact H | with_reducible exact H0_ | with_reducible apply Hp.alloc | with_reducible apply Hp.allocMap | with_reducible apply Hp.drew | with_reducible apply Hp.drewN | with_reducible apply Hp.set)); (try any_goals (repeat (first | with_reducible exact Upd.head | with_reducible apply Upd.tail)))) ?_
    clear H; intro w3 H; (try simp only [size_drew_, size_drewN_, World.size_alloc, World.size_setCell, List.set_cons_zero, List.set_cons_succ] at H)
    refine (member_calls (hds.ext0 H.ext) (hat.ext0 H.ext)).mono ?_
    rintro e w4 ⟨he, hx⟩
    replace H := H.call hx
    clear hx hr2_
    cases hq : nameOf ds at_ 8 n a with
    | none =>
      rw [hq] at he
      obtain rfl := he
      have HE := Lib.hid hq
      clear hq
      refine leaves_cons (f := 129) (args := #[.pointer (some ⟨w.heap.size + 1 + 1, 0, none⟩), .pointer (some ⟨w.heap.size + 1 + 1 + 1, 0, none⟩)]) (by simp) (by simp [go_sem]) ?_
      refine (name1_panicking (H.blk (by (repeat (first | with_reducible exact Pick.head | with_reducible apply Pick.tail)))) (H.blk (by (repeat (first | with_reducible exact Pick.head | with_reducible apply Pick.tail)))) (by omega)).mono ?_
      rintro e u' w'' ⟨rfl, rfl, rfl⟩
      have hr_ := H.rules
      simp only [Rules, and_true] at hr_
      have HH := Lib.hid H
      clear H hds hat
      simp [Leaves, settle, results, Tryd.results98, go_sem, hr_]
      have H := HH.out
      exact ⟨by first | rfl | (rw [HE.out]; rfl), (show Hp no w _ _ from (by (repeat (first | with_reducible exact H | with_reducible exact H0_ | with_reducible apply Hp.alloc | with_reducible apply Hp.allocMap | with_reducible apply Hp.drew | with_reducible apply Hp.drewN | with_reducible apply Hp.set)); (try any_goals (repeat (first | with_reducible exact Upd.head | with_reducible apply Upd.tail))))).ext⟩
    | some r =>
      rw [hq] at he
      obtain rfl := he
      have HE := Lib.hid hq
      clear hq
      have hr2_ := H.rules
      simp only [Rules, and_true] at hr2_
      go_wp2_with fail
      refine leaves_cons (f := 129) (args := #[.pointer (some ⟨w.heap.size + 1 + 1, 0, none⟩), .pointer (some ⟨w.heap.size + 1 + 1 + 1, 0, none⟩)]) (by simp) (by simp [go_sem]) ?_
      refine name1_idle.mono ?_
      rintro e u' w'' ⟨rfl, rfl, rfl⟩
      have HH := Lib.hid H
      clear H hds hat
      simp [Leaves, settle, results, Tryd.results98, go_sem, hr2_]
      have H := HH.out
      exact ⟨by first | rfl | (rw [HE.out]; rfl), (show Hp no w _ _ from (by (repeat (first | with_reducible exact H | with_reducible exact H0_ | with_reducible apply Hp.alloc | with_reducible apply Hp.allocMap | with_reducible apply Hp.drew | with_reducible apply Hp.drewN | with_reducible apply Hp.set)); (try any_goals (repeat (first | with_reducible exact Upd.head | with_reducible apply Upd.tail))))).ext⟩
  by_cases h9 : k = 9
  · subst h9
    go_enter_defers Tryd.func98, Tryd.ntmps98
    have H := Hp.start no w
    go_wp2_with (first | ((with_reducible refine atInsert ?_); go_must (refine wpList_insert Tryd.underlying175 Tryd.underlying26 (by go_simp <;> first | rfl | exact ⟨rfl, rfl⟩) (by go_simp <;> first | rfl | exact ⟨rfl, rfl⟩) (by go_simp <;> first | rfl | exact ⟨rfl, rfl⟩) (by exact Hp.norm (by (repeat (first | with_reducible exact H | with_reducible exact H0_ | with_reducible apply Hp.alloc | with_reducible apply Hp.allocMap | with_reducible apply Hp.drew | with_reducible apply Hp.drewN | with_reducible apply Hp.set)); (try any_goals (repeat (first | with_reducible exact Upd.head | with_reducible apply Upd.tail)))) (by ((try simp only [size_drew_, size_drewN_, World.size_alloc, World.size_setCell, List.set_cons_zero, List.set_cons_succ, List.nil_append, List.cons_append]) <;> rfl))) (by (repeat (first | with_reducible exact Upd.head | with_reducible apply Upd.tail))) (by simp [List.lookup]) ?_; clear H; intro w_ H; (try simp only [size_drew_, size_drewN_, World.size_alloc, World.size_setCell, List.set_cons_zero, List.set_cons_succ] at H); simp only [List.nil_append, List.cons_append] at H; (try clear hr2_); have hr2_ := H.rules; simp only [Rules, and_true] at hr2_)) | ((with_reducible refine atLookup ?_); go_must (refine wpList_lookup Tryd.underlying175 Tryd.underlying26 (z := .nilFunc) (run_zero (t := 173) (by kernel_rfl)) (by go_simp <;> first | rfl | exact ⟨rfl, rfl⟩) (by go_simp <;> first | rfl | exact ⟨rfl, rfl⟩) H (by (repeat (first | with_reducible exact Pick.head | with_reducible apply Pick.tail))) ?_; simp [List.lookup, *])))
    refine callsH (by (repeat (first | with_reducible exact H | with_reducible exact H0_ | with_reducible apply Hp.alloc | with_reducible apply Hp.allocMap | with_reducible apply Hp.drew | with_reducible apply Hp.drewN | with_reducible apply Hp.set)); (try any_goals (repeat (first | with_reducible exact Upd.head | with_reducible apply Upd.tail)))) ?_
    clear H; intro w1 H; (try simp only [size_drew_, size_drewN_, World.size_alloc, World.size_setCell, List.set_cons_zero, List.set_cons_succ] at H)
    refine (must_calls (Blk.truths1 (H.blk .head)) rfl).mono ?_
    rintro e w2 ⟨rfl, hx⟩
    replace H := H.call hx
    clear hx hr2_
    have hr2_ := H.rules
    simp only [Rules, and_true] at hr2_
    go_wp2_with fail
    refine callsH (by (repeat (first | with_reducible exact H | with_reducible exact H0_ | with_reducible apply Hp.alloc | with_reducible apply Hp.allocMap | with_reducible apply Hp.drew | with_reducible apply Hp.drewN | with_reducible apply Hp.set)); (try any_goals (repeat (first | with_reducible exact Upd.head | with_reducible apply Upd.tail)))) ?_
    clear H; intro w3 H; (try simp only [size_drew_, size_drewN_, World.size_alloc, World.size_setCell, List.set_cons_zero, List.set_cons_succ] at H)
    refine (ctor_calls (hds.ext0 H.ext) (hat.ext0 H.ext)).mono ?_
    rintro e w4 ⟨he, hx⟩
    replace H := H.call hx
    clear hx hr2_
    cases hq : nameOf ds at_ 9 n a with
    | none =>
      rw [hq] at he
      obtain rfl := he
      have HE := Lib.hid hq
      clear hq
      refine leaves_cons (f := 129) (args := #[.pointer (some ⟨w.heap.size + 1 + 1, 0, none⟩), .pointer (some ⟨w.heap.size + 1 + 1 + 1, 0, none⟩)]) (by simp) (by simp [go_sem]) ?_
      refine (name1_panicking (H.blk (by (repeat (first | with_reducible exact Pick.head | with_reducible apply Pick.tail)))) (H.blk (by (repeat (first | with_reducible exact Pick.head | with_reducible apply Pick.tail)))) (by omega)).mono ?_
      rintro e u' w'' ⟨rfl, rfl, rfl⟩
      have hr_ := H.rules
      simp only [Rules, and_true] at hr_
      have HH := Lib.hid H
      clear H hds hat
      simp [Leaves, settle, results, Tryd.results98, go_sem, hr_]
      have H := HH.out
      exact ⟨by first | rfl | (rw [HE.out]; rfl), (show Hp no w _ _ from (by (repeat (first | with_reducible exact H | with_reducible exact H0_ | with_reducible apply Hp.alloc | with_reducible apply Hp.allocMap | with_reducible apply Hp.drew | with_reducible apply Hp.drewN | with_reducible apply Hp.set)); (try any_goals (repeat (first | with_reducible exact Upd.head | with_reducible apply Upd.tail))))).ext⟩
    | some r =>
      rw [hq] at he
      obtain rfl := he
      have HE := Lib.hid hq
      clear hq
      have hr2_ := H.rules
      simp only [Rules, and_true] at hr2_
      go_wp2_with fail
      refine leaves_cons (f := 129) (args := #[.pointer (some ⟨w.heap.size + 1 + 1, 0, none⟩), .pointer (some ⟨w.heap.size + 1 + 1 + 1, 0, none⟩)]) (by simp) (by simp [go_sem]) ?_
      refine name1_idle.mono ?_
      rintro e u' w'' ⟨rfl, rfl, rfl⟩
      have HH := Lib.hid H
      clear H hds hat
      simp [Leaves, settle, results, Tryd.results98, go_sem, hr2_]
      have H := HH.out
      exact ⟨by first | rfl | (rw [HE.out]; rfl), (show Hp no w _ _ from (by (repeat (first | with_reducible exact H | with_reducible exact H0_ | with_reducible apply Hp.alloc | with_reducible apply Hp.allocMap | with_reducible apply Hp.drew | with_reducible apply Hp.drewN | with_reducible apply Hp.set)); (try any_goals (repeat (first | with_reducible exact Upd.head | with_reducible apply Upd.tail))))).ext⟩
  by_cases h10 : k = 10
  · subst h10
    go_enter_defers Tryd.func98, Tryd.ntmps98
    have H := Hp.start no w
    go_wp2_with (first | ((with_reducible refine atInsert ?_); go_must (refine wpList_insert Tryd.underlying175 Tryd.underlying26 (by go_simp <;> first | rfl | exact ⟨rfl, rfl⟩) (by go_simp <;> first | rfl | exact ⟨rfl, rfl⟩) (by go_simp <;> first | rfl | exact ⟨rfl, rfl⟩) (by exact Hp.norm (by (repeat (first | with_reducible exact H | with_reducible exact H0_ | with_reducible apply Hp.alloc | with_reducible apply Hp.allocMap | with_reducible apply Hp.drew | with_reducible apply Hp.drewN | with_reducible apply Hp.set)); (try any_goals (repeat (first | with_reducible exact Upd.head | with_reducible apply Upd.tail)))) (by ((try simp only [size_drew_, size_drewN_, World.size_alloc, World.size_setCell, List.set_cons_zero, List.set_cons_succ, List.nil_append, List.cons_append]) <;> rfl))) (by (repeat (first | with_reducible exact Upd.head | with_reducible apply Upd.tail))) (by simp [List.lookup]) ?_; clear H; intro w_ H; (try simp only [size_drew_, size_drewN_, World.size_alloc, World.size_setCell, List.set_cons_zero, List.set_cons_succ] at H); simp only [List.nil_append, List.cons_append] at H; (try clear hr2_); have hr2_ := H.rules; simp only [Rules, and_true] at hr2_)) | ((with_reducible refine atLookup ?_); go_must (refine wpList_lookup Tryd.underlying175 Tryd.underlying26 (z := .nilFunc) (run_zero (t := 173) (by kernel_rfl)) (by go_simp <;> first | rfl | exact ⟨rfl, rfl⟩) (by go_simp <;> first | rfl | exact ⟨rfl, rfl⟩) H (by (repeat (first | with_reducible exact Pick.head | with_reducible apply Pick.tail))) ?_; simp [List.lookup, *])))
    refine callsH (by (repeat (first | with_reducible exact H | with_reducible exact H0_ | with_reducible apply Hp.alloc | with_reducible apply Hp.allocMap | with_reducible apply Hp.drew | with_reducible apply Hp.drewN | with_reducible apply Hp.set)); (try any_goals (repeat (first | with_reducible exact Upd.head | with_reducible apply Upd.tail)))) ?_
    clear H; intro w1 H; (try simp only [size_drew_, size_drewN_, World.size_alloc, World.size_setCell, List.set_cons_zero, List.set_cons_succ] at H)
    refine (must_calls (Blk.truths1 (H.blk .head)) rfl).mono ?_
    rintro e w2 ⟨rfl, hx⟩
    replace H := H.call hx
    clear hx hr2_
    have hr2_ := H.rules
    simp only [Rules, and_true] at hr2_
    go_wp2_with fail
    refine callsH (by (repeat (first | with_reducible exact H | with_reducible exact H0_ | with_reducible apply Hp.alloc | with_reducible apply Hp.allocMap | with_reducible apply Hp.drew | with_reducible apply Hp.drewN | with_reducible apply Hp.set)); (try any_goals (repeat (first | with_reducible exact Upd.head | with_reducible apply Upd.tail)))) ?_
    clear H; intro w3 H; (try simp only [size_drew_, size_drewN_, World.size_alloc, World.size_setCell, List.set_cons_zero, List.set_cons_succ] at H)
    refine (recursor_calls (hds.ext0 H.ext) (hat.ext0 H.ext)).mono ?_
    rintro e w4 ⟨he, hx⟩
    replace H := H.call hx
    clear hx hr2_
    cases hq : nameOf ds at_ 10 n a with
    | none =>
      rw [hq] at he
      obtain rfl := he
      have HE := Lib.hid hq
      clear hq
      refine leaves_cons (f := 129) (args := #[.pointer (some ⟨w.heap.size + 1 + 1, 0, none⟩), .pointer (some ⟨w.heap.size + 1 + 1 + 1, 0, none⟩)]) (by simp) (by simp [go_sem]) ?_
      refine (name1_panicking (H.blk (by (repeat (first | with_reducible exact Pick.head | with_reducible apply Pick.tail)))) (H.blk (by (repeat (first | with_reducible exact Pick.head | with_reducible apply Pick.tail)))) (by omega)).mono ?_
      rintro e u' w'' ⟨rfl, rfl, rfl⟩
      have hr_ := H.rules
      simp only [Rules, and_true] at hr_
      have HH := Lib.hid H
      clear H hds hat
      simp [Leaves, settle, results, Tryd.results98, go_sem, hr_]
      have H := HH.out
      exact ⟨by first | rfl | (rw [HE.out]; rfl), (show Hp no w _ _ from (by (repeat (first | with_reducible exact H | with_reducible exact H0_ | with_reducible apply Hp.alloc | with_reducible apply Hp.allocMap | with_reducible apply Hp.drew | with_reducible apply Hp.drewN | with_reducible apply Hp.set)); (try any_goals (repeat (first | with_reducible exact Upd.head | with_reducible apply Upd.tail))))).ext⟩
    | some r =>
      rw [hq] at he
      obtain rfl := he
      have HE := Lib.hid hq
      clear hq
      have hr2_ := H.rules
      simp only [Rules, and_true] at hr2_
      go_wp2_with fail
      refine leaves_cons (f := 129) (args := #[.pointer (some ⟨w.heap.size + 1 + 1, 0, none⟩), .pointer (some ⟨w.heap.size + 1 + 1 + 1, 0, none⟩)]) (by simp) (by simp [go_sem]) ?_
      refine name1_idle.mono ?_
      rintro e u' w'' ⟨rfl, rfl, rfl⟩
      have HH := Lib.hid H
      clear H hds hat
      simp [Leaves, settle, results, Tryd.results98, go_sem, hr2_]
      have H := HH.out
      exact ⟨by first | rfl | (rw [HE.out]; rfl), (show Hp no w _ _ from (by (repeat (first | with_reducible exact H | with_reducible exact H0_ | with_reducible apply Hp.alloc | with_reducible apply Hp.allocMap | with_reducible apply Hp.drew | with_reducible apply Hp.drewN | with_reducible apply Hp.set)); (try any_goals (repeat (first | with_reducible exact Upd.head | with_reducible apply Upd.tail))))).ext⟩
  · have g3 : (k == 3) = false := by simpa using h3
    have g8 : (k == 8) = false := by simpa using h8
    have g9 : (k == 9) = false := by simpa using h9
    have g10 : (k == 10) = false := by simpa using h10
    have HE := Lib.hid (nameOf_else (ds := ds) (at_ := at_) (n := n) (a := a) h3 h8 h9 h10)
    clear h3 h8 h9 h10
    go_enter_defers Tryd.func98, Tryd.ntmps98
    have H := Hp.start no w
    go_wp2_with (first | ((with_reducible refine atInsert ?_); go_must (refine wpList_insert Tryd.underlying175 Tryd.underlying26 (by go_simp <;> first | rfl | exact ⟨rfl, rfl⟩) (by go_simp <;> first | rfl | exact ⟨rfl, rfl⟩) (by go_simp <;> first | rfl | exact ⟨rfl, rfl⟩) (by exact Hp.norm (by (repeat (first | with_reducible exact H | with_reducible exact H0_ | with_reducible apply Hp.alloc | with_reducible apply Hp.allocMap | with_reducible apply Hp.drew | with_reducible apply Hp.drewN | with_reducible apply Hp.set)); (try any_goals (repeat (first | with_reducible exact Upd.head | with_reducible apply Upd.tail)))) (by ((try simp only [size_drew_, size_drewN_, World.size_alloc, World.size_setCell, List.set_cons_zero, List.set_cons_succ, List.nil_append, List.cons_append]) <;> rfl))) (by (repeat (first | with_reducible exact Upd.head | with_reducible apply Upd.tail))) (by simp [List.lookup]) ?_; clear H; intro w_ H; (try simp only [size_drew_, size_drewN_, World.size_alloc, World.size_setCell, List.set_cons_zero, List.set_cons_succ] at H); simp only [List.nil_append, List.cons_append] at H; (try clear hr2_); have hr2_ := H.rules; simp only [Rules, and_true] at hr2_)) | ((with_reducible refine atLookup ?_); go_must (refine wpList_lookup Tryd.underlying175 Tryd.underlying26 (z := .nilFunc) (run_zero (t := 173) (by kernel_rfl)) (by go_simp <;> first | rfl | exact ⟨rfl, rfl⟩) (by go_simp <;> first | rfl | exact ⟨rfl, rfl⟩) H (by (repeat (first | with_reducible exact Pick.head | with_reducible apply Pick.tail))) ?_; simp [List.lookup, *])))
    refine callsH (by (repeat (first | with_reducible exact H | with_reducible exact H0_ | with_reducible apply Hp.alloc | with_reducible apply Hp.allocMap | with_reducible apply Hp.drew | with_reducible apply Hp.drewN | with_reducible apply Hp.set)); (try any_goals (repeat (first | with_reducible exact Upd.head | with_reducible apply Upd.tail)))) ?_
    clear H; intro w1 H; (try simp only [size_drew_, size_drewN_, World.size_alloc, World.size_setCell, List.set_cons_zero, List.set_cons_succ] at H)
    refine (must_calls (Blk.truths1 (H.blk .head)) rfl).mono ?_
    rintro e w2 ⟨rfl, hx⟩
    replace H := H.call hx
    clear hx hr2_
    refine leaves_cons (f := 129) (args := #[.pointer (some ⟨w.heap.size + 1 + 1, 0, none⟩), .pointer (some ⟨w.heap.size + 1 + 1 + 1, 0, none⟩)]) (by simp) (by simp [go_sem]) ?_
    refine (name1_panicking (H.blk (by (repeat (first | with_reducible exact Pick.head | with_reducible apply Pick.tail)))) (H.blk (by (repeat (first | with_reducible exact Pick.head | with_reducible apply Pick.tail)))) (by omega)).mono ?_
    rintro e u' w'' ⟨rfl, rfl, rfl⟩
    have hr_ := H.rules
    simp only [Rules, and_true] at hr_
    have HH := Lib.hid H
    clear H hds hat
    simp [Leaves, settle, results, Tryd.results98, go_sem, hr_]
    have H := HH.out
    exact ⟨by rw [HE.out]; rfl, (show Hp no w _ _ from (by (repeat (first | with_reducible exact H | with_reducible exact H0_ | with_reducible apply Hp.alloc | with_reducible apply Hp.allocMap | with_reducible apply Hp.drew | with_reducible apply Hp.drewN | with_reducible apply Hp.set)); (try any_goals (repeat (first | with_reducible exact Upd.head | with_reducible apply Upd.tail))))).ext⟩
end Go.Proofs.YteelplgdojjakaaDoor
