/- tele: a row laid above a term: contract. No statement of the seat is proved here. -/
import Derived.Test.YteelplgdojjakaaDoorBack
namespace Go.Proofs.YteelplgdojjakaaDoor
set_option linter.unusedSimpArgs false
set_option linter.unusedVariables false
open Go.RowKit
attribute [local go_sem] Oper.semAt_some

set_option maxRecDepth 100000 in
set_option maxHeartbeats 4000000 in
theorem above_calls {w0 w : World} {l : List Ch} {ts : List Tm} {b : Tm} {A B K : Option Addr} {c cb kb : Nat} {k : Int} (H : Hp no w0 w (.dat (.l 30 5 (ts.map Tm.d)) [.slice A ts.length c] :: .dat b.d [.int .i64 b.k, .int .i64 b.n, .int .i64 b.a, .slice B b.ls.length cb, .slice K b.ks.length kb] :: l)) (hk : inI k) :
    Calls Tryd.prog 64 #[.agg #[.slice A ts.length c], .int .i64 k, .agg #[.int .i64 b.k, .int .i64 b.n, .int .i64 b.a, .slice B b.ls.length cb, .slice K b.ks.length kb]] w (PTmH no w0 l (aboveT k ts b)) := by
  have hM := (H.rd .head).lenM
  obtain ⟨es, hes, H1⟩ := H.unrow .head
  clear H
  have H := H1
  clear H1
  refine enterM Tryd.func64 rfl ?_
  simp only [Tryd.ntmps64, List.size_toArray, List.length_cons, List.length_nil, Nat.reduceAdd, Nat.reduceSub, Array.replicate_succ, Array.replicate_zero, List.push_toArray, List.append_toArray, List.nil_append, List.cons_append]
  go_wp2_with fail
  refine callsH (by (repeat (first | with_reducible exact H | with_reducible exact H0_ | with_reducible apply Hp.alloc | with_reducible apply Hp.allocMap | with_reducible apply Hp.drew | with_reducible apply Hp.drewN | with_reducible apply Hp.set)); (try any_goals (repeat (first | with_reducible exact Upd.head | with_reducible apply Upd.tail)))) ?_
  clear H; intro w1 H; (try simp only [size_drew_, size_drewN_, World.size_alloc, World.size_setCell, List.set_cons_zero, List.set_cons_succ] at H)
  refine (backward_calls H).mono ?_
  rintro e w2 ⟨bs, rfl, H2⟩
  clear H
  have H := H2
  clear H2
  go_wp2_with fail
  obtain ⟨A3, A4, c3, c4, hv⟩ := RCs.tms (by have h := H.rd (d := .s (ts.map Tm.d)) (by (repeat (first | with_reducible exact Pick.head | with_reducible apply Pick.tail))); unfold RC at h; exact h)
  refine wp_rangeH H rfl (enters_of Tryd.func137 (by kernel_rfl) rfl) ?_
  intro fn D L rc w3 hDL hrc H3
  clear H
  simp only [List.length_map] at H3 hes
  have HV := Lib.hid hv
  clear hv
  refine (backward1 (n := ts.length) (c := c) (A := A) (bs := bs) (k0 := fun j => (ts[j]?.getD b).k) (k1 := fun j => (ts[j]?.getD b).n) (k2 := fun j => (ts[j]?.getD b).a) (v3 := fun j => .slice (A3 j) (ts[j]?.getD b).ls.length (c3 j)) (v4 := fun j => .slice (A4 j) (ts[j]?.getD b).ks.length (c4 j)) hM.1
    (fun j W => ∃ r B K cb kb, Tm.k r = Tm.k r ∧ r = aboveT k (ts.drop j) b ∧ j ≤ ts.length ∧ Hp no w0 W (.obj L (.loop (rc .ready none)) :: .obj D (.deferred (some [])) :: .box bs 28 [.slice A ts.length c] :: .box (w.heap.size + 1 + 1 + 1) 30 [.int .i64 0, .int .i64 0, .int .i64 0, .slice none 0 0, .slice none 0 0] ::
      .box (w.heap.size + 1 + 1) 30 [.int .i64 r.k, .int .i64 r.n, .int .i64 r.a, .slice B r.ls.length cb, .slice K r.ks.length kb] :: .box (w.heap.size + 1) 26 [.int .i64 k] :: .box w.heap.size 96 [.slice A ts.length c] :: .raw 30 5 ts.length (.slice A ts.length c) es ::
      .dat (.s ((ts.take j).map Tm.d)) (es.take (j * 5)) :: .dat r.d [.int .i64 r.k, .int .i64 r.n, .int .i64 r.a, .slice B r.ls.length cb, .slice K r.ks.length kb] :: l)) ?rd ?round ?start).mono ?_
  case rd =>
    rintro j W ⟨r, B, K, cb, kb, _, hr, hj, H⟩
    have hb := (H.blk (g := bs) (by (repeat (first | with_reducible exact Pick.head | with_reducible apply Pick.tail)))).cells 0
    refine ⟨hb, fun i hi => ?_⟩
    obtain ⟨g, c', he, hc, hcell, hg⟩ := H.rawAt (e := 30) (v := .slice A ts.length c) (by (repeat (first | with_reducible exact Pick.head | with_reducible apply Pick.tail))) (by omega)
    simp only [Value.slice.injEq, true_and] at he
    obtain ⟨rfl, rfl⟩ := he
    obtain ⟨q0, q1, q2, q3, q4⟩ := HV.out i hi
    simp only [List.getElem?_eq_getElem hi, Option.getD_some]
    refine ⟨g, 0, rfl, ?_⟩
    simp only [Nat.zero_add]
    exact ⟨hcell _ _ q0, hcell _ _ q1, hcell _ _ q2, hcell _ _ q3, hcell _ _ q4⟩
  case start =>
    refine ⟨b, B, K, cb, kb, rfl, by rw [List.drop_length]; rfl, Nat.le_refl _, ?_⟩
    rw [List.take_length, List.take_of_length_le (by omega)]
    exact H3
  case round =>
    rintro j W hj ⟨r, B, K, cb, kb, _, hr, _, H⟩
    clear H3
    have HRC := Lib.hid hrc
    refine roundH hrc H rfl ?_
    clear hrc
    simp only [List.getElem?_eq_getElem hj, Option.getD_some]
    obtain ⟨i1, i2, i3, _⟩ := Hp.untm (t := r) (H.pick (by (repeat (first | with_reducible exact Pick.head | with_reducible apply Pick.tail))))
    have HI := Lib.hid (And.intro i1 (And.intro i2 i3))
    clear i1 i2 i3
    refine regionRn (by kernel_rfl) (no_letsThen fun ⟨_, _, h⟩ => h) ?_
    have hr_ := H.rules; simp only [Rules, and_true] at hr_; have hd_ := H.dif; simp only [Dif, Neq, and_true] at hd_; obtain ⟨ho_, hz_⟩ := H.old0
    go_wp2_with fail
    clear hr_ hd_ ho_ hz_
    refine ⟨_, (H.alloc [_, _, _, _, _] 30).swap, fun w5 H5 => ?_⟩
    clear H
    have H := H5
    clear H5
    refine wpIn_block ?_
    refine regionRn (by kernel_rfl) (fun ⟨_, _, h⟩ => h) ?_
    have hr_ := H.rules; simp only [Rules, and_true] at hr_; have hd_ := H.dif; simp only [Dif, Neq, and_true] at hd_; obtain ⟨ho_, hz_⟩ := H.old0
    go_wp2_with fail
    clear hr_ hd_ ho_ hz_
    refine endH (by (repeat (first | with_reducible exact H | with_reducible exact H0_ | with_reducible apply Hp.alloc | with_reducible apply Hp.allocMap | with_reducible apply Hp.drew | with_reducible apply Hp.drewN | with_reducible apply Hp.set)); (try any_goals (repeat (first | with_reducible exact Upd.head | with_reducible apply Upd.tail)))) ?_
    clear H; intro w6 H; (try simp only [size_drew_, size_drewN_, World.size_alloc, World.size_setCell, List.set_cons_zero, List.set_cons_succ] at H)
    refine roundNext HRC.out H (by (repeat (first | with_reducible exact Pick.head | with_reducible apply Pick.tail))) (fun w7 H7 => ⟨rfl, by omega, ?_⟩)
    clear H
    subst hr
    rw [aboveT_drop hj]
    have H := H7.lastTm (j := j) (by (repeat (first | with_reducible exact Pick.head | with_reducible apply Pick.tail))) hj (HV.out j hj)
    have H := H.node2 (a := ts[j]) (b := aboveT k (ts.drop (j + 1)) b) (by (repeat (first | with_reducible exact Pick.head | with_reducible apply Pick.tail))) (by (repeat (first | with_reducible exact Pick.head | with_reducible apply Pick.tail))) (by (repeat (first | with_reducible exact Pick.head | with_reducible apply Pick.tail))) hk
    (repeat apply Exists.intro)
    simp only [Tm.k_mk, Tm.n_mk, Tm.a_mk, Tm.ls_mk, Tm.ks_mk, List.length_nil, List.length_cons, Nat.reduceAdd, Nat.zero_add, ← List.map_take]
    exact (H.arr (by (repeat (first | with_reducible exact Arr.nil | refine Arr.cons (by (repeat (first | with_reducible exact Pick.head | with_reducible apply Pick.tail))) ?_)) <;> exact Arr.of_subl (by (repeat (first | with_reducible exact Subl.refl _ | with_reducible apply Subl.drop)))))
  · rintro e w8 ⟨⟨v, rfl⟩, r, B, K, cb, kb, _, hr, _, H⟩
    refine ⟨v, rfl, .ready, none, _, by decide, H, fun w9 H => ?_⟩
    simp only [List.drop_zero] at hr
    subst hr
    clear HV hrc H3 hes
    dsimp only
    have hr_ := H.rules; simp only [Rules, and_true] at hr_; have hd_ := H.dif; simp only [Dif, Neq, and_true] at hd_; obtain ⟨ho_, hz_⟩ := H.old0
    go_wp2_with fail
    clear hr_ hd_ ho_ hz_
    refine endH (by (repeat (first | with_reducible exact H | with_reducible exact H0_ | with_reducible apply Hp.alloc | with_reducible apply Hp.allocMap | with_reducible apply Hp.drew | with_reducible apply Hp.drewN | with_reducible apply Hp.set)); (try any_goals (repeat (first | with_reducible exact Upd.head | with_reducible apply Upd.tail)))) ?_
    clear H; intro w10 H; (try simp only [size_drew_, size_drewN_, World.size_alloc, World.size_setCell, List.set_cons_zero, List.set_cons_succ] at H)
    refine leaveM (v := .agg #[_, _, _, _, _]) H (by (repeat (first | with_reducible exact Pick.head | with_reducible apply Pick.tail))) (fun w11 H => ⟨Res.one Tryd.results64 (H.resBox (by (repeat (first | with_reducible exact Pick.head | with_reducible apply Pick.tail))) aggTerm rfl rfl), _, _, _, _, rfl, ?_⟩)
    exact (Hp.only (Hp.pick H (by (repeat (first | with_reducible exact Pick.head | with_reducible apply Pick.tail)))) (.keep (by (repeat (first | with_reducible exact Subl.refl _ | with_reducible apply Subl.drop)))))
end Go.Proofs.YteelplgdojjakaaDoor
