/- tele: a row of old memory laid above an old term: contract. No statement of the seat is proved here. -/
import Derived.Test.YteelplgdojjakaaDoorAbove
import Derived.Test.YteelplgdojjakaaDoorTerm
namespace Go.Proofs.YteelplgdojjakaaDoor
set_option linter.unusedSimpArgs false
set_option linter.unusedVariables false
open Go.RowKit
attribute [local go_sem] Oper.semAt_some

/-- Anywhere. -/
def anyW : Nat → Prop := fun _ => True
/-- A box as a row. -/
theorem RC.blkRow {w : World} {S : Nat → Prop} {e z g t n : Nat} {ds : List D} {cs : List Value} (hb : Blk w g t cs.toArray) (hS : S g) (h : RCs w S ds cs) (hz : ∀ d ∈ ds, d.size = z) (hn : n = ds.length) (hM : ds.length ≤ M) : RC w S (.l e z ds) [.slice (some ⟨g, 0, none⟩) n n] := by
  subst hn
  unfold RC
  refine ⟨_, _, rfl, Nat.le_refl _, by unfold M at hM; unfold maxLen; omega, hM, hz, .inr ⟨g, 0, cs, rfl, hb.lt, hS, h, fun j u hu => ?_⟩⟩
  rw [Nat.zero_add, hb.cells j]
  simpa using hu
theorem RCs.two {w : World} {S : Nat → Prop} {d d' : D} {c1 c2 : List Value} (h : RC w S d c1) (h' : RC w S d' c2) : RCs w S [d, d'] (c1 ++ c2) := by
  unfold RCs
  refine ⟨c1, c2, rfl, h, ?_⟩
  unfold RCs
  exact ⟨c2, [], by simp, h', by unfold RCs; rfl⟩
theorem RC.any {w : World} {S : Nat → Prop} {d : D} {cs : List Value} (h : RC w S d cs) : RC w anyW d cs := RC.frame (Nat.le_refl _) (fun _ _ _ => trivial) (fun _ _ _ => rfl) _ _ h
/-- The cells of a row of terms, by its place. -/
theorem RC.tmsAt {w : World} {S : Nat → Prop} {ts : List Tm} {A : Option Addr} {c : Nat} (h : RC w S (.l 30 5 (ts.map Tm.d)) [.slice A ts.length c]) : ∃ (A3 A4 : Nat → Option Addr) (c3 c4 : Nat → Nat), ∀ j (hj : j < ts.length), ∃ b o, A = some ⟨b, o, none⟩ ∧ b < w.heap.size ∧ RC w S ts[j].d [.int .i64 ts[j].k, .int .i64 ts[j].n, .int .i64 ts[j].a, .slice (A3 j) ts[j].ls.length (c3 j), .slice (A4 j) ts[j].ks.length (c4 j)] ∧ w.cell? ⟨b, o + j * 5, none⟩ = some (.int .i64 ts[j].k) ∧ w.cell? ⟨b, o + j * 5 + 1, none⟩ = some (.int .i64 ts[j].n) ∧ w.cell? ⟨b, o + j * 5 + 2, none⟩ = some (.int .i64 ts[j].a) ∧ w.cell? ⟨b, o + j * 5 + 3, none⟩ = some (.slice (A3 j) ts[j].ls.length (c3 j)) ∧ w.cell? ⟨b, o + j * 5 + 4, none⟩ = some (.slice (A4 j) ts[j].ks.length (c4 j)) := by
  have key : ∀ j, ∃ (A3 A4 : Option Addr) (c3 c4 : Nat), ∀ hj : j < ts.length, ∃ b o, A = some ⟨b, o, none⟩ ∧ b < w.heap.size ∧ RC w S ts[j].d [.int .i64 ts[j].k, .int .i64 ts[j].n, .int .i64 ts[j].a, .slice A3 ts[j].ls.length c3, .slice A4 ts[j].ks.length c4] ∧ w.cell? ⟨b, o + j * 5, none⟩ = some (.int .i64 ts[j].k) ∧ w.cell? ⟨b, o + j * 5 + 1, none⟩ = some (.int .i64 ts[j].n) ∧ w.cell? ⟨b, o + j * 5 + 2, none⟩ = some (.int .i64 ts[j].a) ∧ w.cell? ⟨b, o + j * 5 + 3, none⟩ = some (.slice A3 ts[j].ls.length c3) ∧ w.cell? ⟨b, o + j * 5 + 4, none⟩ = some (.slice A4 ts[j].ks.length c4) := by
    intro j
    by_cases hj : j < ts.length
    · obtain ⟨b, o, A1, ca1, K1, ck1, rfl, hb, hS, hd, p0, p1, p2, p3, p4⟩ := h.atTm hj
      exact ⟨A1, K1, ca1, ck1, fun _ => ⟨b, o, rfl, hb, hd, p0, p1, p2, p3, p4⟩⟩
    · exact ⟨none, none, 0, 0, fun h => absurd h hj⟩
  exact ⟨fun j => (key j).choose, fun j => (key j).choose_spec.choose, fun j => (key j).choose_spec.choose_spec.choose, fun j => (key j).choose_spec.choose_spec.choose_spec.choose, fun j => (key j).choose_spec.choose_spec.choose_spec.choose_spec⟩
/-- A node of two kids in a box. -/
theorem Hp.nodeO {w0 w : World} {l : List Ch} {k : Int} {a b : Tm} {g : Nat} {ca cb : List Value} (H : Hp no w0 w (.box g 30 (ca ++ cb) :: l)) (ha : RC w anyW a.d ca) (hb : RC w anyW b.d cb) (hk : inI k) :
    RC w anyW (Tm.mk k 0 0 [] [a, b]).d [.int .i64 k, .int .i64 0, .int .i64 0, .slice none 0 0, .slice (some ⟨g, 0, none⟩) 2 2] :=
  RC.tm.2 ⟨none, 0, some ⟨g, 0, none⟩, 2, rfl, hk, by simp only [Tm.n_mk]; unfold inI; omega, by simp only [Tm.a_mk]; unfold inI; omega, RC.nil, RC.blkRow (ds := [a.d, b.d]) (H.blk .head) trivial (RCs.two ha hb) (by simp [Tm.size_d]) rfl (by unfold M; simp)⟩
set_option maxRecDepth 100000 in
set_option maxHeartbeats 4000000 in
theorem aboveOld_calls {S : Nat → Prop} {w : World} {ts : List Tm} {b : Tm} {A B K : Option Addr} {c n cb kb : Nat} {k : Int} (h : RC w S (.l 30 5 (ts.map Tm.d)) [.slice A n c]) (hn : n = ts.length) (hb : RC w S b.d [.int .i64 b.k, .int .i64 b.n, .int .i64 b.a, .slice B b.ls.length cb, .slice K b.ks.length kb]) (hk : inI k) :
    Calls Tryd.prog 64 #[.agg #[.slice A n c], .int .i64 k, .agg #[.int .i64 b.k, .int .i64 b.n, .int .i64 b.a, .slice B b.ls.length cb, .slice K b.ks.length kb]] w (fun e w' => ∃ v, e = .returned v ∧ TV w' anyW (aboveT k ts b) v ∧ Ext no w w') := by
  subst hn
  have hM := h.lenM
  have HRC := Lib.hid h
  have HB := Lib.hid hb
  clear h hb
  have H := Hp.start no w
  refine enterM Tryd.func64 rfl ?_
  simp only [Tryd.ntmps64, List.size_toArray, List.length_cons, List.length_nil, Nat.reduceAdd, Nat.reduceSub, Array.replicate_succ, Array.replicate_zero, List.push_toArray, List.append_toArray, List.nil_append, List.cons_append]
  go_wp2_with fail
  refine callsH (by (repeat (first | with_reducible exact H | with_reducible exact H0_ | with_reducible apply Hp.alloc | with_reducible apply Hp.allocMap | with_reducible apply Hp.drew | with_reducible apply Hp.drewN | with_reducible apply Hp.set)); (try any_goals (repeat (first | with_reducible exact Upd.head | with_reducible apply Upd.tail)))) ?_
  clear H; intro w1 H; (try simp only [size_drew_, size_drewN_, World.size_alloc, World.size_setCell, List.set_cons_zero, List.set_cons_succ] at H)
  refine (backward_calls H).mono ?_
  rintro e w2 ⟨bs, rfl, H2⟩
  clear H
  have H := H2
  clear H2
  go_wp2_with fail
  obtain ⟨A3, A4, c3, c4, hv⟩ := HRC.out.tmsAt
  refine wp_rangeH H rfl (enters_of Tryd.func137 (by kernel_rfl) rfl) ?_
  intro fn D L rc w3 hDL hrc H3
  clear H
  have HV := Lib.hid hv
  clear hv
  refine (backward1 (n := ts.length) (c := c) (A := A) (bs := bs) (k0 := fun j => (ts[j]?.getD b).k) (k1 := fun j => (ts[j]?.getD b).n) (k2 := fun j => (ts[j]?.getD b).a) (v3 := fun j => .slice (A3 j) (ts[j]?.getD b).ls.length (c3 j)) (v4 := fun j => .slice (A4 j) (ts[j]?.getD b).ks.length (c4 j)) hM.1
    (fun j W => ∃ r B K cb kb bl, Tm.k r = Tm.k r ∧ r = aboveT k (ts.drop j) b ∧ j ≤ ts.length ∧ Hid (∀ W, Hp no w W bl → RC W anyW r.d [.int .i64 r.k, .int .i64 r.n, .int .i64 r.a, .slice B r.ls.length cb, .slice K r.ks.length kb]) ∧ Hp no w W (.obj L (.loop (rc .ready none)) :: .obj D (.deferred (some [])) :: .box bs 28 [.slice A ts.length c] :: .box (w.heap.size + 1 + 1 + 1) 30 [.int .i64 0, .int .i64 0, .int .i64 0, .slice none 0 0, .slice none 0 0] ::
      .box (w.heap.size + 1 + 1) 30 [.int .i64 r.k, .int .i64 r.n, .int .i64 r.a, .slice B r.ls.length cb, .slice K r.ks.length kb] :: .box (w.heap.size + 1) 26 [.int .i64 k] :: .box w.heap.size 96 [.slice A ts.length c] :: bl)) ?rd ?round ?start).mono ?_
  case rd =>
    rintro j W ⟨r, B, K, cb, kb, bl, _, hr, hj, hf, H⟩
    have hb := (H.blk (g := bs) (by (repeat (first | with_reducible exact Pick.head | with_reducible apply Pick.tail)))).cells 0
    refine ⟨hb, fun i hi => ?_⟩
    obtain ⟨b0, o, he, hlt, _, q0, q1, q2, q3, q4⟩ := HV.out i hi
    simp only [List.getElem?_eq_getElem hi, Option.getD_some]
    have ho := H.old0.1
    exact ⟨b0, o, he, (ho _ _ hlt).trans q0, (ho _ _ hlt).trans q1, (ho _ _ hlt).trans q2, (ho _ _ hlt).trans q3, (ho _ _ hlt).trans q4⟩
  case start =>
    refine ⟨b, B, K, cb, kb, [], rfl, by rw [List.drop_length]; rfl, Nat.le_refl _, Lib.hid (fun W HW => (HB.out.ext0 HW.ext).any), ?_⟩
    exact H3
  case round =>
    rintro j W hj ⟨r, B, K, cb, kb, bl, _, hr, _, HF, H⟩
    clear H3
    have HRR := Lib.hid hrc
    refine roundH hrc H rfl ?_
    clear hrc
    simp only [List.getElem?_eq_getElem hj, Option.getD_some]
    refine regionRn (by kernel_rfl) (no_letsThen fun ⟨_, _, h⟩ => h) ?_
    have hr_ := H.rules; simp only [Rules, and_true] at hr_; have hd_ := H.dif; simp only [Dif, Neq, and_true] at hd_; obtain ⟨ho_, hz_⟩ := H.old0
    go_wp2_with fail
    clear hr_ hd_ ho_ hz_
    refine ⟨_, (H.alloc [_, _, _, _, _] 30).swap, fun w5 H5 => ?_⟩
    clear H
    have H := H5
    clear H5
    refine wpIn_block ?_
    refine regionRn (by kernel_rfl) (fun ⟨_, _, h⟩ => h) ?_
    have hr_ := H.rules; simp only [Rules, and_true] at hr_; have hd_ := H.dif; simp only [Dif, Neq, and_true] at hd_; obtain ⟨ho_, hz_⟩ := H.old0
    go_wp2_with fail
    clear hr_ hd_ ho_ hz_
    refine endH (by (repeat (first | with_reducible exact H | with_reducible exact H0_ | with_reducible apply Hp.alloc | with_reducible apply Hp.allocMap | with_reducible apply Hp.drew | with_reducible apply Hp.drewN | with_reducible apply Hp.set)); (try any_goals (repeat (first | with_reducible exact Upd.head | with_reducible apply Upd.tail)))) ?_
    clear H; intro w6 H; (try simp only [size_drew_, size_drewN_, World.size_alloc, World.size_setCell, List.set_cons_zero, List.set_cons_succ] at H)
    refine roundNext HRR.out H (by (repeat (first | with_reducible exact Pick.head | with_reducible apply Pick.tail))) (fun w7 H7 => ⟨rfl, by omega, ?_⟩)
    clear H
    subst hr
    rw [aboveT_drop hj]
    obtain ⟨b0, o, _, _, hd, _⟩ := HV.out j hj
    have HD := Lib.hid hd
    clear hd
    have H := H7
    clear H7
    refine ⟨none, some ⟨w5.heap.size, 0, none⟩, 0, 2, .box w5.heap.size 30 ([.int .i64 ts[j].k, .int .i64 ts[j].n, .int .i64 ts[j].a, .slice (A3 j) ts[j].ls.length (c3 j), .slice (A4 j) ts[j].ks.length (c4 j)] ++ [.int .i64 (aboveT k (ts.drop (j + 1)) b).k, .int .i64 (aboveT k (ts.drop (j + 1)) b).n, .int .i64 (aboveT k (ts.drop (j + 1)) b).a, .slice B (aboveT k (ts.drop (j + 1)) b).ls.length cb, .slice K (aboveT k (ts.drop (j + 1)) b).ks.length kb]) :: bl, Lib.hid (fun W HW => HW.nodeO (HD.out.ext0 HW.ext).any (HF.out W HW.tl) hk), ?_⟩
    simp only [Tm.k_mk, Tm.n_mk, Tm.a_mk, Tm.ls_mk, Tm.ks_mk, List.length_nil, List.length_cons, Nat.reduceAdd, Nat.zero_add, List.cons_append, List.nil_append]
    exact (H.arr (by (repeat (first | with_reducible exact Arr.nil | refine Arr.cons (by (repeat (first | with_reducible exact Pick.head | with_reducible apply Pick.tail))) ?_)) <;> exact Arr.of_subl (by (repeat (first | with_reducible exact Subl.refl _ | with_reducible apply Subl.drop)))))
  · rintro e w8 ⟨⟨v, rfl⟩, r, B, K, cb, kb, bl, _, hr, _, HF, H⟩
    refine ⟨v, rfl, .ready, none, _, by decide, H, fun w9 H => ?_⟩
    simp only [List.drop_zero] at hr
    subst hr
    clear HV hrc H3
    dsimp only
    have hr_ := H.rules; simp only [Rules, and_true] at hr_; have hd_ := H.dif; simp only [Dif, Neq, and_true] at hd_; obtain ⟨ho_, hz_⟩ := H.old0
    go_wp2_with fail
    clear hr_ hd_ ho_ hz_
    refine endH (by (repeat (first | with_reducible exact H | with_reducible exact H0_ | with_reducible apply Hp.alloc | with_reducible apply Hp.allocMap | with_reducible apply Hp.drew | with_reducible apply Hp.drewN | with_reducible apply Hp.set)); (try any_goals (repeat (first | with_reducible exact Upd.head | with_reducible apply Upd.tail)))) ?_
    clear H; intro w10 H; (try simp only [size_drew_, size_drewN_, World.size_alloc, World.size_setCell, List.set_cons_zero, List.set_cons_succ] at H)
    refine leaveM (v := .agg #[_, _, _, _, _]) H (by (repeat (first | with_reducible exact Pick.head | with_reducible apply Pick.tail))) (fun w11 H => ⟨Res.one Tryd.results64 (H.resBox (by (repeat (first | with_reducible exact Pick.head | with_reducible apply Pick.tail))) aggTerm rfl rfl), _, rfl, ⟨_, _, _, _, rfl, HF.out _ (H.only (by (repeat (first | with_reducible exact Subl.refl _ | with_reducible apply Subl.drop))))⟩, H.ext⟩)
end Go.Proofs.YteelplgdojjakaaDoor
