/- law 18: block: contract. No statement of the seat is proved here. -/
import Derived.Test.YtmedomglemllnaaGreatDoorMgL18b
namespace Go.Proofs.YtmedomglemllnaaGreatDoor
set_option linter.unusedSimpArgs false
set_option linter.unusedVariables false
open Go.RowKit

theorem stCts18 : SlT Tryz.prog 49 148 6 := SlT.of Tryz.underlying49 (bytes := 80) (zv := .agg #[.int .i64 0, .int .i64 0, .int .i64 0, .int .i64 0, .slice none 0 0, .slice none 0 0]) (by kernel_rfl) rfl (by decide) (by decide)
set_option maxRecDepth 100000 in
set_option maxHeartbeats 2000000 in
theorem sort18O_calls {w : World} : Calls Tryz.prog 50 #[] w (PTm w sort18T) := by
  go_enter Tryz.func50, Tryz.ntmps50
  have H := Hp.start no w
  go_wp2_with ((with_reducible refine atStore (t := 26) ?_); go_must (refine wpList_storeH (t := 26) rfl rfl (by go_simp <;> first | rfl | exact ⟨rfl, rfl⟩) (by go_simp <;> first | rfl | exact ⟨rfl, rfl⟩) (by exact Hp.norm (by (repeat (first | with_reducible exact H | with_reducible exact H0_ | with_reducible apply Hp.alloc | with_reducible apply Hp.allocMap | with_reducible apply Hp.drew | with_reducible apply Hp.drewN | with_reducible apply Hp.set)); (try any_goals (repeat (first | with_reducible exact Upd.head | with_reducible apply Upd.tail)))) (by ((try simp only [size_drew_, size_drewN_, World.size_alloc, World.size_setCell, List.set_cons_zero, List.set_cons_succ, List.nil_append, List.cons_append]) <;> rfl))) (by (repeat (first | with_reducible exact Upd.head | with_reducible apply Upd.tail))) (by exact aggTerm) (by rfl) (by simp [Value.oneCell']) ?_; clear H; intro w7 H; (try simp only [size_drew_, size_drewN_, World.size_alloc, World.size_setCell, List.set_cons_zero, List.set_cons_succ] at H); (try clear hr_ hd_ ho_ hz_); have hr_ := H.rules; simp only [Rules, and_true] at hr_; have hd_ := H.dif; simp only [Dif, Neq, and_true] at hd_; obtain ⟨ho_, hz_⟩ := H.old0))
  (try clear hr_ hd_ ho_ hz_)
  have H1 := ((((H.nil 237 2).one).one).nil 26 5)
  have H2 := H1.boxrow (g := w.heap.size + 1) (e := 47) (z := 1) (n := 1) (ds := [lvD []]) (cs := [.slice none 0 0]) (.tail (.tail .head)) (.tail .head) rfl (by simp [lvD_size]) (by unfold M; omega)
  have H3 := H2.tm (k := 2) (n := 0) (a := 0) (ls := [[]]) (ks := []) .head .head (inI18 (by decide) (by decide)) (inI18 (by decide) (by decide)) (inI18 (by decide) (by decide))
  exact bodyPost_ret (v := .agg #[.int .i64 2, .int .i64 0, .int .i64 0, .slice (some ⟨w.heap.size + 1, 0, none⟩) 1 1, .slice none 0 0]) (Res.one Tryz.results50 (H.resBox (g := w.heap.size) (by (repeat (first | with_reducible exact Pick.head | with_reducible apply Pick.tail))) aggTerm rfl rfl)) rfl (H3.ptmk .head rfl rfl)
def RP (w0 : World) (S : Nat → Prop) (e z : Nat) (ds : List D) (v : Value) (W : World) : Prop :=
  ∀ W' : World, W.heap.size ≤ W'.heap.size → (∀ k ∈ v.ownBlock.toList, W'.heap[k]? = W.heap[k]?) → (∀ k, k < w0.heap.size → W'.heap[k]? = w0.heap[k]?) → RG W' w0.heap.size (fun k => S k ∧ k < w0.heap.size) e z ds v
section
variable {X : Nat → Prop} {w0 w w1 : World} {l l' l1 l2 l3 : List Ch} {S : Nat → Prop}
variable {P : Program} {ops : Array Oper} {rest : List Oper} {o : Oper} {a : Act} {Q : Exit → Act → World → Prop}
theorem RG.keep {w' : World} {B e z : Nat} {ds : List D} {v : Value} (h : RG w B (fun k => S k ∧ k < B) e z ds v) (hsz : w.heap.size ≤ w'.heap.size) (ho : ∀ k, k < B → w'.heap[k]? = w.heap[k]?) (hv : ∀ k ∈ v.ownBlock.toList, w'.heap[k]? = w.heap[k]?) : RG w' B (fun k => S k ∧ k < B) e z ds v := by
  obtain ⟨h1, h2, es, h3, h4⟩ := h
  exact ⟨h1, h2, es, ownsRow.frame h3 (fun k hk => hv k (by simp [hk])), RCs.frame hsz (fun _ _ h => h) (fun k _ hk => ho k hk.1.2) _ _ h4⟩
theorem RP.of {e z : Nat} {ds : List D} {v : Value} (hx : Ext no w0 w) (h : RG w w0.heap.size (fun k => S k ∧ k < w0.heap.size) e z ds v) : RP w0 S e z ds v w :=
  fun W' hz hk ho => h.keep hz (fun k hk' => (ho k hk').trans (hx.block k hk' no_not).symm) hk
theorem RP.stays {e z : Nat} {ds : List D} {v : Value} (h : RP w0 S e z ds v w) (hz : w.heap.size ≤ w1.heap.size) (hw : ∀ k ∈ v.ownBlock.toList, w1.heap[k]? = w.heap[k]?) : RP w0 S e z ds v w1 :=
  fun W' hz' hk ho => h W' (Nat.le_trans hz hz') (fun k hk' => (hk k hk').trans (hw k hk')) ho
theorem Hp.rpNil (H : Hp no w0 w l) (e z : Nat) : Hp no w0 w (.gh [] (RP w0 S e z [] (.slice none 0 0)) :: l) := by
  obtain ⟨L, h, hn⟩ := H.own
  refine ⟨H.ext, L, ?_, hn⟩
  unfold Chs
  exact ⟨[], L, rfl, ⟨rfl, by simp, fun _ _ _ _ => RG.nil, fun _ _ _ _ _ _ _ => RG.nil⟩, h⟩
theorem Hp.rpAt {K : List Nat} {e z : Nat} {ds : List D} {v : Value} (H : Hp no w0 w l) (p : Pick l (.gh K (RP w0 S e z ds v)) l1) : RG w w0.heap.size (fun k => S k ∧ k < w0.heap.size) e z ds v := by
  obtain ⟨L, h, _⟩ := (H.pick p).own
  unfold Chs at h
  obtain ⟨L1, L2, rfl, ⟨rfl, h2, h3, h4⟩, h5⟩ := h
  exact h3 w (Nat.le_refl _) (fun _ _ => rfl) (fun k hk => H.ext.block k hk no_not)
theorem wp_pushP {K : Act → World → Prop} (s x : Operand) (t : TypeId) (ho : o.op = .call { callee := .builtin .append, args := #[s, x], argTypes := #[t, t] }) {e z : Nat} (hT : SlT P t e z)
    {ds : List D} {d : D} {out : Value} {cs : List Value} {g c e1 : Nat} (hs : a.eval s = out) (hx : a.eval x = .slice (some ⟨g, 0, none⟩) 1 c) (H : Hp no w0 w l) (p3 : Pick l (.box g e1 cs) l1) (p1 : Pick l1 (.gh out.ownBlock.toList (RP w0 S e z ds out)) l2)
    (hd : RC w (fun k => S k ∧ k < w0.heap.size) d cs) (hz : d.size = z) (hM : ds.length + 1 ≤ M)
    (h : ∀ v' w', Hp no w0 w' (.gh v'.ownBlock.toList (RP w0 S e z (ds ++ [d]) v') :: l2) → K (a.put o.dst v') w') : o.wp P a w K Q := by
  have hcell := H.boxlies p3
  have h1 := (H.drop p3).rpAt p1
  obtain ⟨L, hL, hn⟩ := ((H.pick p3).pick (.tail p1)).own
  simp only [Chs] at hL
  obtain ⟨L1, _, rfl, ⟨rfl, hgb, _⟩, L2, L3, rfl, h2, h3⟩ := hL
  have hB : ∀ k, out.ownBlock = some k → w0.heap.size ≤ k := fun k hk => (hgb k (by simp [hk])).1
  refine wp_pushC s x t ho hT (ds' := [d]) (cs := cs) (m := 1) hs hx h1 ?_ (by simpa using hz) rfl hcell (by simpa using hM) H.ext.size ?_
  · unfold RCs
    refine ⟨cs, [], by simp, RC.frame (Nat.le_refl _) (fun k hk hS => ⟨hS, fun e => ?_⟩) (fun _ _ _ => rfl) _ _ hd, by unfold RCs; rfl⟩
    have := hB k e.symm
    omega
  · intro v' w' g1 g2 g3
    have hx' : Ext no w0 w' := H.ext.grown g2 (fun k hk => .inr (hB k hk))
    have hv' : ∀ k ∈ v'.ownBlock.toList, w0.heap.size ≤ k ∧ k < w'.heap.size := by
      intro k hk
      obtain ⟨_, _, es, g4, _⟩ := g1
      exact g4.lt k (by simpa using hk)
    refine h v' w' ⟨hx', v'.ownBlock.toList ++ L3, ?_, ?_⟩
    · unfold Chs
      refine ⟨_, L3, rfl, ⟨rfl, hv', RP.of hx' g1, fun w2 hz2 hw2 => (RP.of hx' g1).stays hz2 hw2⟩, h3.frame H.ext.size g2.size (fun k hk hx => g2.block k (Nat.lt_of_lt_of_le hk H.ext.size) (fun e => ?_)) (fun k hk => g2.block k (h3.lt k hk).2 (fun e => ?_))⟩
      · have := hB k e.symm; omega
      · exact (List.nodup_append.1 hn).2.2 k (by simp [← e]) k (by simp [hk]) rfl
    · have n2 := (List.nodup_append.1 (List.nodup_append.1 hn).2.1).2.1
      refine List.nodup_append.2 ⟨by cases v'.ownBlock <;> simp, n2, fun x hx y hy e => ?_⟩
      subst e
      rcases g3 with g3 | g3
      · rw [g3] at hx
        exact (List.nodup_append.1 hn).2.2 x hx x (by simp [hy]) rfl
      · have hx' : x = w.heap.size := by rw [g3] at hx; simpa using hx
        have := (h3.lt x hy).2
        omega
end
def block18 (n : Nat) (types : List Tm) : Dc := ⟨3, 0, zT, zT, List.replicate n sort18T, [], [⟨[]⟩], types.map fun t => ⟨0, t⟩⟩
set_option maxRecDepth 100000 in
set_option maxHeartbeats 16000000 in
theorem block18_calls {w : World} {S : Nat → Prop} {types : List Tm} {A0 : Option Addr} {c : Nat} {P : Nat} (hP : P ≤ 1000) (h : RC w S (.l 26 5 (types.map Tm.d)) [.slice A0 types.length c]) (hl : types.length ≤ 1000000) :
    Calls Tryz.prog 46 #[.int .i64 (P : Int), .slice A0 types.length c] w (PR18 w S (block18 P types).d) := by
  have hM := h.lenM
  have HR := Lib.hid h
  have HL := Lib.hid hl
  clear h
  go_enter Tryz.func46, Tryz.ntmps46
  have H := Hp.start no w
  go_wp2_with ((with_reducible refine atStore (t := 51) ?_); go_must (refine wpList_storeH (t := 51) rfl rfl (by go_simp <;> first | rfl | exact ⟨rfl, rfl⟩) (by go_simp <;> first | rfl | exact ⟨rfl, rfl⟩) (by exact Hp.norm (by (repeat (first | with_reducible exact H | with_reducible exact H0_ | with_reducible apply Hp.alloc | with_reducible apply Hp.allocMap | with_reducible apply Hp.drew | with_reducible apply Hp.drewN | with_reducible apply Hp.set)); (try any_goals (repeat (first | with_reducible exact Upd.head | with_reducible apply Upd.tail)))) (by ((try simp only [size_drew_, size_drewN_, World.size_alloc, World.size_setCell, List.set_cons_zero, List.set_cons_succ, List.nil_append, List.cons_append]) <;> rfl))) (by (repeat (first | with_reducible exact Upd.head | with_reducible apply Upd.tail))) (by exact aggDecl) (by rfl) (by simp [Value.oneCell']) ?_; clear H; intro w7 H; (try simp only [size_drew_, size_drewN_, World.size_alloc, World.size_setCell, List.set_cons_zero, List.set_cons_succ] at H); (try clear hr_ hd_ ho_ hz_); have hr_ := H.rules; simp only [Rules, and_true] at hr_; have hd_ := H.dif; simp only [Dif, Neq, and_true] at hd_; obtain ⟨ho_, hz_⟩ := H.old0))
  (try clear hr_ hd_ ho_ hz_)
  refine codeH (by (repeat (first | with_reducible exact H | with_reducible exact H0_ | with_reducible apply Hp.alloc | with_reducible apply Hp.allocMap | with_reducible apply Hp.drew | with_reducible apply Hp.drewN | with_reducible apply Hp.set)); (try any_goals (repeat (first | with_reducible exact Upd.head | with_reducible apply Upd.tail)))) ?_
  clear H; intro w1 H; (try simp only [size_drew_, size_drewN_, World.size_alloc, World.size_setCell, List.set_cons_zero, List.set_cons_succ] at H)
  replace H := H.nil 26 5
  generalize hgD : w.heap.size + 1 + 1 = gD at H ⊢
  generalize hgM : w.heap.size + 1 = gM at H ⊢
  go_loopw [6] (fun i wr => ∃ (j : Nat) (v1 : Value), j ≤ P ∧ i = .int .i64 (j : Int) ∧ Hp no w wr [.dat (.l 26 5 ((List.replicate j sort18T).map Tm.d)) [v1], .box gD 51 [.int .i64 3, .int .i64 0, .int .i64 0, .int .i64 0, .int .i64 0, .slice none 0 0, .slice none 0 0, .int .i64 0, .int .i64 0, .int .i64 0, .slice none 0 0, .slice none 0 0, v1, .slice none 0 0, .slice (some ⟨gM, 0, none⟩) 1 1, .slice none 0 0], .box gM 73 [.slice none 0 0], .box w.heap.size 51 [.int .i64 0, .int .i64 0, .int .i64 0, .int .i64 0, .int .i64 0, .slice none 0 0, .slice none 0 0, .int .i64 0, .int .i64 0, .int .i64 0, .slice none 0 0, .slice none 0 0, .slice none 0 0, .slice none 0 0, .slice none 0 0, .slice none 0 0]]) (fun i _ => P - (intOf i).toNat)
  case atStart => exact ⟨0, .slice none 0 0, Nat.zero_le _, rfl, H⟩
  case round =>
    clear H
    obtain ⟨j, v1, hj, rfl, H⟩ := hrel
    by_cases hlt : j < P
    · have hr_ := H.rules; simp only [Rules, and_true] at hr_; have hd_ := H.dif; simp only [Dif, Neq, and_true] at hd_; obtain ⟨ho_, hz_⟩ := H.old0
      go_wp2_with fail
      (try clear hr_ hd_ ho_ hz_)
      refine regionH (by (repeat (first | with_reducible exact H | with_reducible exact H0_ | with_reducible apply Hp.alloc | with_reducible apply Hp.allocMap | with_reducible apply Hp.drew | with_reducible apply Hp.drewN | with_reducible apply Hp.set)); (try any_goals (repeat (first | with_reducible exact Upd.head | with_reducible apply Upd.tail)))) ?_
      clear H; intro w2 H; (try simp only [size_drew_, size_drewN_, World.size_alloc, World.size_setCell, List.set_cons_zero, List.set_cons_succ] at H)
      refine wp_region_H 7 [false, false, false, false, false, false, false] [6] H (.cons (i := 1) rfl .nil) (by kernel_rfl) rfl rfl (fun H_ hR_ => ?_)
      (try clear H0_); have H0_ := H; clear H; have H := H_; clear H_
      refine wpL_reads (is := [(0, ?v1_0), (1, ?v1_1)]) (by kernel_rfl) (Nat.le_of_ble_eq_true rfl) (by intro _ _ d_ _ _ h_; cases d_ <;> exact h_) (by kernel_rfl) hR_ (fun w_ hw_ => ?h1_) ?_
      case h1_ =>
        have ho_ := hw_.old0.1; have hz_ := hw_.old0.2; have hr_ := hw_.rules; clear hw_; simp only [Rules, and_true] at hr_; go_split_ands
        (repeat (first | with_reducible exact RdOps.nil | (refine RdOps.run rfl (by rfl) ?_ ?_; (focus (first | (go_simp; done) | (go_simp; with_reducible rfl))); simp only [List.getElem_toArray, List.getElem_cons_zero, List.getElem_cons_succ, Act.put, List.setIfInBounds_toArray, List.set_cons_zero, List.set_cons_succ]) | (refine RdOps.skip rfl (by rfl) ?_ ?_; (focus (with_reducible rfl)); simp only [List.getElem_toArray, List.getElem_cons_zero, List.getElem_cons_succ, Act.put, List.setIfInBounds_toArray, List.set_cons_zero, List.set_cons_succ])))
      simp only [rdMark, rdAct, List.map_cons, List.map_nil, List.length_cons, List.length_nil, Nat.reduceAdd, Nat.reduceSub, Nat.zero_add, List.getElem?_toArray, List.getElem?_cons_zero, List.getElem?_cons_succ, Option.bind_some, Act.put, List.setIfInBounds_toArray, List.set_cons_zero, List.set_cons_succ]
      refine wpL_do (i := 2) rfl (by kernel_rfl) (by rfl) (fun K_ hK_ => ?_)
      go_simp
      refine sort18O_calls.mono ?_
      rintro e w_ ⟨v, rfl, hto, hx⟩
      obtain ⟨E1, Ec, E2, Ek, rfl, H_⟩ := H.resTm hx hto
      clear H hx hto
      have H := H_
      clear H_
      refine hK_ _ _ (fun _ => H.sub (by simp)) (fun hR_ => ?_)
      replace hR_ := hR_ (by decide)
      refine wpL_do (i := 3) rfl (by kernel_rfl) (by rfl) (fun K_ hK_ => ?_)
      go_simp
      refine kontH (by (repeat (first | with_reducible exact H | with_reducible exact H0_ | with_reducible apply Hp.alloc | with_reducible apply Hp.allocMap | with_reducible apply Hp.drew | with_reducible apply Hp.drewN | with_reducible apply Hp.set)); (try any_goals (repeat (first | with_reducible exact Upd.head | with_reducible apply Upd.tail)))) ?_
      clear H; intro wb_ H; (try simp only [size_drew_, size_drewN_, World.size_alloc, World.size_setCell, List.set_cons_zero, List.set_cons_succ] at H)
      refine hK_ _ _ (fun _ => H.sub (by simp)) (fun hR_ => ?_)
      replace hR_ := hR_ (by decide)
      refine wpL_do (i := 4) rfl (by kernel_rfl) (by rfl) (fun K_ hK_ => ?_)
      refine wp_pushH (.tmp 17) (.tmp 19) 22 rfl stTerms (by go_simp <;> first | rfl | exact ⟨rfl, rfl⟩) (by go_simp <;> first | rfl | exact ⟨rfl, rfl⟩) H (by (repeat (first | with_reducible exact Pick.head | with_reducible apply Pick.tail))) (by (repeat (first | with_reducible exact Pick.head | with_reducible apply Pick.tail))) (by (repeat (first | with_reducible exact Pick.head | with_reducible apply Pick.tail))) (Tm.size_d _) ?_ ?_
      focus (simp [M]; omega)
      clear H; intro v2 w11 H
      rw [show (List.replicate j sort18T).map Tm.d ++ [sort18T.d] = (List.replicate (j + 1) sort18T).map Tm.d by rw [List.replicate_succ', List.map_append]; rfl] at H
      obtain ⟨A5, c6, rfl, _, _, _⟩ := H.slice (e := 26) (z := 5) (v := v2) (by (repeat (first | with_reducible exact Pick.head | with_reducible apply Pick.tail)))
      rw [show ((List.replicate (j + 1) sort18T).map Tm.d).length = j + 1 by simp] at H ⊢
      refine hK_ _ _ (fun _ => H.sub (by simp)) (fun hR_ => ?_)
      replace hR_ := hR_ (by decide)
      simp only [List.getElem_toArray, List.getElem_cons_zero, List.getElem_cons_succ, Act.put, List.setIfInBounds_toArray, List.set_cons_zero, List.set_cons_succ]
      refine wpL_reads (is := [(5, ?v2_0)]) (by kernel_rfl) (Nat.le_of_ble_eq_true rfl) (by intro _ _ d_ _ _ h_; cases d_ <;> exact h_) (by kernel_rfl) hR_ (fun w_ hw_ => ?h2_) ?_
      case h2_ =>
        have ho_ := hw_.old0.1; have hz_ := hw_.old0.2; have hr_ := hw_.rules; clear hw_; simp only [Rules, and_true] at hr_; go_split_ands
        (repeat (first | with_reducible exact RdOps.nil | (refine RdOps.run rfl (by rfl) ?_ ?_; (focus (first | (go_simp; done) | (go_simp; with_reducible rfl))); simp only [List.getElem_toArray, List.getElem_cons_zero, List.getElem_cons_succ, Act.put, List.setIfInBounds_toArray, List.set_cons_zero, List.set_cons_succ]) | (refine RdOps.skip rfl (by rfl) ?_ ?_; (focus (with_reducible rfl)); simp only [List.getElem_toArray, List.getElem_cons_zero, List.getElem_cons_succ, Act.put, List.setIfInBounds_toArray, List.set_cons_zero, List.set_cons_succ])))
      simp only [rdMark, rdAct, List.map_cons, List.map_nil, List.length_cons, List.length_nil, Nat.reduceAdd, Nat.reduceSub, Nat.zero_add, List.getElem?_toArray, List.getElem?_cons_zero, List.getElem?_cons_succ, Option.bind_some, Act.put, List.setIfInBounds_toArray, List.set_cons_zero, List.set_cons_succ]
      refine wpL_do (i := 6) rfl (by kernel_rfl) (by rfl) (fun K_ hK_ => ?_)
      have hrs_ := H.rules
      simp only [Rules, and_true] at hrs_
      go_simp
      clear hrs_
      refine kontH (by (repeat (first | with_reducible exact H | with_reducible exact H0_ | with_reducible apply Hp.alloc | with_reducible apply Hp.allocMap | with_reducible apply Hp.drew | with_reducible apply Hp.drewN | with_reducible apply Hp.set)); (try any_goals (repeat (first | with_reducible exact Upd.head | with_reducible apply Upd.tail)))) ?_
      clear H; intro w12 H; (try simp only [size_drew_, size_drewN_, World.size_alloc, World.size_setCell, List.set_cons_zero, List.set_cons_succ] at H)
      refine hK_ _ _ (fun h => absurd (by decide) h) (fun _ => ?_)
      refine wpL_done (by kernel_rfl) ?_ _
      go_wp2_with fail
      go_roundw
      case rel => exact ⟨j + 1, .slice A5 (j + 1) c6, by omega, by first | go_num | rfl | simp, (H.arr (by (repeat (first | with_reducible exact Arr.nil | refine Arr.cons (by (repeat (first | with_reducible exact Pick.head | with_reducible apply Pick.tail))) ?_)) <;> exact Arr.of_subl (by (repeat (first | with_reducible exact Subl.refl _ | with_reducible apply Subl.drop)))))⟩
      case measure => first | (simp [intOf]; done) | (simp [intOf]; omega)
    · have hjP : j = P := by omega
      subst hjP
      obtain ⟨A5, c5, rfl, _, _, _⟩ := H.slice (e := 26) (z := 5) (v := v1) (by (repeat (first | with_reducible exact Pick.head | with_reducible apply Pick.tail)))
      rw [show ((List.replicate j sort18T).map Tm.d).length = j by simp] at H
      replace H := H.rpNil (S := S) 148 6
      go_wp2_with fail
      go_loopw [7] (fun i wr => ∃ (k : Nat) (v2 : Value), k ≤ types.length ∧ i = .int .i64 (k : Int) ∧ Hp no w wr [.gh v2.ownBlock.toList (RP w S 148 6 (((types.take k).map fun t => (⟨0, t⟩ : Ct)).map Ct.d) v2), .dat (.l 26 5 ((List.replicate j sort18T).map Tm.d)) [.slice A5 j c5], .box gD 51 [.int .i64 3, .int .i64 0, .int .i64 0, .int .i64 0, .int .i64 0, .slice none 0 0, .slice none 0 0, .int .i64 0, .int .i64 0, .int .i64 0, .slice none 0 0, .slice none 0 0, .slice A5 j c5, .slice none 0 0, .slice (some ⟨gM, 0, none⟩) 1 1, v2], .box gM 73 [.slice none 0 0], .box w.heap.size 51 [.int .i64 0, .int .i64 0, .int .i64 0, .int .i64 0, .int .i64 0, .slice none 0 0, .slice none 0 0, .int .i64 0, .int .i64 0, .int .i64 0, .slice none 0 0, .slice none 0 0, .slice none 0 0, .slice none 0 0, .slice none 0 0, .slice none 0 0]]) (fun i _ => types.length - (intOf i).toNat)
      case atStart => exact ⟨0, .slice none 0 0, Nat.zero_le _, rfl, H⟩
      case round =>
        clear H
        obtain ⟨k, v2, hk, rfl, H⟩ := hrel
        by_cases hlk : k < types.length
        · have hA : ∃ b_ o, A0 = some ⟨b_, o, none⟩ := by
            obtain ⟨b_, o, _, _, _, _, h, _⟩ := HR.out.atTm hlk
            exact ⟨b_, o, h⟩
          obtain ⟨b_, o, rfl⟩ := hA
          obtain ⟨b2_, o2, B2, ca2, L2, ck2, hA_, hb, hS_, hd, p0, p1, p2, p3, p4⟩ := HR.out.atTm hlk
          simp only [Option.some.injEq, Addr.mk.injEq, and_true] at hA_
          obtain ⟨rfl, rfl⟩ := hA_
          have HD : Hid (RC w S (Ct.d ⟨0, types[k]⟩) [.int .i64 0, .int .i64 types[k].k, .int .i64 types[k].n, .int .i64 types[k].a, .slice B2 types[k].ls.length ca2, .slice L2 types[k].ks.length ck2]) := Lib.hid (RC.ct.2 ⟨B2, ca2, L2, ck2, rfl, inI18 (k := 0) (by decide) (by decide), hd⟩)
          have HTK := Lib.hid (List.take_succ_eq_append_getElem hlk)
          clear hd hS_
          have hr_ := H.rules; simp only [Rules, and_true] at hr_; have hd_ := H.dif; simp only [Dif, Neq, and_true] at hd_; obtain ⟨ho_, hz_⟩ := H.old0
          go_wp2_with fail
          (try clear hr_ hd_ ho_ hz_)
          refine regionH (by (repeat (first | with_reducible exact H | with_reducible exact H0_ | with_reducible apply Hp.alloc | with_reducible apply Hp.allocMap | with_reducible apply Hp.drew | with_reducible apply Hp.drewN | with_reducible apply Hp.set)); (try any_goals (repeat (first | with_reducible exact Upd.head | with_reducible apply Upd.tail)))) ?_
          clear H; intro w2 H; (try simp only [size_drew_, size_drewN_, World.size_alloc, World.size_setCell, List.set_cons_zero, List.set_cons_succ] at H)
          refine wp_region_H 11 [false, false, false, false, false, false, false, false, false, false, false] [10] H (.cons (i := 2) rfl .nil) (by kernel_rfl) rfl rfl (fun H_ hR_ => ?_)
          (try clear H0_); have H0_ := H; clear H; have H := H_; clear H_
          refine wpL_reads (is := [(0, ?v3_0), (1, ?v3_1), (2, ?v3_2), (3, ?v3_3), (4, ?v3_4), (5, ?v3_5), (6, ?v3_6)]) (by kernel_rfl) (Nat.le_of_ble_eq_true rfl) (by intro _ _ d_ _ _ h_; cases d_ <;> exact h_) (by kernel_rfl) hR_ (fun w_ hw_ => ?h3_) ?_
          case h3_ =>
            have ho_ := hw_.old0.1; have hz_ := hw_.old0.2; have hr_ := hw_.rules; clear hw_; simp only [Rules, and_true] at hr_; go_split_ands
            (repeat (first | with_reducible exact RdOps.nil | (refine RdOps.run rfl (by rfl) ?_ ?_; (focus (first | (go_simp; done) | (go_simp; with_reducible rfl))); simp only [List.getElem_toArray, List.getElem_cons_zero, List.getElem_cons_succ, Act.put, List.setIfInBounds_toArray, List.set_cons_zero, List.set_cons_succ]) | (refine RdOps.skip rfl (by rfl) ?_ ?_; (focus (with_reducible rfl)); simp only [List.getElem_toArray, List.getElem_cons_zero, List.getElem_cons_succ, Act.put, List.setIfInBounds_toArray, List.set_cons_zero, List.set_cons_succ])))
          simp only [rdMark, rdAct, List.map_cons, List.map_nil, List.length_cons, List.length_nil, Nat.reduceAdd, Nat.reduceSub, Nat.zero_add, List.getElem?_toArray, List.getElem?_cons_zero, List.getElem?_cons_succ, Option.bind_some, Act.put, List.setIfInBounds_toArray, List.set_cons_zero, List.set_cons_succ]
          refine wpL_do (i := 7) rfl (by kernel_rfl) (by rfl) (fun K_ hK_ => ?_)
          go_simp
          refine kontH (by (repeat (first | with_reducible exact H | with_reducible exact H0_ | with_reducible apply Hp.alloc | with_reducible apply Hp.allocMap | with_reducible apply Hp.drew | with_reducible apply Hp.drewN | with_reducible apply Hp.set)); (try any_goals (repeat (first | with_reducible exact Upd.head | with_reducible apply Upd.tail)))) ?_
          clear H; intro wb_ H; (try simp only [size_drew_, size_drewN_, World.size_alloc, World.size_setCell, List.set_cons_zero, List.set_cons_succ] at H)
          refine hK_ _ _ (fun _ => H.sub (by simp)) (fun hR_ => ?_)
          replace hR_ := hR_ (by decide)
          refine wpL_do (i := 8) rfl (by kernel_rfl) (by rfl) (fun K_ hK_ => ?_)
          refine wp_pushP (S := S) (.tmp 29) (.tmp 35) 49 rfl stCts18 (by go_simp <;> first | rfl | exact ⟨rfl, rfl⟩) (by go_simp <;> first | rfl | exact ⟨rfl, rfl⟩) H (by (repeat (first | with_reducible exact Pick.head | with_reducible apply Pick.tail))) .head (HD.out.bd.ext0 H.ext) (Ct.size_d _) ?_ ?_
          focus (have := HL.out; simp [M]; omega)
          clear H; intro v3 w11 H
          rw [show ((types.take k).map fun t => (⟨0, t⟩ : Ct)).map Ct.d ++ [Ct.d ⟨0, types[k]⟩] = ((types.take (k + 1)).map fun t => (⟨0, t⟩ : Ct)).map Ct.d by rw [HTK.out, List.map_append, List.map_append]; rfl] at H
          obtain ⟨A6, c6, rfl⟩ := (H.rpAt .head).slice
          rw [show (((types.take (k + 1)).map fun t => (⟨0, t⟩ : Ct)).map Ct.d).length = k + 1 by simp; omega] at H ⊢
          refine hK_ _ _ (fun _ => H.sub (by simp)) (fun hR_ => ?_)
          replace hR_ := hR_ (by decide)
          simp only [List.getElem_toArray, List.getElem_cons_zero, List.getElem_cons_succ, Act.put, List.setIfInBounds_toArray, List.set_cons_zero, List.set_cons_succ]
          refine wpL_reads (is := [(9, ?v4_0)]) (by kernel_rfl) (Nat.le_of_ble_eq_true rfl) (by intro _ _ d_ _ _ h_; cases d_ <;> exact h_) (by kernel_rfl) hR_ (fun w_ hw_ => ?h4_) ?_
          case h4_ =>
            have ho_ := hw_.old0.1; have hz_ := hw_.old0.2; have hr_ := hw_.rules; clear hw_; simp only [Rules, and_true] at hr_; go_split_ands
            (repeat (first | with_reducible exact RdOps.nil | (refine RdOps.run rfl (by rfl) ?_ ?_; (focus (first | (go_simp; done) | (go_simp; with_reducible rfl))); simp only [List.getElem_toArray, List.getElem_cons_zero, List.getElem_cons_succ, Act.put, List.setIfInBounds_toArray, List.set_cons_zero, List.set_cons_succ]) | (refine RdOps.skip rfl (by rfl) ?_ ?_; (focus (with_reducible rfl)); simp only [List.getElem_toArray, List.getElem_cons_zero, List.getElem_cons_succ, Act.put, List.setIfInBounds_toArray, List.set_cons_zero, List.set_cons_succ])))
          simp only [rdMark, rdAct, List.map_cons, List.map_nil, List.length_cons, List.length_nil, Nat.reduceAdd, Nat.reduceSub, Nat.zero_add, List.getElem?_toArray, List.getElem?_cons_zero, List.getElem?_cons_succ, Option.bind_some, Act.put, List.setIfInBounds_toArray, List.set_cons_zero, List.set_cons_succ]
          refine wpL_do (i := 10) rfl (by kernel_rfl) (by rfl) (fun K_ hK_ => ?_)
          have hrs_ := H.rules
          simp only [Rules, and_true] at hrs_
          go_simp
          clear hrs_
          refine kontH (by (repeat (first | with_reducible exact H | with_reducible exact H0_ | with_reducible apply Hp.alloc | with_reducible apply Hp.allocMap | with_reducible apply Hp.drew | with_reducible apply Hp.drewN | with_reducible apply Hp.set)); (try any_goals (repeat (first | with_reducible exact Upd.head | with_reducible apply Upd.tail)))) ?_
          clear H; intro w12 H; (try simp only [size_drew_, size_drewN_, World.size_alloc, World.size_setCell, List.set_cons_zero, List.set_cons_succ] at H)
          refine hK_ _ _ (fun h => absurd (by decide) h) (fun _ => ?_)
          refine wpL_done (by kernel_rfl) ?_ _
          go_wp2_with fail
          go_roundw
          case rel => exact ⟨k + 1, .slice A6 (k + 1) c6, by omega, by first | go_num | rfl | simp, (H.arr (by (repeat (first | with_reducible exact Arr.nil | refine Arr.cons (by (repeat (first | with_reducible exact Pick.head | with_reducible apply Pick.tail))) ?_)) <;> exact Arr.of_subl (by (repeat (first | with_reducible exact Subl.refl _ | with_reducible apply Subl.drop)))))⟩
          case measure => first | (simp [intOf]; done) | (simp [intOf]; omega)
        · rw [List.take_of_length_le (show types.length ≤ k by omega)] at H
          obtain ⟨A6, c6, rfl⟩ := (H.rpAt .head).slice
          rw [show ((types.map fun t => (⟨0, t⟩ : Ct)).map Ct.d).length = types.length by simp] at H
          have hr_ := H.rules; simp only [Rules, and_true] at hr_; have hd_ := H.dif; simp only [Dif, Neq, and_true] at hd_; obtain ⟨ho_, hz_⟩ := H.old0
          go_wp2_with ((with_reducible refine atStore (t := 51) ?_); go_must (refine wpList_storeH (t := 51) rfl rfl (by go_simp <;> first | rfl | exact ⟨rfl, rfl⟩) (by go_simp <;> first | rfl | exact ⟨rfl, rfl⟩) (by exact Hp.norm (by (repeat (first | with_reducible exact H | with_reducible exact H0_ | with_reducible apply Hp.alloc | with_reducible apply Hp.allocMap | with_reducible apply Hp.drew | with_reducible apply Hp.drewN | with_reducible apply Hp.set)); (try any_goals (repeat (first | with_reducible exact Upd.head | with_reducible apply Upd.tail)))) (by ((try simp only [size_drew_, size_drewN_, World.size_alloc, World.size_setCell, List.set_cons_zero, List.set_cons_succ, List.nil_append, List.cons_append]) <;> rfl))) (by (repeat (first | with_reducible exact Upd.head | with_reducible apply Upd.tail))) (by exact aggDecl) (by rfl) (by simp [Value.oneCell']) ?_; clear H; intro w13 H; (try simp only [size_drew_, size_drewN_, World.size_alloc, World.size_setCell, List.set_cons_zero, List.set_cons_succ] at H); (try clear hr_ hd_ ho_ hz_); have hr_ := H.rules; simp only [Rules, and_true] at hr_; have hd_ := H.dif; simp only [Dif, Neq, and_true] at hd_; obtain ⟨ho_, hz_⟩ := H.old0))
          (try clear hr_ hd_ ho_ hz_)
          have hM5 := RC.frame (S' := fun k => S k ∨ w.heap.size ≤ k) (Nat.le_refl _) (fun k _ h => .inr h) (fun _ _ _ => rfl) _ _ (H.rd (d := .l 26 5 ((List.replicate j sort18T).map Tm.d)) (cs := [.slice A5 j c5]) (by (repeat (first | with_reducible exact Pick.head | with_reducible apply Pick.tail))))
          have hM6 := RC.frame (S' := fun k => S k ∨ w.heap.size ≤ k) (Nat.le_refl _) (fun k _ h => h.imp (fun h => h.1) id) (fun _ _ _ => rfl) _ _ (H.rpAt .head).rc
          have b7 := H.blk (g := gM) (t := 73) (cs := [.slice none 0 0]) (by (repeat (first | with_reducible exact Pick.head | with_reducible apply Pick.tail)))
          exact bodyPost_ret (v := .agg #[.int .i64 3, .int .i64 0, .int .i64 0, .int .i64 0, .int .i64 0, .slice none 0 0, .slice none 0 0, .int .i64 0, .int .i64 0, .int .i64 0, .slice none 0 0, .slice none 0 0, .slice A5 j c5, .slice none 0 0, .slice (some ⟨gM, 0, none⟩) 1 1, .slice A6 types.length c6]) (Res.one Tryz.results46 (H.resBox (g := w.heap.size) (by (repeat (first | with_reducible exact Pick.head | with_reducible apply Pick.tail))) aggDecl rfl rfl)) rfl
            ⟨_, rfl, RC.dc.2 ⟨none, 0, none, 0, none, 0, none, 0, A5, c5, none, 0, some ⟨gM, 0, none⟩, 1, A6, c6, by simp [block18, Tm.k_mk, Tm.n_mk, Tm.a_mk, Tm.ls_mk, Tm.ks_mk], inI18 (k := 3) (by decide) (by decide), inI18 (k := 0) (by decide) (by decide), tN18 (inI18 (by decide) (by decide)) (inI18 (by decide) (by decide)) (inI18 (by decide) (by decide)), tN18 (inI18 (by decide) (by decide)) (inI18 (by decide) (by decide)) (inI18 (by decide) (by decide)), by simpa [block18] using hM5, RC.nil, RC.blkRow (ds := [Mb.d ⟨[]⟩]) b7 (.inr (by omega)) (by unfold RCs; exact ⟨[.slice none 0 0], [], rfl, RC.mb.2 ⟨none, 0, rfl, RC.nil⟩, by unfold RCs; rfl⟩) (by simp [Mb.size_d]) rfl (by unfold M; simp), by simpa [block18] using hM6⟩, H.ext⟩
end Go.Proofs.YtmedomglemllnaaGreatDoor
