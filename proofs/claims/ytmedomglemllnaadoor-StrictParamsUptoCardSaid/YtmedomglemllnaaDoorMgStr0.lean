/- strict: the type of its map's keys. No statement of the seat is proved here. -/
import Derived.Test.YtmedomglemllnaaDoorMgStr1
import Derived.Test.YtmedomglemllnaaDoorMgSplit0
import Derived.Test.YtmedomglemllnaaDoorFree
namespace Go.Proofs.YtmedomglemllnaaDoor
set_option linter.unusedSimpArgs false
set_option linter.unusedVariables false
open Go.RowKit

theorem part_int {P : Program} {w : World} {t : TypeId} {k : IntKind} {cs : Array Value} {i : Nat} {v : Value} (ht : P.underlying t = some (.int k)) (h : cs[i]? = some v) : (part t cs i).run P w = .ok v w := by
  unfold part isAgg
  simp [Sem.run_bind, run_underlying ht, h]
theorem ckInt (w : World) (b : Bool) (k : Int) : (Instr.checkKey b 9999 3 (.int .i64 k)).run Tryd.prog w = .ok () w := by
  show (Instr.checkKey b (9998 + 1) _ _).run Tryd.prog w = .ok () w
  unfold Instr.checkKey
  simp [Sem.run_bind, run_underlying Tryd.underlying3]
theorem pairT : PairT Tryd.prog 142 where
  str := ⟨_, Tryd.underlying142⟩
  eq := fun w a b => by
    have hs : Tryd.prog.underlying 142 = some (.struct (Tryd.prog.fieldsOf 142)) := by unfold Program.fieldsOf; rw [Tryd.underlying142]
    unfold Op.equal Op.maxDepth keyP
    rw [run_equalIn_struct w 9999 _ _ _ hs (by kernel_rfl)]
    unfold Program.fieldsOf
    rw [Tryd.underlying142]
    simp [Op.eqFields, Sem.run_bind, part_int Tryd.underlying3, run_equalIn_int, Tryd.underlying3]
    obtain ⟨a1, a2⟩ := a
    obtain ⟨b1, b2⟩ := b
    by_cases h1 : a1 = b1 <;> by_cases h2 : a2 = b2 <;> simp [h1, h2] <;> omega
  ck := fun w b k => by
    show (Instr.checkKey b (9999 + 1) _ (keyP k)).run Tryd.prog w = .ok () w
    unfold Instr.checkKey keyP
    simp [Sem.run_bind, run_underlying Tryd.underlying142, part_int Tryd.underlying3, ckInt]
end Go.Proofs.YtmedomglemllnaaDoor
/- strict: the marks; an asker of another mark; what is free of a mark: contracts. No statement of the seat is proved here. -/
namespace Go.Proofs.YtmedomglemllnaaDoor
set_option linter.unusedSimpArgs false
set_option linter.unusedVariables false
open Go.RowKit

theorem aggMark : AggT Tryd.prog 86 2 := ⟨_, Tryd.underlying86, rfl, by kernel_rfl⟩
theorem aggAsker : AggT Tryd.prog 90 4 := ⟨_, Tryd.underlying90, rfl, by kernel_rfl⟩
theorem aggPlace : AggT Tryd.prog 142 2 := ⟨_, Tryd.underlying142, rfl, by kernel_rfl⟩
/-- A mark's number is small. -/
def MkOK (mk : Mk) : Prop := ∀ n, mk = some n → 0 ≤ n ∧ n ≤ 1000000000
/-- A function that tells whether a mark stands in a term. -/
def StM (W : World) (g : Nat) (mk : Mk) (v : Value) : Prop := ∃ F caps, v = .func (.func F) #[] caps ∧ (∀ args w, (callFunc F args).run Tryd.prog w = .ok (.enter F args) w) ∧
  ∀ w', Ext (fun k => k = g) W w' → Tab w' → ∀ (S : Nat → Prop) (t : Tm) (u : Value) (below : Int), TV w' S t u → sizeT t ≤ 4000000 → 0 ≤ below → below ≤ 1000000000 → Calls Tryd.prog F (#[u, .int .i64 below] ++ caps) w' (PV w' (.bool (standsM (upM mk below) t)))
/-- A function that tells whether a head is it. -/
def IsM (W : World) (g : Nat) (mk : Mk) (v : Value) : Prop := ∃ F caps, v = .func (.func F) #[] caps ∧ (∀ args w, (callFunc F args).run Tryd.prog w = .ok (.enter F args) w) ∧
  ∀ w', Ext (fun k => k = g) W w' → ∀ (S : Nat → Prop) (t : Tm) (u : Value) (below : Int), TV w' S t u → 0 ≤ below → below ≤ 1000000000 → Calls Tryd.prog F (#[u, .int .i64 below] ++ caps) w' (PV w' (.bool (isM (upM mk below) t)))
theorem Ext.also {X Y : Nat → Prop} {a b c : World} (h : Ext X a b) (k : Ext Y b c) (hXY : ∀ i, Y i → X i) : Ext X a c := h.trans k (fun _ _ h => h) (fun _ _ h => hXY _ h)
theorem StM.turn {W w : World} {g : Nat} {mk : Mk} {v : Value} (h : StM W g mk v) (hx : Ext (fun k => k = g) W w) : StM w g mk v := by
  obtain ⟨F, caps, h1, h2, h3⟩ := h
  exact ⟨F, caps, h1, h2, fun w' hx' => h3 w' (hx.also hx' fun _ h => h)⟩
theorem IsM.turn {W w : World} {g : Nat} {mk : Mk} {v : Value} (h : IsM W g mk v) (hx : Ext (fun k => k = g) W w) : IsM w g mk v := by
  obtain ⟨F, caps, h1, h2, h3⟩ := h
  exact ⟨F, caps, h1, h2, fun w' hx' => h3 w' (hx.also hx' fun _ h => h)⟩
theorem Ext.noX {X : Nat → Prop} {a b : World} (h : Ext no a b) : Ext X a b := h.mono fun _ _ h => h.elim
set_option maxHeartbeats 1000000 in
theorem members1_calls {S : Nat → Prop} {t : Tm} {w : World} {v : Value} (h : TV w S t v) (hb : sizeT t ≤ 4000000) (below : Int) : Calls Tryd.prog 120 #[v, .int .i64 below] w (PV w (.bool (selfT t))) := by
  obtain ⟨A0, ca, K0, ck, rfl, hrc⟩ := h
  have HRC := Lib.hid hrc
  have HB := Lib.hid hb
  clear hrc hb
  go_enter Tryd.func120, Tryd.ntmps120
  have H := Hp.start no w
  go_wp2_with fail
  refine callsH (by (repeat (first | with_reducible exact H | with_reducible exact H0_ | with_reducible apply Hp.alloc | with_reducible apply Hp.allocMap | with_reducible apply Hp.drew | with_reducible apply Hp.drewN | with_reducible apply Hp.set)); (try any_goals (repeat (first | with_reducible exact Upd.head | with_reducible apply Upd.tail)))) ?_
  clear H; intro w1 H; (try simp only [size_drew_, size_drewN_, World.size_alloc, World.size_setCell, List.set_cons_zero, List.set_cons_succ] at H)
  refine (self_calls (t := t) ⟨_, _, _, _, rfl, HRC.out.ext0 H.ext⟩ (Nat.le_trans HB.out (by omega))).mono ?_
  rintro e w2 ⟨rfl, hx⟩
  replace H := H.call hx
  obtain ⟨q, hq⟩ : ∃ q, q = selfT t := ⟨_, rfl⟩
  rw [← hq]
  have HX := H.ext
  have HQ := Lib.hid hq
  clear hq hx H
  go_wp2_with fail
  go_ret
  exact ⟨by rw [← HQ.out]; rfl, HX⟩
set_option maxHeartbeats 1000000 in
theorem members2_calls {S : Nat → Prop} {t : Tm} {w : World} {v : Value} (h : TV w S t v) (below : Int) : Calls Tryd.prog 121 #[v, .int .i64 below] w (PV w (.bool (decide (t.k = 11)))) := by
  obtain ⟨A0, ca, K0, ck, rfl, hrc⟩ := h
  clear hrc
  go_enter Tryd.func121, Tryd.ntmps121
  go_wp2_with fail
  go_ret
  exact ⟨rfl, (Ext.refl _ _).alloc _⟩
set_option maxHeartbeats 1000000 in
theorem variable1_calls {S : Nat → Prop} {t : Tm} {w : World} {v : Value} {bn : Nat} {n below : Int} (hT : Tab w) (h : TV w S t v) (hc : w.cell? ⟨bn, 0, none⟩ = some (.int .i64 n)) (h0 : 0 ≤ n) (h1 : n ≤ 1000000000) (b0 : 0 ≤ below) (b1 : below ≤ 1000000000) :
    Calls Tryd.prog 163 #[v, .int .i64 below, .pointer (some ⟨bn, 0, none⟩)] w (PV w (.bool (freeT (n + below) (n + below + 1) 0 t))) := by
  obtain ⟨A0, ca, K0, ck, rfl, hrc⟩ := h
  have HRC := Lib.hid hrc
  have HT := Lib.hid hT
  have lc := cell_lt hc
  have e1 : wrap64 (n + below) = n + below := by unfold wrap64; omega
  have e2 : wrap64 (n + below + 1) = n + below + 1 := by unfold wrap64; omega
  have E1 := Lib.hid e1
  have E2 := Lib.hid e2
  clear hrc hT h0 h1 b0 b1 e1 e2
  go_enter Tryd.func163, Tryd.ntmps163
  have H := Hp.start no w
  go_wp2_with fail
  refine callsH (by (repeat (first | with_reducible exact H | with_reducible exact H0_ | with_reducible apply Hp.alloc | with_reducible apply Hp.allocMap | with_reducible apply Hp.drew | with_reducible apply Hp.drewN | with_reducible apply Hp.set)); (try any_goals (repeat (first | with_reducible exact Upd.head | with_reducible apply Upd.tail)))) ?_
  clear H; intro w1 H; (try simp only [size_drew_, size_drewN_, World.size_alloc, World.size_setCell, List.set_cons_zero, List.set_cons_succ] at H)
  rw [E1.out, E2.out]
  refine (free_calls (t := t) (HT.out.ext H.ext) ⟨_, _, _, _, rfl, HRC.out.ext0 H.ext⟩ _ _).mono ?_
  rintro e w2 ⟨rfl, hx⟩
  replace H := H.call hx
  obtain ⟨q, hq⟩ : ∃ q, q = freeT (n + below) (n + below + 1) 0 t := ⟨_, rfl⟩
  rw [← hq]
  have HX := H.ext
  have HQ := Lib.hid hq
  clear hq hx H
  go_wp2_with fail
  go_ret
  exact ⟨by rw [← HQ.out]; rfl, HX⟩
set_option maxHeartbeats 1000000 in
theorem variable2_calls {S : Nat → Prop} {t : Tm} {w : World} {v : Value} {bn : Nat} {n below : Int} (h : TV w S t v) (hc : w.cell? ⟨bn, 0, none⟩ = some (.int .i64 n)) (h0 : 0 ≤ n) (h1 : n ≤ 1000000000) (b0 : 0 ≤ below) (b1 : below ≤ 1000000000) :
    Calls Tryd.prog 164 #[v, .int .i64 below, .pointer (some ⟨bn, 0, none⟩)] w (PV w (.bool (decide (t.k = 1) && decide (t.n = n + below)))) := by
  obtain ⟨A0, ca, K0, ck, rfl, hrc⟩ := h
  have lc := cell_lt hc
  have e1 : wrap64 (n + below) = n + below := by unfold wrap64; omega
  have E1 := Lib.hid e1
  clear hrc h0 h1 b0 b1 e1
  by_cases hk : t.k = 1
  · have hk2 : (t.k == 1) = true := by simpa using hk
    have HK := Lib.hid hk
    clear hk
    go_enter Tryd.func164, Tryd.ntmps164
    go_wp2_with fail
    go_ret
    rw [E1.out]
    exact ⟨by simp [HK.out]; rfl, (Ext.refl _ _).alloc _⟩
  · have hk2 : (t.k == 1) = false := by simpa using hk
    have HK := Lib.hid hk
    clear hk
    go_enter Tryd.func164, Tryd.ntmps164
    go_wp2_with fail
    go_ret
    exact ⟨by simp [HK.out], (Ext.refl _ _).alloc _⟩
/-- The mark of members. -/
theorem members_st {W : World} {g : Nat} : StM W g none (.func (.func 120) #[] #[]) ∧ IsM W g none (.func (.func 121) #[] #[]) :=
  ⟨⟨_, _, rfl, enters_of Tryd.func120 (by kernel_rfl) rfl, fun w' _ _ S t u below h hs _ _ => members1_calls h hs below⟩,
   ⟨_, _, rfl, enters_of Tryd.func121 (by kernel_rfl) rfl, fun w' _ S t u below h _ _ => members2_calls h below⟩⟩
/-- The mark of an outer variable. -/
theorem variable_st {W : World} {g bn : Nat} {n : Int} (hg : bn ≠ g) (hc : W.cell? ⟨bn, 0, none⟩ = some (.int .i64 n)) (h0 : 0 ≤ n) (h1 : n ≤ 1000000000) :
    StM W g (some n) (.func (.func 163) #[] #[.pointer (some ⟨bn, 0, none⟩)]) ∧ IsM W g (some n) (.func (.func 164) #[] #[.pointer (some ⟨bn, 0, none⟩)]) :=
  ⟨⟨_, _, rfl, enters_of Tryd.func163 (by kernel_rfl) rfl, fun w' hx hT S t u below h hs b0 b1 => variable1_calls hT h ((hx.cell (cell_lt hc) hg).trans hc) h0 h1 b0 b1⟩,
   ⟨_, _, rfl, enters_of Tryd.func164 (by kernel_rfl) rfl, fun w' hx S t u below h b0 b1 => variable2_calls h ((hx.cell (cell_lt hc) hg).trans hc) h0 h1 b0 b1⟩⟩
set_option maxHeartbeats 1000000 in
theorem members_calls {w : World} : Calls Tryd.prog 59 #[] w (PV w (.agg #[.func (.func 120) #[] #[], .func (.func 121) #[] #[]])) := by
  go_enter Tryd.func59, Tryd.ntmps59
  have H := Hp.start no w
  go_wp2_with ((with_reducible refine atStore (t := 86) ?_); go_must (refine wpList_storeH (t := 86) rfl rfl (by go_simp <;> first | rfl | exact ⟨rfl, rfl⟩) (by go_simp <;> first | rfl | exact ⟨rfl, rfl⟩) (by exact Hp.norm (by (repeat (first | with_reducible exact H | with_reducible exact H0_ | with_reducible apply Hp.alloc | with_reducible apply Hp.allocMap | with_reducible apply Hp.drew | with_reducible apply Hp.drewN | with_reducible apply Hp.set)); (try any_goals (repeat (first | with_reducible exact Upd.head | with_reducible apply Upd.tail)))) (by ((try simp only [size_drew_, size_drewN_, World.size_alloc, World.size_setCell, List.set_cons_zero, List.set_cons_succ, List.nil_append, List.cons_append]) <;> rfl))) (by (repeat (first | with_reducible exact Upd.head | with_reducible apply Upd.tail))) (by exact aggMark) (by rfl) (by simp [Value.oneCell']) ?_; clear H; intro w1 H; (try simp only [size_drew_, size_drewN_, World.size_alloc, World.size_setCell, List.set_cons_zero, List.set_cons_succ] at H); (try clear hr_ hd_ ho_ hz_); have hr_ := H.rules; simp only [Rules, and_true] at hr_; have hd_ := H.dif; simp only [Dif, Neq, and_true] at hd_; obtain ⟨ho_, hz_⟩ := H.old0))
  exact bodyPost_ret (v := .agg #[_, _]) (Res.one Tryd.results59 (H.resBox (by (repeat (first | with_reducible exact Pick.head | with_reducible apply Pick.tail))) aggMark rfl rfl)) rfl ⟨rfl, H.ext⟩
set_option maxHeartbeats 1000000 in
theorem tvariable_calls {w : World} {n : Int} : Calls Tryd.prog 123 #[.int .i64 n] w (fun e w' => ∃ bn, w.heap.size ≤ bn ∧ w'.cell? ⟨bn, 0, none⟩ = some (.int .i64 n) ∧ e = .returned (.agg #[.func (.func 163) #[] #[.pointer (some ⟨bn, 0, none⟩)], .func (.func 164) #[] #[.pointer (some ⟨bn, 0, none⟩)]]) ∧ Hp no w w' [.box bn 3 [.int .i64 n]]) := by
  have hmf : ∀ (fn : Fn) (first cap : Array Value) (w : World), (Instr.makeFunc fn first cap).run Tryd.prog w = .ok (.func fn first cap) w := fun _ _ _ _ => rfl
  go_enter Tryd.func123, Tryd.ntmps123
  have H := Hp.start no w
  go_wp2_with ((with_reducible refine atStore (t := 86) ?_); go_must (refine wpList_storeH (t := 86) rfl rfl (by go_simp <;> first | rfl | exact ⟨rfl, rfl⟩) (by go_simp <;> first | rfl | exact ⟨rfl, rfl⟩) (by exact Hp.norm (by (repeat (first | with_reducible exact H | with_reducible exact H0_ | with_reducible apply Hp.alloc | with_reducible apply Hp.allocMap | with_reducible apply Hp.drew | with_reducible apply Hp.drewN | with_reducible apply Hp.set)); (try any_goals (repeat (first | with_reducible exact Upd.head | with_reducible apply Upd.tail)))) (by ((try simp only [size_drew_, size_drewN_, World.size_alloc, World.size_setCell, List.set_cons_zero, List.set_cons_succ, List.nil_append, List.cons_append]) <;> rfl))) (by (repeat (first | with_reducible exact Upd.head | with_reducible apply Upd.tail))) (by exact aggMark) (by rfl) (by simp [Value.oneCell']) ?_; clear H; intro w1 H; (try simp only [size_drew_, size_drewN_, World.size_alloc, World.size_setCell, List.set_cons_zero, List.set_cons_succ] at H); (try clear hr_ hd_ ho_ hz_); have hr_ := H.rules; simp only [Rules, and_true] at hr_; have hd_ := H.dif; simp only [Dif, Neq, and_true] at hd_; obtain ⟨ho_, hz_⟩ := H.old0))
  exact bodyPost_ret (v := .agg #[_, _]) (Res.one Tryd.results123 (H.resBox (by (repeat (first | with_reducible exact Pick.head | with_reducible apply Pick.tail))) aggMark rfl rfl)) rfl ⟨w.heap.size, Nat.le_refl _, (H.blk (g := w.heap.size) (t := 3) (cs := [.int .i64 n]) (by (repeat (first | with_reducible exact Pick.head | with_reducible apply Pick.tail)))).cells 0, rfl, H.only (.drop (.keep .nil))⟩
set_option maxHeartbeats 2000000 in
/-- free: a row is free of a mark. -/
theorem mfree_calls {w : World} {S : Nat → Prop} {g : Nat} {mk : Mk} {fs fi : Value} {ts : List Tm} {A0 : Option Addr} {c : Nat} {below : Int} (hT : Tab w) (hst : StM w g mk fs) (h : RC w S (.l 26 5 (ts.map Tm.d)) [.slice A0 ts.length c]) (hz : ∀ t ∈ ts, sizeT t ≤ 4000000) (h0 : 0 ≤ below) (h1 : below ≤ 1000000000) :
    Calls Tryd.prog 118 #[.agg #[fs, fi], .int .i64 below, .slice A0 ts.length c] w (PLs w (ts.all fun t => !standsM (upM mk below) t)) := by
  obtain ⟨F, caps, rfl, eg, hst⟩ := hst
  have hM := h.lenM
  have HS := Lib.hid hst
  have HT := Lib.hid hT
  have HZ := Lib.hid hz
  have HH := Lib.hid h
  have HB := Lib.hid (And.intro h0 h1)
  clear hst hT hz h0 h1 h
  go_enter Tryd.func118, Tryd.ntmps118
  have H := Hp.start no w
  go_wp2_with fail
  go_loopw [10] (fun i wr => ∃ j : Nat, j ≤ ts.length ∧ i = .int .i64 j ∧ Hid ((ts.take j).all (fun t => !standsM (upM mk below) t) = true) ∧ Hp no w wr [.box w.heap.size 86 [.func (.func F) #[] caps, fi]]) (fun i _ => ts.length - (intOf i).toNat)
  case atStart => exact ⟨0, Nat.zero_le _, rfl, Lib.hid (by simp), by (repeat (first | with_reducible exact H | with_reducible exact H0_ | with_reducible apply Hp.alloc | with_reducible apply Hp.allocMap | with_reducible apply Hp.drew | with_reducible apply Hp.drewN | with_reducible apply Hp.set)); (try any_goals (repeat (first | with_reducible exact Upd.head | with_reducible apply Upd.tail)))⟩
  case round =>
    clear H
    obtain ⟨j, hj, rfl, HA, H⟩ := hrel
    by_cases hlt : j < ts.length
    · obtain ⟨b_, o, B1, ca1, L1, ck1, rfl, hb, hS, hd, p0, p1, p2, p3, p4⟩ := HH.out.atTm hlt
      have HD := Lib.hid hd
      have HE := Lib.hid (List.take_succ_eq_append_getElem hlt)
      have HZJ := Lib.hid (HZ.out _ (List.getElem_mem hlt))
      clear hd
      have hr_ := H.rules; simp only [Rules, and_true] at hr_; have hd_ := H.dif; simp only [Dif, Neq, and_true] at hd_; obtain ⟨ho_, hz_⟩ := H.old0
      go_wp2_with ((with_reducible refine atStore (t := 26) ?_); go_must (refine wpList_storeH (t := 26) rfl rfl (by go_simp <;> first | rfl | exact ⟨rfl, rfl⟩) (by go_simp <;> first | rfl | exact ⟨rfl, rfl⟩) (by exact Hp.norm (by (repeat (first | with_reducible exact H | with_reducible exact H0_ | with_reducible apply Hp.alloc | with_reducible apply Hp.allocMap | with_reducible apply Hp.drew | with_reducible apply Hp.drewN | with_reducible apply Hp.set)); (try any_goals (repeat (first | with_reducible exact Upd.head | with_reducible apply Upd.tail)))) (by ((try simp only [size_drew_, size_drewN_, World.size_alloc, World.size_setCell, List.set_cons_zero, List.set_cons_succ, List.nil_append, List.cons_append]) <;> rfl))) (by (repeat (first | with_reducible exact Upd.head | with_reducible apply Upd.tail))) (by exact aggTerm) (by rfl) (by simp [Value.oneCell']) ?_; clear H; intro w7 H; (try simp only [size_drew_, size_drewN_, World.size_alloc, World.size_setCell, List.set_cons_zero, List.set_cons_succ] at H); (try clear hr_ hd_ ho_ hz_); have hr_ := H.rules; simp only [Rules, and_true] at hr_; have hd_ := H.dif; simp only [Dif, Neq, and_true] at hd_; obtain ⟨ho_, hz_⟩ := H.old0))
      (try clear hr_ hd_ ho_ hz_)
      refine callsH (by (repeat (first | with_reducible exact H | with_reducible exact H0_ | with_reducible apply Hp.alloc | with_reducible apply Hp.allocMap | with_reducible apply Hp.drew | with_reducible apply Hp.drewN | with_reducible apply Hp.set)); (try any_goals (repeat (first | with_reducible exact Upd.head | with_reducible apply Upd.tail)))) ?_
      clear H; intro w9 H; (try simp only [size_drew_, size_drewN_, World.size_alloc, World.size_setCell, List.set_cons_zero, List.set_cons_succ] at H)
      obtain ⟨z, hz⟩ : ∃ z, z = standsM (upM mk below) ts[j] := ⟨_, rfl⟩
      have hcall := HS.out _ H.ext.noX (HT.out.ext H.ext) _ ts[j] _ below ⟨_, _, _, _, rfl, HD.out.ext0 H.ext⟩ HZJ.out HB.out.1 HB.out.2
      rw [← hz] at hcall
      have HZ2 := Lib.hid hz
      clear hz
      refine (hcall).mono ?_
      rintro e w_ ⟨rfl, hx⟩
      replace H := H.call hx
      clear hx
      clear hcall
      go_wp2_with fail
      refine callsH (by (repeat (first | with_reducible exact H | with_reducible exact H0_ | with_reducible apply Hp.alloc | with_reducible apply Hp.allocMap | with_reducible apply Hp.drew | with_reducible apply Hp.drewN | with_reducible apply Hp.set)); (try any_goals (repeat (first | with_reducible exact Upd.head | with_reducible apply Upd.tail)))) ?_
      clear H; intro w10 H; (try simp only [size_drew_, size_drewN_, World.size_alloc, World.size_setCell, List.set_cons_zero, List.set_cons_succ] at H)
      refine (tmust1 H (by (repeat (first | with_reducible exact Pick.head | with_reducible apply Pick.tail)))).mono ?_
      rintro e w11 hm
      have hx := hm.2
      replace H := H.call hx
      clear hx
      cases z
      · obtain rfl := hm.yes rfl
        clear hm
        go_wp2_with fail
        go_roundw
        case rel => exact ⟨j + 1, by omega, by first | go_num | rfl | simp, Lib.hid (by rw [HE.out, List.all_append, HA.out]; simp [← HZ2.out]), (H.arr (by (repeat (first | with_reducible exact Arr.nil | refine Arr.cons (by (repeat (first | with_reducible exact Pick.head | with_reducible apply Pick.tail))) ?_)) <;> exact Arr.of_subl (by (repeat (first | with_reducible exact Subl.refl _ | with_reducible apply Subl.drop)))))⟩
        case measure => simp [intOf]; omega
      · obtain rfl := hm.no rfl
        clear hm
        go_wp2_with fail
        refine ⟨rfl, ?_, H.ext⟩
        rw [if_neg]
        rw [Bool.not_eq_true, List.all_eq_false]
        exact ⟨ts[j], List.getElem_mem hlt, by simp [← HZ2.out]⟩
    · go_wp2_with fail
      go_end0
      refine ⟨?_, H.ext⟩
      have h1 := HA.out
      rw [List.take_of_length_le (by omega)] at h1
      rw [h1]; rfl
end Go.Proofs.YtmedomglemllnaaDoor
/- Rows: first elements, last elements; a slice taken. No statement of the seat is proved here. -/
namespace Go.Proofs.YtmedomglemllnaaDoor
set_option linter.unusedSimpArgs false
set_option linter.unusedVariables false
open Go.RowKit

theorem RCs.consS {w : World} {S : Nat → Prop} {d : D} {ds : List D} {c1 c2 : List Value} (h : RC w S d c1) (k : RCs w S ds c2) : RCs w S (d :: ds) (c1 ++ c2) := by
  unfold RCs
  exact ⟨c1, c2, rfl, h, k⟩
theorem RCs.preS {w : World} {S : Nat → Prop} {ds : List D} {es : List Value} (h : RCs w S ds es) (i : Nat) : RCs w S (ds.take i) (es.take (D.sizes (ds.take i))) := by
  induction ds generalizing i es with
  | nil => simp [D.sizes]; unfold RCs; rfl
  | cons d ds ih =>
    cases i with
    | zero => simp [D.sizes]; unfold RCs; rfl
    | succ i =>
      unfold RCs at h
      obtain ⟨c1, c2, rfl, g1, g2⟩ := h
      have hc := RC.len _ _ g1
      simp only [List.take_succ_cons, D.sizes]
      rw [← hc, List.take_length_add_append]
      exact RCs.consS g1 (ih g2 i)
theorem RC.preS {w : World} {S : Nat → Prop} {e z n c i : Nat} {ds : List D} {A : Option Addr} (h : RC w S (.l e z ds) [.slice A n c]) (hi : i ≤ n) : RC w S (.l e z (ds.take i)) [.slice A i c] := by
  have hn := h.slice
  unfold RC at h ⊢
  obtain ⟨A', c', h1, h2, h3, h4, h5, h6⟩ := h
  simp only [List.cons.injEq, Value.slice.injEq, and_true] at h1
  obtain ⟨rfl, rfl, rfl⟩ := h1
  have hl : (ds.take i).length = i := by simp; omega
  refine ⟨A, c, by rw [hl], by omega, h3, by rw [hl]; omega, fun d hd => h5 d (List.mem_of_mem_take hd), ?_⟩
  rcases h6 with rfl | ⟨b, o, es, h7, hb, h8, h9, h10⟩
  · exact .inl (by simp)
  · by_cases h0 : ds.take i = []
    · exact .inl h0
    refine .inr ⟨b, o, es.take (D.sizes (ds.take i)), h7, hb, h8, ?_, fun j u hu => h10 j u ?_⟩
    · exact h9.preS i
    · rw [List.getElem?_take] at hu
      split at hu
      · exact hu
      · cases hu
/-- A row's last elements. -/
def sufAd (A : Option Addr) (c i z : Nat) : Option Addr := if c = i then A else A.map (·.add (i * z))
theorem RCs.sufS {w : World} {S : Nat → Prop} {z : Nat} {ds : List D} {es : List Value} (h : RCs w S ds es) (hz : ∀ d ∈ ds, d.size = z) (i : Nat) : RCs w S (ds.drop i) (es.drop (i * z)) := by
  induction ds generalizing i es with
  | nil =>
    unfold RCs at h
    subst h
    simp
    unfold RCs; rfl
  | cons d ds ih =>
    cases i with
    | zero => simpa using h
    | succ i =>
      unfold RCs at h
      obtain ⟨c1, c2, rfl, g1, g2⟩ := h
      have hc : c1.length = z := (RC.len _ _ g1).trans (hz d (by simp))
      have := ih g2 (fun d hd => hz d (by simp [hd])) i
      rw [List.drop_succ_cons, show (i + 1) * z = c1.length + i * z by rw [hc, Nat.succ_mul]; omega, List.drop_length_add_append]
      exact this
theorem RC.sufS {w : World} {S : Nat → Prop} {e z n c i : Nat} {ds : List D} {A : Option Addr} (h : RC w S (.l e z ds) [.slice A n c]) (hi : i ≤ n) : RC w S (.l e z (ds.drop i)) [.slice (sufAd A c i z) (n - i) (c - i)] := by
  unfold RC at h ⊢
  obtain ⟨A', c', h1, h2, h3, h4, h5, h6⟩ := h
  simp only [List.cons.injEq, Value.slice.injEq, and_true] at h1
  obtain ⟨rfl, rfl, rfl⟩ := h1
  have hl : (ds.drop i).length = ds.length - i := by simp
  refine ⟨sufAd A c i z, c - i, by rw [hl], by omega, by omega, by omega, fun d hd => h5 d (List.mem_of_mem_drop hd), ?_⟩
  rcases h6 with rfl | ⟨b, o, es, rfl, hb, h8, h9, h10⟩
  · exact .inl (by simp)
  · by_cases h0 : ds.drop i = []
    · exact .inl h0
    have hc : ¬ c = i := fun e => h0 (List.drop_eq_nil_of_le (by omega))
    refine .inr ⟨b, o + i * z, es.drop (i * z), ?_, hb, h8, h9.sufS h5 i, fun j u hu => ?_⟩
    · rw [sufAd, if_neg hc]; simp [Addr.add_lit]
    · rw [List.getElem?_drop] at hu
      rw [Nat.add_assoc]
      exact h10 _ u hu
theorem sizeTmS (w : World) : (Go.sizeOf (Tryd.prog.elem 24)).run Tryd.prog w = .ok 5 w := by kernel_rfl
theorem elemTmS : Tryd.prog.underlying 24 = some (.slice (Tryd.prog.elem 24)) := by kernel_rfl
theorem sizeDcS (w : World) : (Go.sizeOf (Tryd.prog.elem 44)).run Tryd.prog w = .ok 16 w := by kernel_rfl
theorem elemDcS : Tryd.prog.underlying 44 = some (.slice (Tryd.prog.elem 44)) := by kernel_rfl
theorem runSufTm (A : Option Addr) {n c i : Nat} (hi : i ≤ n) (hn : n ≤ c) (w : World) : (Instr.sliceAt 24 (.slice A n c) (some (.int .i64 (i : Int))) none none).run Tryd.prog w = .ok (.slice (sufAd A c i 5) (n - i) (c - i)) w := by
  rw [run_sliceAt_slice w 24 _ _ _ _ elemTmS, run_slice_l w 24 _ _ _ elemTmS .i64 _ (by omega) (by omega), sizeTmS]
  simp [Result.andThen, sliced, sufAd]
theorem runPreTm (A : Option Addr) {n c i : Nat} (hi : i ≤ n) (hn : n ≤ c) (w : World) : (Instr.sliceAt 24 (.slice A n c) none (some (.int .i64 (i : Int))) none).run Tryd.prog w = .ok (.slice A i c) w := by
  rw [run_sliceAt_slice w 24 _ _ _ _ elemTmS, run_slice_h w 24 _ _ _ elemTmS .i64 _ (by omega) (by omega), sizeTmS]
  have e : (Option.map (fun x => Addr.add x (0 * 5)) A) = A := by cases A with
    | none => rfl
    | some a => cases a; simp [Addr.add]
  simp [Result.andThen, sliced, e]
theorem runPreDc (A : Option Addr) {n c i : Nat} (hi : i ≤ n) (hn : n ≤ c) (w : World) : (Instr.sliceAt 44 (.slice A n c) none (some (.int .i64 (i : Int))) none).run Tryd.prog w = .ok (.slice A i c) w := by
  rw [run_sliceAt_slice w 44 _ _ _ _ elemDcS, run_slice_h w 44 _ _ _ elemDcS .i64 _ (by omega) (by omega), sizeDcS]
  have e : (Option.map (fun x => Addr.add x (0 * 16)) A) = A := by cases A with
    | none => rfl
    | some a => cases a; simp [Addr.add]
  simp [Result.andThen, sliced, e]
end Go.Proofs.YtmedomglemllnaaDoor
