/- The kit's declarations that are lent: contracts. No statement of the seat is proved here. -/
import Derived.Test.YteelplgdojjakaaGreatDoorKept4D
import Derived.Test.YteelplgdojjakaaGreatDoorKept7
import Derived.Test.YteelplgdojjakaaGreatDoorMgKept3
import Derived.Test.YteelplgdojjakaaGreatDoorHp
namespace Go.Proofs.YteelplgdojjakaaGreatDoor
set_option linter.unusedSimpArgs false
set_option linter.unusedVariables false
open Go.RowKit

theorem keptDecls {w : World} {S S' : Nat → Prop} {xs : List Dc} {A B : Option Addr} {n c cb : Nat} (hk : KC mkD w S (.l 42 16 (xs.map Dc.d)) [.slice A n c]) (h : RC w S' (.l 42 16 (xs.map Dc.d)) [.slice B n cb]) (hn : n = xs.length) :
    Calls Tryz.prog 24 #[.slice A n c, .slice B n cb] w (PV w (.bool true)) := keptDecls_ (fun x _ => keptDecl x) (fun q => sameDcK _) hk h hn
theorem KC.dc {mk : Nat → List D} {w : World} {S : Nat → Prop} {x : Dc} {c1 c2 : List Value} {v3 v4 v5 v6 : Value} (i1 : inI x.kind) (i2 : inI x.levels) (h1 : KC mk w S x.ty.d c1) (h2 : KC mk w S x.body.d c2) (h3 : KC mk w S (.l 35 5 (x.params.map Tm.d)) [v3]) (h4 : KC mk w S (lvD x.sort) [v4]) (h5 : KC mk w S (.l 151 1 (x.members.map Mb.d)) [v5]) (h6 : KC mk w S (.l 153 6 (x.ctors.map Ct.d)) [v6]) :
    KC mk w S x.d (.int .i64 x.kind :: .int .i64 x.levels :: (c1 ++ (c2 ++ [v3, v4, v5, v6]))) := by
  unfold Dc.d KC
  exact KCs.cons (c1 := [_]) (KC.num i1) (KCs.cons (c1 := [_]) (KC.num i2) (KCs.cons h1 (KCs.cons h2 (KCs.cons (c1 := [_]) h3 (KCs.cons (c1 := [_]) h4 (KCs.cons (c1 := [_]) h5 (KCs.cons (c1 := [_]) h6 KCs.nil)))))))
set_option maxRecDepth 100000 in
set_option maxHeartbeats 8000000 in
theorem lentDecl (x : Dc) (w : World) (S : Nat → Prop) (cs : List Value) (h : RC w S x.d cs) : Calls Tryz.prog 40 #[.agg cs.toArray] w (PKd w x.d) := by
  obtain ⟨Aty, cty, Kty, kty, Abody, cbody, Kbody, kbody, Aparams, cparams, Asort, csort, Amembers, cmembers, Actors, cctors, rfl, i1, i2, h1, h2, h3, h4, h5, h6⟩ := RC.dc.1 h
  have H1 := Lib.hid h1
  have H2_ := Lib.hid h2
  have H3 := Lib.hid h3
  have H4 := Lib.hid h4
  have H5 := Lib.hid h5
  have H6 := Lib.hid h6
  have I := Lib.hid (And.intro i1 i2)
  clear h h1 h2 h3 h4 h5 h6 i1 i2
  go_enter Tryz.func40, Tryz.ntmps40
  go_wp2_with fail
  have H := Hp.start no w
  refine callsH (by (repeat (first | with_reducible exact H | with_reducible exact H0_ | with_reducible apply Hp.alloc | with_reducible apply Hp.allocMap | with_reducible apply Hp.drew | with_reducible apply Hp.drewN | with_reducible apply Hp.set)); (try any_goals (repeat (first | with_reducible exact Upd.head | with_reducible apply Upd.tail)))) ?_
  clear H; intro w1 H; (try simp only [size_drew_, size_drewN_, World.size_alloc, World.size_setCell, List.set_cons_zero, List.set_cons_succ] at H)
  refine (lentTerm x.ty _ _ _ (H1.out.ext0 H.ext)).mono ?_
  rintro e w2 ⟨cs2, rfl, hk, hx⟩
  obtain ⟨T1, t1, T2, t2, rfl⟩ := hk.tmE
  obtain ⟨G1, H2⟩ := H.resK hx hk
  clear H hx hk
  have H := H2
  clear H2
  have hr_ := H.rules; simp only [Rules, and_true] at hr_; have hd_ := H.dif; simp only [Dif, Neq, and_true] at hd_; obtain ⟨ho_, hz_⟩ := H.old0
  go_wp2_with fail
  (try clear hr_ hd_ ho_ hz_)
  refine callsH (by (repeat (first | with_reducible exact H | with_reducible exact H0_ | with_reducible apply Hp.alloc | with_reducible apply Hp.allocMap | with_reducible apply Hp.drew | with_reducible apply Hp.drewN | with_reducible apply Hp.set)); (try any_goals (repeat (first | with_reducible exact Upd.head | with_reducible apply Upd.tail)))) ?_
  clear H; intro w3 H; (try simp only [size_drew_, size_drewN_, World.size_alloc, World.size_setCell, List.set_cons_zero, List.set_cons_succ] at H)
  refine (lentTerm x.body _ _ _ (H2_.out.ext0 H.ext)).mono ?_
  rintro e w2 ⟨cs2, rfl, hk, hx⟩
  obtain ⟨B1, b1, B2, b2, rfl⟩ := hk.tmE
  obtain ⟨G2, H2⟩ := H.resK hx hk
  clear H hx hk
  have H := H2
  clear H2
  have hr_ := H.rules; simp only [Rules, and_true] at hr_; have hd_ := H.dif; simp only [Dif, Neq, and_true] at hd_; obtain ⟨ho_, hz_⟩ := H.old0
  go_wp2_with fail
  (try clear hr_ hd_ ho_ hz_)
  refine callsH (by (repeat (first | with_reducible exact H | with_reducible exact H0_ | with_reducible apply Hp.alloc | with_reducible apply Hp.allocMap | with_reducible apply Hp.drew | with_reducible apply Hp.drewN | with_reducible apply Hp.set)); (try any_goals (repeat (first | with_reducible exact Upd.head | with_reducible apply Upd.tail)))) ?_
  clear H; intro w3 H; (try simp only [size_drew_, size_drewN_, World.size_alloc, World.size_setCell, List.set_cons_zero, List.set_cons_succ] at H)
  refine (lentTerms_ (fun t _ => lentTerm t) (H3.out.ext0 H.ext) rfl).mono ?_
  rintro e w2 ⟨A3, c3, rfl, hk, hx⟩
  simp only [List.length_map] at hk ⊢
  obtain ⟨G3, H2⟩ := H.resK hx hk
  clear H hx hk
  have H := H2
  clear H2
  have hr_ := H.rules; simp only [Rules, and_true] at hr_; have hd_ := H.dif; simp only [Dif, Neq, and_true] at hd_; obtain ⟨ho_, hz_⟩ := H.old0
  go_wp2_with fail
  (try clear hr_ hd_ ho_ hz_)
  refine callsH (by (repeat (first | with_reducible exact H | with_reducible exact H0_ | with_reducible apply Hp.alloc | with_reducible apply Hp.allocMap | with_reducible apply Hp.drew | with_reducible apply Hp.drewN | with_reducible apply Hp.set)); (try any_goals (repeat (first | with_reducible exact Upd.head | with_reducible apply Upd.tail)))) ?_
  clear H; intro w3 H; (try simp only [size_drew_, size_drewN_, World.size_alloc, World.size_setCell, List.set_cons_zero, List.set_cons_succ] at H)
  refine (lentLevel x.sort _ _ _ (RC.lv.2 ⟨_, _, rfl, H4.out.ext0 H.ext⟩)).mono ?_
  rintro e w2 ⟨cs2, rfl, hk, hx⟩
  obtain ⟨A4, c4, rfl, _⟩ := hk.unlv
  obtain ⟨G4, H2⟩ := H.resK hx hk
  clear H hx hk
  have H := H2
  clear H2
  have hr_ := H.rules; simp only [Rules, and_true] at hr_; have hd_ := H.dif; simp only [Dif, Neq, and_true] at hd_; obtain ⟨ho_, hz_⟩ := H.old0
  go_wp2_with fail
  (try clear hr_ hd_ ho_ hz_)
  refine callsH (by (repeat (first | with_reducible exact H | with_reducible exact H0_ | with_reducible apply Hp.alloc | with_reducible apply Hp.allocMap | with_reducible apply Hp.drew | with_reducible apply Hp.drewN | with_reducible apply Hp.set)); (try any_goals (repeat (first | with_reducible exact Upd.head | with_reducible apply Upd.tail)))) ?_
  clear H; intro w3 H; (try simp only [size_drew_, size_drewN_, World.size_alloc, World.size_setCell, List.set_cons_zero, List.set_cons_succ] at H)
  refine (lentMembers_ (fun m _ => lentMember m) (H5.out.ext0 H.ext) rfl).mono ?_
  rintro e w2 ⟨A5, c5, rfl, hk, hx⟩
  simp only [List.length_map] at hk ⊢
  obtain ⟨G5, H2⟩ := H.resK hx hk
  clear H hx hk
  have H := H2
  clear H2
  have hr_ := H.rules; simp only [Rules, and_true] at hr_; have hd_ := H.dif; simp only [Dif, Neq, and_true] at hd_; obtain ⟨ho_, hz_⟩ := H.old0
  go_wp2_with fail
  (try clear hr_ hd_ ho_ hz_)
  refine callsH (by (repeat (first | with_reducible exact H | with_reducible exact H0_ | with_reducible apply Hp.alloc | with_reducible apply Hp.allocMap | with_reducible apply Hp.drew | with_reducible apply Hp.drewN | with_reducible apply Hp.set)); (try any_goals (repeat (first | with_reducible exact Upd.head | with_reducible apply Upd.tail)))) ?_
  clear H; intro w3 H; (try simp only [size_drew_, size_drewN_, World.size_alloc, World.size_setCell, List.set_cons_zero, List.set_cons_succ] at H)
  refine (lentCtors_ (fun m _ => lentCtor m) (H6.out.ext0 H.ext) rfl).mono ?_
  rintro e w2 ⟨A6, c6, rfl, hk, hx⟩
  simp only [List.length_map] at hk ⊢
  obtain ⟨G6, H2⟩ := H.resK hx hk
  clear H hx hk
  have H := H2
  clear H2
  have hr_ := H.rules; simp only [Rules, and_true] at hr_; have hd_ := H.dif; simp only [Dif, Neq, and_true] at hd_; obtain ⟨ho_, hz_⟩ := H.old0
  go_wp2_with ((with_reducible refine atStore (t := 42) ?_); go_must (refine wpList_storeH (t := 42) rfl rfl (by go_simp <;> first | rfl | exact ⟨rfl, rfl⟩) (by go_simp <;> first | rfl | exact ⟨rfl, rfl⟩) (by exact Hp.norm (by (repeat (first | with_reducible exact H | with_reducible exact H0_ | with_reducible apply Hp.alloc | with_reducible apply Hp.allocMap | with_reducible apply Hp.drew | with_reducible apply Hp.drewN | with_reducible apply Hp.set)); (try any_goals (repeat (first | with_reducible exact Upd.head | with_reducible apply Upd.tail)))) (by ((try simp only [size_drew_, size_drewN_, World.size_alloc, World.size_setCell, List.set_cons_zero, List.set_cons_succ, List.nil_append, List.cons_append]) <;> rfl))) (by (repeat (first | with_reducible exact Upd.head | with_reducible apply Upd.tail))) (by exact aggDecl) (by rfl) (by simp [Value.oneCell']) ?_; clear H; intro w7 H; (try simp only [size_drew_, size_drewN_, World.size_alloc, World.size_setCell, List.set_cons_zero, List.set_cons_succ] at H); (try clear hr_ hd_ ho_ hz_); have hr_ := H.rules; simp only [Rules, and_true] at hr_; have hd_ := H.dif; simp only [Dif, Neq, and_true] at hd_; obtain ⟨ho_, hz_⟩ := H.old0))
  (try clear hr_ hd_ ho_ hz_)
  have k1 := H.gh (p := fun w' => KC mkD w' (fun k => w.heap.size ≤ k) x.ty.d [.int .i64 x.ty.k, .int .i64 x.ty.n, .int .i64 x.ty.a, .slice T1 x.ty.ls.length t1, .slice T2 x.ty.ks.length t2]) (by (repeat (first | with_reducible exact Pick.head | with_reducible apply Pick.tail)))
  have k2 := H.gh (p := fun w' => KC mkD w' (fun k => w.heap.size ≤ k) x.body.d [.int .i64 x.body.k, .int .i64 x.body.n, .int .i64 x.body.a, .slice B1 x.body.ls.length b1, .slice B2 x.body.ks.length b2]) (by (repeat (first | with_reducible exact Pick.head | with_reducible apply Pick.tail)))
  have k3 := H.gh (p := fun w' => KC mkD w' (fun k => w.heap.size ≤ k) (.l 35 5 (x.params.map Tm.d)) [.slice A3 x.params.length c3]) (by (repeat (first | with_reducible exact Pick.head | with_reducible apply Pick.tail)))
  have k4 := H.gh (p := fun w' => KC mkD w' (fun k => w.heap.size ≤ k) (lvD x.sort) [.slice A4 x.sort.length c4]) (by (repeat (first | with_reducible exact Pick.head | with_reducible apply Pick.tail)))
  have k5 := H.gh (p := fun w' => KC mkD w' (fun k => w.heap.size ≤ k) (.l 151 1 (x.members.map Mb.d)) [.slice A5 x.members.length c5]) (by (repeat (first | with_reducible exact Pick.head | with_reducible apply Pick.tail)))
  have k6 := H.gh (p := fun w' => KC mkD w' (fun k => w.heap.size ≤ k) (.l 153 6 (x.ctors.map Ct.d)) [.slice A6 x.ctors.length c6]) (by (repeat (first | with_reducible exact Pick.head | with_reducible apply Pick.tail)))
  refine bodyPost_ret (v := .agg #[.int .i64 x.kind, .int .i64 x.levels, .int .i64 x.ty.k, .int .i64 x.ty.n, .int .i64 x.ty.a, .slice T1 x.ty.ls.length t1, .slice T2 x.ty.ks.length t2, .int .i64 x.body.k, .int .i64 x.body.n, .int .i64 x.body.a, .slice B1 x.body.ls.length b1, .slice B2 x.body.ks.length b2, .slice A3 x.params.length c3, .slice A4 x.sort.length c4, .slice A5 x.members.length c5, .slice A6 x.ctors.length c6])
    (Res.one Tryz.results40 (H.resBox (g := w.heap.size + 1) (by (repeat (first | with_reducible exact Pick.head | with_reducible apply Pick.tail))) aggDecl rfl rfl)) rfl ⟨_, rfl, KC.dc I.out.1 I.out.2 k1 k2 k3 k4 k5 k6, H.ext⟩
theorem lentDecls {w : World} {S : Nat → Prop} {xs : List Dc} {A : Option Addr} {n c : Nat} (h : RC w S (.l 42 16 (xs.map Dc.d)) [.slice A n c]) (hn : n = xs.length) :
    Calls Tryz.prog 12 #[.slice A n c] w (PKr w 42 16 (xs.map Dc.d)) := lentDecls_ (fun d _ => lentDecl d) h hn
end Go.Proofs.YteelplgdojjakaaGreatDoor
/- The kit's copies: contracts. No statement of the seat is proved here. -/
namespace Go.Proofs.YteelplgdojjakaaGreatDoor
set_option linter.unusedSimpArgs false
set_option linter.unusedVariables false
open Go.RowKit

/-- A row that can be read is handed back. -/
def PRr (w : World) (e z : Nat) (ds : List D) (en : Ending) (w' : World) : Prop := ∃ A c, en = .returned (.slice A ds.length c) ∧ RC w' (fun k => w.heap.size ≤ k) (.l e z ds) [.slice A ds.length c] ∧ Ext no w w'
section
variable {X : Nat → Prop} {w0 w w1 : World} {l l' : List Ch}
theorem Hp.rawNil (H : Hp X w0 w l) (e z : Nat) : Hp X w0 w (.raw e z 0 (.slice none 0 0) [] :: l) := by
  obtain ⟨L, h, hn⟩ := H.own
  exact ⟨H.ext, L, by unfold Chs; exact ⟨[], L, rfl, ⟨by simp [Value.ownBlock], World.ownsRow_nil _ _ _ _⟩, h⟩, hn⟩
theorem Hp.rawRc {e z n c : Nat} {A : Option Addr} {ds : List D} {es : List Value} {S : Nat → Prop} (H : Hp X w0 w l) (p : Pick l (.raw e z n (.slice A n c) es) l') (hn : n = ds.length) (hz : ∀ d ∈ ds, d.size = z) (hM : n ≤ M) (hr : RCs w S ds es) (hS : ∀ b, w0.heap.size ≤ b → S b) : RC w S (.l e z ds) [.slice A n c] := by
  subst hn
  obtain ⟨L, hL, _⟩ := (H.pick p).own
  simp only [Chs] at hL
  obtain ⟨L1, L2, rfl, ⟨rfl, hl, hcase⟩, _⟩ := hL
  unfold RC
  rcases hcase with ⟨hv, h0⟩ | ⟨g, cap, cur, hv, k1, k2, k3, k4, k5, k6⟩
  · simp only [Value.slice.injEq] at hv
    obtain ⟨rfl, _, rfl⟩ := hv
    exact ⟨none, 0, rfl, by omega, by unfold maxLen; omega, hM, hz, .inl (List.eq_nil_of_length_eq_zero h0)⟩
  · simp only [Value.slice.injEq, true_and] at hv
    obtain ⟨rfl, rfl⟩ := hv
    refine ⟨_, c, rfl, k3, k4, hM, hz, .inr ⟨g, 0, es, rfl, ?_, hS g k1, hr, fun j u hu => ?_⟩⟩
    · rcases Nat.lt_or_ge g w.heap.size with hlt | hge
      · exact hlt
      · rw [Array.getElem?_eq_none hge] at k2; cases k2
    · rw [Nat.zero_add, cell_of_row w g j cur e (0, 0) k2]
      rw [← k6] at hu
      rw [List.getElem?_take] at hu
      split at hu
      · simpa using hu
      · cases hu
end
set_option maxRecDepth 100000 in
set_option maxHeartbeats 4000000 in
theorem copyLevels_ {w : World} {S : Nat → Prop} {xs : List Lv} {A : Option Addr} {n c : Nat} (hel : ∀ x ∈ xs, ∀ (w : World) (S : Nat → Prop) (cs : List Value), RC w S (lvD x) cs → Calls Tryz.prog 124 #[.agg cs.toArray] w (PRd w (lvD x))) (h : RC w S (.l 38 1 (xs.map lvD)) [.slice A n c]) (hn : n = xs.length) :
    Calls Tryz.prog 197 #[.slice A n c] w (PRr w 38 1 (xs.map lvD)) := by
  subst hn
  have hM := h.lenM.1
  have HF := Lib.hid hel
  clear hel
  have hsz : Hid (∀ x : Lv, (lvD x).size = 1) := Lib.hid (fun x => by first | exact Tm.size_d x | exact lvD_size x | exact Mb.size_d x | exact Ct.size_d x | exact Dc.size_d x)
  go_enter Tryz.func197, Tryz.ntmps197
  go_wp2_with fail
  have H := Hp.start no w
  replace H := (H.rawNil 38 1).gh0 (p := fun w' => RCs w' (fun k => w.heap.size ≤ k) ((xs.take 0).map lvD) []) (fun _ => by simp only [List.take_zero, List.map_nil]; unfold RCs; rfl)
  go_loopw [3, 4] (fun out i wr => ∃ (j : Nat) (v : Value) (es : List Value) (K : List Nat), j ≤ xs.length ∧ i = .int .i64 j ∧ out = v ∧ Hp no w wr [.gh K (fun w' => RCs w' (fun k => w.heap.size ≤ k) ((xs.take j).map lvD) es), .raw 38 1 j v es]) (fun _ i _ => xs.length - (intOf i).toNat)
  case atStart => exact ⟨0, _, [], _, Nat.zero_le _, rfl, rfl, (H.arr (by (repeat (first | with_reducible exact Arr.nil | refine Arr.cons (by (repeat (first | with_reducible exact Pick.head | with_reducible apply Pick.tail))) ?_)) <;> exact Arr.of_subl (by (repeat (first | with_reducible exact Subl.refl _ | with_reducible apply Subl.drop)))))⟩
  case round =>
    clear H
    obtain ⟨j, v, es, K, hj, rfl, rfl, H⟩ := hrel
    by_cases hlt : j < xs.length
    · obtain ⟨b, o, cs, rfl, hb, hS, hd, hl, hcell⟩ := h.el (i := j) (d := lvD xs[j]) (by simp [hlt])
      have HI := Lib.hid hcell
      have HL := Lib.hid hl
      have HD := Lib.hid hd
      clear hcell hl hd
      have hr_ := H.rules; simp only [Rules, and_true] at hr_; have hd_ := H.dif; simp only [Dif, Neq, and_true] at hd_; obtain ⟨ho_, hz_⟩ := H.old0
      go_wp2_with ((with_reducible refine atLoad (t := 38) ?_); (refine wpList_run (v := .agg (cs).toArray) rfl (run_loadL aggLevel rfl ?_ HL.out (H.lies hb no_not HI.out)) ?_); (focus (go_simp; done)))
      (try clear hr_ hd_ ho_ hz_)
      refine callsH (by (repeat (first | with_reducible exact H | with_reducible exact H0_ | with_reducible apply Hp.alloc | with_reducible apply Hp.allocMap | with_reducible apply Hp.drew | with_reducible apply Hp.drewN | with_reducible apply Hp.set)); (try any_goals (repeat (first | with_reducible exact Upd.head | with_reducible apply Upd.tail)))) ?_
      clear H; intro w2 H; (try simp only [size_drew_, size_drewN_, World.size_alloc, World.size_setCell, List.set_cons_zero, List.set_cons_succ] at H)
      refine (HF.out _ (List.getElem_mem hlt) w2 _ cs (HD.out.ext0 H.ext)).mono ?_
      rintro e w3 ⟨cs2, rfl, hk, hx⟩
      have HL2 := Lib.hid ((RC.len _ _ hk).trans (hsz.out xs[j]))
      have ONE := Lib.hid (RC.one _ _ hk)
      have hl2_ := HL2.out
      have hf2_ := fold_cells hl2_
      obtain ⟨K2, H2⟩ := H.resR hx hk
      clear H hx hk
      have H := H2
      clear H2
      have hr_ := H.rules; simp only [Rules, and_true] at hr_; have hd_ := H.dif; simp only [Dif, Neq, and_true] at hd_; obtain ⟨ho_, hz_⟩ := H.old0
      go_wp2_with (first | ((with_reducible refine atLoad (t := 38) ?_); (refine wpList_run (v := .agg (cs2).toArray) rfl (run_loadL aggLevel rfl ?_ HL2.out (Hp.boxlies H (by (repeat (first | with_reducible exact Pick.head | with_reducible apply Pick.tail))))) ?_); (focus (go_simp; done))) | ((with_reducible refine atStore (t := 38) ?_); go_must (refine wpList_storeH (t := 38) (cs' := cs2) rfl rfl (by go_simp <;> first | rfl | exact ⟨rfl, rfl⟩) (by go_simp <;> first | rfl | exact ⟨rfl, rfl⟩) (by exact Hp.norm (by (repeat (first | with_reducible exact H | with_reducible exact H0_ | with_reducible apply Hp.alloc | with_reducible apply Hp.allocMap | with_reducible apply Hp.drew | with_reducible apply Hp.drewN | with_reducible apply Hp.set)); (try any_goals (repeat (first | with_reducible exact Upd.head | with_reducible apply Upd.tail)))) (by ((try simp only [size_drew_, size_drewN_, World.size_alloc, World.size_setCell, List.set_cons_zero, List.set_cons_succ, List.nil_append, List.cons_append]) <;> rfl))) (by (repeat (first | with_reducible exact Upd.head | with_reducible apply Upd.tail))) (by rw [HL2.out]; exact aggLevel) (by rw [HL2.out]; rfl) ONE.out ?_; clear H; intro w4 H; (try simp only [size_drew_, size_drewN_, World.size_alloc, World.size_setCell, List.set_cons_zero, List.set_cons_succ] at H); have hr2_ := H.rules; simp only [Rules, and_true] at hr2_; have hs2_ := H.ext.size)) | (at_builtin; go_must (refine wpList_pushK rfl (.tmp 17) (.tmp 19) 33 rfl stLevels (by go_simp <;> first | rfl | exact ⟨rfl, rfl⟩) (by go_simp <;> first | rfl | exact ⟨rfl, rfl⟩) (by exact Hp.norm (by (repeat (first | with_reducible exact H | with_reducible exact H0_ | with_reducible apply Hp.alloc | with_reducible apply Hp.allocMap | with_reducible apply Hp.drew | with_reducible apply Hp.drewN | with_reducible apply Hp.set)); (try any_goals (repeat (first | with_reducible exact Upd.head | with_reducible apply Upd.tail)))) (by ((try simp only [size_drew_, size_drewN_, World.size_alloc, World.size_setCell, List.set_cons_zero, List.set_cons_succ, List.nil_append, List.cons_append]) <;> rfl))) (by (repeat (first | with_reducible exact Pick.head | with_reducible apply Pick.tail))) (by (repeat (first | with_reducible exact Pick.head | with_reducible apply Pick.tail))) HL2.out ONE.out ?_ ?_; (focus omega); clear H; intro v5 w5 H)))
      go_roundw
      case rel =>
        have H6 : Hp no w _ [.gh K (fun w' => RCs w' (fun k => w.heap.size ≤ k) ((xs.take j).map lvD) es), .gh K2 (fun w' => RC w' (fun k => w.heap.size ≤ k) (lvD xs[j]) cs2), .raw 38 1 (j + 1) v5 (es ++ cs2)] := (H.arr (by (repeat (first | with_reducible exact Arr.nil | refine Arr.cons (by (repeat (first | with_reducible exact Pick.head | with_reducible apply Pick.tail))) ?_)) <;> exact Arr.of_subl (by (repeat (first | with_reducible exact Subl.refl _ | with_reducible apply Subl.drop)))))
        exact ⟨j + 1, v5, es ++ cs2, _, by omega, by first | go_num | rfl | simp, rfl, H6.gh2 (r := fun w' => RCs w' (fun k => w.heap.size ≤ k) ((xs.take (j + 1)).map lvD) (es ++ cs2)) (fun w' h1 h2 => by rw [take_map _ hlt]; exact h1.append (RCs.single h2))⟩
      case measure => simp [intOf]; omega
    · rw [take_all hlt] at H
      obtain rfl : j = xs.length := by omega
      obtain ⟨A5, c5, rfl, _, _, _⟩ := H.rawLen' (by (repeat (first | with_reducible exact Pick.head | with_reducible apply Pick.tail)))
      go_wp2_with fail
      go_ret
      have hkk := H.rawRc (ds := xs.map lvD) (S := fun k => w.heap.size ≤ k) (A := A5) (c := c5) (by (repeat (first | with_reducible exact Pick.head | with_reducible apply Pick.tail))) (by rw [List.length_map]) (fun d hd => by obtain ⟨x, _, rfl⟩ := List.mem_map.1 hd; exact hsz.out x) (by unfold M; exact hM) (H.gh .head) (fun b h => h)
      exact ⟨A5, c5, by rw [List.length_map]; rfl, by rw [List.length_map]; exact hkk, H.ext⟩
set_option maxRecDepth 100000 in
set_option maxHeartbeats 4000000 in
theorem copyTerms_ {w : World} {S : Nat → Prop} {xs : List Tm} {A : Option Addr} {n c : Nat} (hel : ∀ x ∈ xs, ∀ (w : World) (S : Nat → Prop) (cs : List Value), RC w S (Tm.d x) cs → Calls Tryz.prog 122 #[.agg cs.toArray] w (PRd w (Tm.d x))) (h : RC w S (.l 35 5 (xs.map Tm.d)) [.slice A n c]) (hn : n = xs.length) :
    Calls Tryz.prog 123 #[.slice A n c] w (PRr w 35 5 (xs.map Tm.d)) := by
  subst hn
  have hM := h.lenM.1
  have HF := Lib.hid hel
  clear hel
  have hsz : Hid (∀ x : Tm, (Tm.d x).size = 5) := Lib.hid (fun x => by first | exact Tm.size_d x | exact lvD_size x | exact Mb.size_d x | exact Ct.size_d x | exact Dc.size_d x)
  go_enter Tryz.func123, Tryz.ntmps123
  go_wp2_with fail
  have H := Hp.start no w
  replace H := (H.rawNil 35 5).gh0 (p := fun w' => RCs w' (fun k => w.heap.size ≤ k) ((xs.take 0).map Tm.d) []) (fun _ => by simp only [List.take_zero, List.map_nil]; unfold RCs; rfl)
  go_loopw [3, 4] (fun out i wr => ∃ (j : Nat) (v : Value) (es : List Value) (K : List Nat), j ≤ xs.length ∧ i = .int .i64 j ∧ out = v ∧ Hp no w wr [.gh K (fun w' => RCs w' (fun k => w.heap.size ≤ k) ((xs.take j).map Tm.d) es), .raw 35 5 j v es]) (fun _ i _ => xs.length - (intOf i).toNat)
  case atStart => exact ⟨0, _, [], _, Nat.zero_le _, rfl, rfl, (H.arr (by (repeat (first | with_reducible exact Arr.nil | refine Arr.cons (by (repeat (first | with_reducible exact Pick.head | with_reducible apply Pick.tail))) ?_)) <;> exact Arr.of_subl (by (repeat (first | with_reducible exact Subl.refl _ | with_reducible apply Subl.drop)))))⟩
  case round =>
    clear H
    obtain ⟨j, v, es, K, hj, rfl, rfl, H⟩ := hrel
    by_cases hlt : j < xs.length
    · obtain ⟨b, o, cs, rfl, hb, hS, hd, hl, hcell⟩ := h.el (i := j) (d := Tm.d xs[j]) (by simp [hlt])
      have HI := Lib.hid hcell
      have HL := Lib.hid hl
      have HD := Lib.hid hd
      clear hcell hl hd
      have hr_ := H.rules; simp only [Rules, and_true] at hr_; have hd_ := H.dif; simp only [Dif, Neq, and_true] at hd_; obtain ⟨ho_, hz_⟩ := H.old0
      go_wp2_with ((with_reducible refine atLoad (t := 35) ?_); (refine wpList_run (v := .agg (cs).toArray) rfl (run_loadL aggTerm rfl ?_ HL.out (H.lies hb no_not HI.out)) ?_); (focus (go_simp; done)))
      (try clear hr_ hd_ ho_ hz_)
      refine callsH (by (repeat (first | with_reducible exact H | with_reducible exact H0_ | with_reducible apply Hp.alloc | with_reducible apply Hp.allocMap | with_reducible apply Hp.drew | with_reducible apply Hp.drewN | with_reducible apply Hp.set)); (try any_goals (repeat (first | with_reducible exact Upd.head | with_reducible apply Upd.tail)))) ?_
      clear H; intro w2 H; (try simp only [size_drew_, size_drewN_, World.size_alloc, World.size_setCell, List.set_cons_zero, List.set_cons_succ] at H)
      refine (HF.out _ (List.getElem_mem hlt) w2 _ cs (HD.out.ext0 H.ext)).mono ?_
      rintro e w3 ⟨cs2, rfl, hk, hx⟩
      have HL2 := Lib.hid ((RC.len _ _ hk).trans (hsz.out xs[j]))
      have ONE := Lib.hid (RC.one _ _ hk)
      have hl2_ := HL2.out
      have hf2_ := fold_cells hl2_
      obtain ⟨K2, H2⟩ := H.resR hx hk
      clear H hx hk
      have H := H2
      clear H2
      have hr_ := H.rules; simp only [Rules, and_true] at hr_; have hd_ := H.dif; simp only [Dif, Neq, and_true] at hd_; obtain ⟨ho_, hz_⟩ := H.old0
      go_wp2_with (first | ((with_reducible refine atLoad (t := 35) ?_); (refine wpList_run (v := .agg (cs2).toArray) rfl (run_loadL aggTerm rfl ?_ HL2.out (Hp.boxlies H (by (repeat (first | with_reducible exact Pick.head | with_reducible apply Pick.tail))))) ?_); (focus (go_simp; done))) | ((with_reducible refine atStore (t := 35) ?_); go_must (refine wpList_storeH (t := 35) (cs' := cs2) rfl rfl (by go_simp <;> first | rfl | exact ⟨rfl, rfl⟩) (by go_simp <;> first | rfl | exact ⟨rfl, rfl⟩) (by exact Hp.norm (by (repeat (first | with_reducible exact H | with_reducible exact H0_ | with_reducible apply Hp.alloc | with_reducible apply Hp.allocMap | with_reducible apply Hp.drew | with_reducible apply Hp.drewN | with_reducible apply Hp.set)); (try any_goals (repeat (first | with_reducible exact Upd.head | with_reducible apply Upd.tail)))) (by ((try simp only [size_drew_, size_drewN_, World.size_alloc, World.size_setCell, List.set_cons_zero, List.set_cons_succ, List.nil_append, List.cons_append]) <;> rfl))) (by (repeat (first | with_reducible exact Upd.head | with_reducible apply Upd.tail))) (by rw [HL2.out]; exact aggTerm) (by rw [HL2.out]; rfl) ONE.out ?_; clear H; intro w4 H; (try simp only [size_drew_, size_drewN_, World.size_alloc, World.size_setCell, List.set_cons_zero, List.set_cons_succ] at H); have hr2_ := H.rules; simp only [Rules, and_true] at hr2_; have hs2_ := H.ext.size)) | (at_builtin; go_must (refine wpList_pushK rfl (.tmp 17) (.tmp 19) 24 rfl stTerms (by go_simp <;> first | rfl | exact ⟨rfl, rfl⟩) (by go_simp <;> first | rfl | exact ⟨rfl, rfl⟩) (by exact Hp.norm (by (repeat (first | with_reducible exact H | with_reducible exact H0_ | with_reducible apply Hp.alloc | with_reducible apply Hp.allocMap | with_reducible apply Hp.drew | with_reducible apply Hp.drewN | with_reducible apply Hp.set)); (try any_goals (repeat (first | with_reducible exact Upd.head | with_reducible apply Upd.tail)))) (by ((try simp only [size_drew_, size_drewN_, World.size_alloc, World.size_setCell, List.set_cons_zero, List.set_cons_succ, List.nil_append, List.cons_append]) <;> rfl))) (by (repeat (first | with_reducible exact Pick.head | with_reducible apply Pick.tail))) (by (repeat (first | with_reducible exact Pick.head | with_reducible apply Pick.tail))) HL2.out ONE.out ?_ ?_; (focus omega); clear H; intro v5 w5 H)))
      go_roundw
      case rel =>
        have H6 : Hp no w _ [.gh K (fun w' => RCs w' (fun k => w.heap.size ≤ k) ((xs.take j).map Tm.d) es), .gh K2 (fun w' => RC w' (fun k => w.heap.size ≤ k) (Tm.d xs[j]) cs2), .raw 35 5 (j + 1) v5 (es ++ cs2)] := (H.arr (by (repeat (first | with_reducible exact Arr.nil | refine Arr.cons (by (repeat (first | with_reducible exact Pick.head | with_reducible apply Pick.tail))) ?_)) <;> exact Arr.of_subl (by (repeat (first | with_reducible exact Subl.refl _ | with_reducible apply Subl.drop)))))
        exact ⟨j + 1, v5, es ++ cs2, _, by omega, by first | go_num | rfl | simp, rfl, H6.gh2 (r := fun w' => RCs w' (fun k => w.heap.size ≤ k) ((xs.take (j + 1)).map Tm.d) (es ++ cs2)) (fun w' h1 h2 => by rw [take_map _ hlt]; exact h1.append (RCs.single h2))⟩
      case measure => simp [intOf]; omega
    · rw [take_all hlt] at H
      obtain rfl : j = xs.length := by omega
      obtain ⟨A5, c5, rfl, _, _, _⟩ := H.rawLen' (by (repeat (first | with_reducible exact Pick.head | with_reducible apply Pick.tail)))
      go_wp2_with fail
      go_ret
      have hkk := H.rawRc (ds := xs.map Tm.d) (S := fun k => w.heap.size ≤ k) (A := A5) (c := c5) (by (repeat (first | with_reducible exact Pick.head | with_reducible apply Pick.tail))) (by rw [List.length_map]) (fun d hd => by obtain ⟨x, _, rfl⟩ := List.mem_map.1 hd; exact hsz.out x) (by unfold M; exact hM) (H.gh .head) (fun b h => h)
      exact ⟨A5, c5, by rw [List.length_map]; rfl, by rw [List.length_map]; exact hkk, H.ext⟩
set_option maxRecDepth 100000 in
set_option maxHeartbeats 4000000 in
theorem copyMembers_ {w : World} {S : Nat → Prop} {xs : List Mb} {A : Option Addr} {n c : Nat} (hel : ∀ x ∈ xs, ∀ (w : World) (S : Nat → Prop) (cs : List Value), RC w S (Mb.d x) cs → Calls Tryz.prog 199 #[.agg cs.toArray] w (PRd w (Mb.d x))) (h : RC w S (.l 151 1 (xs.map Mb.d)) [.slice A n c]) (hn : n = xs.length) :
    Calls Tryz.prog 125 #[.slice A n c] w (PRr w 151 1 (xs.map Mb.d)) := by
  subst hn
  have hM := h.lenM.1
  have HF := Lib.hid hel
  clear hel
  have hsz : Hid (∀ x : Mb, (Mb.d x).size = 1) := Lib.hid (fun x => by first | exact Tm.size_d x | exact lvD_size x | exact Mb.size_d x | exact Ct.size_d x | exact Dc.size_d x)
  go_enter Tryz.func125, Tryz.ntmps125
  go_wp2_with fail
  have H := Hp.start no w
  replace H := (H.rawNil 151 1).gh0 (p := fun w' => RCs w' (fun k => w.heap.size ≤ k) ((xs.take 0).map Mb.d) []) (fun _ => by simp only [List.take_zero, List.map_nil]; unfold RCs; rfl)
  go_loopw [3, 4] (fun out i wr => ∃ (j : Nat) (v : Value) (es : List Value) (K : List Nat), j ≤ xs.length ∧ i = .int .i64 j ∧ out = v ∧ Hp no w wr [.gh K (fun w' => RCs w' (fun k => w.heap.size ≤ k) ((xs.take j).map Mb.d) es), .raw 151 1 j v es]) (fun _ i _ => xs.length - (intOf i).toNat)
  case atStart => exact ⟨0, _, [], _, Nat.zero_le _, rfl, rfl, (H.arr (by (repeat (first | with_reducible exact Arr.nil | refine Arr.cons (by (repeat (first | with_reducible exact Pick.head | with_reducible apply Pick.tail))) ?_)) <;> exact Arr.of_subl (by (repeat (first | with_reducible exact Subl.refl _ | with_reducible apply Subl.drop)))))⟩
  case round =>
    clear H
    obtain ⟨j, v, es, K, hj, rfl, rfl, H⟩ := hrel
    by_cases hlt : j < xs.length
    · obtain ⟨b, o, cs, rfl, hb, hS, hd, hl, hcell⟩ := h.el (i := j) (d := Mb.d xs[j]) (by simp [hlt])
      have HI := Lib.hid hcell
      have HL := Lib.hid hl
      have HD := Lib.hid hd
      clear hcell hl hd
      have hr_ := H.rules; simp only [Rules, and_true] at hr_; have hd_ := H.dif; simp only [Dif, Neq, and_true] at hd_; obtain ⟨ho_, hz_⟩ := H.old0
      go_wp2_with ((with_reducible refine atLoad (t := 151) ?_); (refine wpList_run (v := .agg (cs).toArray) rfl (run_loadL aggMemberK rfl ?_ HL.out (H.lies hb no_not HI.out)) ?_); (focus (go_simp; done)))
      (try clear hr_ hd_ ho_ hz_)
      refine callsH (by (repeat (first | with_reducible exact H | with_reducible exact H0_ | with_reducible apply Hp.alloc | with_reducible apply Hp.allocMap | with_reducible apply Hp.drew | with_reducible apply Hp.drewN | with_reducible apply Hp.set)); (try any_goals (repeat (first | with_reducible exact Upd.head | with_reducible apply Upd.tail)))) ?_
      clear H; intro w2 H; (try simp only [size_drew_, size_drewN_, World.size_alloc, World.size_setCell, List.set_cons_zero, List.set_cons_succ] at H)
      refine (HF.out _ (List.getElem_mem hlt) w2 _ cs (HD.out.ext0 H.ext)).mono ?_
      rintro e w3 ⟨cs2, rfl, hk, hx⟩
      have HL2 := Lib.hid ((RC.len _ _ hk).trans (hsz.out xs[j]))
      have ONE := Lib.hid (RC.one _ _ hk)
      have hl2_ := HL2.out
      have hf2_ := fold_cells hl2_
      obtain ⟨K2, H2⟩ := H.resR hx hk
      clear H hx hk
      have H := H2
      clear H2
      have hr_ := H.rules; simp only [Rules, and_true] at hr_; have hd_ := H.dif; simp only [Dif, Neq, and_true] at hd_; obtain ⟨ho_, hz_⟩ := H.old0
      go_wp2_with (first | ((with_reducible refine atLoad (t := 151) ?_); (refine wpList_run (v := .agg (cs2).toArray) rfl (run_loadL aggMemberK rfl ?_ HL2.out (Hp.boxlies H (by (repeat (first | with_reducible exact Pick.head | with_reducible apply Pick.tail))))) ?_); (focus (go_simp; done))) | ((with_reducible refine atStore (t := 151) ?_); go_must (refine wpList_storeH (t := 151) (cs' := cs2) rfl rfl (by go_simp <;> first | rfl | exact ⟨rfl, rfl⟩) (by go_simp <;> first | rfl | exact ⟨rfl, rfl⟩) (by exact Hp.norm (by (repeat (first | with_reducible exact H | with_reducible exact H0_ | with_reducible apply Hp.alloc | with_reducible apply Hp.allocMap | with_reducible apply Hp.drew | with_reducible apply Hp.drewN | with_reducible apply Hp.set)); (try any_goals (repeat (first | with_reducible exact Upd.head | with_reducible apply Upd.tail)))) (by ((try simp only [size_drew_, size_drewN_, World.size_alloc, World.size_setCell, List.set_cons_zero, List.set_cons_succ, List.nil_append, List.cons_append]) <;> rfl))) (by (repeat (first | with_reducible exact Upd.head | with_reducible apply Upd.tail))) (by rw [HL2.out]; exact aggMemberK) (by rw [HL2.out]; rfl) ONE.out ?_; clear H; intro w4 H; (try simp only [size_drew_, size_drewN_, World.size_alloc, World.size_setCell, List.set_cons_zero, List.set_cons_succ] at H); have hr2_ := H.rules; simp only [Rules, and_true] at hr2_; have hs2_ := H.ext.size)) | (at_builtin; go_must (refine wpList_pushK rfl (.tmp 17) (.tmp 19) 39 rfl stMbs (by go_simp <;> first | rfl | exact ⟨rfl, rfl⟩) (by go_simp <;> first | rfl | exact ⟨rfl, rfl⟩) (by exact Hp.norm (by (repeat (first | with_reducible exact H | with_reducible exact H0_ | with_reducible apply Hp.alloc | with_reducible apply Hp.allocMap | with_reducible apply Hp.drew | with_reducible apply Hp.drewN | with_reducible apply Hp.set)); (try any_goals (repeat (first | with_reducible exact Upd.head | with_reducible apply Upd.tail)))) (by ((try simp only [size_drew_, size_drewN_, World.size_alloc, World.size_setCell, List.set_cons_zero, List.set_cons_succ, List.nil_append, List.cons_append]) <;> rfl))) (by (repeat (first | with_reducible exact Pick.head | with_reducible apply Pick.tail))) (by (repeat (first | with_reducible exact Pick.head | with_reducible apply Pick.tail))) HL2.out ONE.out ?_ ?_; (focus omega); clear H; intro v5 w5 H)))
      go_roundw
      case rel =>
        have H6 : Hp no w _ [.gh K (fun w' => RCs w' (fun k => w.heap.size ≤ k) ((xs.take j).map Mb.d) es), .gh K2 (fun w' => RC w' (fun k => w.heap.size ≤ k) (Mb.d xs[j]) cs2), .raw 151 1 (j + 1) v5 (es ++ cs2)] := (H.arr (by (repeat (first | with_reducible exact Arr.nil | refine Arr.cons (by (repeat (first | with_reducible exact Pick.head | with_reducible apply Pick.tail))) ?_)) <;> exact Arr.of_subl (by (repeat (first | with_reducible exact Subl.refl _ | with_reducible apply Subl.drop)))))
        exact ⟨j + 1, v5, es ++ cs2, _, by omega, by first | go_num | rfl | simp, rfl, H6.gh2 (r := fun w' => RCs w' (fun k => w.heap.size ≤ k) ((xs.take (j + 1)).map Mb.d) (es ++ cs2)) (fun w' h1 h2 => by rw [take_map _ hlt]; exact h1.append (RCs.single h2))⟩
      case measure => simp [intOf]; omega
    · rw [take_all hlt] at H
      obtain rfl : j = xs.length := by omega
      obtain ⟨A5, c5, rfl, _, _, _⟩ := H.rawLen' (by (repeat (first | with_reducible exact Pick.head | with_reducible apply Pick.tail)))
      go_wp2_with fail
      go_ret
      have hkk := H.rawRc (ds := xs.map Mb.d) (S := fun k => w.heap.size ≤ k) (A := A5) (c := c5) (by (repeat (first | with_reducible exact Pick.head | with_reducible apply Pick.tail))) (by rw [List.length_map]) (fun d hd => by obtain ⟨x, _, rfl⟩ := List.mem_map.1 hd; exact hsz.out x) (by unfold M; exact hM) (H.gh .head) (fun b h => h)
      exact ⟨A5, c5, by rw [List.length_map]; rfl, by rw [List.length_map]; exact hkk, H.ext⟩
set_option maxRecDepth 100000 in
set_option maxHeartbeats 4000000 in
theorem copyCtors_ {w : World} {S : Nat → Prop} {xs : List Ct} {A : Option Addr} {n c : Nat} (hel : ∀ x ∈ xs, ∀ (w : World) (S : Nat → Prop) (cs : List Value), RC w S (Ct.d x) cs → Calls Tryz.prog 200 #[.agg cs.toArray] w (PRd w (Ct.d x))) (h : RC w S (.l 153 6 (xs.map Ct.d)) [.slice A n c]) (hn : n = xs.length) :
    Calls Tryz.prog 126 #[.slice A n c] w (PRr w 153 6 (xs.map Ct.d)) := by
  subst hn
  have hM := h.lenM.1
  have HF := Lib.hid hel
  clear hel
  have hsz : Hid (∀ x : Ct, (Ct.d x).size = 6) := Lib.hid (fun x => by first | exact Tm.size_d x | exact lvD_size x | exact Mb.size_d x | exact Ct.size_d x | exact Dc.size_d x)
  go_enter Tryz.func126, Tryz.ntmps126
  go_wp2_with fail
  have H := Hp.start no w
  replace H := (H.rawNil 153 6).gh0 (p := fun w' => RCs w' (fun k => w.heap.size ≤ k) ((xs.take 0).map Ct.d) []) (fun _ => by simp only [List.take_zero, List.map_nil]; unfold RCs; rfl)
  go_loopw [3, 4] (fun out i wr => ∃ (j : Nat) (v : Value) (es : List Value) (K : List Nat), j ≤ xs.length ∧ i = .int .i64 j ∧ out = v ∧ Hp no w wr [.gh K (fun w' => RCs w' (fun k => w.heap.size ≤ k) ((xs.take j).map Ct.d) es), .raw 153 6 j v es]) (fun _ i _ => xs.length - (intOf i).toNat)
  case atStart => exact ⟨0, _, [], _, Nat.zero_le _, rfl, rfl, (H.arr (by (repeat (first | with_reducible exact Arr.nil | refine Arr.cons (by (repeat (first | with_reducible exact Pick.head | with_reducible apply Pick.tail))) ?_)) <;> exact Arr.of_subl (by (repeat (first | with_reducible exact Subl.refl _ | with_reducible apply Subl.drop)))))⟩
  case round =>
    clear H
    obtain ⟨j, v, es, K, hj, rfl, rfl, H⟩ := hrel
    by_cases hlt : j < xs.length
    · obtain ⟨b, o, cs, rfl, hb, hS, hd, hl, hcell⟩ := h.el (i := j) (d := Ct.d xs[j]) (by simp [hlt])
      have HI := Lib.hid hcell
      have HL := Lib.hid hl
      have HD := Lib.hid hd
      clear hcell hl hd
      have hr_ := H.rules; simp only [Rules, and_true] at hr_; have hd_ := H.dif; simp only [Dif, Neq, and_true] at hd_; obtain ⟨ho_, hz_⟩ := H.old0
      go_wp2_with ((with_reducible refine atLoad (t := 153) ?_); (refine wpList_run (v := .agg (cs).toArray) rfl (run_loadL aggCtorK rfl ?_ HL.out (H.lies hb no_not HI.out)) ?_); (focus (go_simp; done)))
      (try clear hr_ hd_ ho_ hz_)
      refine callsH (by (repeat (first | with_reducible exact H | with_reducible exact H0_ | with_reducible apply Hp.alloc | with_reducible apply Hp.allocMap | with_reducible apply Hp.drew | with_reducible apply Hp.drewN | with_reducible apply Hp.set)); (try any_goals (repeat (first | with_reducible exact Upd.head | with_reducible apply Upd.tail)))) ?_
      clear H; intro w2 H; (try simp only [size_drew_, size_drewN_, World.size_alloc, World.size_setCell, List.set_cons_zero, List.set_cons_succ] at H)
      refine (HF.out _ (List.getElem_mem hlt) w2 _ cs (HD.out.ext0 H.ext)).mono ?_
      rintro e w3 ⟨cs2, rfl, hk, hx⟩
      have HL2 := Lib.hid ((RC.len _ _ hk).trans (hsz.out xs[j]))
      have ONE := Lib.hid (RC.one _ _ hk)
      have hl2_ := HL2.out
      have hf2_ := fold_cells hl2_
      obtain ⟨K2, H2⟩ := H.resR hx hk
      clear H hx hk
      have H := H2
      clear H2
      have hr_ := H.rules; simp only [Rules, and_true] at hr_; have hd_ := H.dif; simp only [Dif, Neq, and_true] at hd_; obtain ⟨ho_, hz_⟩ := H.old0
      go_wp2_with (first | ((with_reducible refine atLoad (t := 153) ?_); (refine wpList_run (v := .agg (cs2).toArray) rfl (run_loadL aggCtorK rfl ?_ HL2.out (Hp.boxlies H (by (repeat (first | with_reducible exact Pick.head | with_reducible apply Pick.tail))))) ?_); (focus (go_simp; done))) | ((with_reducible refine atStore (t := 153) ?_); go_must (refine wpList_storeH (t := 153) (cs' := cs2) rfl rfl (by go_simp <;> first | rfl | exact ⟨rfl, rfl⟩) (by go_simp <;> first | rfl | exact ⟨rfl, rfl⟩) (by exact Hp.norm (by (repeat (first | with_reducible exact H | with_reducible exact H0_ | with_reducible apply Hp.alloc | with_reducible apply Hp.allocMap | with_reducible apply Hp.drew | with_reducible apply Hp.drewN | with_reducible apply Hp.set)); (try any_goals (repeat (first | with_reducible exact Upd.head | with_reducible apply Upd.tail)))) (by ((try simp only [size_drew_, size_drewN_, World.size_alloc, World.size_setCell, List.set_cons_zero, List.set_cons_succ, List.nil_append, List.cons_append]) <;> rfl))) (by (repeat (first | with_reducible exact Upd.head | with_reducible apply Upd.tail))) (by rw [HL2.out]; exact aggCtorK) (by rw [HL2.out]; rfl) ONE.out ?_; clear H; intro w4 H; (try simp only [size_drew_, size_drewN_, World.size_alloc, World.size_setCell, List.set_cons_zero, List.set_cons_succ] at H); have hr2_ := H.rules; simp only [Rules, and_true] at hr2_; have hs2_ := H.ext.size)) | (at_builtin; go_must (refine wpList_pushK rfl (.tmp 17) (.tmp 19) 40 rfl stCts (by go_simp <;> first | rfl | exact ⟨rfl, rfl⟩) (by go_simp <;> first | rfl | exact ⟨rfl, rfl⟩) (by exact Hp.norm (by (repeat (first | with_reducible exact H | with_reducible exact H0_ | with_reducible apply Hp.alloc | with_reducible apply Hp.allocMap | with_reducible apply Hp.drew | with_reducible apply Hp.drewN | with_reducible apply Hp.set)); (try any_goals (repeat (first | with_reducible exact Upd.head | with_reducible apply Upd.tail)))) (by ((try simp only [size_drew_, size_drewN_, World.size_alloc, World.size_setCell, List.set_cons_zero, List.set_cons_succ, List.nil_append, List.cons_append]) <;> rfl))) (by (repeat (first | with_reducible exact Pick.head | with_reducible apply Pick.tail))) (by (repeat (first | with_reducible exact Pick.head | with_reducible apply Pick.tail))) HL2.out ONE.out ?_ ?_; (focus omega); clear H; intro v5 w5 H)))
      go_roundw
      case rel =>
        have H6 : Hp no w _ [.gh K (fun w' => RCs w' (fun k => w.heap.size ≤ k) ((xs.take j).map Ct.d) es), .gh K2 (fun w' => RC w' (fun k => w.heap.size ≤ k) (Ct.d xs[j]) cs2), .raw 153 6 (j + 1) v5 (es ++ cs2)] := (H.arr (by (repeat (first | with_reducible exact Arr.nil | refine Arr.cons (by (repeat (first | with_reducible exact Pick.head | with_reducible apply Pick.tail))) ?_)) <;> exact Arr.of_subl (by (repeat (first | with_reducible exact Subl.refl _ | with_reducible apply Subl.drop)))))
        exact ⟨j + 1, v5, es ++ cs2, _, by omega, by first | go_num | rfl | simp, rfl, H6.gh2 (r := fun w' => RCs w' (fun k => w.heap.size ≤ k) ((xs.take (j + 1)).map Ct.d) (es ++ cs2)) (fun w' h1 h2 => by rw [take_map _ hlt]; exact h1.append (RCs.single h2))⟩
      case measure => simp [intOf]; omega
    · rw [take_all hlt] at H
      obtain rfl : j = xs.length := by omega
      obtain ⟨A5, c5, rfl, _, _, _⟩ := H.rawLen' (by (repeat (first | with_reducible exact Pick.head | with_reducible apply Pick.tail)))
      go_wp2_with fail
      go_ret
      have hkk := H.rawRc (ds := xs.map Ct.d) (S := fun k => w.heap.size ≤ k) (A := A5) (c := c5) (by (repeat (first | with_reducible exact Pick.head | with_reducible apply Pick.tail))) (by rw [List.length_map]) (fun d hd => by obtain ⟨x, _, rfl⟩ := List.mem_map.1 hd; exact hsz.out x) (by unfold M; exact hM) (H.gh .head) (fun b h => h)
      exact ⟨A5, c5, by rw [List.length_map]; rfl, by rw [List.length_map]; exact hkk, H.ext⟩
set_option maxRecDepth 100000 in
set_option maxHeartbeats 4000000 in
theorem copyParts {w : World} {S : Nat → Prop} {xs : List (Int × Int)} {A : Option Addr} {n c : Nat} (h : RC w S (.l 149 2 (xs.map ptD)) [.slice A n c]) (hn : n = xs.length) :
    Calls Tryz.prog 198 #[.slice A n c] w (PRr w 149 2 (xs.map ptD)) := by
  subst hn
  have hM := h.lenM.1
  have HH := Lib.hid h
  clear h
  go_enter Tryz.func198, Tryz.ntmps198
  have H := (Hp.start no w).rawNil 149 2
  go_wp2_with (at_builtin; go_must (refine wpList_pushKs rfl (.tmp 4) (.tmp 5) 36 rfl stParts (by go_simp <;> first | rfl | exact ⟨rfl, rfl⟩) (by go_simp <;> first | rfl | exact ⟨rfl, rfl⟩) (by exact Hp.norm (by (repeat (first | with_reducible exact H | with_reducible exact H0_ | with_reducible apply Hp.alloc | with_reducible apply Hp.allocMap | with_reducible apply Hp.drew | with_reducible apply Hp.drewN | with_reducible apply Hp.set)); (try any_goals (repeat (first | with_reducible exact Upd.head | with_reducible apply Upd.tail)))) (by ((try simp only [size_drew_, size_drewN_, World.size_alloc, World.size_setCell, List.set_cons_zero, List.set_cons_succ, List.nil_append, List.cons_append]) <;> rfl))) .head HH.out (by omega) ?_; clear H; intro v1 w2 es hes H))
  simp only [Nat.zero_add, List.nil_append] at H
  obtain ⟨A5, c5, rfl, _, _, _⟩ := H.rawLen' (by (repeat (first | with_reducible exact Pick.head | with_reducible apply Pick.tail)))
  have HE := Lib.hid hes
  clear hes
  go_wp2_with fail
  go_ret
  have hkk := H.rawRc (ds := xs.map ptD) (S := fun k => w.heap.size ≤ k) (A := A5) (c := c5) (by (repeat (first | with_reducible exact Pick.head | with_reducible apply Pick.tail))) (by rw [List.length_map]) (pts_size xs) (by unfold M; exact hM) (flatK (fun d hd => by obtain ⟨x, _, rfl⟩ := List.mem_map.1 hd; exact ⟨_, rfl⟩) HE.out) (fun b h => h)
  exact ⟨A5, c5, by rw [List.length_map]; rfl, by rw [List.length_map]; exact hkk, H.ext⟩
def CopyT (t : Tm) : Prop := ∀ (w : World) (S : Nat → Prop) (cs : List Value), RC w S t.d cs → Calls Tryz.prog 122 #[.agg cs.toArray] w (PRd w t.d)
set_option maxRecDepth 100000 in
set_option maxHeartbeats 4000000 in
theorem copyLevel (x : Lv) (w : World) (S : Nat → Prop) (cs : List Value) (h : RC w S (lvD x) cs) : Calls Tryz.prog 124 #[.agg cs.toArray] w (PRd w (lvD x)) := by
  obtain ⟨A, c, rfl, hp⟩ := RC.lv.1 h
  have HP := Lib.hid hp
  clear h hp
  go_enter Tryz.func124, Tryz.ntmps124
  go_wp2_with fail
  have H := Hp.start no w
  refine callsH (by (repeat (first | with_reducible exact H | with_reducible exact H0_ | with_reducible apply Hp.alloc | with_reducible apply Hp.allocMap | with_reducible apply Hp.drew | with_reducible apply Hp.drewN | with_reducible apply Hp.set)); (try any_goals (repeat (first | with_reducible exact Upd.head | with_reducible apply Upd.tail)))) ?_
  clear H; intro w1 H; (try simp only [size_drew_, size_drewN_, World.size_alloc, World.size_setCell, List.set_cons_zero, List.set_cons_succ] at H)
  refine (copyParts (HP.out.ext0 H.ext) rfl).mono ?_
  rintro e w2 ⟨A4, c4, rfl, hk, hx⟩
  simp only [List.length_map] at hk ⊢
  obtain ⟨G1, H2⟩ := H.resR hx hk
  clear H hx hk
  have H := H2
  clear H2
  have hr_ := H.rules; simp only [Rules, and_true] at hr_; have hd_ := H.dif; simp only [Dif, Neq, and_true] at hd_; obtain ⟨ho_, hz_⟩ := H.old0
  go_wp2_with ((with_reducible refine atStore (t := 38) ?_); go_must (refine wpList_storeH (t := 38) rfl rfl (by go_simp <;> first | rfl | exact ⟨rfl, rfl⟩) (by go_simp <;> first | rfl | exact ⟨rfl, rfl⟩) (by exact Hp.norm (by (repeat (first | with_reducible exact H | with_reducible exact H0_ | with_reducible apply Hp.alloc | with_reducible apply Hp.allocMap | with_reducible apply Hp.drew | with_reducible apply Hp.drewN | with_reducible apply Hp.set)); (try any_goals (repeat (first | with_reducible exact Upd.head | with_reducible apply Upd.tail)))) (by ((try simp only [size_drew_, size_drewN_, World.size_alloc, World.size_setCell, List.set_cons_zero, List.set_cons_succ, List.nil_append, List.cons_append]) <;> rfl))) (by (repeat (first | with_reducible exact Upd.head | with_reducible apply Upd.tail))) (by exact aggLevel) (by rfl) (by simp [Value.oneCell']) ?_; clear H; intro w7 H; (try simp only [size_drew_, size_drewN_, World.size_alloc, World.size_setCell, List.set_cons_zero, List.set_cons_succ] at H); (try clear hr_ hd_ ho_ hz_); have hr_ := H.rules; simp only [Rules, and_true] at hr_; have hd_ := H.dif; simp only [Dif, Neq, and_true] at hd_; obtain ⟨ho_, hz_⟩ := H.old0))
  (try clear hr_ hd_ ho_ hz_)
  have k1 := H.gh (p := fun w' => RC w' (fun k => w.heap.size ≤ k) (.l 149 2 (x.map ptD)) [.slice A4 x.length c4]) (by (repeat (first | with_reducible exact Pick.head | with_reducible apply Pick.tail)))
  refine bodyPost_ret (v := .agg #[.slice A4 x.length c4]) (Res.one Tryz.results124 (H.resBox (g := w.heap.size + 1) (by (repeat (first | with_reducible exact Pick.head | with_reducible apply Pick.tail))) aggLevel rfl rfl)) rfl ⟨_, rfl, RC.lv.2 ⟨_, _, rfl, k1⟩, H.ext⟩
set_option maxRecDepth 100000 in
set_option maxHeartbeats 4000000 in
theorem copyTerm : ∀ t : Tm, CopyT t := by
  intro t
  induction t using Tm.ind_ with
  | h k n a ls ks ih =>
  intro w S cs h
  obtain ⟨A0, ca, K0, ck, rfl, i1, i2, i3, hls, hks⟩ := RC.tm.1 h
  simp only [Tm.ls_mk, Tm.ks_mk, Tm.k_mk, Tm.n_mk, Tm.a_mk] at hls hks i1 i2 i3 ⊢
  have HLS := Lib.hid hls
  have HKS := Lib.hid hks
  have HI := Lib.hid ih
  have I := Lib.hid (And.intro i1 (And.intro i2 i3))
  clear h hls hks ih i1 i2 i3
  go_enter Tryz.func122, Tryz.ntmps122
  go_wp2_with fail
  have H := Hp.start no w
  refine callsH (by (repeat (first | with_reducible exact H | with_reducible exact H0_ | with_reducible apply Hp.alloc | with_reducible apply Hp.allocMap | with_reducible apply Hp.drew | with_reducible apply Hp.drewN | with_reducible apply Hp.set)); (try any_goals (repeat (first | with_reducible exact Upd.head | with_reducible apply Upd.tail)))) ?_
  clear H; intro w1 H; (try simp only [size_drew_, size_drewN_, World.size_alloc, World.size_setCell, List.set_cons_zero, List.set_cons_succ] at H)
  refine (copyLevels_ (fun x _ => copyLevel x) (HLS.out.ext0 H.ext) rfl).mono ?_
  rintro e w2 ⟨A4, c4, rfl, hk, hx⟩
  simp only [List.length_map] at hk ⊢
  obtain ⟨G1, H2⟩ := H.resR hx hk
  clear H hx hk
  have H := H2
  clear H2
  have hr_ := H.rules; simp only [Rules, and_true] at hr_; have hd_ := H.dif; simp only [Dif, Neq, and_true] at hd_; obtain ⟨ho_, hz_⟩ := H.old0
  go_wp2_with fail
  clear hr_ hd_ ho_ hz_
  refine callsH (by (repeat (first | with_reducible exact H | with_reducible exact H0_ | with_reducible apply Hp.alloc | with_reducible apply Hp.allocMap | with_reducible apply Hp.drew | with_reducible apply Hp.drewN | with_reducible apply Hp.set)); (try any_goals (repeat (first | with_reducible exact Upd.head | with_reducible apply Upd.tail)))) ?_
  clear H; intro w3 H; (try simp only [size_drew_, size_drewN_, World.size_alloc, World.size_setCell, List.set_cons_zero, List.set_cons_succ] at H)
  refine (copyTerms_ HI.out (HKS.out.ext0 H.ext) rfl).mono ?_
  rintro e w4 ⟨A5, c5, rfl, hk, hx⟩
  simp only [List.length_map] at hk ⊢
  obtain ⟨G2, H2⟩ := H.resR hx hk
  clear H hx hk
  have H := H2
  clear H2
  have hr_ := H.rules; simp only [Rules, and_true] at hr_; have hd_ := H.dif; simp only [Dif, Neq, and_true] at hd_; obtain ⟨ho_, hz_⟩ := H.old0
  go_wp2_with ((with_reducible refine atStore (t := 35) ?_); go_must (refine wpList_storeH (t := 35) rfl rfl (by go_simp <;> first | rfl | exact ⟨rfl, rfl⟩) (by go_simp <;> first | rfl | exact ⟨rfl, rfl⟩) (by exact Hp.norm (by (repeat (first | with_reducible exact H | with_reducible exact H0_ | with_reducible apply Hp.alloc | with_reducible apply Hp.allocMap | with_reducible apply Hp.drew | with_reducible apply Hp.drewN | with_reducible apply Hp.set)); (try any_goals (repeat (first | with_reducible exact Upd.head | with_reducible apply Upd.tail)))) (by ((try simp only [size_drew_, size_drewN_, World.size_alloc, World.size_setCell, List.set_cons_zero, List.set_cons_succ, List.nil_append, List.cons_append]) <;> rfl))) (by (repeat (first | with_reducible exact Upd.head | with_reducible apply Upd.tail))) (by exact aggTerm) (by rfl) (by simp [Value.oneCell']) ?_; clear H; intro w7 H; (try simp only [size_drew_, size_drewN_, World.size_alloc, World.size_setCell, List.set_cons_zero, List.set_cons_succ] at H); (try clear hr_ hd_ ho_ hz_); have hr_ := H.rules; simp only [Rules, and_true] at hr_; have hd_ := H.dif; simp only [Dif, Neq, and_true] at hd_; obtain ⟨ho_, hz_⟩ := H.old0))
  (try clear hr_ hd_ ho_ hz_)
  have k1 := H.gh (p := fun w' => RC w' (fun k => w.heap.size ≤ k) (.l 38 1 (ls.map lvD)) [.slice A4 ls.length c4]) (by (repeat (first | with_reducible exact Pick.head | with_reducible apply Pick.tail)))
  have k2 := H.gh (p := fun w' => RC w' (fun k => w.heap.size ≤ k) (.l 35 5 (ks.map Tm.d)) [.slice A5 ks.length c5]) (by (repeat (first | with_reducible exact Pick.head | with_reducible apply Pick.tail)))
  refine bodyPost_ret (v := .agg #[.int .i64 k, .int .i64 n, .int .i64 a, .slice A4 ls.length c4, .slice A5 ks.length c5]) (Res.one Tryz.results122 (H.resBox (g := w.heap.size + 1) (by (repeat (first | with_reducible exact Pick.head | with_reducible apply Pick.tail))) aggTerm rfl rfl)) rfl ⟨_, rfl, RC.tm.2 ⟨_, _, _, _, rfl, I.out.1, I.out.2.1, I.out.2.2, k1, k2⟩, H.ext⟩
set_option maxRecDepth 100000 in
set_option maxHeartbeats 4000000 in
theorem copyMember (x : Mb) (w : World) (S : Nat → Prop) (cs : List Value) (h : RC w S x.d cs) : Calls Tryz.prog 199 #[.agg cs.toArray] w (PRd w x.d) := by
  obtain ⟨A, c, rfl, hp⟩ := RC.mb.1 h
  have HP := Lib.hid hp
  clear h hp
  go_enter Tryz.func199, Tryz.ntmps199
  go_wp2_with fail
  have H := Hp.start no w
  refine callsH (by (repeat (first | with_reducible exact H | with_reducible exact H0_ | with_reducible apply Hp.alloc | with_reducible apply Hp.allocMap | with_reducible apply Hp.drew | with_reducible apply Hp.drewN | with_reducible apply Hp.set)); (try any_goals (repeat (first | with_reducible exact Upd.head | with_reducible apply Upd.tail)))) ?_
  clear H; intro w1 H; (try simp only [size_drew_, size_drewN_, World.size_alloc, World.size_setCell, List.set_cons_zero, List.set_cons_succ] at H)
  refine (copyTerms_ (fun t _ => copyTerm t) (HP.out.ext0 H.ext) rfl).mono ?_
  rintro e w2 ⟨A4, c4, rfl, hk, hx⟩
  simp only [List.length_map] at hk ⊢
  obtain ⟨G1, H2⟩ := H.resR hx hk
  clear H hx hk
  have H := H2
  clear H2
  have hr_ := H.rules; simp only [Rules, and_true] at hr_; have hd_ := H.dif; simp only [Dif, Neq, and_true] at hd_; obtain ⟨ho_, hz_⟩ := H.old0
  go_wp2_with ((with_reducible refine atStore (t := 151) ?_); go_must (refine wpList_storeH (t := 151) rfl rfl (by go_simp <;> first | rfl | exact ⟨rfl, rfl⟩) (by go_simp <;> first | rfl | exact ⟨rfl, rfl⟩) (by exact Hp.norm (by (repeat (first | with_reducible exact H | with_reducible exact H0_ | with_reducible apply Hp.alloc | with_reducible apply Hp.allocMap | with_reducible apply Hp.drew | with_reducible apply Hp.drewN | with_reducible apply Hp.set)); (try any_goals (repeat (first | with_reducible exact Upd.head | with_reducible apply Upd.tail)))) (by ((try simp only [size_drew_, size_drewN_, World.size_alloc, World.size_setCell, List.set_cons_zero, List.set_cons_succ, List.nil_append, List.cons_append]) <;> rfl))) (by (repeat (first | with_reducible exact Upd.head | with_reducible apply Upd.tail))) (by exact aggMemberK) (by rfl) (by simp [Value.oneCell']) ?_; clear H; intro w7 H; (try simp only [size_drew_, size_drewN_, World.size_alloc, World.size_setCell, List.set_cons_zero, List.set_cons_succ] at H); (try clear hr_ hd_ ho_ hz_); have hr_ := H.rules; simp only [Rules, and_true] at hr_; have hd_ := H.dif; simp only [Dif, Neq, and_true] at hd_; obtain ⟨ho_, hz_⟩ := H.old0))
  (try clear hr_ hd_ ho_ hz_)
  have k1 := H.gh (p := fun w' => RC w' (fun k => w.heap.size ≤ k) (.l 35 5 (x.index.map Tm.d)) [.slice A4 x.index.length c4]) (by (repeat (first | with_reducible exact Pick.head | with_reducible apply Pick.tail)))
  refine bodyPost_ret (v := .agg #[.slice A4 x.index.length c4]) (Res.one Tryz.results199 (H.resBox (g := w.heap.size + 1) (by (repeat (first | with_reducible exact Pick.head | with_reducible apply Pick.tail))) aggMemberK rfl rfl)) rfl ⟨_, rfl, RC.mb.2 ⟨_, _, rfl, k1⟩, H.ext⟩
set_option maxRecDepth 100000 in
set_option maxHeartbeats 4000000 in
theorem copyCtor (x : Ct) (w : World) (S : Nat → Prop) (cs : List Value) (h : RC w S x.d cs) : Calls Tryz.prog 200 #[.agg cs.toArray] w (PRd w x.d) := by
  obtain ⟨A, ca, K, ck, rfl, i0, hp⟩ := RC.ct.1 h
  have HP := Lib.hid hp
  have I := Lib.hid i0
  clear h hp i0
  go_enter Tryz.func200, Tryz.ntmps200
  go_wp2_with fail
  have H := Hp.start no w
  refine callsH (by (repeat (first | with_reducible exact H | with_reducible exact H0_ | with_reducible apply Hp.alloc | with_reducible apply Hp.allocMap | with_reducible apply Hp.drew | with_reducible apply Hp.drewN | with_reducible apply Hp.set)); (try any_goals (repeat (first | with_reducible exact Upd.head | with_reducible apply Upd.tail)))) ?_
  clear H; intro w1 H; (try simp only [size_drew_, size_drewN_, World.size_alloc, World.size_setCell, List.set_cons_zero, List.set_cons_succ] at H)
  refine (copyTerm x.ty _ _ _ (HP.out.ext0 H.ext)).mono ?_
  rintro e w2 ⟨cs2, rfl, hk, hx⟩
  obtain ⟨A4, ca4, K4, ck4, rfl, _⟩ := RC.tm.1 hk
  obtain ⟨G1, H2⟩ := H.resR hx hk
  clear H hx hk
  have H := H2
  clear H2
  have hr_ := H.rules; simp only [Rules, and_true] at hr_; have hd_ := H.dif; simp only [Dif, Neq, and_true] at hd_; obtain ⟨ho_, hz_⟩ := H.old0
  go_wp2_with ((with_reducible refine atStore (t := 153) ?_); go_must (refine wpList_storeH (t := 153) rfl rfl (by go_simp <;> first | rfl | exact ⟨rfl, rfl⟩) (by go_simp <;> first | rfl | exact ⟨rfl, rfl⟩) (by exact Hp.norm (by (repeat (first | with_reducible exact H | with_reducible exact H0_ | with_reducible apply Hp.alloc | with_reducible apply Hp.allocMap | with_reducible apply Hp.drew | with_reducible apply Hp.drewN | with_reducible apply Hp.set)); (try any_goals (repeat (first | with_reducible exact Upd.head | with_reducible apply Upd.tail)))) (by ((try simp only [size_drew_, size_drewN_, World.size_alloc, World.size_setCell, List.set_cons_zero, List.set_cons_succ, List.nil_append, List.cons_append]) <;> rfl))) (by (repeat (first | with_reducible exact Upd.head | with_reducible apply Upd.tail))) (by exact aggCtorK) (by rfl) (by simp [Value.oneCell']) ?_; clear H; intro w7 H; (try simp only [size_drew_, size_drewN_, World.size_alloc, World.size_setCell, List.set_cons_zero, List.set_cons_succ] at H); (try clear hr_ hd_ ho_ hz_); have hr_ := H.rules; simp only [Rules, and_true] at hr_; have hd_ := H.dif; simp only [Dif, Neq, and_true] at hd_; obtain ⟨ho_, hz_⟩ := H.old0))
  (try clear hr_ hd_ ho_ hz_)
  have k1 := H.gh (p := fun w' => RC w' (fun k => w.heap.size ≤ k) x.ty.d [.int .i64 x.ty.k, .int .i64 x.ty.n, .int .i64 x.ty.a, .slice A4 x.ty.ls.length ca4, .slice K4 x.ty.ks.length ck4]) (by (repeat (first | with_reducible exact Pick.head | with_reducible apply Pick.tail)))
  refine bodyPost_ret (v := .agg #[.int .i64 x.member, .int .i64 x.ty.k, .int .i64 x.ty.n, .int .i64 x.ty.a, .slice A4 x.ty.ls.length ca4, .slice K4 x.ty.ks.length ck4]) (Res.one Tryz.results200 (H.resBox (g := w.heap.size + 1) (by (repeat (first | with_reducible exact Pick.head | with_reducible apply Pick.tail))) aggCtorK rfl rfl)) rfl ⟨_, rfl, RC.ct.2 ⟨_, _, _, _, rfl, I.out, k1⟩, H.ext⟩
theorem lvPts {w : World} {S : Nat → Prop} {x : Lv} {A : Option Addr} {c : Nat} (h : RC w S (lvD x) [.slice A x.length c]) : RC w S (.l 149 2 (x.map ptD)) [.slice A x.length c] := by
  obtain ⟨A', c', he, h2⟩ := RC.lv.1 h
  simp only [List.cons.injEq, Value.slice.injEq, and_true, true_and] at he
  obtain ⟨rfl, rfl⟩ := he
  exact h2
set_option maxRecDepth 100000 in
set_option maxHeartbeats 8000000 in
theorem copyDecl (x : Dc) (w : World) (S : Nat → Prop) (cs : List Value) (h : RC w S x.d cs) : Calls Tryz.prog 56 #[.agg cs.toArray] w (PRd w x.d) := by
  obtain ⟨Aty, cty, Kty, kty, Abody, cbody, Kbody, kbody, Aparams, cparams, Asort, csort, Amembers, cmembers, Actors, cctors, rfl, i1, i2, h1, h2, h3, h4, h5, h6⟩ := RC.dc.1 h
  have H1 := Lib.hid h1
  have H2_ := Lib.hid h2
  have H3 := Lib.hid h3
  have H4 := Lib.hid h4
  have H5 := Lib.hid h5
  have H6 := Lib.hid h6
  have I := Lib.hid (And.intro i1 i2)
  clear h h1 h2 h3 h4 h5 h6 i1 i2
  go_enter Tryz.func56, Tryz.ntmps56
  go_wp2_with fail
  have H := Hp.start no w
  refine callsH (by (repeat (first | with_reducible exact H | with_reducible exact H0_ | with_reducible apply Hp.alloc | with_reducible apply Hp.allocMap | with_reducible apply Hp.drew | with_reducible apply Hp.drewN | with_reducible apply Hp.set)); (try any_goals (repeat (first | with_reducible exact Upd.head | with_reducible apply Upd.tail)))) ?_
  clear H; intro w1 H; (try simp only [size_drew_, size_drewN_, World.size_alloc, World.size_setCell, List.set_cons_zero, List.set_cons_succ] at H)
  refine (copyTerm x.ty _ _ _ (H1.out.ext0 H.ext)).mono ?_
  rintro e w2 ⟨cs2, rfl, hk, hx⟩
  obtain ⟨T1, t1, T2, t2, rfl, _⟩ := RC.tm.1 hk
  obtain ⟨G1, H2⟩ := H.resR hx hk
  clear H hx hk
  have H := H2
  clear H2
  have hr_ := H.rules; simp only [Rules, and_true] at hr_; have hd_ := H.dif; simp only [Dif, Neq, and_true] at hd_; obtain ⟨ho_, hz_⟩ := H.old0
  go_wp2_with fail
  (try clear hr_ hd_ ho_ hz_)
  refine callsH (by (repeat (first | with_reducible exact H | with_reducible exact H0_ | with_reducible apply Hp.alloc | with_reducible apply Hp.allocMap | with_reducible apply Hp.drew | with_reducible apply Hp.drewN | with_reducible apply Hp.set)); (try any_goals (repeat (first | with_reducible exact Upd.head | with_reducible apply Upd.tail)))) ?_
  clear H; intro w3 H; (try simp only [size_drew_, size_drewN_, World.size_alloc, World.size_setCell, List.set_cons_zero, List.set_cons_succ] at H)
  refine (copyTerm x.body _ _ _ (H2_.out.ext0 H.ext)).mono ?_
  rintro e w2 ⟨cs2, rfl, hk, hx⟩
  obtain ⟨B1, b1, B2, b2, rfl, _⟩ := RC.tm.1 hk
  obtain ⟨G2, H2⟩ := H.resR hx hk
  clear H hx hk
  have H := H2
  clear H2
  have hr_ := H.rules; simp only [Rules, and_true] at hr_; have hd_ := H.dif; simp only [Dif, Neq, and_true] at hd_; obtain ⟨ho_, hz_⟩ := H.old0
  go_wp2_with fail
  (try clear hr_ hd_ ho_ hz_)
  refine callsH (by (repeat (first | with_reducible exact H | with_reducible exact H0_ | with_reducible apply Hp.alloc | with_reducible apply Hp.allocMap | with_reducible apply Hp.drew | with_reducible apply Hp.drewN | with_reducible apply Hp.set)); (try any_goals (repeat (first | with_reducible exact Upd.head | with_reducible apply Upd.tail)))) ?_
  clear H; intro w3 H; (try simp only [size_drew_, size_drewN_, World.size_alloc, World.size_setCell, List.set_cons_zero, List.set_cons_succ] at H)
  refine (copyTerms_ (fun t _ => copyTerm t) (H3.out.ext0 H.ext) rfl).mono ?_
  rintro e w2 ⟨A3, c3, rfl, hk, hx⟩
  simp only [List.length_map] at hk ⊢
  obtain ⟨G3, H2⟩ := H.resR hx hk
  clear H hx hk
  have H := H2
  clear H2
  have hr_ := H.rules; simp only [Rules, and_true] at hr_; have hd_ := H.dif; simp only [Dif, Neq, and_true] at hd_; obtain ⟨ho_, hz_⟩ := H.old0
  go_wp2_with fail
  (try clear hr_ hd_ ho_ hz_)
  refine callsH (by (repeat (first | with_reducible exact H | with_reducible exact H0_ | with_reducible apply Hp.alloc | with_reducible apply Hp.allocMap | with_reducible apply Hp.drew | with_reducible apply Hp.drewN | with_reducible apply Hp.set)); (try any_goals (repeat (first | with_reducible exact Upd.head | with_reducible apply Upd.tail)))) ?_
  clear H; intro w3 H; (try simp only [size_drew_, size_drewN_, World.size_alloc, World.size_setCell, List.set_cons_zero, List.set_cons_succ] at H)
  refine (copyLevel x.sort _ _ _ (RC.lv.2 ⟨_, _, rfl, H4.out.ext0 H.ext⟩)).mono ?_
  rintro e w2 ⟨cs2, rfl, hk, hx⟩
  obtain ⟨A4, c4, rfl, _⟩ := RC.lv.1 hk
  obtain ⟨G4, H2⟩ := H.resR hx hk
  clear H hx hk
  have H := H2
  clear H2
  have hr_ := H.rules; simp only [Rules, and_true] at hr_; have hd_ := H.dif; simp only [Dif, Neq, and_true] at hd_; obtain ⟨ho_, hz_⟩ := H.old0
  go_wp2_with fail
  (try clear hr_ hd_ ho_ hz_)
  refine callsH (by (repeat (first | with_reducible exact H | with_reducible exact H0_ | with_reducible apply Hp.alloc | with_reducible apply Hp.allocMap | with_reducible apply Hp.drew | with_reducible apply Hp.drewN | with_reducible apply Hp.set)); (try any_goals (repeat (first | with_reducible exact Upd.head | with_reducible apply Upd.tail)))) ?_
  clear H; intro w3 H; (try simp only [size_drew_, size_drewN_, World.size_alloc, World.size_setCell, List.set_cons_zero, List.set_cons_succ] at H)
  refine (copyMembers_ (fun m _ => copyMember m) (H5.out.ext0 H.ext) rfl).mono ?_
  rintro e w2 ⟨A5, c5, rfl, hk, hx⟩
  simp only [List.length_map] at hk ⊢
  obtain ⟨G5, H2⟩ := H.resR hx hk
  clear H hx hk
  have H := H2
  clear H2
  have hr_ := H.rules; simp only [Rules, and_true] at hr_; have hd_ := H.dif; simp only [Dif, Neq, and_true] at hd_; obtain ⟨ho_, hz_⟩ := H.old0
  go_wp2_with fail
  (try clear hr_ hd_ ho_ hz_)
  refine callsH (by (repeat (first | with_reducible exact H | with_reducible exact H0_ | with_reducible apply Hp.alloc | with_reducible apply Hp.allocMap | with_reducible apply Hp.drew | with_reducible apply Hp.drewN | with_reducible apply Hp.set)); (try any_goals (repeat (first | with_reducible exact Upd.head | with_reducible apply Upd.tail)))) ?_
  clear H; intro w3 H; (try simp only [size_drew_, size_drewN_, World.size_alloc, World.size_setCell, List.set_cons_zero, List.set_cons_succ] at H)
  refine (copyCtors_ (fun m _ => copyCtor m) (H6.out.ext0 H.ext) rfl).mono ?_
  rintro e w2 ⟨A6, c6, rfl, hk, hx⟩
  simp only [List.length_map] at hk ⊢
  obtain ⟨G6, H2⟩ := H.resR hx hk
  clear H hx hk
  have H := H2
  clear H2
  have hr_ := H.rules; simp only [Rules, and_true] at hr_; have hd_ := H.dif; simp only [Dif, Neq, and_true] at hd_; obtain ⟨ho_, hz_⟩ := H.old0
  go_wp2_with ((with_reducible refine atStore (t := 42) ?_); go_must (refine wpList_storeH (t := 42) rfl rfl (by go_simp <;> first | rfl | exact ⟨rfl, rfl⟩) (by go_simp <;> first | rfl | exact ⟨rfl, rfl⟩) (by exact Hp.norm (by (repeat (first | with_reducible exact H | with_reducible exact H0_ | with_reducible apply Hp.alloc | with_reducible apply Hp.allocMap | with_reducible apply Hp.drew | with_reducible apply Hp.drewN | with_reducible apply Hp.set)); (try any_goals (repeat (first | with_reducible exact Upd.head | with_reducible apply Upd.tail)))) (by ((try simp only [size_drew_, size_drewN_, World.size_alloc, World.size_setCell, List.set_cons_zero, List.set_cons_succ, List.nil_append, List.cons_append]) <;> rfl))) (by (repeat (first | with_reducible exact Upd.head | with_reducible apply Upd.tail))) (by exact aggDecl) (by rfl) (by simp [Value.oneCell']) ?_; clear H; intro w7 H; (try simp only [size_drew_, size_drewN_, World.size_alloc, World.size_setCell, List.set_cons_zero, List.set_cons_succ] at H); (try clear hr_ hd_ ho_ hz_); have hr_ := H.rules; simp only [Rules, and_true] at hr_; have hd_ := H.dif; simp only [Dif, Neq, and_true] at hd_; obtain ⟨ho_, hz_⟩ := H.old0))
  (try clear hr_ hd_ ho_ hz_)
  have k1 := H.gh (p := fun w' => RC w' (fun k => w.heap.size ≤ k) x.ty.d [.int .i64 x.ty.k, .int .i64 x.ty.n, .int .i64 x.ty.a, .slice T1 x.ty.ls.length t1, .slice T2 x.ty.ks.length t2]) (by (repeat (first | with_reducible exact Pick.head | with_reducible apply Pick.tail)))
  have k2 := H.gh (p := fun w' => RC w' (fun k => w.heap.size ≤ k) x.body.d [.int .i64 x.body.k, .int .i64 x.body.n, .int .i64 x.body.a, .slice B1 x.body.ls.length b1, .slice B2 x.body.ks.length b2]) (by (repeat (first | with_reducible exact Pick.head | with_reducible apply Pick.tail)))
  have k3 := H.gh (p := fun w' => RC w' (fun k => w.heap.size ≤ k) (.l 35 5 (x.params.map Tm.d)) [.slice A3 x.params.length c3]) (by (repeat (first | with_reducible exact Pick.head | with_reducible apply Pick.tail)))
  have k4 := H.gh (p := fun w' => RC w' (fun k => w.heap.size ≤ k) (lvD x.sort) [.slice A4 x.sort.length c4]) (by (repeat (first | with_reducible exact Pick.head | with_reducible apply Pick.tail)))
  have k5 := H.gh (p := fun w' => RC w' (fun k => w.heap.size ≤ k) (.l 151 1 (x.members.map Mb.d)) [.slice A5 x.members.length c5]) (by (repeat (first | with_reducible exact Pick.head | with_reducible apply Pick.tail)))
  have k6 := H.gh (p := fun w' => RC w' (fun k => w.heap.size ≤ k) (.l 153 6 (x.ctors.map Ct.d)) [.slice A6 x.ctors.length c6]) (by (repeat (first | with_reducible exact Pick.head | with_reducible apply Pick.tail)))
  refine bodyPost_ret (v := .agg #[.int .i64 x.kind, .int .i64 x.levels, .int .i64 x.ty.k, .int .i64 x.ty.n, .int .i64 x.ty.a, .slice T1 x.ty.ls.length t1, .slice T2 x.ty.ks.length t2, .int .i64 x.body.k, .int .i64 x.body.n, .int .i64 x.body.a, .slice B1 x.body.ls.length b1, .slice B2 x.body.ks.length b2, .slice A3 x.params.length c3, .slice A4 x.sort.length c4, .slice A5 x.members.length c5, .slice A6 x.ctors.length c6])
    (Res.one Tryz.results56 (H.resBox (g := w.heap.size + 1) (by (repeat (first | with_reducible exact Pick.head | with_reducible apply Pick.tail))) aggDecl rfl rfl)) rfl ⟨_, rfl, RC.dc.2 ⟨_, _, _, _, _, _, _, _, _, _, _, _, _, _, _, _, rfl, I.out.1, I.out.2, k1, k2, k3, lvPts k4, k5, k6⟩, H.ext⟩
end Go.Proofs.YteelplgdojjakaaGreatDoor
/- 'out = append(out, xs...)', the row xs of old memory. No statement of the seat is proved here. -/
namespace Go.Proofs.YteelplgdojjakaaGreatDoor
set_option linter.unusedSimpArgs false
set_option linter.unusedVariables false
open Go.RowKit

section
variable {X : Nat → Prop} {w0 w w1 : World} {l l' l1 l2 l3 : List Ch}
variable {P : Program} {ops : Array Oper} {rest : List Oper} {o : Oper} {a : Act} {Q : Exit → Act → World → Prop}
/-- 'out = append(out, xs...)', xs of the old memory. -/
theorem wp_pushRs {K : Act → World → Prop} (s x : Operand) (t : TypeId) (ho : o.op = .call { callee := .builtin .append, args := #[s, x], argTypes := #[t, t] }) {e z : Nat} (hT : SlT P t e z)
    {ds ds' : List D} {out : Value} {A : Option Addr} {m c : Nat} (hs : a.eval s = out) (hx : a.eval x = .slice A m c) (H : Hp X w0 w l) (p1 : Pick l (.row e z ds out) l2)
    (hd : RC w (fun k => k < w0.heap.size ∧ ¬ X k) (.l e z ds') [.slice A m c]) (hM : ds.length + ds'.length ≤ M)
    (h : ∀ v' w', Hp X w0 w' (.row e z (ds ++ ds') v' :: l2) → K (a.put o.dst v') w') : o.wp P a w K Q := by
  obtain ⟨L, hL, hn⟩ := (H.pick p1).own
  simp only [Chs] at hL
  obtain ⟨_, L3, rfl, ⟨rfl, h1⟩, h3⟩ := hL
  have hB : ∀ k, out.ownBlock = some k → w0.heap.size ≤ k := by
    intro k hk
    obtain ⟨_, _, es, h4, _⟩ := h1
    exact (h4.lt k (by simp [hk])).1
  refine wp_pushS s x t ho hT h1 hd (fun k hk hS => ⟨hS, fun e => by have := hB k e.symm; have := hS.1; omega⟩) hM H.ext.size hs hx ?_
  intro v' w' g1 g2 g3
  refine h v' w' ⟨H.ext.grown g2 (fun k hk => .inr (hB k hk)), v'.ownBlock.toList ++ L3, ?_, ?_⟩
  · unfold Chs
    refine ⟨_, L3, rfl, ⟨rfl, g1⟩, h3.frame H.ext.size g2.size (fun k hk hx => g2.block k (Nat.lt_of_lt_of_le hk H.ext.size) (fun e => ?_)) (fun k hk => g2.block k (h3.lt k hk).2 (fun e => ?_))⟩
    · have := hB k e.symm; omega
    · exact (List.nodup_append.1 hn).2.2 k (by simp [← e]) k (by simp [hk]) rfl
  · have n2 := (List.nodup_append.1 hn).2.1
    refine List.nodup_append.2 ⟨by cases v'.ownBlock <;> simp, n2, fun x hx y hy e => ?_⟩
    subst e
    rcases g3 with g3 | g3
    · rw [g3] at hx
      exact (List.nodup_append.1 hn).2.2 x hx x (by simp [hy]) rfl
    · have hx' : x = w.heap.size := by rw [g3] at hx; simpa using hx
      have := (h3.lt x hy).2
      omega
theorem wpList_pushRs (hgd : o.guard = none) (s x : Operand) (t : TypeId) (ho : o.op = .call { callee := .builtin .append, args := #[s, x], argTypes := #[t, t] }) {e z : Nat} (hT : SlT P t e z)
    {ds ds' : List D} {out : Value} {A : Option Addr} {m c : Nat} (hs : a.eval s = out) (hx : a.eval x = .slice A m c) (H : Hp X w0 w l) (p1 : Pick l (.row e z ds out) l2)
    (hd : RC w (fun k => k < w0.heap.size ∧ ¬ X k) (.l e z ds') [.slice A m c]) (hM : ds.length + ds'.length ≤ M)
    (h : ∀ v' w', Hp X w0 w' (.row e z (ds ++ ds') v' :: l2) → wpList P ops Q rest (a.put o.dst v') w') : wpList P ops Q (o :: rest) a w :=
  wpList_plain hgd fun _ hK => wp_pushRs s x t ho hT hs hx H p1 hd hM fun v' w' h1 => hK _ _ (h v' w' h1)
/-- A row of old elements, its last one cut off. -/
theorem RCs.front {w : World} {S : Nat → Prop} {z : Nat} : ∀ {ds : List D} {d : D} {es : List Value}, RCs w S (ds ++ [d]) es → (∀ x ∈ ds ++ [d], x.size = z) → RCs w S ds (es.take (ds.length * z))
  | [], d, es, _, _ => by unfold RCs; simp
  | x :: ds, d, es, h, hz => by
    rw [List.cons_append] at h
    unfold RCs at h
    obtain ⟨c1, c2, rfl, h1, h2⟩ := h
    have hl : c1.length = z := (RC.len _ _ h1).trans (hz x (by simp))
    have ih := RCs.front h2 (fun y hy => hz y (by simp only [List.cons_append, List.mem_cons]; exact .inr hy))
    unfold RCs
    refine ⟨c1, _, ?_, h1, ih⟩
    rw [List.length_cons, Nat.add_mul, Nat.one_mul, Nat.add_comm, ← hl, List.take_length_add_append]
theorem Hp.rowCut {e z n c : Nat} {ds : List D} {d : D} {A : Option Addr} (H : Hp X w0 w l) (p : Pick l (.row e z (ds ++ [d]) (.slice A n c)) l') : Hp X w0 w (.row e z ds (.slice A ds.length c) :: l') := by
  obtain ⟨L, hL, hn⟩ := (H.pick p).own
  simp only [Chs] at hL
  obtain ⟨L1, L2, rfl, ⟨rfl, h1⟩, h2⟩ := hL
  obtain ⟨g1, g2, es, ⟨hes, g3⟩, g4⟩ := h1
  rw [List.length_append, List.length_singleton] at g3 hes g1
  rcases g3 with ⟨h, h'⟩ | ⟨g, cap, cur, q1, q2, q3, q4, q5, q6, q7⟩
  · exact absurd h' (by omega)
  · simp only [Value.slice.injEq] at q1
    obtain ⟨rfl, rfl, rfl⟩ := q1
    refine ⟨H.ext, _, ?_, hn⟩
    unfold Chs
    refine ⟨_, L2, rfl, ⟨rfl, ?_⟩, h2⟩
    refine ⟨by omega, fun x hx => g2 x (by simp [hx]), es.take (ds.length * z), ⟨?_, .inr ⟨g, c, cur, rfl, q2, q3, by omega, q5, q6, ?_⟩⟩, RCs.front g4 g2⟩
    · rw [List.length_take, hes, Nat.add_mul, Nat.one_mul]; omega
    · rw [← q7, List.take_take, Nat.add_mul, Nat.one_mul, Nat.min_eq_left (by omega)]
theorem Pick.app {c : Ch} {b : List Ch} : ∀ a : List Ch, Pick (a ++ c :: b) c (a ++ b)
  | [] => .head
  | x :: a => .tail (Pick.app a)
theorem Arr.self_ : ∀ l : List Ch, Arr l l
  | [] => .nil
  | c :: l => .cons .head (Arr.self_ l)
theorem Arr.comm : ∀ b a : List Ch, Arr (a ++ b) (b ++ a)
  | [], a => by simpa using Arr.self_ a
  | c :: b, a => .cons (Pick.app a) (Arr.comm b a)
/-- Some pieces behind others, ahead of them. -/
theorem Hp.comm {a b : List Ch} (H : Hp X w0 w (a ++ b)) : Hp X w0 w (b ++ a) := H.arr (Arr.comm b a)
end
end Go.Proofs.YteelplgdojjakaaGreatDoor
