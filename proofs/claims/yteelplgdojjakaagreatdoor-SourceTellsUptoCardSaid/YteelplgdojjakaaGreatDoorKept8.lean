/- The kit's declarations that are lent: contracts. No statement of the seat is proved here. -/
import Derived.Test.YteelplgdojjakaaGreatDoorKept4D
import Derived.Test.YteelplgdojjakaaGreatDoorKept7
namespace Go.Proofs.YteelplgdojjakaaGreatDoor
set_option linter.unusedSimpArgs false
set_option linter.unusedVariables false
open Go.RowKit

theorem keptDecls {w : World} {S S' : Nat → Prop} {xs : List Dc} {A B : Option Addr} {n c cb : Nat} (hk : KC mkD w S (.l 42 16 (xs.map Dc.d)) [.slice A n c]) (h : RC w S' (.l 42 16 (xs.map Dc.d)) [.slice B n cb]) (hn : n = xs.length) :
    Calls Tryz.prog 24 #[.slice A n c, .slice B n cb] w (PV w (.bool true)) := keptDecls_ (fun x _ => keptDecl x) (fun q => sameDcK _) hk h hn
theorem KC.dc {mk : Nat → List D} {w : World} {S : Nat → Prop} {x : Dc} {c1 c2 : List Value} {v3 v4 v5 v6 : Value} (i1 : inI x.kind) (i2 : inI x.levels) (h1 : KC mk w S x.ty.d c1) (h2 : KC mk w S x.body.d c2) (h3 : KC mk w S (.l 35 5 (x.params.map Tm.d)) [v3]) (h4 : KC mk w S (lvD x.sort) [v4]) (h5 : KC mk w S (.l 151 1 (x.members.map Mb.d)) [v5]) (h6 : KC mk w S (.l 153 6 (x.ctors.map Ct.d)) [v6]) :
    KC mk w S x.d (.int .i64 x.kind :: .int .i64 x.levels :: (c1 ++ (c2 ++ [v3, v4, v5, v6]))) := by
  unfold Dc.d KC
  exact KCs.cons (c1 := [_]) (KC.num i1) (KCs.cons (c1 := [_]) (KC.num i2) (KCs.cons h1 (KCs.cons h2 (KCs.cons (c1 := [_]) h3 (KCs.cons (c1 := [_]) h4 (KCs.cons (c1 := [_]) h5 (KCs.cons (c1 := [_]) h6 KCs.nil)))))))
set_option maxRecDepth 100000 in
set_option maxHeartbeats 8000000 in
theorem lentDecl (x : Dc) (w : World) (S : Nat → Prop) (cs : List Value) (h : RC w S x.d cs) : Calls Tryz.prog 40 #[.agg cs.toArray] w (PKd w x.d) := by
  obtain ⟨Aty, cty, Kty, kty, Abody, cbody, Kbody, kbody, Aparams, cparams, Asort, csort, Amembers, cmembers, Actors, cctors, rfl, i1, i2, h1, h2, h3, h4, h5, h6⟩ := RC.dc.1 h
  have H1 := Lib.hid h1
  have H2_ := Lib.hid h2
  have H3 := Lib.hid h3
  have H4 := Lib.hid h4
  have H5 := Lib.hid h5
  have H6 := Lib.hid h6
  have I := Lib.hid (And.intro i1 i2)
  clear h h1 h2 h3 h4 h5 h6 i1 i2
  go_enter Tryz.func40, Tryz.ntmps40
  go_wp2_with fail
  have H := Hp.start no w
  refine callsH (by (repeat (first | with_reducible exact H | with_reducible exact H0_ | with_reducible apply Hp.alloc | with_reducible apply Hp.allocMap | with_reducible apply Hp.drew | with_reducible apply Hp.drewN | with_reducible apply Hp.set)); (try any_goals (repeat (first | with_reducible exact Upd.head | with_reducible apply Upd.tail)))) ?_
  clear H; intro w1 H; (try simp only [size_drew_, size_drewN_, World.size_alloc, World.size_setCell, List.set_cons_zero, List.set_cons_succ] at H)
  refine (lentTerm x.ty _ _ _ (H1.out.ext0 H.ext)).mono ?_
  rintro e w2 ⟨cs2, rfl, hk, hx⟩
  obtain ⟨T1, t1, T2, t2, rfl⟩ := hk.tmE
  obtain ⟨G1, H2⟩ := H.resK hx hk
  clear H hx hk
  have H := H2
  clear H2
  have hr_ := H.rules; simp only [Rules, and_true] at hr_; have hd_ := H.dif; simp only [Dif, Neq, and_true] at hd_; obtain ⟨ho_, hz_⟩ := H.old0
  go_wp2_with fail
  (try clear hr_ hd_ ho_ hz_)
  refine callsH (by (repeat (first | with_reducible exact H | with_reducible exact H0_ | with_reducible apply Hp.alloc | with_reducible apply Hp.allocMap | with_reducible apply Hp.drew | with_reducible apply Hp.drewN | with_reducible apply Hp.set)); (try any_goals (repeat (first | with_reducible exact Upd.head | with_reducible apply Upd.tail)))) ?_
  clear H; intro w3 H; (try simp only [size_drew_, size_drewN_, World.size_alloc, World.size_setCell, List.set_cons_zero, List.set_cons_succ] at H)
  refine (lentTerm x.body _ _ _ (H2_.out.ext0 H.ext)).mono ?_
  rintro e w2 ⟨cs2, rfl, hk, hx⟩
  obtain ⟨B1, b1, B2, b2, rfl⟩ := hk.tmE
  obtain ⟨G2, H2⟩ := H.resK hx hk
  clear H hx hk
  have H := H2
  clear H2
  have hr_ := H.rules; simp only [Rules, and_true] at hr_; have hd_ := H.dif; simp only [Dif, Neq, and_true] at hd_; obtain ⟨ho_, hz_⟩ := H.old0
  go_wp2_with fail
  (try clear hr_ hd_ ho_ hz_)
  refine callsH (by (repeat (first | with_reducible exact H | with_reducible exact H0_ | with_reducible apply Hp.alloc | with_reducible apply Hp.allocMap | with_reducible apply Hp.drew | with_reducible apply Hp.drewN | with_reducible apply Hp.set)); (try any_goals (repeat (first | with_reducible exact Upd.head | with_reducible apply Upd.tail)))) ?_
  clear H; intro w3 H; (try simp only [size_drew_, size_drewN_, World.size_alloc, World.size_setCell, List.set_cons_zero, List.set_cons_succ] at H)
  refine (lentTerms_ (fun t _ => lentTerm t) (H3.out.ext0 H.ext) rfl).mono ?_
  rintro e w2 ⟨A3, c3, rfl, hk, hx⟩
  simp only [List.length_map] at hk ⊢
  obtain ⟨G3, H2⟩ := H.resK hx hk
  clear H hx hk
  have H := H2
  clear H2
  have hr_ := H.rules; simp only [Rules, and_true] at hr_; have hd_ := H.dif; simp only [Dif, Neq, and_true] at hd_; obtain ⟨ho_, hz_⟩ := H.old0
  go_wp2_with fail
  (try clear hr_ hd_ ho_ hz_)
  refine callsH (by (repeat (first | with_reducible exact H | with_reducible exact H0_ | with_reducible apply Hp.alloc | with_reducible apply Hp.allocMap | with_reducible apply Hp.drew | with_reducible apply Hp.drewN | with_reducible apply Hp.set)); (try any_goals (repeat (first | with_reducible exact Upd.head | with_reducible apply Upd.tail)))) ?_
  clear H; intro w3 H; (try simp only [size_drew_, size_drewN_, World.size_alloc, World.size_setCell, List.set_cons_zero, List.set_cons_succ] at H)
  refine (lentLevel x.sort _ _ _ (RC.lv.2 ⟨_, _, rfl, H4.out.ext0 H.ext⟩)).mono ?_
  rintro e w2 ⟨cs2, rfl, hk, hx⟩
  obtain ⟨A4, c4, rfl, _⟩ := hk.unlv
  obtain ⟨G4, H2⟩ := H.resK hx hk
  clear H hx hk
  have H := H2
  clear H2
  have hr_ := H.rules; simp only [Rules, and_true] at hr_; have hd_ := H.dif; simp only [Dif, Neq, and_true] at hd_; obtain ⟨ho_, hz_⟩ := H.old0
  go_wp2_with fail
  (try clear hr_ hd_ ho_ hz_)
  refine callsH (by (repeat (first | with_reducible exact H | with_reducible exact H0_ | with_reducible apply Hp.alloc | with_reducible apply Hp.allocMap | with_reducible apply Hp.drew | with_reducible apply Hp.drewN | with_reducible apply Hp.set)); (try any_goals (repeat (first | with_reducible exact Upd.head | with_reducible apply Upd.tail)))) ?_
  clear H; intro w3 H; (try simp only [size_drew_, size_drewN_, World.size_alloc, World.size_setCell, List.set_cons_zero, List.set_cons_succ] at H)
  refine (lentMembers_ (fun m _ => lentMember m) (H5.out.ext0 H.ext) rfl).mono ?_
  rintro e w2 ⟨A5, c5, rfl, hk, hx⟩
  simp only [List.length_map] at hk ⊢
  obtain ⟨G5, H2⟩ := H.resK hx hk
  clear H hx hk
  have H := H2
  clear H2
  have hr_ := H.rules; simp only [Rules, and_true] at hr_; have hd_ := H.dif; simp only [Dif, Neq, and_true] at hd_; obtain ⟨ho_, hz_⟩ := H.old0
  go_wp2_with fail
  (try clear hr_ hd_ ho_ hz_)
  refine callsH (by (repeat (first | with_reducible exact H | with_reducible exact H0_ | with_reducible apply Hp.alloc | with_reducible apply Hp.allocMap | with_reducible apply Hp.drew | with_reducible apply Hp.drewN | with_reducible apply Hp.set)); (try any_goals (repeat (first | with_reducible exact Upd.head | with_reducible apply Upd.tail)))) ?_
  clear H; intro w3 H; (try simp only [size_drew_, size_drewN_, World.size_alloc, World.size_setCell, List.set_cons_zero, List.set_cons_succ] at H)
  refine (lentCtors_ (fun m _ => lentCtor m) (H6.out.ext0 H.ext) rfl).mono ?_
  rintro e w2 ⟨A6, c6, rfl, hk, hx⟩
  simp only [List.length_map] at hk ⊢
  obtain ⟨G6, H2⟩ := H.resK hx hk
  clear H hx hk
  have H := H2
  clear H2
  have hr_ := H.rules; simp only [Rules, and_true] at hr_; have hd_ := H.dif; simp only [Dif, Neq, and_true] at hd_; obtain ⟨ho_, hz_⟩ := H.old0
  go_wp2_with ((with_reducible refine atStore (t := 42) ?_); go_must (refine wpList_storeH (t := 42) rfl rfl (by go_simp <;> first | rfl | exact ⟨rfl, rfl⟩) (by go_simp <;> first | rfl | exact ⟨rfl, rfl⟩) (by exact Hp.norm (by (repeat (first | with_reducible exact H | with_reducible exact H0_ | with_reducible apply Hp.alloc | with_reducible apply Hp.allocMap | with_reducible apply Hp.drew | with_reducible apply Hp.drewN | with_reducible apply Hp.set)); (try any_goals (repeat (first | with_reducible exact Upd.head | with_reducible apply Upd.tail)))) (by ((try simp only [size_drew_, size_drewN_, World.size_alloc, World.size_setCell, List.set_cons_zero, List.set_cons_succ, List.nil_append, List.cons_append]) <;> rfl))) (by (repeat (first | with_reducible exact Upd.head | with_reducible apply Upd.tail))) (by exact aggDecl) (by rfl) (by simp [Value.oneCell']) ?_; clear H; intro w7 H; (try simp only [size_drew_, size_drewN_, World.size_alloc, World.size_setCell, List.set_cons_zero, List.set_cons_succ] at H); (try clear hr_ hd_ ho_ hz_); have hr_ := H.rules; simp only [Rules, and_true] at hr_; have hd_ := H.dif; simp only [Dif, Neq, and_true] at hd_; obtain ⟨ho_, hz_⟩ := H.old0))
  (try clear hr_ hd_ ho_ hz_)
  have k1 := H.gh (p := fun w' => KC mkD w' (fun k => w.heap.size ≤ k) x.ty.d [.int .i64 x.ty.k, .int .i64 x.ty.n, .int .i64 x.ty.a, .slice T1 x.ty.ls.length t1, .slice T2 x.ty.ks.length t2]) (by (repeat (first | with_reducible exact Pick.head | with_reducible apply Pick.tail)))
  have k2 := H.gh (p := fun w' => KC mkD w' (fun k => w.heap.size ≤ k) x.body.d [.int .i64 x.body.k, .int .i64 x.body.n, .int .i64 x.body.a, .slice B1 x.body.ls.length b1, .slice B2 x.body.ks.length b2]) (by (repeat (first | with_reducible exact Pick.head | with_reducible apply Pick.tail)))
  have k3 := H.gh (p := fun w' => KC mkD w' (fun k => w.heap.size ≤ k) (.l 35 5 (x.params.map Tm.d)) [.slice A3 x.params.length c3]) (by (repeat (first | with_reducible exact Pick.head | with_reducible apply Pick.tail)))
  have k4 := H.gh (p := fun w' => KC mkD w' (fun k => w.heap.size ≤ k) (lvD x.sort) [.slice A4 x.sort.length c4]) (by (repeat (first | with_reducible exact Pick.head | with_reducible apply Pick.tail)))
  have k5 := H.gh (p := fun w' => KC mkD w' (fun k => w.heap.size ≤ k) (.l 151 1 (x.members.map Mb.d)) [.slice A5 x.members.length c5]) (by (repeat (first | with_reducible exact Pick.head | with_reducible apply Pick.tail)))
  have k6 := H.gh (p := fun w' => KC mkD w' (fun k => w.heap.size ≤ k) (.l 153 6 (x.ctors.map Ct.d)) [.slice A6 x.ctors.length c6]) (by (repeat (first | with_reducible exact Pick.head | with_reducible apply Pick.tail)))
  refine bodyPost_ret (v := .agg #[.int .i64 x.kind, .int .i64 x.levels, .int .i64 x.ty.k, .int .i64 x.ty.n, .int .i64 x.ty.a, .slice T1 x.ty.ls.length t1, .slice T2 x.ty.ks.length t2, .int .i64 x.body.k, .int .i64 x.body.n, .int .i64 x.body.a, .slice B1 x.body.ls.length b1, .slice B2 x.body.ks.length b2, .slice A3 x.params.length c3, .slice A4 x.sort.length c4, .slice A5 x.members.length c5, .slice A6 x.ctors.length c6])
    (Res.one Tryz.results40 (H.resBox (g := w.heap.size + 1) (by (repeat (first | with_reducible exact Pick.head | with_reducible apply Pick.tail))) aggDecl rfl rfl)) rfl ⟨_, rfl, KC.dc I.out.1 I.out.2 k1 k2 k3 k4 k5 k6, H.ext⟩
theorem lentDecls {w : World} {S : Nat → Prop} {xs : List Dc} {A : Option Addr} {n c : Nat} (h : RC w S (.l 42 16 (xs.map Dc.d)) [.slice A n c]) (hn : n = xs.length) :
    Calls Tryz.prog 12 #[.slice A n c] w (PKr w 42 16 (xs.map Dc.d)) := lentDecls_ (fun d _ => lentDecl d) h hn
end Go.Proofs.YteelplgdojjakaaGreatDoor
