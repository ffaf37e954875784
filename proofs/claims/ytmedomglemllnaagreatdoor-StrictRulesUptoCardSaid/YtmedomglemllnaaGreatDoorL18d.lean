/- law 18: the chapter's example: contract. No statement of the seat is proved here. -/
import Derived.Test.YtmedomglemllnaaGreatDoorL18c
namespace Go.Proofs.YtmedomglemllnaaGreatDoor
set_option linter.unusedSimpArgs false
set_option linter.unusedVariables false
open Go.RowKit

theorem PR18.tmS {w : World} {S : Nat → Prop} {t : Tm} {e : Ending} {w' : World} (h : PR18 w S t.d e w') (hS : ∀ k, w.heap.size ≤ k → S k) : ∃ A c K k, e = .returned (.agg #[.int .i64 t.k, .int .i64 t.n, .int .i64 t.a, .slice A t.ls.length c, .slice K t.ks.length k]) ∧ RC w' S t.d [.int .i64 t.k, .int .i64 t.n, .int .i64 t.a, .slice A t.ls.length c, .slice K t.ks.length k] ∧ Ext no w w' := by
  obtain ⟨cs, rfl, h, hx⟩ := h
  obtain ⟨A, c, K, k, rfl, _⟩ := RC.tm.1 h
  exact ⟨A, c, K, k, rfl, RC.frame (Nat.le_refl _) (fun k _ hk => hk.elim id (hS k)) (fun _ _ _ => rfl) _ _ h, hx⟩
theorem PR18.dcS {w : World} {S : Nat → Prop} {d : Dc} {e : Ending} {w' : World} (h : PR18 w S d.d e w') (hS : ∀ k, w.heap.size ≤ k → S k) : ∃ Aty cty Kty kty Abody cbody Kbody kbody Aparams cparams Asort csort Amembers cmembers Actors cctors, e = .returned (.agg #[.int .i64 d.kind, .int .i64 d.levels, .int .i64 d.ty.k, .int .i64 d.ty.n, .int .i64 d.ty.a, .slice Aty d.ty.ls.length cty, .slice Kty d.ty.ks.length kty, .int .i64 d.body.k, .int .i64 d.body.n, .int .i64 d.body.a, .slice Abody d.body.ls.length cbody, .slice Kbody d.body.ks.length kbody, .slice Aparams d.params.length cparams, .slice Asort d.sort.length csort, .slice Amembers d.members.length cmembers, .slice Actors d.ctors.length cctors]) ∧ RC w' S d.d [.int .i64 d.kind, .int .i64 d.levels, .int .i64 d.ty.k, .int .i64 d.ty.n, .int .i64 d.ty.a, .slice Aty d.ty.ls.length cty, .slice Kty d.ty.ks.length kty, .int .i64 d.body.k, .int .i64 d.body.n, .int .i64 d.body.a, .slice Abody d.body.ls.length cbody, .slice Kbody d.body.ks.length kbody, .slice Aparams d.params.length cparams, .slice Asort d.sort.length csort, .slice Amembers d.members.length cmembers, .slice Actors d.ctors.length cctors] ∧ Ext no w w' := by
  obtain ⟨cs, rfl, h, hx⟩ := h
  obtain ⟨Aty, cty, Kty, kty, Abody, cbody, Kbody, kbody, Aparams, cparams, Asort, csort, Amembers, cmembers, Actors, cctors, rfl, _⟩ := RC.dc.1 h
  exact ⟨Aty, cty, Kty, kty, Abody, cbody, Kbody, kbody, Aparams, cparams, Asort, csort, Amembers, cmembers, Actors, cctors, rfl, RC.frame (Nat.le_refl _) (fun k _ hk => hk.elim id (hS k)) (fun _ _ _ => rfl) _ _ h, hx⟩
theorem RCs.one18 {w : World} {S : Nat → Prop} {d : D} {cs : List Value} (h : RC w S d cs) : RCs w S [d] cs := by
  unfold RCs
  exact ⟨cs, [], by simp, h, by unfold RCs; rfl⟩
theorem callsH2 {P : Program} {X : Nat → Prop} {w0 w6 : World} {l : List Ch} {W : World} {f : FuncId} {args : Array Value} {R : Ending → World → Prop} (H : Hp X w0 W l) (hx : Ext no w6 W) (h : ∀ w', Hp X w0 w' l → Ext no w6 w' → Calls P f args w' R) : Calls P f args W R := h W H hx
theorem wpList_storeX {P : Program} {X : Nat → Prop} {w0 w : World} {l l' : List Ch} {ops : Array Oper} {rest : List Oper} {o : Oper} {a : Act} {Q : Exit → Act → World → Prop} (hgd : o.guard = none) {t : Nat} {x y : Operand} {g e : Nat} {cs cs' : List Value} (ho : o.op = .store t x y) (hx : a.eval x = .pointer (some ⟨g, 0, none⟩)) (hy : a.eval y = .agg cs'.toArray) (H : Hp X w0 w l) (u : Upd l (.box g e cs) (.box g e cs') l')
    (hT : AggT P t cs'.length) (hl : cs.length = cs'.length) (h1 : ∀ u ∈ cs', u.oneCell' = true) (h : ∀ w', Hp X w0 w' l' → Ext (fun k => k = g) w w' → wpList P ops Q rest (a.put o.dst undef) w') : wpList P ops Q (o :: rest) a w :=
  wpList_plain hgd fun K hK => by
    obtain ⟨d, hu, hd, hi⟩ := hT
    have hb : Blk w g e cs.toArray := by
      exact u.pick.elim fun _ p => H.blk p
    refine wp_store_row t x y ho g cs'.toArray hx hy e cs.toArray hb (by simpa using hi) (by simpa using hl) (by simpa using h1) (hK _ _ (h _ (H.put u ?_ (setRow_heap _ _ _ _ _ _ hb)) ?_))
    · exact ⟨rfl, rfl, rfl, by simp, fun k hk hne => by simp [World.setRow, Array.getElem?_modify, Ne.symm hne]⟩
    · exact ⟨rfl, rfl, rfl, by simp, fun k hk hne => by simp [World.setRow, Array.getElem?_modify, Ne.symm hne]⟩
abbrev v18T (n : Int) : Tm := .mk 1 n 0 [] []
abbrev self18T (n : Int) : Tm := .mk 11 0 n [] []
abbrev ind18T (n : Int) : Tm := .mk 8 n 0 [] []
abbrev lists18 : Dc := block18 1 [self18T 0, aboveT 4 [v18T 0, self18T 0] (self18T 0)]
abbrev arrows18 : Dc := block18 1 [aboveT 4 [aboveT 4 [v18T 0] sort18T] (self18T 0)]
set_option maxRecDepth 100000 in
set_option maxHeartbeats 16000000 in
theorem lists18_calls {w : World} : Calls Tryz.prog 51 #[] w (PR18 w anyW lists18.d) := by
  go_enter Tryz.func51, Tryz.ntmps51
  have H := Hp.start no w
  have HLT : Hid (w.heap.size < (w.alloc (.cells #[.int .i64 0, .int .i64 0, .int .i64 0, .int .i64 0, .int .i64 0, .slice none 0 0, .slice none 0 0, .int .i64 0, .int .i64 0, .int .i64 0, .slice none 0 0, .slice none 0 0, .slice none 0 0, .slice none 0 0, .slice none 0 0, .slice none 0 0] 51)).heap.size) := Lib.hid (by simp)
  go_wp2_with fail
  refine callsH2 (w6 := (w.alloc (.cells #[.int .i64 0, .int .i64 0, .int .i64 0, .int .i64 0, .int .i64 0, .slice none 0 0, .slice none 0 0, .int .i64 0, .int .i64 0, .int .i64 0, .slice none 0 0, .slice none 0 0, .slice none 0 0, .slice none 0 0, .slice none 0 0, .slice none 0 0] 51))) (by (repeat (first | with_reducible exact H | with_reducible apply Hp.alloc | with_reducible apply Hp.allocMap))) (by first | exact Ext.refl _ _ | exact (Ext.refl _ _).alloc _ | exact ((Ext.refl _ _).alloc _).alloc _ | exact (((Ext.refl _ _).alloc _).alloc _).alloc _) ?_
  clear H; intro wa1_ H HX_; (try simp only [size_drew_, size_drewN_, World.size_alloc, World.size_setCell, List.set_cons_zero, List.set_cons_succ] at H)
  have HLT := Lib.hid (show w.heap.size < wa1_.heap.size from Nat.lt_of_lt_of_le HLT.out HX_.size)
  clear HX_
  refine (self18_calls (n := 0)).mono ?_
  intro e wb2_ hpr_
  obtain ⟨rfl, hx_⟩ := hpr_
  replace H := H.call hx_
  have HLT := Lib.hid (show w.heap.size < wb2_.heap.size from Nat.lt_of_lt_of_le HLT.out hx_.size)
  clear hx_
  go_wp2_with fail
  refine callsH2 (w6 := wb2_) (by (repeat (first | with_reducible exact H | with_reducible apply Hp.alloc | with_reducible apply Hp.allocMap))) (by first | exact Ext.refl _ _ | exact (Ext.refl _ _).alloc _ | exact ((Ext.refl _ _).alloc _).alloc _ | exact (((Ext.refl _ _).alloc _).alloc _).alloc _) ?_
  clear H; intro wa3_ H HX_; (try simp only [size_drew_, size_drewN_, World.size_alloc, World.size_setCell, List.set_cons_zero, List.set_cons_succ] at H)
  have HLT := Lib.hid (show w.heap.size < wa3_.heap.size from Nat.lt_of_lt_of_le HLT.out HX_.size)
  clear HX_
  refine (self18_calls (n := 0)).mono ?_
  intro e wb4_ hpr_
  obtain ⟨rfl, hx_⟩ := hpr_
  replace H := H.call hx_
  have HLT := Lib.hid (show w.heap.size < wb4_.heap.size from Nat.lt_of_lt_of_le HLT.out hx_.size)
  clear hx_
  go_wp2_with fail
  refine callsH2 (w6 := wb4_) (by (repeat (first | with_reducible exact H | with_reducible apply Hp.alloc | with_reducible apply Hp.allocMap))) (by first | exact Ext.refl _ _ | exact (Ext.refl _ _).alloc _ | exact ((Ext.refl _ _).alloc _).alloc _ | exact (((Ext.refl _ _).alloc _).alloc _).alloc _) ?_
  clear H; intro wa5_ H HX_; (try simp only [size_drew_, size_drewN_, World.size_alloc, World.size_setCell, List.set_cons_zero, List.set_cons_succ] at H)
  have HLT := Lib.hid (show w.heap.size < wa5_.heap.size from Nat.lt_of_lt_of_le HLT.out HX_.size)
  clear HX_
  refine (v18_calls (n := 0)).mono ?_
  intro e wb6_ hpr_
  obtain ⟨rfl, hx_⟩ := hpr_
  replace H := H.call hx_
  have HLT := Lib.hid (show w.heap.size < wb6_.heap.size from Nat.lt_of_lt_of_le HLT.out hx_.size)
  clear hx_
  go_wp2_with fail
  refine callsH2 (w6 := wb6_) (by (repeat (first | with_reducible exact H | with_reducible apply Hp.alloc | with_reducible apply Hp.allocMap))) (by first | exact Ext.refl _ _ | exact (Ext.refl _ _).alloc _ | exact ((Ext.refl _ _).alloc _).alloc _ | exact (((Ext.refl _ _).alloc _).alloc _).alloc _) ?_
  clear H; intro wa7_ H HX_; (try simp only [size_drew_, size_drewN_, World.size_alloc, World.size_setCell, List.set_cons_zero, List.set_cons_succ] at H)
  have HLT := Lib.hid (show w.heap.size < wa7_.heap.size from Nat.lt_of_lt_of_le HLT.out HX_.size)
  clear HX_
  refine (self18_calls (n := 0)).mono ?_
  intro e wb8_ hpr_
  obtain ⟨rfl, hx_⟩ := hpr_
  replace H := H.call hx_
  have HLT := Lib.hid (show w.heap.size < wb8_.heap.size from Nat.lt_of_lt_of_le HLT.out hx_.size)
  clear hx_
  have HLT0 := Lib.hid HLT.out
  go_wp2_with fail
  refine callsH2 (w6 := wb8_) (by (repeat (first | with_reducible exact H | with_reducible apply Hp.alloc | with_reducible apply Hp.allocMap))) (by first | exact Ext.refl _ _ | exact (Ext.refl _ _).alloc _ | exact ((Ext.refl _ _).alloc _).alloc _ | exact (((Ext.refl _ _).alloc _).alloc _).alloc _) ?_
  clear H; intro wa9_ H HX_; (try simp only [size_drew_, size_drewN_, World.size_alloc, World.size_setCell, List.set_cons_zero, List.set_cons_succ] at H)
  have HLT := Lib.hid (show w.heap.size < wa9_.heap.size from Nat.lt_of_lt_of_le HLT.out HX_.size)
  clear HX_
  refine (pi18_calls (S := (fun k => k ≠ w.heap.size)) (b := self18T 0) (cb := [.int .i64 11, .int .i64 0, .int .i64 0, .slice none 0 0, .slice none 0 0]) (row := [v18T 0, self18T 0]) (tN18 (inI18 (by decide) (by decide)) (inI18 (by decide) (by decide)) (inI18 (by decide) (by decide))) (RC.blkRow (S := (fun k => k ≠ w.heap.size)) (e := 26) (z := 5) (n := 2) (ds := ([v18T 0, self18T 0]).map Tm.d) (cs := [.int .i64 1, .int .i64 0, .int .i64 0, .slice none 0 0, .slice none 0 0] ++ [.int .i64 11, .int .i64 0, .int .i64 0, .slice none 0 0, .slice none 0 0]) (H.blk .head) (by have := HLT0.out; simp only [ne_eq]; omega) (RCs.two (tN18 (inI18 (by decide) (by decide)) (inI18 (by decide) (by decide)) (inI18 (by decide) (by decide))) (tN18 (inI18 (by decide) (by decide)) (inI18 (by decide) (by decide)) (inI18 (by decide) (by decide)))) (by simp [Tm.size_d]) rfl (by unfold M; simp))).mono ?_
  intro e wb10_ hpr_
  obtain ⟨Ap, cp, Kp, kp, rfl, hr_, hx_⟩ := hpr_.tmS (fun k hk e => by have := HLT.out; have hk2 := hk; rw [e] at hk2; omega)
  have HRp := Lib.hid hr_
  clear hr_ hpr_
  replace H := H.call hx_
  have HLT := Lib.hid (show w.heap.size < wb10_.heap.size from Nat.lt_of_lt_of_le HLT.out hx_.size)
  clear hx_
  have HLT0 := Lib.hid HLT.out
  go_wp2_with fail
  refine callsH2 (w6 := wb10_) (by (repeat (first | with_reducible exact H | with_reducible apply Hp.alloc | with_reducible apply Hp.allocMap))) (by first | exact Ext.refl _ _ | exact (Ext.refl _ _).alloc _ | exact ((Ext.refl _ _).alloc _).alloc _ | exact (((Ext.refl _ _).alloc _).alloc _).alloc _) ?_
  clear H; intro wa11_ H HX_; (try simp only [size_drew_, size_drewN_, World.size_alloc, World.size_setCell, List.set_cons_zero, List.set_cons_succ] at H)
  have HRp := Lib.hid (HRp.out.ext0 HX_)
  have HLT := Lib.hid (show w.heap.size < wa11_.heap.size from Nat.lt_of_lt_of_le HLT.out HX_.size)
  clear HX_
  refine (block18_calls (S := (fun k => k ≠ w.heap.size)) (P := 1) (types := [self18T 0, aboveT 4 [v18T 0, self18T 0] (self18T 0)]) (by omega) (RC.blkRow (S := (fun k => k ≠ w.heap.size)) (e := 26) (z := 5) (n := 2) (ds := ([self18T 0, aboveT 4 [v18T 0, self18T 0] (self18T 0)]).map Tm.d) (cs := [.int .i64 11, .int .i64 0, .int .i64 0, .slice none 0 0, .slice none 0 0] ++ [.int .i64 (aboveT 4 [v18T 0, self18T 0] (self18T 0)).k, .int .i64 (aboveT 4 [v18T 0, self18T 0] (self18T 0)).n, .int .i64 (aboveT 4 [v18T 0, self18T 0] (self18T 0)).a, .slice Ap (aboveT 4 [v18T 0, self18T 0] (self18T 0)).ls.length cp, .slice Kp (aboveT 4 [v18T 0, self18T 0] (self18T 0)).ks.length kp]) (H.blk .head) (by have := HLT0.out; simp only [ne_eq]; omega) (RCs.two (tN18 (inI18 (by decide) (by decide)) (inI18 (by decide) (by decide)) (inI18 (by decide) (by decide))) HRp.out) (by simp [Tm.size_d]) rfl (by unfold M; simp)) (by simp)).mono ?_
  intro e wb12_ hpr_
  obtain ⟨Atyd, ctyd, Ktyd, ktyd, Abodyd, cbodyd, Kbodyd, kbodyd, Aparamsd, cparamsd, Asortd, csortd, Amembersd, cmembersd, Actorsd, cctorsd, rfl, hr_, hx_⟩ := PR18.dcS (d := lists18) hpr_ (fun k hk e => by have := HLT.out; have hk2 := hk; rw [e] at hk2; omega)
  have HRd := Lib.hid hr_
  clear hr_ hpr_
  replace H := H.call hx_
  have HRp := Lib.hid (HRp.out.ext0 hx_)
  have HLT := Lib.hid (show w.heap.size < wb12_.heap.size from Nat.lt_of_lt_of_le HLT.out hx_.size)
  clear hx_
  have hr_ := H.rules; simp only [Rules, and_true] at hr_; have hd_ := H.dif; simp only [Dif, Neq, and_true] at hd_; obtain ⟨ho_, hz_⟩ := H.old0
  go_wp2_with ((with_reducible refine atStore (t := 51) ?_); go_must (refine wpList_storeX (t := 51) rfl rfl (by go_simp <;> first | rfl | exact ⟨rfl, rfl⟩) (by go_simp <;> first | rfl | exact ⟨rfl, rfl⟩) H (by (repeat (first | with_reducible exact Upd.head | with_reducible apply Upd.tail))) (by exact aggDecl) (by rfl) (by simp [Value.oneCell']) ?_; clear H; intro w9 H HXS))
  (try clear hr_ hd_ ho_ hz_)
  have hres := (HRd.out.ext HXS (fun k _ hk e => hk e)).any
  exact bodyPost_ret (v := .agg #[.int .i64 (lists18).kind, .int .i64 (lists18).levels, .int .i64 (lists18).ty.k, .int .i64 (lists18).ty.n, .int .i64 (lists18).ty.a, .slice Atyd (lists18).ty.ls.length ctyd, .slice Ktyd (lists18).ty.ks.length ktyd, .int .i64 (lists18).body.k, .int .i64 (lists18).body.n, .int .i64 (lists18).body.a, .slice Abodyd (lists18).body.ls.length cbodyd, .slice Kbodyd (lists18).body.ks.length kbodyd, .slice Aparamsd (lists18).params.length cparamsd, .slice Asortd (lists18).sort.length csortd, .slice Amembersd (lists18).members.length cmembersd, .slice Actorsd (lists18).ctors.length cctorsd]) (Res.one Tryz.results51 (H.resBox (g := w.heap.size) (by (repeat (first | with_reducible exact Pick.head | with_reducible apply Pick.tail))) aggDecl rfl rfl)) rfl ⟨_, rfl, RC.frame (Nat.le_refl _) (fun _ _ _ => .inl trivial) (fun _ _ _ => rfl) _ _ hres, H.ext⟩
set_option maxRecDepth 100000 in
set_option maxHeartbeats 16000000 in
theorem arrows18_calls {w : World} : Calls Tryz.prog 52 #[] w (PR18 w anyW arrows18.d) := by
  go_enter Tryz.func52, Tryz.ntmps52
  have H := Hp.start no w
  have HLT : Hid (w.heap.size < (w.alloc (.cells #[.int .i64 0, .int .i64 0, .int .i64 0, .int .i64 0, .int .i64 0, .slice none 0 0, .slice none 0 0, .int .i64 0, .int .i64 0, .int .i64 0, .slice none 0 0, .slice none 0 0, .slice none 0 0, .slice none 0 0, .slice none 0 0, .slice none 0 0] 51)).heap.size) := Lib.hid (by simp)
  go_wp2_with fail
  refine callsH2 (w6 := (w.alloc (.cells #[.int .i64 0, .int .i64 0, .int .i64 0, .int .i64 0, .int .i64 0, .slice none 0 0, .slice none 0 0, .int .i64 0, .int .i64 0, .int .i64 0, .slice none 0 0, .slice none 0 0, .slice none 0 0, .slice none 0 0, .slice none 0 0, .slice none 0 0] 51))) (by (repeat (first | with_reducible exact H | with_reducible apply Hp.alloc | with_reducible apply Hp.allocMap))) (by first | exact Ext.refl _ _ | exact (Ext.refl _ _).alloc _ | exact ((Ext.refl _ _).alloc _).alloc _ | exact (((Ext.refl _ _).alloc _).alloc _).alloc _) ?_
  clear H; intro wa1_ H HX_; (try simp only [size_drew_, size_drewN_, World.size_alloc, World.size_setCell, List.set_cons_zero, List.set_cons_succ] at H)
  have HLT := Lib.hid (show w.heap.size < wa1_.heap.size from Nat.lt_of_lt_of_le HLT.out HX_.size)
  clear HX_
  refine (self18_calls (n := 0)).mono ?_
  intro e wb2_ hpr_
  obtain ⟨rfl, hx_⟩ := hpr_
  replace H := H.call hx_
  have HLT := Lib.hid (show w.heap.size < wb2_.heap.size from Nat.lt_of_lt_of_le HLT.out hx_.size)
  clear hx_
  go_wp2_with fail
  refine callsH2 (w6 := wb2_) (by (repeat (first | with_reducible exact H | with_reducible apply Hp.alloc | with_reducible apply Hp.allocMap))) (by first | exact Ext.refl _ _ | exact (Ext.refl _ _).alloc _ | exact ((Ext.refl _ _).alloc _).alloc _ | exact (((Ext.refl _ _).alloc _).alloc _).alloc _) ?_
  clear H; intro wa3_ H HX_; (try simp only [size_drew_, size_drewN_, World.size_alloc, World.size_setCell, List.set_cons_zero, List.set_cons_succ] at H)
  have HLT := Lib.hid (show w.heap.size < wa3_.heap.size from Nat.lt_of_lt_of_le HLT.out HX_.size)
  clear HX_
  refine (sort18_calls (S := (fun k => k ≠ w.heap.size))).mono ?_
  intro e wb4_ hpr_
  obtain ⟨As, cs, Ks, ks, rfl, hr_, hx_⟩ := hpr_.tmS (fun k hk e => by have := HLT.out; have hk2 := hk; rw [e] at hk2; omega)
  have HRs := Lib.hid hr_
  clear hr_ hpr_
  replace H := H.call hx_
  have HLT := Lib.hid (show w.heap.size < wb4_.heap.size from Nat.lt_of_lt_of_le HLT.out hx_.size)
  clear hx_
  go_wp2_with fail
  refine callsH2 (w6 := wb4_) (by (repeat (first | with_reducible exact H | with_reducible apply Hp.alloc | with_reducible apply Hp.allocMap))) (by first | exact Ext.refl _ _ | exact (Ext.refl _ _).alloc _ | exact ((Ext.refl _ _).alloc _).alloc _ | exact (((Ext.refl _ _).alloc _).alloc _).alloc _) ?_
  clear H; intro wa5_ H HX_; (try simp only [size_drew_, size_drewN_, World.size_alloc, World.size_setCell, List.set_cons_zero, List.set_cons_succ] at H)
  have HRs := Lib.hid (HRs.out.ext0 HX_)
  have HLT := Lib.hid (show w.heap.size < wa5_.heap.size from Nat.lt_of_lt_of_le HLT.out HX_.size)
  clear HX_
  refine (v18_calls (n := 0)).mono ?_
  intro e wb6_ hpr_
  obtain ⟨rfl, hx_⟩ := hpr_
  replace H := H.call hx_
  have HRs := Lib.hid (HRs.out.ext0 hx_)
  have HLT := Lib.hid (show w.heap.size < wb6_.heap.size from Nat.lt_of_lt_of_le HLT.out hx_.size)
  clear hx_
  have HLT0 := Lib.hid HLT.out
  go_wp2_with fail
  refine callsH2 (w6 := wb6_) (by (repeat (first | with_reducible exact H | with_reducible apply Hp.alloc | with_reducible apply Hp.allocMap))) (by first | exact Ext.refl _ _ | exact (Ext.refl _ _).alloc _ | exact ((Ext.refl _ _).alloc _).alloc _ | exact (((Ext.refl _ _).alloc _).alloc _).alloc _) ?_
  clear H; intro wa7_ H HX_; (try simp only [size_drew_, size_drewN_, World.size_alloc, World.size_setCell, List.set_cons_zero, List.set_cons_succ] at H)
  have HRs := Lib.hid (HRs.out.ext0 HX_)
  have HLT := Lib.hid (show w.heap.size < wa7_.heap.size from Nat.lt_of_lt_of_le HLT.out HX_.size)
  clear HX_
  refine (pi18_calls (S := (fun k => k ≠ w.heap.size)) (b := sort18T) (cb := [.int .i64 (sort18T).k, .int .i64 (sort18T).n, .int .i64 (sort18T).a, .slice As (sort18T).ls.length cs, .slice Ks (sort18T).ks.length ks]) (row := [v18T 0]) HRs.out (RC.blkRow (S := (fun k => k ≠ w.heap.size)) (e := 26) (z := 5) (n := 1) (ds := ([v18T 0]).map Tm.d) (cs := [.int .i64 1, .int .i64 0, .int .i64 0, .slice none 0 0, .slice none 0 0]) (H.blk .head) (by have := HLT0.out; simp only [ne_eq]; omega) (RCs.one18 (tN18 (inI18 (by decide) (by decide)) (inI18 (by decide) (by decide)) (inI18 (by decide) (by decide)))) (by simp [Tm.size_d]) rfl (by unfold M; simp))).mono ?_
  intro e wb8_ hpr_
  obtain ⟨Ap, cp, Kp, kp, rfl, hr_, hx_⟩ := hpr_.tmS (fun k hk e => by have := HLT.out; have hk2 := hk; rw [e] at hk2; omega)
  have HRp := Lib.hid hr_
  clear hr_ hpr_
  replace H := H.call hx_
  have HRs := Lib.hid (HRs.out.ext0 hx_)
  have HLT := Lib.hid (show w.heap.size < wb8_.heap.size from Nat.lt_of_lt_of_le HLT.out hx_.size)
  clear hx_
  have HLT0 := Lib.hid HLT.out
  go_wp2_with fail
  refine callsH2 (w6 := wb8_) (by (repeat (first | with_reducible exact H | with_reducible apply Hp.alloc | with_reducible apply Hp.allocMap))) (by first | exact Ext.refl _ _ | exact (Ext.refl _ _).alloc _ | exact ((Ext.refl _ _).alloc _).alloc _ | exact (((Ext.refl _ _).alloc _).alloc _).alloc _) ?_
  clear H; intro wa9_ H HX_; (try simp only [size_drew_, size_drewN_, World.size_alloc, World.size_setCell, List.set_cons_zero, List.set_cons_succ] at H)
  have HRs := Lib.hid (HRs.out.ext0 HX_)
  have HRp := Lib.hid (HRp.out.ext0 HX_)
  have HLT := Lib.hid (show w.heap.size < wa9_.heap.size from Nat.lt_of_lt_of_le HLT.out HX_.size)
  clear HX_
  refine (pi18_calls (S := (fun k => k ≠ w.heap.size)) (b := self18T 0) (cb := [.int .i64 11, .int .i64 0, .int .i64 0, .slice none 0 0, .slice none 0 0]) (row := [aboveT 4 [v18T 0] (sort18T)]) (tN18 (inI18 (by decide) (by decide)) (inI18 (by decide) (by decide)) (inI18 (by decide) (by decide))) (RC.blkRow (S := (fun k => k ≠ w.heap.size)) (e := 26) (z := 5) (n := 1) (ds := ([aboveT 4 [v18T 0] (sort18T)]).map Tm.d) (cs := [.int .i64 (aboveT 4 [v18T 0] (sort18T)).k, .int .i64 (aboveT 4 [v18T 0] (sort18T)).n, .int .i64 (aboveT 4 [v18T 0] (sort18T)).a, .slice Ap (aboveT 4 [v18T 0] (sort18T)).ls.length cp, .slice Kp (aboveT 4 [v18T 0] (sort18T)).ks.length kp]) (H.blk .head) (by have := HLT0.out; simp only [ne_eq]; omega) (RCs.one18 HRp.out) (by simp [Tm.size_d]) rfl (by unfold M; simp))).mono ?_
  intro e wb10_ hpr_
  obtain ⟨Aq, cq, Kq, kq, rfl, hr_, hx_⟩ := hpr_.tmS (fun k hk e => by have := HLT.out; have hk2 := hk; rw [e] at hk2; omega)
  have HRq := Lib.hid hr_
  clear hr_ hpr_
  replace H := H.call hx_
  have HRs := Lib.hid (HRs.out.ext0 hx_)
  have HRp := Lib.hid (HRp.out.ext0 hx_)
  have HLT := Lib.hid (show w.heap.size < wb10_.heap.size from Nat.lt_of_lt_of_le HLT.out hx_.size)
  clear hx_
  have HLT0 := Lib.hid HLT.out
  go_wp2_with fail
  refine callsH2 (w6 := wb10_) (by (repeat (first | with_reducible exact H | with_reducible apply Hp.alloc | with_reducible apply Hp.allocMap))) (by first | exact Ext.refl _ _ | exact (Ext.refl _ _).alloc _ | exact ((Ext.refl _ _).alloc _).alloc _ | exact (((Ext.refl _ _).alloc _).alloc _).alloc _) ?_
  clear H; intro wa11_ H HX_; (try simp only [size_drew_, size_drewN_, World.size_alloc, World.size_setCell, List.set_cons_zero, List.set_cons_succ] at H)
  have HRs := Lib.hid (HRs.out.ext0 HX_)
  have HRp := Lib.hid (HRp.out.ext0 HX_)
  have HRq := Lib.hid (HRq.out.ext0 HX_)
  have HLT := Lib.hid (show w.heap.size < wa11_.heap.size from Nat.lt_of_lt_of_le HLT.out HX_.size)
  clear HX_
  refine (block18_calls (S := (fun k => k ≠ w.heap.size)) (P := 1) (types := [aboveT 4 [aboveT 4 [v18T 0] (sort18T)] (self18T 0)]) (by omega) (RC.blkRow (S := (fun k => k ≠ w.heap.size)) (e := 26) (z := 5) (n := 1) (ds := ([aboveT 4 [aboveT 4 [v18T 0] (sort18T)] (self18T 0)]).map Tm.d) (cs := [.int .i64 (aboveT 4 [aboveT 4 [v18T 0] (sort18T)] (self18T 0)).k, .int .i64 (aboveT 4 [aboveT 4 [v18T 0] (sort18T)] (self18T 0)).n, .int .i64 (aboveT 4 [aboveT 4 [v18T 0] (sort18T)] (self18T 0)).a, .slice Aq (aboveT 4 [aboveT 4 [v18T 0] (sort18T)] (self18T 0)).ls.length cq, .slice Kq (aboveT 4 [aboveT 4 [v18T 0] (sort18T)] (self18T 0)).ks.length kq]) (H.blk .head) (by have := HLT0.out; simp only [ne_eq]; omega) (RCs.one18 HRq.out) (by simp [Tm.size_d]) rfl (by unfold M; simp)) (by simp)).mono ?_
  intro e wb12_ hpr_
  obtain ⟨Atyd, ctyd, Ktyd, ktyd, Abodyd, cbodyd, Kbodyd, kbodyd, Aparamsd, cparamsd, Asortd, csortd, Amembersd, cmembersd, Actorsd, cctorsd, rfl, hr_, hx_⟩ := PR18.dcS (d := arrows18) hpr_ (fun k hk e => by have := HLT.out; have hk2 := hk; rw [e] at hk2; omega)
  have HRd := Lib.hid hr_
  clear hr_ hpr_
  replace H := H.call hx_
  have HRs := Lib.hid (HRs.out.ext0 hx_)
  have HRp := Lib.hid (HRp.out.ext0 hx_)
  have HRq := Lib.hid (HRq.out.ext0 hx_)
  have HLT := Lib.hid (show w.heap.size < wb12_.heap.size from Nat.lt_of_lt_of_le HLT.out hx_.size)
  clear hx_
  have hr_ := H.rules; simp only [Rules, and_true] at hr_; have hd_ := H.dif; simp only [Dif, Neq, and_true] at hd_; obtain ⟨ho_, hz_⟩ := H.old0
  go_wp2_with ((with_reducible refine atStore (t := 51) ?_); go_must (refine wpList_storeX (t := 51) rfl rfl (by go_simp <;> first | rfl | exact ⟨rfl, rfl⟩) (by go_simp <;> first | rfl | exact ⟨rfl, rfl⟩) H (by (repeat (first | with_reducible exact Upd.head | with_reducible apply Upd.tail))) (by exact aggDecl) (by rfl) (by simp [Value.oneCell']) ?_; clear H; intro w9 H HXS))
  (try clear hr_ hd_ ho_ hz_)
  have hres := (HRd.out.ext HXS (fun k _ hk e => hk e)).any
  exact bodyPost_ret (v := .agg #[.int .i64 (arrows18).kind, .int .i64 (arrows18).levels, .int .i64 (arrows18).ty.k, .int .i64 (arrows18).ty.n, .int .i64 (arrows18).ty.a, .slice Atyd (arrows18).ty.ls.length ctyd, .slice Ktyd (arrows18).ty.ks.length ktyd, .int .i64 (arrows18).body.k, .int .i64 (arrows18).body.n, .int .i64 (arrows18).body.a, .slice Abodyd (arrows18).body.ls.length cbodyd, .slice Kbodyd (arrows18).body.ks.length kbodyd, .slice Aparamsd (arrows18).params.length cparamsd, .slice Asortd (arrows18).sort.length csortd, .slice Amembersd (arrows18).members.length cmembersd, .slice Actorsd (arrows18).ctors.length cctorsd]) (Res.one Tryz.results52 (H.resBox (g := w.heap.size) (by (repeat (first | with_reducible exact Pick.head | with_reducible apply Pick.tail))) aggDecl rfl rfl)) rfl ⟨_, rfl, RC.frame (Nat.le_refl _) (fun _ _ _ => .inl trivial) (fun _ _ _ => rfl) _ _ hres, H.ext⟩
end Go.Proofs.YtmedomglemllnaaGreatDoor
