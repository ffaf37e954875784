/- law 18: the chapter's example: contract. No statement of the seat is proved here. -/
import Derived.Test.YtmedomglemllnaaGreatDoorL18d
namespace Go.Proofs.YtmedomglemllnaaGreatDoor
set_option linter.unusedSimpArgs false
set_option linter.unusedVariables false
open Go.RowKit

abbrev l18 : List Dc := [lists18, arrows18]
abbrev rose18 : Dc := block18 0 [aboveT 4 [appsT (ind18T 0) [self18T 0]] (self18T 0)]
abbrev odd18 : Dc := block18 0 [aboveT 4 [appsT (ind18T 1) [self18T 0]] (self18T 0)]
theorem sm18 (d : Dc) (h : d ∈ [lists18, arrows18, rose18, odd18]) : SmDc d := by
  simp only [List.mem_cons, List.not_mem_nil, or_false] at h
  rcases h with rfl | rfl | rfl | rfl
  all_goals exact ⟨by decide +kernel, by decide +kernel, by decide +kernel⟩
theorem aw18_1 : paramV l18 0 0 = true := by decide +kernel
theorem aw18_2 : paramV l18 1 0 = false := by decide +kernel
theorem aw18_3 : positiveV l18 rose18 = true := by decide +kernel
theorem aw18_4 : positiveV l18 odd18 = false := by decide +kernel
set_option maxRecDepth 100000 in
set_option maxHeartbeats 32000000 in
theorem awake18_calls {w : World} (hT : Tab w) : Calls Tryz.prog 39 #[] w (PV w (.bool true)) := by
  have HT := Lib.hid hT
  clear hT
  go_enter Tryz.func39, Tryz.ntmps39
  have H := Hp.start no w
  go_wp2_with fail
  refine callsH2 (w6 := w) (by (repeat (first | with_reducible exact H | with_reducible apply Hp.alloc | with_reducible apply Hp.allocMap))) (by first | exact Ext.refl _ _ | exact (Ext.refl _ _).alloc _ | exact ((Ext.refl _ _).alloc _).alloc _ | exact (((Ext.refl _ _).alloc _).alloc _).alloc _) ?_
  clear H; intro wa1_ H HX_; (try simp only [size_drew_, size_drewN_, World.size_alloc, World.size_setCell, List.set_cons_zero, List.set_cons_succ] at H)
  skip
  clear HX_
  refine (lists18_calls).mono ?_
  intro e wb2_ hpr_
  obtain ⟨Atyl, ctyl, Ktyl, ktyl, Abodyl, cbodyl, Kbodyl, kbodyl, Aparamsl, cparamsl, Asortl, csortl, Amembersl, cmembersl, Actorsl, cctorsl, rfl, hr_, hx_⟩ := PR18.dcS (d := lists18) hpr_ (fun k hk => trivial)
  have HRl := Lib.hid hr_
  clear hr_ hpr_
  replace H := H.call hx_
  clear hx_
  go_wp2_with fail
  refine callsH2 (w6 := wb2_) (by (repeat (first | with_reducible exact H | with_reducible apply Hp.alloc | with_reducible apply Hp.allocMap))) (by first | exact Ext.refl _ _ | exact (Ext.refl _ _).alloc _ | exact ((Ext.refl _ _).alloc _).alloc _ | exact (((Ext.refl _ _).alloc _).alloc _).alloc _) ?_
  clear H; intro wa3_ H HX_; (try simp only [size_drew_, size_drewN_, World.size_alloc, World.size_setCell, List.set_cons_zero, List.set_cons_succ] at H)
  have HRl := Lib.hid (HRl.out.ext0 HX_)
  skip
  clear HX_
  refine (arrows18_calls).mono ?_
  intro e wb4_ hpr_
  obtain ⟨Atya, ctya, Ktya, ktya, Abodya, cbodya, Kbodya, kbodya, Aparamsa, cparamsa, Asorta, csorta, Amembersa, cmembersa, Actorsa, cctorsa, rfl, hr_, hx_⟩ := PR18.dcS (d := arrows18) hpr_ (fun k hk => trivial)
  have HRa := Lib.hid hr_
  clear hr_ hpr_
  replace H := H.call hx_
  have HRl := Lib.hid (HRl.out.ext0 hx_)
  clear hx_
  go_wp2_with fail
  refine callsH2 (w6 := wb4_) (by (repeat (first | with_reducible exact H | with_reducible apply Hp.alloc | with_reducible apply Hp.allocMap))) (by first | exact Ext.refl _ _ | exact (Ext.refl _ _).alloc _ | exact ((Ext.refl _ _).alloc _).alloc _ | exact (((Ext.refl _ _).alloc _).alloc _).alloc _) ?_
  clear H; intro wa5_ H HX_; (try simp only [size_drew_, size_drewN_, World.size_alloc, World.size_setCell, List.set_cons_zero, List.set_cons_succ] at H)
  have HRl := Lib.hid (HRl.out.ext0 HX_)
  have HRa := Lib.hid (HRa.out.ext0 HX_)
  skip
  clear HX_
  have HRw := Lib.hid (RC.blkRow (S := anyW) (e := 51) (z := 16) (n := 2) (ds := ([lists18, arrows18]).map Dc.d) (cs := [.int .i64 (lists18).kind, .int .i64 (lists18).levels, .int .i64 (lists18).ty.k, .int .i64 (lists18).ty.n, .int .i64 (lists18).ty.a, .slice Atyl (lists18).ty.ls.length ctyl, .slice Ktyl (lists18).ty.ks.length ktyl, .int .i64 (lists18).body.k, .int .i64 (lists18).body.n, .int .i64 (lists18).body.a, .slice Abodyl (lists18).body.ls.length cbodyl, .slice Kbodyl (lists18).body.ks.length kbodyl, .slice Aparamsl (lists18).params.length cparamsl, .slice Asortl (lists18).sort.length csortl, .slice Amembersl (lists18).members.length cmembersl, .slice Actorsl (lists18).ctors.length cctorsl] ++ [.int .i64 (arrows18).kind, .int .i64 (arrows18).levels, .int .i64 (arrows18).ty.k, .int .i64 (arrows18).ty.n, .int .i64 (arrows18).ty.a, .slice Atya (arrows18).ty.ls.length ctya, .slice Ktya (arrows18).ty.ks.length ktya, .int .i64 (arrows18).body.k, .int .i64 (arrows18).body.n, .int .i64 (arrows18).body.a, .slice Abodya (arrows18).body.ls.length cbodya, .slice Kbodya (arrows18).body.ks.length kbodya, .slice Aparamsa (arrows18).params.length cparamsa, .slice Asorta (arrows18).sort.length csorta, .slice Amembersa (arrows18).members.length cmembersa, .slice Actorsa (arrows18).ctors.length cctorsa]) (H.blk .head) trivial (RCs.two HRl.out HRa.out) (by simp [Dc.size_d]) rfl (by unfold M; simp))
  refine (self18_calls (n := 0)).mono ?_
  intro e wb6_ hpr_
  obtain ⟨rfl, hx_⟩ := hpr_
  replace H := H.call hx_
  have HRl := Lib.hid (HRl.out.ext0 hx_)
  have HRa := Lib.hid (HRa.out.ext0 hx_)
  have HRw := Lib.hid (HRw.out.ext0 hx_)
  clear hx_
  go_wp2_with fail
  refine callsH2 (w6 := wb6_) (by (repeat (first | with_reducible exact H | with_reducible apply Hp.alloc | with_reducible apply Hp.allocMap))) (by first | exact Ext.refl _ _ | exact (Ext.refl _ _).alloc _ | exact ((Ext.refl _ _).alloc _).alloc _ | exact (((Ext.refl _ _).alloc _).alloc _).alloc _) ?_
  clear H; intro wa7_ H HX_; (try simp only [size_drew_, size_drewN_, World.size_alloc, World.size_setCell, List.set_cons_zero, List.set_cons_succ] at H)
  have HRl := Lib.hid (HRl.out.ext0 HX_)
  have HRa := Lib.hid (HRa.out.ext0 HX_)
  have HRw := Lib.hid (HRw.out.ext0 HX_)
  skip
  clear HX_
  refine (ind18_calls (n := 0)).mono ?_
  intro e wb8_ hpr_
  obtain ⟨rfl, hx_⟩ := hpr_
  replace H := H.call hx_
  have HRl := Lib.hid (HRl.out.ext0 hx_)
  have HRa := Lib.hid (HRa.out.ext0 hx_)
  have HRw := Lib.hid (HRw.out.ext0 hx_)
  clear hx_
  go_wp2_with fail
  refine callsH2 (w6 := wb8_) (by (repeat (first | with_reducible exact H | with_reducible apply Hp.alloc | with_reducible apply Hp.allocMap))) (by first | exact Ext.refl _ _ | exact (Ext.refl _ _).alloc _ | exact ((Ext.refl _ _).alloc _).alloc _ | exact (((Ext.refl _ _).alloc _).alloc _).alloc _) ?_
  clear H; intro wa9_ H HX_; (try simp only [size_drew_, size_drewN_, World.size_alloc, World.size_setCell, List.set_cons_zero, List.set_cons_succ] at H)
  have HRl := Lib.hid (HRl.out.ext0 HX_)
  have HRa := Lib.hid (HRa.out.ext0 HX_)
  have HRw := Lib.hid (HRw.out.ext0 HX_)
  skip
  clear HX_
  refine (self18_calls (n := 0)).mono ?_
  intro e wb10_ hpr_
  obtain ⟨rfl, hx_⟩ := hpr_
  replace H := H.call hx_
  have HRl := Lib.hid (HRl.out.ext0 hx_)
  have HRa := Lib.hid (HRa.out.ext0 hx_)
  have HRw := Lib.hid (HRw.out.ext0 hx_)
  clear hx_
  go_wp2_with fail
  refine callsH2 (w6 := wb10_) (by (repeat (first | with_reducible exact H | with_reducible apply Hp.alloc | with_reducible apply Hp.allocMap))) (by first | exact Ext.refl _ _ | exact (Ext.refl _ _).alloc _ | exact ((Ext.refl _ _).alloc _).alloc _ | exact (((Ext.refl _ _).alloc _).alloc _).alloc _) ?_
  clear H; intro wa11_ H HX_; (try simp only [size_drew_, size_drewN_, World.size_alloc, World.size_setCell, List.set_cons_zero, List.set_cons_succ] at H)
  have HRl := Lib.hid (HRl.out.ext0 HX_)
  have HRa := Lib.hid (HRa.out.ext0 HX_)
  have HRw := Lib.hid (HRw.out.ext0 HX_)
  skip
  clear HX_
  refine (app18_calls (S := anyW) (b := ind18T 0) (cb := [.int .i64 8, .int .i64 0, .int .i64 0, .slice none 0 0, .slice none 0 0]) (row := [self18T 0]) (tN18 (inI18 (by decide) (by decide)) (inI18 (by decide) (by decide)) (inI18 (by decide) (by decide))) (RC.blkRow (S := anyW) (e := 26) (z := 5) (n := 1) (ds := ([self18T 0]).map Tm.d) (cs := [.int .i64 11, .int .i64 0, .int .i64 0, .slice none 0 0, .slice none 0 0]) (H.blk .head) trivial (RCs.one18 (tN18 (inI18 (by decide) (by decide)) (inI18 (by decide) (by decide)) (inI18 (by decide) (by decide)))) (by simp [Tm.size_d]) rfl (by unfold M; simp))).mono ?_
  intro e wb12_ hpr_
  obtain ⟨Ar1, cr1, Kr1, kr1, rfl, hr_, hx_⟩ := hpr_.tmS (fun k hk => trivial)
  have HRr1 := Lib.hid hr_
  clear hr_ hpr_
  replace H := H.call hx_
  have HRl := Lib.hid (HRl.out.ext0 hx_)
  have HRa := Lib.hid (HRa.out.ext0 hx_)
  have HRw := Lib.hid (HRw.out.ext0 hx_)
  clear hx_
  go_wp2_with fail
  refine callsH2 (w6 := wb12_) (by (repeat (first | with_reducible exact H | with_reducible apply Hp.alloc | with_reducible apply Hp.allocMap))) (by first | exact Ext.refl _ _ | exact (Ext.refl _ _).alloc _ | exact ((Ext.refl _ _).alloc _).alloc _ | exact (((Ext.refl _ _).alloc _).alloc _).alloc _) ?_
  clear H; intro wa13_ H HX_; (try simp only [size_drew_, size_drewN_, World.size_alloc, World.size_setCell, List.set_cons_zero, List.set_cons_succ] at H)
  have HRl := Lib.hid (HRl.out.ext0 HX_)
  have HRa := Lib.hid (HRa.out.ext0 HX_)
  have HRw := Lib.hid (HRw.out.ext0 HX_)
  have HRr1 := Lib.hid (HRr1.out.ext0 HX_)
  skip
  clear HX_
  refine (pi18_calls (S := anyW) (b := self18T 0) (cb := [.int .i64 11, .int .i64 0, .int .i64 0, .slice none 0 0, .slice none 0 0]) (row := [appsT (ind18T 0) [self18T 0]]) (tN18 (inI18 (by decide) (by decide)) (inI18 (by decide) (by decide)) (inI18 (by decide) (by decide))) (RC.blkRow (S := anyW) (e := 26) (z := 5) (n := 1) (ds := ([appsT (ind18T 0) [self18T 0]]).map Tm.d) (cs := [.int .i64 (appsT (ind18T 0) [self18T 0]).k, .int .i64 (appsT (ind18T 0) [self18T 0]).n, .int .i64 (appsT (ind18T 0) [self18T 0]).a, .slice Ar1 (appsT (ind18T 0) [self18T 0]).ls.length cr1, .slice Kr1 (appsT (ind18T 0) [self18T 0]).ks.length kr1]) (H.blk .head) trivial (RCs.one18 HRr1.out) (by simp [Tm.size_d]) rfl (by unfold M; simp))).mono ?_
  intro e wb14_ hpr_
  obtain ⟨Ar2, cr2, Kr2, kr2, rfl, hr_, hx_⟩ := hpr_.tmS (fun k hk => trivial)
  have HRr2 := Lib.hid hr_
  clear hr_ hpr_
  replace H := H.call hx_
  have HRl := Lib.hid (HRl.out.ext0 hx_)
  have HRa := Lib.hid (HRa.out.ext0 hx_)
  have HRw := Lib.hid (HRw.out.ext0 hx_)
  have HRr1 := Lib.hid (HRr1.out.ext0 hx_)
  clear hx_
  go_wp2_with fail
  refine callsH2 (w6 := wb14_) (by (repeat (first | with_reducible exact H | with_reducible apply Hp.alloc | with_reducible apply Hp.allocMap))) (by first | exact Ext.refl _ _ | exact (Ext.refl _ _).alloc _ | exact ((Ext.refl _ _).alloc _).alloc _ | exact (((Ext.refl _ _).alloc _).alloc _).alloc _) ?_
  clear H; intro wa15_ H HX_; (try simp only [size_drew_, size_drewN_, World.size_alloc, World.size_setCell, List.set_cons_zero, List.set_cons_succ] at H)
  have HRl := Lib.hid (HRl.out.ext0 HX_)
  have HRa := Lib.hid (HRa.out.ext0 HX_)
  have HRw := Lib.hid (HRw.out.ext0 HX_)
  have HRr1 := Lib.hid (HRr1.out.ext0 HX_)
  have HRr2 := Lib.hid (HRr2.out.ext0 HX_)
  skip
  clear HX_
  refine (block18_calls (S := anyW) (P := 0) (types := [aboveT 4 [appsT (ind18T 0) [self18T 0]] (self18T 0)]) (by omega) (RC.blkRow (S := anyW) (e := 26) (z := 5) (n := 1) (ds := ([aboveT 4 [appsT (ind18T 0) [self18T 0]] (self18T 0)]).map Tm.d) (cs := [.int .i64 (aboveT 4 [appsT (ind18T 0) [self18T 0]] (self18T 0)).k, .int .i64 (aboveT 4 [appsT (ind18T 0) [self18T 0]] (self18T 0)).n, .int .i64 (aboveT 4 [appsT (ind18T 0) [self18T 0]] (self18T 0)).a, .slice Ar2 (aboveT 4 [appsT (ind18T 0) [self18T 0]] (self18T 0)).ls.length cr2, .slice Kr2 (aboveT 4 [appsT (ind18T 0) [self18T 0]] (self18T 0)).ks.length kr2]) (H.blk .head) trivial (RCs.one18 HRr2.out) (by simp [Tm.size_d]) rfl (by unfold M; simp)) (by simp)).mono ?_
  intro e wb16_ hpr_
  obtain ⟨Atyr, ctyr, Ktyr, ktyr, Abodyr, cbodyr, Kbodyr, kbodyr, Aparamsr, cparamsr, Asortr, csortr, Amembersr, cmembersr, Actorsr, cctorsr, rfl, hr_, hx_⟩ := PR18.dcS (d := rose18) hpr_ (fun k hk => trivial)
  have HRr := Lib.hid hr_
  clear hr_ hpr_
  replace H := H.call hx_
  have HRl := Lib.hid (HRl.out.ext0 hx_)
  have HRa := Lib.hid (HRa.out.ext0 hx_)
  have HRw := Lib.hid (HRw.out.ext0 hx_)
  have HRr1 := Lib.hid (HRr1.out.ext0 hx_)
  have HRr2 := Lib.hid (HRr2.out.ext0 hx_)
  clear hx_
  go_wp2_with ((with_reducible refine atStore (t := 51) ?_); go_must (refine wpList_storeX (t := 51) rfl rfl (by go_simp <;> first | rfl | exact ⟨rfl, rfl⟩) (by go_simp <;> first | rfl | exact ⟨rfl, rfl⟩) (by (repeat (first | with_reducible exact H | with_reducible apply Hp.alloc | with_reducible apply Hp.allocMap))) (by (repeat (first | with_reducible exact Upd.head | with_reducible apply Upd.tail))) (by exact aggDecl) (by rfl) (by simp [Value.oneCell']) ?_; clear H; intro ws1_ H HXS; (try simp only [size_drew_, size_drewN_, World.size_alloc, World.size_setCell, List.set_cons_zero, List.set_cons_succ] at H); have HRl := Lib.hid (((HRl.out.bd.ext0 ((Ext.refl no wb16_).alloc _)).ext HXS (fun k _ hk e => by have h2 := hk.2; rw [e] at h2; exact Nat.lt_irrefl _ h2)).any); have HRa := Lib.hid (((HRa.out.bd.ext0 ((Ext.refl no wb16_).alloc _)).ext HXS (fun k _ hk e => by have h2 := hk.2; rw [e] at h2; exact Nat.lt_irrefl _ h2)).any); have HRw := Lib.hid (((HRw.out.bd.ext0 ((Ext.refl no wb16_).alloc _)).ext HXS (fun k _ hk e => by have h2 := hk.2; rw [e] at h2; exact Nat.lt_irrefl _ h2)).any); have HRr1 := Lib.hid (((HRr1.out.bd.ext0 ((Ext.refl no wb16_).alloc _)).ext HXS (fun k _ hk e => by have h2 := hk.2; rw [e] at h2; exact Nat.lt_irrefl _ h2)).any); have HRr2 := Lib.hid (((HRr2.out.bd.ext0 ((Ext.refl no wb16_).alloc _)).ext HXS (fun k _ hk e => by have h2 := hk.2; rw [e] at h2; exact Nat.lt_irrefl _ h2)).any); have HRr := Lib.hid (((HRr.out.bd.ext0 ((Ext.refl no wb16_).alloc _)).ext HXS (fun k _ hk e => by have h2 := hk.2; rw [e] at h2; exact Nat.lt_irrefl _ h2)).any); clear HXS))
  refine callsH2 (w6 := ws1_) (by (repeat (first | with_reducible exact H | with_reducible apply Hp.alloc | with_reducible apply Hp.allocMap))) (by first | exact Ext.refl _ _ | exact (Ext.refl _ _).alloc _ | exact ((Ext.refl _ _).alloc _).alloc _ | exact (((Ext.refl _ _).alloc _).alloc _).alloc _) ?_
  clear H; intro wa17_ H HX_; (try simp only [size_drew_, size_drewN_, World.size_alloc, World.size_setCell, List.set_cons_zero, List.set_cons_succ] at H)
  have HRl := Lib.hid (HRl.out.ext0 HX_)
  have HRa := Lib.hid (HRa.out.ext0 HX_)
  have HRw := Lib.hid (HRw.out.ext0 HX_)
  have HRr1 := Lib.hid (HRr1.out.ext0 HX_)
  have HRr2 := Lib.hid (HRr2.out.ext0 HX_)
  have HRr := Lib.hid (HRr.out.ext0 HX_)
  skip
  clear HX_
  refine (self18_calls (n := 0)).mono ?_
  intro e wb18_ hpr_
  obtain ⟨rfl, hx_⟩ := hpr_
  replace H := H.call hx_
  have HRl := Lib.hid (HRl.out.ext0 hx_)
  have HRa := Lib.hid (HRa.out.ext0 hx_)
  have HRw := Lib.hid (HRw.out.ext0 hx_)
  have HRr1 := Lib.hid (HRr1.out.ext0 hx_)
  have HRr2 := Lib.hid (HRr2.out.ext0 hx_)
  have HRr := Lib.hid (HRr.out.ext0 hx_)
  clear hx_
  go_wp2_with fail
  refine callsH2 (w6 := wb18_) (by (repeat (first | with_reducible exact H | with_reducible apply Hp.alloc | with_reducible apply Hp.allocMap))) (by first | exact Ext.refl _ _ | exact (Ext.refl _ _).alloc _ | exact ((Ext.refl _ _).alloc _).alloc _ | exact (((Ext.refl _ _).alloc _).alloc _).alloc _) ?_
  clear H; intro wa19_ H HX_; (try simp only [size_drew_, size_drewN_, World.size_alloc, World.size_setCell, List.set_cons_zero, List.set_cons_succ] at H)
  have HRl := Lib.hid (HRl.out.ext0 HX_)
  have HRa := Lib.hid (HRa.out.ext0 HX_)
  have HRw := Lib.hid (HRw.out.ext0 HX_)
  have HRr1 := Lib.hid (HRr1.out.ext0 HX_)
  have HRr2 := Lib.hid (HRr2.out.ext0 HX_)
  have HRr := Lib.hid (HRr.out.ext0 HX_)
  skip
  clear HX_
  refine (ind18_calls (n := 1)).mono ?_
  intro e wb20_ hpr_
  obtain ⟨rfl, hx_⟩ := hpr_
  replace H := H.call hx_
  have HRl := Lib.hid (HRl.out.ext0 hx_)
  have HRa := Lib.hid (HRa.out.ext0 hx_)
  have HRw := Lib.hid (HRw.out.ext0 hx_)
  have HRr1 := Lib.hid (HRr1.out.ext0 hx_)
  have HRr2 := Lib.hid (HRr2.out.ext0 hx_)
  have HRr := Lib.hid (HRr.out.ext0 hx_)
  clear hx_
  go_wp2_with fail
  refine callsH2 (w6 := wb20_) (by (repeat (first | with_reducible exact H | with_reducible apply Hp.alloc | with_reducible apply Hp.allocMap))) (by first | exact Ext.refl _ _ | exact (Ext.refl _ _).alloc _ | exact ((Ext.refl _ _).alloc _).alloc _ | exact (((Ext.refl _ _).alloc _).alloc _).alloc _) ?_
  clear H; intro wa21_ H HX_; (try simp only [size_drew_, size_drewN_, World.size_alloc, World.size_setCell, List.set_cons_zero, List.set_cons_succ] at H)
  have HRl := Lib.hid (HRl.out.ext0 HX_)
  have HRa := Lib.hid (HRa.out.ext0 HX_)
  have HRw := Lib.hid (HRw.out.ext0 HX_)
  have HRr1 := Lib.hid (HRr1.out.ext0 HX_)
  have HRr2 := Lib.hid (HRr2.out.ext0 HX_)
  have HRr := Lib.hid (HRr.out.ext0 HX_)
  skip
  clear HX_
  refine (self18_calls (n := 0)).mono ?_
  intro e wb22_ hpr_
  obtain ⟨rfl, hx_⟩ := hpr_
  replace H := H.call hx_
  have HRl := Lib.hid (HRl.out.ext0 hx_)
  have HRa := Lib.hid (HRa.out.ext0 hx_)
  have HRw := Lib.hid (HRw.out.ext0 hx_)
  have HRr1 := Lib.hid (HRr1.out.ext0 hx_)
  have HRr2 := Lib.hid (HRr2.out.ext0 hx_)
  have HRr := Lib.hid (HRr.out.ext0 hx_)
  clear hx_
  go_wp2_with fail
  refine callsH2 (w6 := wb22_) (by (repeat (first | with_reducible exact H | with_reducible apply Hp.alloc | with_reducible apply Hp.allocMap))) (by first | exact Ext.refl _ _ | exact (Ext.refl _ _).alloc _ | exact ((Ext.refl _ _).alloc _).alloc _ | exact (((Ext.refl _ _).alloc _).alloc _).alloc _) ?_
  clear H; intro wa23_ H HX_; (try simp only [size_drew_, size_drewN_, World.size_alloc, World.size_setCell, List.set_cons_zero, List.set_cons_succ] at H)
  have HRl := Lib.hid (HRl.out.ext0 HX_)
  have HRa := Lib.hid (HRa.out.ext0 HX_)
  have HRw := Lib.hid (HRw.out.ext0 HX_)
  have HRr1 := Lib.hid (HRr1.out.ext0 HX_)
  have HRr2 := Lib.hid (HRr2.out.ext0 HX_)
  have HRr := Lib.hid (HRr.out.ext0 HX_)
  skip
  clear HX_
  refine (app18_calls (S := anyW) (b := ind18T 1) (cb := [.int .i64 8, .int .i64 1, .int .i64 0, .slice none 0 0, .slice none 0 0]) (row := [self18T 0]) (tN18 (inI18 (by decide) (by decide)) (inI18 (by decide) (by decide)) (inI18 (by decide) (by decide))) (RC.blkRow (S := anyW) (e := 26) (z := 5) (n := 1) (ds := ([self18T 0]).map Tm.d) (cs := [.int .i64 11, .int .i64 0, .int .i64 0, .slice none 0 0, .slice none 0 0]) (H.blk .head) trivial (RCs.one18 (tN18 (inI18 (by decide) (by decide)) (inI18 (by decide) (by decide)) (inI18 (by decide) (by decide)))) (by simp [Tm.size_d]) rfl (by unfold M; simp))).mono ?_
  intro e wb24_ hpr_
  obtain ⟨Ao1, co1, Ko1, ko1, rfl, hr_, hx_⟩ := hpr_.tmS (fun k hk => trivial)
  have HRo1 := Lib.hid hr_
  clear hr_ hpr_
  replace H := H.call hx_
  have HRl := Lib.hid (HRl.out.ext0 hx_)
  have HRa := Lib.hid (HRa.out.ext0 hx_)
  have HRw := Lib.hid (HRw.out.ext0 hx_)
  have HRr1 := Lib.hid (HRr1.out.ext0 hx_)
  have HRr2 := Lib.hid (HRr2.out.ext0 hx_)
  have HRr := Lib.hid (HRr.out.ext0 hx_)
  clear hx_
  go_wp2_with fail
  refine callsH2 (w6 := wb24_) (by (repeat (first | with_reducible exact H | with_reducible apply Hp.alloc | with_reducible apply Hp.allocMap))) (by first | exact Ext.refl _ _ | exact (Ext.refl _ _).alloc _ | exact ((Ext.refl _ _).alloc _).alloc _ | exact (((Ext.refl _ _).alloc _).alloc _).alloc _) ?_
  clear H; intro wa25_ H HX_; (try simp only [size_drew_, size_drewN_, World.size_alloc, World.size_setCell, List.set_cons_zero, List.set_cons_succ] at H)
  have HRl := Lib.hid (HRl.out.ext0 HX_)
  have HRa := Lib.hid (HRa.out.ext0 HX_)
  have HRw := Lib.hid (HRw.out.ext0 HX_)
  have HRr1 := Lib.hid (HRr1.out.ext0 HX_)
  have HRr2 := Lib.hid (HRr2.out.ext0 HX_)
  have HRr := Lib.hid (HRr.out.ext0 HX_)
  have HRo1 := Lib.hid (HRo1.out.ext0 HX_)
  skip
  clear HX_
  refine (pi18_calls (S := anyW) (b := self18T 0) (cb := [.int .i64 11, .int .i64 0, .int .i64 0, .slice none 0 0, .slice none 0 0]) (row := [appsT (ind18T 1) [self18T 0]]) (tN18 (inI18 (by decide) (by decide)) (inI18 (by decide) (by decide)) (inI18 (by decide) (by decide))) (RC.blkRow (S := anyW) (e := 26) (z := 5) (n := 1) (ds := ([appsT (ind18T 1) [self18T 0]]).map Tm.d) (cs := [.int .i64 (appsT (ind18T 1) [self18T 0]).k, .int .i64 (appsT (ind18T 1) [self18T 0]).n, .int .i64 (appsT (ind18T 1) [self18T 0]).a, .slice Ao1 (appsT (ind18T 1) [self18T 0]).ls.length co1, .slice Ko1 (appsT (ind18T 1) [self18T 0]).ks.length ko1]) (H.blk .head) trivial (RCs.one18 HRo1.out) (by simp [Tm.size_d]) rfl (by unfold M; simp))).mono ?_
  intro e wb26_ hpr_
  obtain ⟨Ao2, co2, Ko2, ko2, rfl, hr_, hx_⟩ := hpr_.tmS (fun k hk => trivial)
  have HRo2 := Lib.hid hr_
  clear hr_ hpr_
  replace H := H.call hx_
  have HRl := Lib.hid (HRl.out.ext0 hx_)
  have HRa := Lib.hid (HRa.out.ext0 hx_)
  have HRw := Lib.hid (HRw.out.ext0 hx_)
  have HRr1 := Lib.hid (HRr1.out.ext0 hx_)
  have HRr2 := Lib.hid (HRr2.out.ext0 hx_)
  have HRr := Lib.hid (HRr.out.ext0 hx_)
  have HRo1 := Lib.hid (HRo1.out.ext0 hx_)
  clear hx_
  go_wp2_with fail
  refine callsH2 (w6 := wb26_) (by (repeat (first | with_reducible exact H | with_reducible apply Hp.alloc | with_reducible apply Hp.allocMap))) (by first | exact Ext.refl _ _ | exact (Ext.refl _ _).alloc _ | exact ((Ext.refl _ _).alloc _).alloc _ | exact (((Ext.refl _ _).alloc _).alloc _).alloc _) ?_
  clear H; intro wa27_ H HX_; (try simp only [size_drew_, size_drewN_, World.size_alloc, World.size_setCell, List.set_cons_zero, List.set_cons_succ] at H)
  have HRl := Lib.hid (HRl.out.ext0 HX_)
  have HRa := Lib.hid (HRa.out.ext0 HX_)
  have HRw := Lib.hid (HRw.out.ext0 HX_)
  have HRr1 := Lib.hid (HRr1.out.ext0 HX_)
  have HRr2 := Lib.hid (HRr2.out.ext0 HX_)
  have HRr := Lib.hid (HRr.out.ext0 HX_)
  have HRo1 := Lib.hid (HRo1.out.ext0 HX_)
  have HRo2 := Lib.hid (HRo2.out.ext0 HX_)
  skip
  clear HX_
  refine (block18_calls (S := anyW) (P := 0) (types := [aboveT 4 [appsT (ind18T 1) [self18T 0]] (self18T 0)]) (by omega) (RC.blkRow (S := anyW) (e := 26) (z := 5) (n := 1) (ds := ([aboveT 4 [appsT (ind18T 1) [self18T 0]] (self18T 0)]).map Tm.d) (cs := [.int .i64 (aboveT 4 [appsT (ind18T 1) [self18T 0]] (self18T 0)).k, .int .i64 (aboveT 4 [appsT (ind18T 1) [self18T 0]] (self18T 0)).n, .int .i64 (aboveT 4 [appsT (ind18T 1) [self18T 0]] (self18T 0)).a, .slice Ao2 (aboveT 4 [appsT (ind18T 1) [self18T 0]] (self18T 0)).ls.length co2, .slice Ko2 (aboveT 4 [appsT (ind18T 1) [self18T 0]] (self18T 0)).ks.length ko2]) (H.blk .head) trivial (RCs.one18 HRo2.out) (by simp [Tm.size_d]) rfl (by unfold M; simp)) (by simp)).mono ?_
  intro e wb28_ hpr_
  obtain ⟨Atyo, ctyo, Ktyo, ktyo, Abodyo, cbodyo, Kbodyo, kbodyo, Aparamso, cparamso, Asorto, csorto, Amemberso, cmemberso, Actorso, cctorso, rfl, hr_, hx_⟩ := PR18.dcS (d := odd18) hpr_ (fun k hk => trivial)
  have HRo := Lib.hid hr_
  clear hr_ hpr_
  replace H := H.call hx_
  have HRl := Lib.hid (HRl.out.ext0 hx_)
  have HRa := Lib.hid (HRa.out.ext0 hx_)
  have HRw := Lib.hid (HRw.out.ext0 hx_)
  have HRr1 := Lib.hid (HRr1.out.ext0 hx_)
  have HRr2 := Lib.hid (HRr2.out.ext0 hx_)
  have HRr := Lib.hid (HRr.out.ext0 hx_)
  have HRo1 := Lib.hid (HRo1.out.ext0 hx_)
  have HRo2 := Lib.hid (HRo2.out.ext0 hx_)
  clear hx_
  go_wp2_with ((with_reducible refine atStore (t := 51) ?_); go_must (refine wpList_storeX (t := 51) rfl rfl (by go_simp <;> first | rfl | exact ⟨rfl, rfl⟩) (by go_simp <;> first | rfl | exact ⟨rfl, rfl⟩) (by (repeat (first | with_reducible exact H | with_reducible apply Hp.alloc | with_reducible apply Hp.allocMap))) (by (repeat (first | with_reducible exact Upd.head | with_reducible apply Upd.tail))) (by exact aggDecl) (by rfl) (by simp [Value.oneCell']) ?_; clear H; intro ws2_ H HXS; (try simp only [size_drew_, size_drewN_, World.size_alloc, World.size_setCell, List.set_cons_zero, List.set_cons_succ] at H); have HRl := Lib.hid (((HRl.out.bd.ext0 ((Ext.refl no wb28_).alloc _)).ext HXS (fun k _ hk e => by have h2 := hk.2; rw [e] at h2; exact Nat.lt_irrefl _ h2)).any); have HRa := Lib.hid (((HRa.out.bd.ext0 ((Ext.refl no wb28_).alloc _)).ext HXS (fun k _ hk e => by have h2 := hk.2; rw [e] at h2; exact Nat.lt_irrefl _ h2)).any); have HRw := Lib.hid (((HRw.out.bd.ext0 ((Ext.refl no wb28_).alloc _)).ext HXS (fun k _ hk e => by have h2 := hk.2; rw [e] at h2; exact Nat.lt_irrefl _ h2)).any); have HRr1 := Lib.hid (((HRr1.out.bd.ext0 ((Ext.refl no wb28_).alloc _)).ext HXS (fun k _ hk e => by have h2 := hk.2; rw [e] at h2; exact Nat.lt_irrefl _ h2)).any); have HRr2 := Lib.hid (((HRr2.out.bd.ext0 ((Ext.refl no wb28_).alloc _)).ext HXS (fun k _ hk e => by have h2 := hk.2; rw [e] at h2; exact Nat.lt_irrefl _ h2)).any); have HRr := Lib.hid (((HRr.out.bd.ext0 ((Ext.refl no wb28_).alloc _)).ext HXS (fun k _ hk e => by have h2 := hk.2; rw [e] at h2; exact Nat.lt_irrefl _ h2)).any); have HRo1 := Lib.hid (((HRo1.out.bd.ext0 ((Ext.refl no wb28_).alloc _)).ext HXS (fun k _ hk e => by have h2 := hk.2; rw [e] at h2; exact Nat.lt_irrefl _ h2)).any); have HRo2 := Lib.hid (((HRo2.out.bd.ext0 ((Ext.refl no wb28_).alloc _)).ext HXS (fun k _ hk e => by have h2 := hk.2; rw [e] at h2; exact Nat.lt_irrefl _ h2)).any); have HRo := Lib.hid (((HRo.out.bd.ext0 ((Ext.refl no wb28_).alloc _)).ext HXS (fun k _ hk e => by have h2 := hk.2; rw [e] at h2; exact Nat.lt_irrefl _ h2)).any); clear HXS))
  refine callsH2 (w6 := ws2_) (by (repeat (first | with_reducible exact H | with_reducible apply Hp.alloc | with_reducible apply Hp.allocMap))) (by first | exact Ext.refl _ _ | exact (Ext.refl _ _).alloc _ | exact ((Ext.refl _ _).alloc _).alloc _ | exact (((Ext.refl _ _).alloc _).alloc _).alloc _) ?_
  clear H; intro wa29_ H HX_; (try simp only [size_drew_, size_drewN_, World.size_alloc, World.size_setCell, List.set_cons_zero, List.set_cons_succ] at H)
  have HRl := Lib.hid (HRl.out.ext0 HX_)
  have HRa := Lib.hid (HRa.out.ext0 HX_)
  have HRw := Lib.hid (HRw.out.ext0 HX_)
  have HRr1 := Lib.hid (HRr1.out.ext0 HX_)
  have HRr2 := Lib.hid (HRr2.out.ext0 HX_)
  have HRr := Lib.hid (HRr.out.ext0 HX_)
  have HRo1 := Lib.hid (HRo1.out.ext0 HX_)
  have HRo2 := Lib.hid (HRo2.out.ext0 HX_)
  have HRo := Lib.hid (HRo.out.ext0 HX_)
  skip
  clear HX_
  have hcall := param_calls (ds := l18) (HT.out.ext H.ext) HRw.out (fun d hd => sm18 d (by rcases List.mem_cons.1 hd with rfl | hd <;> simp_all)) 0 0
  rw [aw18_1] at hcall
  refine hcall.mono ?_
  clear hcall
  intro e wb30_ hpr_
  obtain ⟨rfl, hx_⟩ := hpr_
  replace H := H.call hx_
  have HRl := Lib.hid (HRl.out.ext0 hx_)
  have HRa := Lib.hid (HRa.out.ext0 hx_)
  have HRw := Lib.hid (HRw.out.ext0 hx_)
  have HRr1 := Lib.hid (HRr1.out.ext0 hx_)
  have HRr2 := Lib.hid (HRr2.out.ext0 hx_)
  have HRr := Lib.hid (HRr.out.ext0 hx_)
  have HRo1 := Lib.hid (HRo1.out.ext0 hx_)
  have HRo2 := Lib.hid (HRo2.out.ext0 hx_)
  have HRo := Lib.hid (HRo.out.ext0 hx_)
  clear hx_
  go_wp2_with fail
  refine callsH2 (w6 := wb30_) (by (repeat (first | with_reducible exact H | with_reducible apply Hp.alloc | with_reducible apply Hp.allocMap))) (by first | exact Ext.refl _ _ | exact (Ext.refl _ _).alloc _ | exact ((Ext.refl _ _).alloc _).alloc _ | exact (((Ext.refl _ _).alloc _).alloc _).alloc _) ?_
  clear H; intro wa31_ H HX_; (try simp only [size_drew_, size_drewN_, World.size_alloc, World.size_setCell, List.set_cons_zero, List.set_cons_succ] at H)
  have HRl := Lib.hid (HRl.out.ext0 HX_)
  have HRa := Lib.hid (HRa.out.ext0 HX_)
  have HRw := Lib.hid (HRw.out.ext0 HX_)
  have HRr1 := Lib.hid (HRr1.out.ext0 HX_)
  have HRr2 := Lib.hid (HRr2.out.ext0 HX_)
  have HRr := Lib.hid (HRr.out.ext0 HX_)
  have HRo1 := Lib.hid (HRo1.out.ext0 HX_)
  have HRo2 := Lib.hid (HRo2.out.ext0 HX_)
  have HRo := Lib.hid (HRo.out.ext0 HX_)
  skip
  clear HX_
  have hcall := param_calls (ds := l18) (HT.out.ext H.ext) HRw.out (fun d hd => sm18 d (by rcases List.mem_cons.1 hd with rfl | hd <;> simp_all)) 1 0
  rw [aw18_2] at hcall
  refine hcall.mono ?_
  clear hcall
  intro e wb32_ hpr_
  obtain ⟨rfl, hx_⟩ := hpr_
  replace H := H.call hx_
  have HRl := Lib.hid (HRl.out.ext0 hx_)
  have HRa := Lib.hid (HRa.out.ext0 hx_)
  have HRw := Lib.hid (HRw.out.ext0 hx_)
  have HRr1 := Lib.hid (HRr1.out.ext0 hx_)
  have HRr2 := Lib.hid (HRr2.out.ext0 hx_)
  have HRr := Lib.hid (HRr.out.ext0 hx_)
  have HRo1 := Lib.hid (HRo1.out.ext0 hx_)
  have HRo2 := Lib.hid (HRo2.out.ext0 hx_)
  have HRo := Lib.hid (HRo.out.ext0 hx_)
  clear hx_
  have hr_ := H.rules; simp only [Rules, and_true] at hr_; have hd_ := H.dif; simp only [Dif, Neq, and_true] at hd_; obtain ⟨ho_, hz_⟩ := H.old0
  go_wp2_with fail
  (try clear hr_ hd_ ho_ hz_)
  refine callsH2 (w6 := wb32_) (by (repeat (first | with_reducible exact H | with_reducible apply Hp.alloc | with_reducible apply Hp.allocMap))) (by first | exact Ext.refl _ _ | exact (Ext.refl _ _).alloc _ | exact ((Ext.refl _ _).alloc _).alloc _ | exact (((Ext.refl _ _).alloc _).alloc _).alloc _) ?_
  clear H; intro wa33_ H HX_; (try simp only [size_drew_, size_drewN_, World.size_alloc, World.size_setCell, List.set_cons_zero, List.set_cons_succ] at H)
  have HRl := Lib.hid (HRl.out.ext0 HX_)
  have HRa := Lib.hid (HRa.out.ext0 HX_)
  have HRw := Lib.hid (HRw.out.ext0 HX_)
  have HRr1 := Lib.hid (HRr1.out.ext0 HX_)
  have HRr2 := Lib.hid (HRr2.out.ext0 HX_)
  have HRr := Lib.hid (HRr.out.ext0 HX_)
  have HRo1 := Lib.hid (HRo1.out.ext0 HX_)
  have HRo2 := Lib.hid (HRo2.out.ext0 HX_)
  have HRo := Lib.hid (HRo.out.ext0 HX_)
  skip
  clear HX_
  have hcall := positive_calls (ds := l18) (d := rose18) (HT.out.ext H.ext) HRw.out HRr.out (fun d hd => sm18 d (by rcases List.mem_cons.1 hd with rfl | hd <;> simp_all)) (sm18 _ (by simp))
  rw [aw18_3] at hcall
  refine hcall.mono ?_
  clear hcall
  intro e wb34_ hpr_
  obtain ⟨rfl, hx_⟩ := hpr_
  replace H := H.call hx_
  have HRl := Lib.hid (HRl.out.ext0 hx_)
  have HRa := Lib.hid (HRa.out.ext0 hx_)
  have HRw := Lib.hid (HRw.out.ext0 hx_)
  have HRr1 := Lib.hid (HRr1.out.ext0 hx_)
  have HRr2 := Lib.hid (HRr2.out.ext0 hx_)
  have HRr := Lib.hid (HRr.out.ext0 hx_)
  have HRo1 := Lib.hid (HRo1.out.ext0 hx_)
  have HRo2 := Lib.hid (HRo2.out.ext0 hx_)
  have HRo := Lib.hid (HRo.out.ext0 hx_)
  clear hx_
  have hr_ := H.rules; simp only [Rules, and_true] at hr_; have hd_ := H.dif; simp only [Dif, Neq, and_true] at hd_; obtain ⟨ho_, hz_⟩ := H.old0
  go_wp2_with fail
  (try clear hr_ hd_ ho_ hz_)
  refine callsH2 (w6 := wb34_) (by (repeat (first | with_reducible exact H | with_reducible apply Hp.alloc | with_reducible apply Hp.allocMap))) (by first | exact Ext.refl _ _ | exact (Ext.refl _ _).alloc _ | exact ((Ext.refl _ _).alloc _).alloc _ | exact (((Ext.refl _ _).alloc _).alloc _).alloc _) ?_
  clear H; intro wa35_ H HX_; (try simp only [size_drew_, size_drewN_, World.size_alloc, World.size_setCell, List.set_cons_zero, List.set_cons_succ] at H)
  have HRl := Lib.hid (HRl.out.ext0 HX_)
  have HRa := Lib.hid (HRa.out.ext0 HX_)
  have HRw := Lib.hid (HRw.out.ext0 HX_)
  have HRr1 := Lib.hid (HRr1.out.ext0 HX_)
  have HRr2 := Lib.hid (HRr2.out.ext0 HX_)
  have HRr := Lib.hid (HRr.out.ext0 HX_)
  have HRo1 := Lib.hid (HRo1.out.ext0 HX_)
  have HRo2 := Lib.hid (HRo2.out.ext0 HX_)
  have HRo := Lib.hid (HRo.out.ext0 HX_)
  skip
  clear HX_
  have hcall := positive_calls (ds := l18) (d := odd18) (HT.out.ext H.ext) HRw.out HRo.out (fun d hd => sm18 d (by rcases List.mem_cons.1 hd with rfl | hd <;> simp_all)) (sm18 _ (by simp))
  rw [aw18_4] at hcall
  refine hcall.mono ?_
  clear hcall
  intro e wb36_ hpr_
  obtain ⟨rfl, hx_⟩ := hpr_
  replace H := H.call hx_
  have HRl := Lib.hid (HRl.out.ext0 hx_)
  have HRa := Lib.hid (HRa.out.ext0 hx_)
  have HRw := Lib.hid (HRw.out.ext0 hx_)
  have HRr1 := Lib.hid (HRr1.out.ext0 hx_)
  have HRr2 := Lib.hid (HRr2.out.ext0 hx_)
  have HRr := Lib.hid (HRr.out.ext0 hx_)
  have HRo1 := Lib.hid (HRo1.out.ext0 hx_)
  have HRo2 := Lib.hid (HRo2.out.ext0 hx_)
  have HRo := Lib.hid (HRo.out.ext0 hx_)
  clear hx_
  go_wp2_with fail
  go_ret
  exact ⟨rfl, H.ext⟩
end Go.Proofs.YtmedomglemllnaaGreatDoor
