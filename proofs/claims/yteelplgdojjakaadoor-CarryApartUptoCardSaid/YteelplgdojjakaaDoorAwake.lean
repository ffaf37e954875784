/- The law's own example, awake: contract. -/
import Derived.Test.YteelplgdojjakaaDoorSome
import Derived.Test.YteelplgdojjakaaDoorSame
namespace Go.Proofs.YteelplgdojjakaaDoor
set_option linter.unusedSimpArgs false
set_option linter.unusedVariables false
open Go.RowKit

set_option maxRecDepth 100000 in
set_option maxHeartbeats 2000000 in
theorem name21_calls {w : World} {k n a : Int} (i1 : inI k) (i2 : inI n) (i3 : inI a) : Calls Tryd.prog 11 #[.int .i64 k, .int .i64 n, .int .i64 a] w (PTm w (.mk k n a [] [])) := by
  go_enter Tryd.func11, Tryd.ntmps11
  have H := Hp.start no w
  go_wp2_with ((with_reducible refine atStore (t := 30) ?_); go_must (refine wpList_storeH (t := 30) rfl rfl (by go_simp <;> first | rfl | exact ⟨rfl, rfl⟩) (by go_simp <;> first | rfl | exact ⟨rfl, rfl⟩) (by exact Hp.norm (by (repeat (first | with_reducible exact H | with_reducible exact H0_ | with_reducible apply Hp.alloc | with_reducible apply Hp.allocMap | with_reducible apply Hp.drew | with_reducible apply Hp.drewN | with_reducible apply Hp.set)); (try any_goals (repeat (first | with_reducible exact Upd.head | with_reducible apply Upd.tail)))) (by ((try simp only [size_drew_, size_drewN_, World.size_alloc, World.size_setCell, List.set_cons_zero, List.set_cons_succ, List.nil_append, List.cons_append]) <;> rfl))) (by (repeat (first | with_reducible exact Upd.head | with_reducible apply Upd.tail))) (by exact aggTerm) (by rfl) (by simp [Value.oneCell']) ?_; clear H; intro w7 H; (try simp only [size_drew_, size_drewN_, World.size_alloc, World.size_setCell, List.set_cons_zero, List.set_cons_succ] at H); (try clear hr_ hd_ ho_ hz_); have hr_ := H.rules; simp only [Rules, and_true] at hr_; have hd_ := H.dif; simp only [Dif, Neq, and_true] at hd_; obtain ⟨ho_, hz_⟩ := H.old0))
  clear hr_ hd_ ho_ hz_
  replace H := (H.nil 30 5).nil 38 1
  refine bodyPost_ret (v := .agg #[.int .i64 k, .int .i64 n, .int .i64 a, .slice none 0 0, .slice none 0 0]) (Res.one Tryd.results11 (H.resBox (by (repeat (first | with_reducible exact Pick.head | with_reducible apply Pick.tail))) aggTerm rfl rfl)) rfl ?_
  have H := H.tm (ls := []) (ks := []) .head .head i1 i2 i3
  exact H.ptmk .head rfl rfl
theorem someAt : atL someD = [0, 12, 13, 25, 26] := by decide +kernel
theorem nmA : nameOf someD (atL someD) 8 0 0 = some 5 := by decide +kernel
theorem nmB : nameOf someD (atL someD) 9 0 1 = some 7 := by decide +kernel
theorem nmC : nameOf someD (atL someD) 10 0 0 = some 9 := by decide +kernel
theorem nmD : nameOf someD (atL someD) 3 1 0 = some 12 := by decide +kernel
theorem caA : carryT someD (atL someD) (.mk 8 0 0 [] []) = .mk 3 5 0 [] [] := carryT_some nmA
theorem caB : carryT someD (atL someD) (.mk 9 0 1 [] []) = .mk 3 7 0 [] [] := carryT_some nmB
theorem caC : carryT someD (atL someD) (.mk 10 0 0 [] []) = .mk 3 9 0 [] [] := carryT_some nmC
theorem caD : carryT someD (atL someD) (.mk 3 1 0 [] []) = .mk 3 12 0 [] [] := carryT_some nmD
theorem iI (n : Int) (h : (decide (-9223372036854775808 ≤ n) && decide (n ≤ 9223372036854775807)) = true) : inI n := by simpa [inI] using h
set_option maxRecDepth 100000 in
set_option maxHeartbeats 4000000 in
theorem awake21_calls {w : World} (hT : Tab w) : Calls Tryd.prog 17 #[] w (PV w (.bool true)) := by
  go_enter Tryd.func17, Tryd.ntmps17
  go_wp2_with fail
  refine some_calls.mono ?_
  rintro e w1 ⟨g, rfl, hds, hx1⟩
  go_wp2_with fail
  refine (carry_At hds rfl).mono ?_
  rintro e w2 ⟨At, ct, rfl, hacc, hx2⟩
  have hat : RC w2 (fun _ => True) (.l 3 1 ((atL someD).map D.i)) [.slice At ((atL someD).map D.i).length ct] := hacc.elim fun L h => RO.rc _ _ _ (fun _ _ => trivial) h.1
  have hl5 : ((atL someD).map D.i).length = 5 := by simp [someAt]
  rw [hl5] at hat
  rw [hl5]
  obtain ⟨ba, oa, rfl, hba, _, _, q0⟩ := hat.atInt (k := 1) (by rw [someAt]; decide)
  have q1 : w2.cell? ⟨ba, oa + 1, none⟩ = some (.int .i64 12) := by rw [q0]; simp [someAt]
  clear q0
  have C : Cx w2 (fun k => w.heap.size ≤ k) (fun _ => True) someD (atL someD) (some ⟨g, 0, none⟩) (some ⟨ba, oa, none⟩) 5 ct := ⟨hds.ext0 hx2, by rw [show (atL someD).length = 5 by rw [someAt]; rfl]; exact hat, (hT.ext hx1).ext hx2⟩
  have HC := Lib.hid C
  have HX := Lib.hid (hx1.seq hx2)
  have HL := Lib.hid (show (atL someD).length = 5 by rw [someAt]; rfl)
  clear C hx1 hx2 hds hat hl5 hacc hT
  have H := Hp.start no w2
  go_wp2_with fail
  refine callsH (by (repeat (first | with_reducible exact H | with_reducible exact H0_ | with_reducible apply Hp.alloc | with_reducible apply Hp.allocMap | with_reducible apply Hp.drew | with_reducible apply Hp.drewN | with_reducible apply Hp.set)); (try any_goals (repeat (first | with_reducible exact Upd.head | with_reducible apply Upd.tail)))) ?_
  clear H; intro wa0_ H; (try simp only [size_drew_, size_drewN_, World.size_alloc, World.size_setCell, List.set_cons_zero, List.set_cons_succ] at H)
  refine (name21_calls (k := 8) (n := 0) (a := 0) (iI _ (by decide)) (iI _ (by decide)) (iI _ (by decide))).mono ?_
  rintro e wb0_ ⟨v, rfl, hto, hx⟩
  obtain ⟨A1, c1, K1, k1, rfl, H3⟩ := H.resTm hx hto
  clear H hx hto
  have H := H3
  clear H3
  go_wp2_with fail
  refine callsH (by (repeat (first | with_reducible exact H | with_reducible exact H0_ | with_reducible apply Hp.alloc | with_reducible apply Hp.allocMap | with_reducible apply Hp.drew | with_reducible apply Hp.drewN | with_reducible apply Hp.set)); (try any_goals (repeat (first | with_reducible exact Upd.head | with_reducible apply Upd.tail)))) ?_
  clear H; intro wc0_ H; (try simp only [size_drew_, size_drewN_, World.size_alloc, World.size_setCell, List.set_cons_zero, List.set_cons_succ] at H)
  refine (show Calls Tryd.prog 13 #[.slice (some ⟨g, 0, none⟩) 5 5, .slice (some ⟨ba, oa, none⟩) 5 ct, _] wc0_ (PTm wc0_ (.mk 3 5 0 [] [])) from by
    have := carry_Term (t := .mk 8 0 0 [] []) (HC.out.ext H.ext) ⟨_, _, _, _, rfl, H.rd .head⟩
    rw [caA] at this
    rw [HL.out] at this
    exact this).mono ?_
  rintro e wd0_ ⟨v, rfl, hto, hx⟩
  obtain ⟨B0, d0, J0, j0, rfl, H3⟩ := H.resTm hx hto
  clear H hx hto
  have H := H3
  clear H3
  simp only [Tm.k_mk, Tm.n_mk, Tm.a_mk, Tm.ls_mk, Tm.ks_mk, List.length_nil] at H ⊢
  have hr_ := H.rules; simp only [Rules, and_true] at hr_; have hd_ := H.dif; simp only [Dif, Neq, and_true] at hd_; obtain ⟨ho_, hz_⟩ := H.old0
  go_wp2_with (first | ((with_reducible refine atStore (t := 30) ?_); go_must (refine wpList_storeH (t := 30) rfl rfl (by go_simp <;> first | rfl | exact ⟨rfl, rfl⟩) (by go_simp <;> first | rfl | exact ⟨rfl, rfl⟩) (by exact Hp.norm (by (repeat (first | with_reducible exact H | with_reducible exact H0_ | with_reducible apply Hp.alloc | with_reducible apply Hp.allocMap | with_reducible apply Hp.drew | with_reducible apply Hp.drewN | with_reducible apply Hp.set)); (try any_goals (repeat (first | with_reducible exact Upd.head | with_reducible apply Upd.tail)))) (by ((try simp only [size_drew_, size_drewN_, World.size_alloc, World.size_setCell, List.set_cons_zero, List.set_cons_succ, List.nil_append, List.cons_append]) <;> rfl))) (by (repeat (first | with_reducible exact Upd.head | with_reducible apply Upd.tail))) (by exact aggTerm) (by rfl) (by simp [Value.oneCell']) ?_; clear H; intro we0_ H; (try simp only [size_drew_, size_drewN_, World.size_alloc, World.size_setCell, List.set_cons_zero, List.set_cons_succ] at H); (try clear hr_ hd_ ho_ hz_); have hr_ := H.rules; simp only [Rules, and_true] at hr_; have hd_ := H.dif; simp only [Dif, Neq, and_true] at hd_; obtain ⟨ho_, hz_⟩ := H.old0)) | fail)
  (try clear hr_ hd_ ho_ hz_)
  refine callsH (by (repeat (first | with_reducible exact H | with_reducible exact H0_ | with_reducible apply Hp.alloc | with_reducible apply Hp.allocMap | with_reducible apply Hp.drew | with_reducible apply Hp.drewN | with_reducible apply Hp.set)); (try any_goals (repeat (first | with_reducible exact Upd.head | with_reducible apply Upd.tail)))) ?_
  clear H; intro wa1_ H; (try simp only [size_drew_, size_drewN_, World.size_alloc, World.size_setCell, List.set_cons_zero, List.set_cons_succ] at H)
  refine (name21_calls (k := 9) (n := 0) (a := 1) (iI _ (by decide)) (iI _ (by decide)) (iI _ (by decide))).mono ?_
  rintro e wb1_ ⟨v, rfl, hto, hx⟩
  obtain ⟨A1, c1, K1, k1, rfl, H3⟩ := H.resTm hx hto
  clear H hx hto
  have H := H3
  clear H3
  go_wp2_with fail
  refine callsH (by (repeat (first | with_reducible exact H | with_reducible exact H0_ | with_reducible apply Hp.alloc | with_reducible apply Hp.allocMap | with_reducible apply Hp.drew | with_reducible apply Hp.drewN | with_reducible apply Hp.set)); (try any_goals (repeat (first | with_reducible exact Upd.head | with_reducible apply Upd.tail)))) ?_
  clear H; intro wc1_ H; (try simp only [size_drew_, size_drewN_, World.size_alloc, World.size_setCell, List.set_cons_zero, List.set_cons_succ] at H)
  refine (show Calls Tryd.prog 13 #[.slice (some ⟨g, 0, none⟩) 5 5, .slice (some ⟨ba, oa, none⟩) 5 ct, _] wc1_ (PTm wc1_ (.mk 3 7 0 [] [])) from by
    have := carry_Term (t := .mk 9 0 1 [] []) (HC.out.ext H.ext) ⟨_, _, _, _, rfl, H.rd .head⟩
    rw [caB] at this
    rw [HL.out] at this
    exact this).mono ?_
  rintro e wd1_ ⟨v, rfl, hto, hx⟩
  obtain ⟨B1, d1, J1, j1, rfl, H3⟩ := H.resTm hx hto
  clear H hx hto
  have H := H3
  clear H3
  simp only [Tm.k_mk, Tm.n_mk, Tm.a_mk, Tm.ls_mk, Tm.ks_mk, List.length_nil] at H ⊢
  have hr_ := H.rules; simp only [Rules, and_true] at hr_; have hd_ := H.dif; simp only [Dif, Neq, and_true] at hd_; obtain ⟨ho_, hz_⟩ := H.old0
  go_wp2_with (first | ((with_reducible refine atStore (t := 30) ?_); go_must (refine wpList_storeH (t := 30) rfl rfl (by go_simp <;> first | rfl | exact ⟨rfl, rfl⟩) (by go_simp <;> first | rfl | exact ⟨rfl, rfl⟩) (by exact Hp.norm (by (repeat (first | with_reducible exact H | with_reducible exact H0_ | with_reducible apply Hp.alloc | with_reducible apply Hp.allocMap | with_reducible apply Hp.drew | with_reducible apply Hp.drewN | with_reducible apply Hp.set)); (try any_goals (repeat (first | with_reducible exact Upd.head | with_reducible apply Upd.tail)))) (by ((try simp only [size_drew_, size_drewN_, World.size_alloc, World.size_setCell, List.set_cons_zero, List.set_cons_succ, List.nil_append, List.cons_append]) <;> rfl))) (by (repeat (first | with_reducible exact Upd.head | with_reducible apply Upd.tail))) (by exact aggTerm) (by rfl) (by simp [Value.oneCell']) ?_; clear H; intro we1_ H; (try simp only [size_drew_, size_drewN_, World.size_alloc, World.size_setCell, List.set_cons_zero, List.set_cons_succ] at H); (try clear hr_ hd_ ho_ hz_); have hr_ := H.rules; simp only [Rules, and_true] at hr_; have hd_ := H.dif; simp only [Dif, Neq, and_true] at hd_; obtain ⟨ho_, hz_⟩ := H.old0)) | fail)
  (try clear hr_ hd_ ho_ hz_)
  refine callsH (by (repeat (first | with_reducible exact H | with_reducible exact H0_ | with_reducible apply Hp.alloc | with_reducible apply Hp.allocMap | with_reducible apply Hp.drew | with_reducible apply Hp.drewN | with_reducible apply Hp.set)); (try any_goals (repeat (first | with_reducible exact Upd.head | with_reducible apply Upd.tail)))) ?_
  clear H; intro wa2_ H; (try simp only [size_drew_, size_drewN_, World.size_alloc, World.size_setCell, List.set_cons_zero, List.set_cons_succ] at H)
  refine (name21_calls (k := 10) (n := 0) (a := 0) (iI _ (by decide)) (iI _ (by decide)) (iI _ (by decide))).mono ?_
  rintro e wb2_ ⟨v, rfl, hto, hx⟩
  obtain ⟨A1, c1, K1, k1, rfl, H3⟩ := H.resTm hx hto
  clear H hx hto
  have H := H3
  clear H3
  go_wp2_with fail
  refine callsH (by (repeat (first | with_reducible exact H | with_reducible exact H0_ | with_reducible apply Hp.alloc | with_reducible apply Hp.allocMap | with_reducible apply Hp.drew | with_reducible apply Hp.drewN | with_reducible apply Hp.set)); (try any_goals (repeat (first | with_reducible exact Upd.head | with_reducible apply Upd.tail)))) ?_
  clear H; intro wc2_ H; (try simp only [size_drew_, size_drewN_, World.size_alloc, World.size_setCell, List.set_cons_zero, List.set_cons_succ] at H)
  refine (show Calls Tryd.prog 13 #[.slice (some ⟨g, 0, none⟩) 5 5, .slice (some ⟨ba, oa, none⟩) 5 ct, _] wc2_ (PTm wc2_ (.mk 3 9 0 [] [])) from by
    have := carry_Term (t := .mk 10 0 0 [] []) (HC.out.ext H.ext) ⟨_, _, _, _, rfl, H.rd .head⟩
    rw [caC] at this
    rw [HL.out] at this
    exact this).mono ?_
  rintro e wd2_ ⟨v, rfl, hto, hx⟩
  obtain ⟨B2, d2, J2, j2, rfl, H3⟩ := H.resTm hx hto
  clear H hx hto
  have H := H3
  clear H3
  simp only [Tm.k_mk, Tm.n_mk, Tm.a_mk, Tm.ls_mk, Tm.ks_mk, List.length_nil] at H ⊢
  have hr_ := H.rules; simp only [Rules, and_true] at hr_; have hd_ := H.dif; simp only [Dif, Neq, and_true] at hd_; obtain ⟨ho_, hz_⟩ := H.old0
  go_wp2_with (first | ((with_reducible refine atStore (t := 30) ?_); go_must (refine wpList_storeH (t := 30) rfl rfl (by go_simp <;> first | rfl | exact ⟨rfl, rfl⟩) (by go_simp <;> first | rfl | exact ⟨rfl, rfl⟩) (by exact Hp.norm (by (repeat (first | with_reducible exact H | with_reducible exact H0_ | with_reducible apply Hp.alloc | with_reducible apply Hp.allocMap | with_reducible apply Hp.drew | with_reducible apply Hp.drewN | with_reducible apply Hp.set)); (try any_goals (repeat (first | with_reducible exact Upd.head | with_reducible apply Upd.tail)))) (by ((try simp only [size_drew_, size_drewN_, World.size_alloc, World.size_setCell, List.set_cons_zero, List.set_cons_succ, List.nil_append, List.cons_append]) <;> rfl))) (by (repeat (first | with_reducible exact Upd.head | with_reducible apply Upd.tail))) (by exact aggTerm) (by rfl) (by simp [Value.oneCell']) ?_; clear H; intro we2_ H; (try simp only [size_drew_, size_drewN_, World.size_alloc, World.size_setCell, List.set_cons_zero, List.set_cons_succ] at H); (try clear hr_ hd_ ho_ hz_); have hr_ := H.rules; simp only [Rules, and_true] at hr_; have hd_ := H.dif; simp only [Dif, Neq, and_true] at hd_; obtain ⟨ho_, hz_⟩ := H.old0)) | fail)
  (try clear hr_ hd_ ho_ hz_)
  refine callsH (by (repeat (first | with_reducible exact H | with_reducible exact H0_ | with_reducible apply Hp.alloc | with_reducible apply Hp.allocMap | with_reducible apply Hp.drew | with_reducible apply Hp.drewN | with_reducible apply Hp.set)); (try any_goals (repeat (first | with_reducible exact Upd.head | with_reducible apply Upd.tail)))) ?_
  clear H; intro wa3_ H; (try simp only [size_drew_, size_drewN_, World.size_alloc, World.size_setCell, List.set_cons_zero, List.set_cons_succ] at H)
  refine (name21_calls (k := 3) (n := 1) (a := 0) (iI _ (by decide)) (iI _ (by decide)) (iI _ (by decide))).mono ?_
  rintro e wb3_ ⟨v, rfl, hto, hx⟩
  obtain ⟨A1, c1, K1, k1, rfl, H3⟩ := H.resTm hx hto
  clear H hx hto
  have H := H3
  clear H3
  go_wp2_with fail
  refine callsH (by (repeat (first | with_reducible exact H | with_reducible exact H0_ | with_reducible apply Hp.alloc | with_reducible apply Hp.allocMap | with_reducible apply Hp.drew | with_reducible apply Hp.drewN | with_reducible apply Hp.set)); (try any_goals (repeat (first | with_reducible exact Upd.head | with_reducible apply Upd.tail)))) ?_
  clear H; intro wc3_ H; (try simp only [size_drew_, size_drewN_, World.size_alloc, World.size_setCell, List.set_cons_zero, List.set_cons_succ] at H)
  refine (show Calls Tryd.prog 13 #[.slice (some ⟨g, 0, none⟩) 5 5, .slice (some ⟨ba, oa, none⟩) 5 ct, _] wc3_ (PTm wc3_ (.mk 3 12 0 [] [])) from by
    have := carry_Term (t := .mk 3 1 0 [] []) (HC.out.ext H.ext) ⟨_, _, _, _, rfl, H.rd .head⟩
    rw [caD] at this
    rw [HL.out] at this
    exact this).mono ?_
  rintro e wd3_ ⟨v, rfl, hto, hx⟩
  obtain ⟨B3, d3, J3, j3, rfl, H3⟩ := H.resTm hx hto
  clear H hx hto
  have H := H3
  clear H3
  simp only [Tm.k_mk, Tm.n_mk, Tm.a_mk, Tm.ls_mk, Tm.ks_mk, List.length_nil] at H ⊢
  have hr_ := H.rules; simp only [Rules, and_true] at hr_; have hd_ := H.dif; simp only [Dif, Neq, and_true] at hd_; obtain ⟨ho_, hz_⟩ := H.old0
  go_wp2_with (first | ((with_reducible refine atStore (t := 30) ?_); go_must (refine wpList_storeH (t := 30) rfl rfl (by go_simp <;> first | rfl | exact ⟨rfl, rfl⟩) (by go_simp <;> first | rfl | exact ⟨rfl, rfl⟩) (by exact Hp.norm (by (repeat (first | with_reducible exact H | with_reducible exact H0_ | with_reducible apply Hp.alloc | with_reducible apply Hp.allocMap | with_reducible apply Hp.drew | with_reducible apply Hp.drewN | with_reducible apply Hp.set)); (try any_goals (repeat (first | with_reducible exact Upd.head | with_reducible apply Upd.tail)))) (by ((try simp only [size_drew_, size_drewN_, World.size_alloc, World.size_setCell, List.set_cons_zero, List.set_cons_succ, List.nil_append, List.cons_append]) <;> rfl))) (by (repeat (first | with_reducible exact Upd.head | with_reducible apply Upd.tail))) (by exact aggTerm) (by rfl) (by simp [Value.oneCell']) ?_; clear H; intro we3_ H; (try simp only [size_drew_, size_drewN_, World.size_alloc, World.size_setCell, List.set_cons_zero, List.set_cons_succ] at H); (try clear hr_ hd_ ho_ hz_); have hr_ := H.rules; simp only [Rules, and_true] at hr_; have hd_ := H.dif; simp only [Dif, Neq, and_true] at hd_; obtain ⟨ho_, hz_⟩ := H.old0)) | fail)
  (try clear hr_ hd_ ho_ hz_)
  go_ret
  exact ⟨rfl, HX.out.seq (show Hp no w2 _ _ from (by (repeat (first | with_reducible exact H | with_reducible exact H0_ | with_reducible apply Hp.alloc | with_reducible apply Hp.allocMap | with_reducible apply Hp.drew | with_reducible apply Hp.drewN | with_reducible apply Hp.set)); (try any_goals (repeat (first | with_reducible exact Upd.head | with_reducible apply Upd.tail))))).ext⟩
end Go.Proofs.YteelplgdojjakaaDoor
