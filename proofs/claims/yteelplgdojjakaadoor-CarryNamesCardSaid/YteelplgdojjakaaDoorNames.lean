/- CarryNames: the walk. -/
import Derived.Test.YteelplgdojjakaaDoorNames0
namespace Go.Proofs.YteelplgdojjakaaDoor
set_option linter.unusedSimpArgs false
set_option linter.unusedVariables false
open Go.RowKit
theorem atq_len {q : Nat} (h : q ≤ 5) : ((atL someD).take q).length = q := by rw [List.length_take, someAt]; simp; omega
/-- Both sides at a prefix of the bases. -/
theorem cxq {w : World} {S S2 : Nat → Prop} {A B : Option Addr} {ct q : Nat} (C : Cx w S S2 someD (atL someD) A B 5 ct) (h : q ≤ 5) : Cx w S S2 someD ((atL someD).take q) A B 5 ct := by
  have h5 : (atL someD).length = 5 := by rw [someAt]; rfl
  have h2 := C.2.1
  rw [h5] at h2
  have := RC.pre_ h2 h
  refine ⟨C.1, ?_, C.2.2⟩
  rw [atq_len h, ← List.map_take] at *
  exact this
theorem carry_q {w : World} {S S2 S0 : Nat → Prop} {A B : Option Addr} {ct q : Nat} {t : Tm} {v : Value} (C : Cx w S S2 someD (atL someD) A B 5 ct) (h : q ≤ 5) (ht : TV w S0 t v) : Calls Tryd.prog 13 #[.slice A 5 5, .slice B q ct, v] w (PTm w (carryT someD ((atL someD).take q) t)) := by
  have := carry_Term (cxq C h) ht
  rw [atq_len h] at this
  exact this
theorem ref_q {w : World} {S S2 S0 : Nat → Prop} {A B : Option Addr} {ct q : Nat} {t : Tm} {v : Value} (C : Cx w S S2 someD (atL someD) A B 5 ct) (h : q ≤ 5) (ht : TV w S0 t v) : Calls Tryd.prog 14 #[.slice A 5 5, .slice B q ct, v] w (PTm w (carryT someD ((atL someD).take q) t)) := by
  have := refTerm_ t w S0 v (cxq C h) ht
  rw [atq_len h] at this
  exact this
set_option maxRecDepth 100000 in
set_option maxHeartbeats 8000000 in
theorem carryNames_calls {w : World} (hT : Tab w) : Calls Tryd.prog 3 #[] w (PV w (.bool true)) := by
  have mk0 : ∀ w, (Instr.makeSlice 27 (.int .i64 0) (.int .i64 0)).run Tryd.prog w = .ok (.slice (some ⟨w.heap.size, 0, none⟩) 0 0) (w.alloc (.cells #[] 38)) := run_makeC (z := 1) (bytes := 24) (zv := .agg #[.slice none 0 0]) (cs := []) 0 Tryd.underlying27 (by kernel_rfl) (by kernel_rfl) (by decide) (by decide)
  have mk1 : ∀ w, (Instr.makeSlice 27 (.int .i64 1) (.int .i64 1)).run Tryd.prog w = .ok (.slice (some ⟨w.heap.size, 0, none⟩) 1 1) (w.alloc (.cells #[.slice none 0 0] 38)) := run_makeC (z := 1) (bytes := 24) (zv := .agg #[.slice none 0 0]) (cs := [.slice none 0 0]) 1 Tryd.underlying27 (by kernel_rfl) (by kernel_rfl) (by decide) (by decide)
  have mk2 : ∀ w, (Instr.makeSlice 27 (.int .i64 2) (.int .i64 2)).run Tryd.prog w = .ok (.slice (some ⟨w.heap.size, 0, none⟩) 2 2) (w.alloc (.cells #[.slice none 0 0, .slice none 0 0] 38)) := run_makeC (z := 1) (bytes := 24) (zv := .agg #[.slice none 0 0]) (cs := [.slice none 0 0, .slice none 0 0]) 2 Tryd.underlying27 (by kernel_rfl) (by kernel_rfl) (by decide) (by decide)
  have mk3 : ∀ w, (Instr.makeSlice 27 (.int .i64 3) (.int .i64 3)).run Tryd.prog w = .ok (.slice (some ⟨w.heap.size, 0, none⟩) 3 3) (w.alloc (.cells #[.slice none 0 0, .slice none 0 0, .slice none 0 0] 38)) := run_makeC (z := 1) (bytes := 24) (zv := .agg #[.slice none 0 0]) (cs := [.slice none 0 0, .slice none 0 0, .slice none 0 0]) 3 Tryd.underlying27 (by kernel_rfl) (by kernel_rfl) (by decide) (by decide)
  go_enter Tryd.func3, Tryd.ntmps3
  go_wp2_with fail
  refine some_calls.mono ?_
  rintro e w1 ⟨g, rfl, hds, hx1⟩
  go_wp2_with fail
  refine (ref_At hds rfl).mono ?_
  rintro e w2 ⟨At, ct, rfl, hacc, hx2⟩
  have hat : RC w2 (fun _ => True) (.l 3 1 ((atL someD).map D.i)) [.slice At ((atL someD).map D.i).length ct] := hacc.elim fun L h => RO.rc _ _ _ (fun _ _ => trivial) h.1
  have hl5 : ((atL someD).map D.i).length = 5 := by simp [someAt]
  rw [hl5] at hat
  rw [hl5]
  obtain ⟨ba, oa, rfl, hba, _, _, _⟩ := hat.atInt (k := 1) (by rw [someAt]; decide)
  have C : Cx w2 (fun k => w.heap.size ≤ k) (fun _ => True) someD (atL someD) (some ⟨g, 0, none⟩) (some ⟨ba, oa, none⟩) 5 ct := ⟨hds.ext0 hx2, by rw [show (atL someD).length = 5 by rw [someAt]; rfl]; exact hat, (hT.ext hx1).ext hx2⟩
  have HC := Lib.hid C
  have HX := Lib.hid (hx1.seq hx2)
  have HL := Lib.hid (show (atL someD).length = 5 by rw [someAt]; rfl)
  have hct := hat.lenM.2
  clear C hx1 hx2 hds hat hl5 hacc hT
  go_wp2_with fail
  go_loopw [3] (fun k wr => ∃ kk : Int, -1 ≤ kk ∧ kk ≤ 26 ∧ k = .int .i64 kk ∧ Ext no w2 wr) (fun k _ => (26 - intOf k).toNat)
  case atStart => exact ⟨-1, by omega, by omega, rfl, Ext.refl _ _⟩
  case round =>
    obtain ⟨kk, hk1, hk2, rfl, hextk⟩ := hrel
    by_cases hkk : kk < 26
    · go_wp2_with fail
      go_loopw [4] (fun k wr => ∃ nn : Int, -1 ≤ nn ∧ nn ≤ 7 ∧ k = .int .i64 nn ∧ Ext no w2 wr) (fun k _ => (7 - intOf k).toNat)
      case atStart => exact ⟨-1, by omega, by omega, rfl, hextk⟩
      case round =>
        obtain ⟨nn, hn1, hn2, rfl, hextn⟩ := hrel
        by_cases hnn : nn < 7
        · go_wp2_with fail
          go_loopw [5] (fun k wr => ∃ mm : Int, -1 ≤ mm ∧ mm ≤ 4 ∧ k = .int .i64 mm ∧ Ext no w2 wr) (fun k _ => (4 - intOf k).toNat)
          case atStart => exact ⟨-1, by omega, by omega, rfl, hextn⟩
          case round =>
            obtain ⟨mm, hm1, hm2, rfl, hextm⟩ := hrel
            by_cases hmm : mm < 4
            · go_wp2_with fail
              refine (name21_calls (by unfold inI; omega) (by unfold inI; omega) (by unfold inI; omega)).mono ?_
              rintro e w6 ⟨v, rfl, hto, hx⟩
              have H := Hp.start no wr
              obtain ⟨A1, c1, K1, k1, rfl, H3⟩ := H.resTm hx hto
              clear H hx hto
              have H := H3
              clear H3
              simp only [Tm.k_mk, Tm.n_mk, Tm.a_mk, Tm.ls_mk, Tm.ks_mk, List.length_nil] at H ⊢
              have hr_ := H.rules; simp only [Rules, and_true] at hr_; have hd_ := H.dif; simp only [Dif, Neq, and_true] at hd_; obtain ⟨ho_, hz_⟩ := H.old0
              go_upto_region 13 with fail
              clear hr_ hd_ ho_ hz_
              refine codeH (by (repeat (first | with_reducible exact H | with_reducible exact H0_ | with_reducible apply Hp.alloc | with_reducible apply Hp.allocMap | with_reducible apply Hp.drew | with_reducible apply Hp.drewN | with_reducible apply Hp.set)); (try any_goals (repeat (first | with_reducible exact Upd.head | with_reducible apply Upd.tail)))) ?_
              clear H; intro w7 H; (try simp only [size_drew_, size_drewN_, World.size_alloc, World.size_setCell, List.set_cons_zero, List.set_cons_succ] at H)
              have HH := Lib.hid H
              clear H
              go_cut [] (fun wx => ∃ (nl gL : Nat), nl ≤ 100 ∧ Hp no wr wx [.box gL 38 (List.replicate nl (.slice none 0 0)), .box w6.heap.size 30 [.int .i64 kk, .int .i64 nn, .int .i64 mm, .slice (some ⟨gL, 0, none⟩) nl nl, .slice K1 0 k1], .dat (Tm.mk kk nn mm [] []).d [.int .i64 kk, .int .i64 nn, .int .i64 mm, .slice A1 0 c1, .slice K1 0 k1]])
              case first =>
                have : mm = -1 ∨ mm = 0 ∨ mm = 1 ∨ mm = 2 ∨ mm = 3 := by omega
                have H := HH.out
                clear HH hm1 hm2 hmm
                rcases this with rfl | rfl | rfl | rfl | rfl
                case' inl => have hN := Lib.hid (show 0 ≤ 100 by decide)
                case' inr.inl => have hN := Lib.hid (show 0 ≤ 100 by decide)
                case' inr.inr.inl => have hN := Lib.hid (show 1 ≤ 100 by decide)
                case' inr.inr.inr.inl => have hN := Lib.hid (show 2 ≤ 100 by decide)
                case' inr.inr.inr.inr => have hN := Lib.hid (show 3 ≤ 100 by decide)
                all_goals
                  have hr_ := H.rules; simp only [Rules, and_true] at hr_; have hd_ := H.dif; simp only [Dif, Neq, and_true] at hd_; obtain ⟨ho_, hz_⟩ := H.old0
                  go_wp2_with fail
                  clear hr_ hd_ ho_ hz_
                  go_meet
                  case rel => exact ⟨_, _, hN.out, (by exact Hp.norm (by (repeat (first | with_reducible exact H | with_reducible exact H0_ | with_reducible apply Hp.alloc | with_reducible apply Hp.allocMap | with_reducible apply Hp.drew | with_reducible apply Hp.drewN | with_reducible apply Hp.set)); (try any_goals (repeat (first | with_reducible exact Upd.head | with_reducible apply Upd.tail)))) (by ((try simp only [size_drew_, size_drewN_, World.size_alloc, World.size_setCell, List.set_cons_zero, List.set_cons_succ, List.nil_append, List.cons_append]) <;> rfl)))⟩
              case rest =>
                obtain ⟨nl, gL, hnl, H⟩ := hcut
                have hr_ := H.rules; simp only [Rules, and_true] at hr_; have hd_ := H.dif; simp only [Dif, Neq, and_true] at hd_; obtain ⟨ho_, hz_⟩ := H.old0
                go_wp2_with fail
                clear hr_ hd_ ho_ hz_
                refine codeH (by (repeat (first | with_reducible exact H | with_reducible exact H0_ | with_reducible apply Hp.alloc | with_reducible apply Hp.allocMap | with_reducible apply Hp.drew | with_reducible apply Hp.drewN | with_reducible apply Hp.set)); (try any_goals (repeat (first | with_reducible exact Upd.head | with_reducible apply Upd.tail)))) ?_
                clear H; intro w8 H; (try simp only [size_drew_, size_drewN_, World.size_alloc, World.size_setCell, List.set_cons_zero, List.set_cons_succ] at H)
                obtain ⟨ht, hu⟩ := names_rc (k := kk) (n := nn) (m := mm) rfl hnl (by unfold inI; omega) (by unfold inI; omega) (by unfold inI; omega) H
                have b7 := H.blk (l' := _) .head
                have b6 := H.blk (g := w6.heap.size) (.tail (.tail (.tail (.tail .head))))
                have c7 := b7.cells
                have c6 := b6.cells
                have l7 := b7.lt
                have l6 := b6.lt
                have HT := Lib.hid (tT_tv ht)
                have HU := Lib.hid (uT_tv hu)
                have HM := Lib.hid (hextm.seq H.ext)
                clear H b7 b6 ht hu
                go_loopw [8] (fun k wr2 => ∃ q : Nat, (q = 0 ∨ q = 1 ∨ q = 3 ∨ q = 7) ∧ k = .int .i64 q ∧ Ext no w8 wr2) (fun k _ => (8 - intOf k).toNat)
                case atStart => exact ⟨0, .inl rfl, rfl, Ext.refl _ _⟩
                case round =>
                  obtain ⟨q, hq, rfl, hext⟩ := hrel
                  rcases hq with rfl | rfl | rfl | rfl
                  case inr.inr.inr =>
                    go_wp2_with fail
                    go_roundw
                    case rel => exact ⟨mm + 1, by omega, by omega, by go_num, HM.out.seq hext⟩
                    case measure => simp [intOf] <;> omega
                  · go_wp2_with fail
                    have H : Hp no w8 wr [] := ⟨hext, [], by unfold Chs; rfl, by simp⟩
                    refine wp_region_H 22 [false, false, false, false, false, false, false, false, false, false, false, false, false, false, false, false, false, false, false, false, false, false] [] H .nil (by kernel_rfl) rfl rfl (fun H_ hR_ => ?_)
                    (try clear H0_); have H0_ := H; clear H; have H := H_; clear H_
                    refine wpL_take (i := 0) (v := ?v1_) rfl (by kernel_rfl) (fun _ _ _ h => h) hR_ (by rfl) (fun w_ hw_ => ?h1_) ?_
                    case h1_ => have ho_ := hw_.old0.1; have hz_ := hw_.old0.2; have hr_ := hw_.rules; clear hw_; simp only [Rules, and_true] at hr_; go_split_ands; go_simp; try with_reducible rfl
                    simp only [List.getElem_toArray, List.getElem_cons_zero, List.getElem_cons_succ, Act.put, List.setIfInBounds_toArray, List.set_cons_zero, List.set_cons_succ]
                    refine wpL_take (i := 1) (v := ?v2_) rfl (by kernel_rfl) (fun _ _ _ h => h) hR_ (by rfl) (fun w_ hw_ => ?h2_) ?_
                    case h2_ => have ho_ := hw_.old0.1; have hz_ := hw_.old0.2; have hr_ := hw_.rules; clear hw_; simp only [Rules, and_true] at hr_; go_split_ands; go_simp; try with_reducible rfl
                    simp only [List.getElem_toArray, List.getElem_cons_zero, List.getElem_cons_succ, Act.put, List.setIfInBounds_toArray, List.set_cons_zero, List.set_cons_succ]
                    refine wpL_take (i := 2) (v := ?v3_) rfl (by kernel_rfl) (fun _ _ _ h => h) hR_ (by rfl) (fun w_ hw_ => ?h3_) ?_
                    case h3_ => have ho_ := hw_.old0.1; have hz_ := hw_.old0.2; have hr_ := hw_.rules; clear hw_; simp only [Rules, and_true] at hr_; go_split_ands; go_simp; try with_reducible rfl
                    simp only [List.getElem_toArray, List.getElem_cons_zero, List.getElem_cons_succ, Act.put, List.setIfInBounds_toArray, List.set_cons_zero, List.set_cons_succ]
                    refine wpL_take (i := 4) (v := ?v4_) rfl (by kernel_rfl) (fun _ _ _ h => h) hR_ (by rfl) (fun w_ hw_ => ?h4_) ?_
                    case h4_ => have ho_ := hw_.old0.1; have hz_ := hw_.old0.2; have hr_ := hw_.rules; clear hw_; simp only [Rules, and_true] at hr_; go_split_ands; go_simp; try with_reducible rfl
                    simp only [List.getElem_toArray, List.getElem_cons_zero, List.getElem_cons_succ, Act.put, List.setIfInBounds_toArray, List.set_cons_zero, List.set_cons_succ]
                    refine wpL_take (i := 5) (v := ?v5_) rfl (by kernel_rfl) (fun _ _ _ h => h) hR_ (by rfl) (fun w_ hw_ => ?h5_) ?_
                    case h5_ => have ho_ := hw_.old0.1; have hz_ := hw_.old0.2; have hr_ := hw_.rules; clear hw_; simp only [Rules, and_true] at hr_; go_split_ands; go_simp; try with_reducible rfl
                    simp only [List.getElem_toArray, List.getElem_cons_zero, List.getElem_cons_succ, Act.put, List.setIfInBounds_toArray, List.set_cons_zero, List.set_cons_succ]
                    refine wpL_take (i := 6) (v := ?v6_) rfl (by kernel_rfl) (fun _ _ _ h => h) hR_ (by rfl) (fun w_ hw_ => ?h6_) ?_
                    case h6_ => have ho_ := hw_.old0.1; have hz_ := hw_.old0.2; have hr_ := hw_.rules; clear hw_; simp only [Rules, and_true] at hr_; go_split_ands; go_simp; try with_reducible rfl
                    simp only [List.getElem_toArray, List.getElem_cons_zero, List.getElem_cons_succ, Act.put, List.setIfInBounds_toArray, List.set_cons_zero, List.set_cons_succ]
                    refine wpL_do (i := 3) rfl (by kernel_rfl) (by rfl) (fun K_ hK_ => ?_)
                    go_simp
                    refine (carry_q (HC.out.ext (HM.out.seq H.ext)) (by decide) (HU.out.ext0_ H.ext)).mono ?_
                    rintro e wa_ ⟨v, rfl, hto, hx⟩
                    obtain ⟨Aa, ca, Ka, ka, rfl, H3⟩ := H.resTm hx hto
                    clear H H0_ hx hto hR_
                    have H := H3
                    clear H3
                    refine hK_ _ _ (fun _ => H.sub (by simp)) (fun hR_ => ?_)
                    replace hR_ := hR_ (by decide)
                    refine wpL_do (i := 7) rfl (by kernel_rfl) (by rfl) (fun K_ hK_ => ?_)
                    go_simp
                    refine (ref_q (HC.out.ext (HM.out.seq H.ext)) (by decide) (HU.out.ext0_ H.ext)).mono ?_
                    rintro e wb_ ⟨v, rfl, hto, hx⟩
                    obtain ⟨Ab, cb, Kb, kb, rfl, H3⟩ := H.resTm hx hto
                    clear H hx hto hR_
                    have H := H3
                    clear H3
                    refine hK_ _ _ (fun _ => H.sub (by simp)) (fun hR_ => ?_)
                    replace hR_ := hR_ (by decide)
                    refine wpL_do (i := 8) rfl (by kernel_rfl) (by rfl) (fun K_ hK_ => ?_)
                    go_simp
                    refine (sameTerm ⟨_, _, _, _, rfl, H.rd (.tail .head)⟩ ⟨_, _, _, _, rfl, H.rd .head⟩).mono ?_
                    rintro e wc_ ⟨r, rfl, hr, hx⟩
                    obtain rfl : r = true := hr.2 rfl
                    replace H := H.call hx
                    clear hx hr hR_
                    refine hK_ _ _ (fun _ => H.sub (by simp)) (fun hR_ => ?_)
                    replace hR_ := hR_ (by decide)
                    refine wpL_take (i := 9) (v := ?v7_) rfl (by kernel_rfl) (fun _ _ _ h => h) hR_ (by rfl) (fun w_ hw_ => ?h7_) ?_
                    case h7_ => have ho_ := hw_.old0.1; have hz_ := hw_.old0.2; have hr_ := hw_.rules; clear hw_; simp only [Rules, and_true] at hr_; go_split_ands; go_simp; try with_reducible rfl
                    simp only [List.getElem_toArray, List.getElem_cons_zero, List.getElem_cons_succ, Act.put, List.setIfInBounds_toArray, List.set_cons_zero, List.set_cons_succ]
                    refine wpL_take (i := 10) (v := ?v8_) rfl (by kernel_rfl) (fun _ _ _ h => h) hR_ (by rfl) (fun w_ hw_ => ?h8_) ?_
                    case h8_ => have ho_ := hw_.old0.1; have hz_ := hw_.old0.2; have hr_ := hw_.rules; clear hw_; simp only [Rules, and_true] at hr_; go_split_ands; go_simp; try with_reducible rfl
                    simp only [List.getElem_toArray, List.getElem_cons_zero, List.getElem_cons_succ, Act.put, List.setIfInBounds_toArray, List.set_cons_zero, List.set_cons_succ]
                    refine wpL_take (i := 11) (v := ?v9_) rfl (by kernel_rfl) (fun _ _ _ h => h) hR_ (by rfl) (fun w_ hw_ => ?h9_) ?_
                    case h9_ => have ho_ := hw_.old0.1; have hz_ := hw_.old0.2; have hr_ := hw_.rules; clear hw_; simp only [Rules, and_true] at hr_; go_split_ands; go_simp; try with_reducible rfl
                    simp only [List.getElem_toArray, List.getElem_cons_zero, List.getElem_cons_succ, Act.put, List.setIfInBounds_toArray, List.set_cons_zero, List.set_cons_succ]
                    refine wpL_take (i := 12) (v := ?v10_) rfl (by kernel_rfl) (fun _ _ _ h => h) hR_ (by rfl) (fun w_ hw_ => ?h10_) ?_
                    case h10_ => have ho_ := hw_.old0.1; have hz_ := hw_.old0.2; have hr_ := hw_.rules; clear hw_; simp only [Rules, and_true] at hr_; go_split_ands; go_simp; try with_reducible rfl
                    simp only [List.getElem_toArray, List.getElem_cons_zero, List.getElem_cons_succ, Act.put, List.setIfInBounds_toArray, List.set_cons_zero, List.set_cons_succ]
                    refine wpL_take (i := 13) (v := ?v11_) rfl (by kernel_rfl) (fun _ _ _ h => h) hR_ (by rfl) (fun w_ hw_ => ?h11_) ?_
                    case h11_ => have ho_ := hw_.old0.1; have hz_ := hw_.old0.2; have hr_ := hw_.rules; clear hw_; simp only [Rules, and_true] at hr_; go_split_ands; go_simp; try with_reducible rfl
                    simp only [List.getElem_toArray, List.getElem_cons_zero, List.getElem_cons_succ, Act.put, List.setIfInBounds_toArray, List.set_cons_zero, List.set_cons_succ]
                    refine wpL_take (i := 15) (v := ?v12_) rfl (by kernel_rfl) (fun _ _ _ h => h) hR_ (by rfl) (fun w_ hw_ => ?h12_) ?_
                    case h12_ => have ho_ := hw_.old0.1; have hz_ := hw_.old0.2; have hr_ := hw_.rules; clear hw_; simp only [Rules, and_true] at hr_; go_split_ands; go_simp; try with_reducible rfl
                    simp only [List.getElem_toArray, List.getElem_cons_zero, List.getElem_cons_succ, Act.put, List.setIfInBounds_toArray, List.set_cons_zero, List.set_cons_succ]
                    refine wpL_take (i := 16) (v := ?v13_) rfl (by kernel_rfl) (fun _ _ _ h => h) hR_ (by rfl) (fun w_ hw_ => ?h13_) ?_
                    case h13_ => have ho_ := hw_.old0.1; have hz_ := hw_.old0.2; have hr_ := hw_.rules; clear hw_; simp only [Rules, and_true] at hr_; go_split_ands; go_simp; try with_reducible rfl
                    simp only [List.getElem_toArray, List.getElem_cons_zero, List.getElem_cons_succ, Act.put, List.setIfInBounds_toArray, List.set_cons_zero, List.set_cons_succ]
                    refine wpL_take (i := 17) (v := ?v14_) rfl (by kernel_rfl) (fun _ _ _ h => h) hR_ (by rfl) (fun w_ hw_ => ?h14_) ?_
                    case h14_ => have ho_ := hw_.old0.1; have hz_ := hw_.old0.2; have hr_ := hw_.rules; clear hw_; simp only [Rules, and_true] at hr_; go_split_ands; go_simp; try with_reducible rfl
                    simp only [List.getElem_toArray, List.getElem_cons_zero, List.getElem_cons_succ, Act.put, List.setIfInBounds_toArray, List.set_cons_zero, List.set_cons_succ]
                    refine wpL_do (i := 14) rfl (by kernel_rfl) (by rfl) (fun K_ hK_ => ?_)
                    go_simp
                    refine (carry_q (q := 5) (HC.out.ext (HM.out.seq H.ext)) (by decide) (HT.out.ext0_ H.ext)).mono ?_
                    rintro e wd_ ⟨v, rfl, hto, hx⟩
                    obtain ⟨Ac, cc, Kc, kc, rfl, H3⟩ := H.resTm hx hto
                    clear H hx hto hR_
                    have H := H3
                    clear H3
                    refine hK_ _ _ (fun _ => H.sub (by simp)) (fun hR_ => ?_)
                    replace hR_ := hR_ (by decide)
                    refine wpL_do (i := 18) rfl (by kernel_rfl) (by rfl) (fun K_ hK_ => ?_)
                    go_simp
                    refine (ref_q (q := 5) (HC.out.ext (HM.out.seq H.ext)) (by decide) (HT.out.ext0_ H.ext)).mono ?_
                    rintro e we_ ⟨v, rfl, hto, hx⟩
                    obtain ⟨Ad, cd, Kd, kd, rfl, H3⟩ := H.resTm hx hto
                    clear H hx hto hR_
                    have H := H3
                    clear H3
                    refine hK_ _ _ (fun _ => H.sub (by simp)) (fun hR_ => ?_)
                    replace hR_ := hR_ (by decide)
                    refine wpL_do (i := 19) rfl (by kernel_rfl) (by rfl) (fun K_ hK_ => ?_)
                    go_simp
                    refine (sameTerm ⟨_, _, _, _, rfl, H.rd (.tail .head)⟩ ⟨_, _, _, _, rfl, H.rd .head⟩).mono ?_
                    rintro e wf_ ⟨r, rfl, hr, hx⟩
                    obtain rfl : r = true := hr.2 rfl
                    replace H := H.call hx
                    clear hx hr hR_
                    refine hK_ _ _ (fun _ => H.sub (by simp)) (fun hR_ => ?_)
                    replace hR_ := hR_ (by decide)
                    refine wpL_take (i := 20) (v := ?v15_) rfl (by kernel_rfl) (fun _ _ _ h => h) hR_ (by rfl) (fun w_ hw_ => ?h15_) ?_
                    case h15_ => have ho_ := hw_.old0.1; have hz_ := hw_.old0.2; have hr_ := hw_.rules; clear hw_; simp only [Rules, and_true] at hr_; go_split_ands; go_simp; try with_reducible rfl
                    simp only [List.getElem_toArray, List.getElem_cons_zero, List.getElem_cons_succ, Act.put, List.setIfInBounds_toArray, List.set_cons_zero, List.set_cons_succ]
                    refine wpL_take (i := 21) (v := ?v16_) rfl (by kernel_rfl) (fun _ _ _ h => h) hR_ (by rfl) (fun w_ hw_ => ?h16_) ?_
                    case h16_ => have ho_ := hw_.old0.1; have hz_ := hw_.old0.2; have hr_ := hw_.rules; clear hw_; simp only [Rules, and_true] at hr_; go_split_ands; go_simp; try with_reducible rfl
                    simp only [List.getElem_toArray, List.getElem_cons_zero, List.getElem_cons_succ, Act.put, List.setIfInBounds_toArray, List.set_cons_zero, List.set_cons_succ]
                    refine wpL_done (by kernel_rfl) ?_ _
                    have HE := Lib.hid H.ext
                    clear H
                    go_wp2_with fail
                    go_roundw
                    case rel => exact ⟨_, by first | exact .inr (.inl rfl) | exact .inr (.inr (.inl rfl)) | exact .inr (.inr (.inr rfl)), rfl, HE.out⟩
                    case measure => simp [intOf]
                  · go_wp2_with fail
                    have H : Hp no w8 wr [] := ⟨hext, [], by unfold Chs; rfl, by simp⟩
                    refine wp_region_H 22 [false, false, false, false, false, false, false, false, false, false, false, false, false, false, false, false, false, false, false, false, false, false] [] H .nil (by kernel_rfl) rfl rfl (fun H_ hR_ => ?_)
                    (try clear H0_); have H0_ := H; clear H; have H := H_; clear H_
                    refine wpL_take (i := 0) (v := ?v17_) rfl (by kernel_rfl) (fun _ _ _ h => h) hR_ (by rfl) (fun w_ hw_ => ?h17_) ?_
                    case h17_ => have ho_ := hw_.old0.1; have hz_ := hw_.old0.2; have hr_ := hw_.rules; clear hw_; simp only [Rules, and_true] at hr_; go_split_ands; go_simp; try with_reducible rfl
                    simp only [List.getElem_toArray, List.getElem_cons_zero, List.getElem_cons_succ, Act.put, List.setIfInBounds_toArray, List.set_cons_zero, List.set_cons_succ]
                    refine wpL_take (i := 1) (v := ?v18_) rfl (by kernel_rfl) (fun _ _ _ h => h) hR_ (by rfl) (fun w_ hw_ => ?h18_) ?_
                    case h18_ => have ho_ := hw_.old0.1; have hz_ := hw_.old0.2; have hr_ := hw_.rules; clear hw_; simp only [Rules, and_true] at hr_; go_split_ands; go_simp; try with_reducible rfl
                    simp only [List.getElem_toArray, List.getElem_cons_zero, List.getElem_cons_succ, Act.put, List.setIfInBounds_toArray, List.set_cons_zero, List.set_cons_succ]
                    refine wpL_take (i := 2) (v := ?v19_) rfl (by kernel_rfl) (fun _ _ _ h => h) hR_ (by rfl) (fun w_ hw_ => ?h19_) ?_
                    case h19_ => have ho_ := hw_.old0.1; have hz_ := hw_.old0.2; have hr_ := hw_.rules; clear hw_; simp only [Rules, and_true] at hr_; go_split_ands; go_simp; try with_reducible rfl
                    simp only [List.getElem_toArray, List.getElem_cons_zero, List.getElem_cons_succ, Act.put, List.setIfInBounds_toArray, List.set_cons_zero, List.set_cons_succ]
                    refine wpL_take (i := 4) (v := ?v20_) rfl (by kernel_rfl) (fun _ _ _ h => h) hR_ (by rfl) (fun w_ hw_ => ?h20_) ?_
                    case h20_ => have ho_ := hw_.old0.1; have hz_ := hw_.old0.2; have hr_ := hw_.rules; clear hw_; simp only [Rules, and_true] at hr_; go_split_ands; go_simp; try with_reducible rfl
                    simp only [List.getElem_toArray, List.getElem_cons_zero, List.getElem_cons_succ, Act.put, List.setIfInBounds_toArray, List.set_cons_zero, List.set_cons_succ]
                    refine wpL_take (i := 5) (v := ?v21_) rfl (by kernel_rfl) (fun _ _ _ h => h) hR_ (by rfl) (fun w_ hw_ => ?h21_) ?_
                    case h21_ => have ho_ := hw_.old0.1; have hz_ := hw_.old0.2; have hr_ := hw_.rules; clear hw_; simp only [Rules, and_true] at hr_; go_split_ands; go_simp; try with_reducible rfl
                    simp only [List.getElem_toArray, List.getElem_cons_zero, List.getElem_cons_succ, Act.put, List.setIfInBounds_toArray, List.set_cons_zero, List.set_cons_succ]
                    refine wpL_take (i := 6) (v := ?v22_) rfl (by kernel_rfl) (fun _ _ _ h => h) hR_ (by rfl) (fun w_ hw_ => ?h22_) ?_
                    case h22_ => have ho_ := hw_.old0.1; have hz_ := hw_.old0.2; have hr_ := hw_.rules; clear hw_; simp only [Rules, and_true] at hr_; go_split_ands; go_simp; try with_reducible rfl
                    simp only [List.getElem_toArray, List.getElem_cons_zero, List.getElem_cons_succ, Act.put, List.setIfInBounds_toArray, List.set_cons_zero, List.set_cons_succ]
                    refine wpL_do (i := 3) rfl (by kernel_rfl) (by rfl) (fun K_ hK_ => ?_)
                    go_simp
                    refine (carry_q (HC.out.ext (HM.out.seq H.ext)) (by decide) (HU.out.ext0_ H.ext)).mono ?_
                    rintro e wa_ ⟨v, rfl, hto, hx⟩
                    obtain ⟨Aa, ca, Ka, ka, rfl, H3⟩ := H.resTm hx hto
                    clear H H0_ hx hto hR_
                    have H := H3
                    clear H3
                    refine hK_ _ _ (fun _ => H.sub (by simp)) (fun hR_ => ?_)
                    replace hR_ := hR_ (by decide)
                    refine wpL_do (i := 7) rfl (by kernel_rfl) (by rfl) (fun K_ hK_ => ?_)
                    go_simp
                    refine (ref_q (HC.out.ext (HM.out.seq H.ext)) (by decide) (HU.out.ext0_ H.ext)).mono ?_
                    rintro e wb_ ⟨v, rfl, hto, hx⟩
                    obtain ⟨Ab, cb, Kb, kb, rfl, H3⟩ := H.resTm hx hto
                    clear H hx hto hR_
                    have H := H3
                    clear H3
                    refine hK_ _ _ (fun _ => H.sub (by simp)) (fun hR_ => ?_)
                    replace hR_ := hR_ (by decide)
                    refine wpL_do (i := 8) rfl (by kernel_rfl) (by rfl) (fun K_ hK_ => ?_)
                    go_simp
                    refine (sameTerm ⟨_, _, _, _, rfl, H.rd (.tail .head)⟩ ⟨_, _, _, _, rfl, H.rd .head⟩).mono ?_
                    rintro e wc_ ⟨r, rfl, hr, hx⟩
                    obtain rfl : r = true := hr.2 rfl
                    replace H := H.call hx
                    clear hx hr hR_
                    refine hK_ _ _ (fun _ => H.sub (by simp)) (fun hR_ => ?_)
                    replace hR_ := hR_ (by decide)
                    refine wpL_take (i := 9) (v := ?v23_) rfl (by kernel_rfl) (fun _ _ _ h => h) hR_ (by rfl) (fun w_ hw_ => ?h23_) ?_
                    case h23_ => have ho_ := hw_.old0.1; have hz_ := hw_.old0.2; have hr_ := hw_.rules; clear hw_; simp only [Rules, and_true] at hr_; go_split_ands; go_simp; try with_reducible rfl
                    simp only [List.getElem_toArray, List.getElem_cons_zero, List.getElem_cons_succ, Act.put, List.setIfInBounds_toArray, List.set_cons_zero, List.set_cons_succ]
                    refine wpL_take (i := 10) (v := ?v24_) rfl (by kernel_rfl) (fun _ _ _ h => h) hR_ (by rfl) (fun w_ hw_ => ?h24_) ?_
                    case h24_ => have ho_ := hw_.old0.1; have hz_ := hw_.old0.2; have hr_ := hw_.rules; clear hw_; simp only [Rules, and_true] at hr_; go_split_ands; go_simp; try with_reducible rfl
                    simp only [List.getElem_toArray, List.getElem_cons_zero, List.getElem_cons_succ, Act.put, List.setIfInBounds_toArray, List.set_cons_zero, List.set_cons_succ]
                    refine wpL_take (i := 11) (v := ?v25_) rfl (by kernel_rfl) (fun _ _ _ h => h) hR_ (by rfl) (fun w_ hw_ => ?h25_) ?_
                    case h25_ => have ho_ := hw_.old0.1; have hz_ := hw_.old0.2; have hr_ := hw_.rules; clear hw_; simp only [Rules, and_true] at hr_; go_split_ands; go_simp; try with_reducible rfl
                    simp only [List.getElem_toArray, List.getElem_cons_zero, List.getElem_cons_succ, Act.put, List.setIfInBounds_toArray, List.set_cons_zero, List.set_cons_succ]
                    refine wpL_take (i := 12) (v := ?v26_) rfl (by kernel_rfl) (fun _ _ _ h => h) hR_ (by rfl) (fun w_ hw_ => ?h26_) ?_
                    case h26_ => have ho_ := hw_.old0.1; have hz_ := hw_.old0.2; have hr_ := hw_.rules; clear hw_; simp only [Rules, and_true] at hr_; go_split_ands; go_simp; try with_reducible rfl
                    simp only [List.getElem_toArray, List.getElem_cons_zero, List.getElem_cons_succ, Act.put, List.setIfInBounds_toArray, List.set_cons_zero, List.set_cons_succ]
                    refine wpL_take (i := 13) (v := ?v27_) rfl (by kernel_rfl) (fun _ _ _ h => h) hR_ (by rfl) (fun w_ hw_ => ?h27_) ?_
                    case h27_ => have ho_ := hw_.old0.1; have hz_ := hw_.old0.2; have hr_ := hw_.rules; clear hw_; simp only [Rules, and_true] at hr_; go_split_ands; go_simp; try with_reducible rfl
                    simp only [List.getElem_toArray, List.getElem_cons_zero, List.getElem_cons_succ, Act.put, List.setIfInBounds_toArray, List.set_cons_zero, List.set_cons_succ]
                    refine wpL_take (i := 15) (v := ?v28_) rfl (by kernel_rfl) (fun _ _ _ h => h) hR_ (by rfl) (fun w_ hw_ => ?h28_) ?_
                    case h28_ => have ho_ := hw_.old0.1; have hz_ := hw_.old0.2; have hr_ := hw_.rules; clear hw_; simp only [Rules, and_true] at hr_; go_split_ands; go_simp; try with_reducible rfl
                    simp only [List.getElem_toArray, List.getElem_cons_zero, List.getElem_cons_succ, Act.put, List.setIfInBounds_toArray, List.set_cons_zero, List.set_cons_succ]
                    refine wpL_take (i := 16) (v := ?v29_) rfl (by kernel_rfl) (fun _ _ _ h => h) hR_ (by rfl) (fun w_ hw_ => ?h29_) ?_
                    case h29_ => have ho_ := hw_.old0.1; have hz_ := hw_.old0.2; have hr_ := hw_.rules; clear hw_; simp only [Rules, and_true] at hr_; go_split_ands; go_simp; try with_reducible rfl
                    simp only [List.getElem_toArray, List.getElem_cons_zero, List.getElem_cons_succ, Act.put, List.setIfInBounds_toArray, List.set_cons_zero, List.set_cons_succ]
                    refine wpL_take (i := 17) (v := ?v30_) rfl (by kernel_rfl) (fun _ _ _ h => h) hR_ (by rfl) (fun w_ hw_ => ?h30_) ?_
                    case h30_ => have ho_ := hw_.old0.1; have hz_ := hw_.old0.2; have hr_ := hw_.rules; clear hw_; simp only [Rules, and_true] at hr_; go_split_ands; go_simp; try with_reducible rfl
                    simp only [List.getElem_toArray, List.getElem_cons_zero, List.getElem_cons_succ, Act.put, List.setIfInBounds_toArray, List.set_cons_zero, List.set_cons_succ]
                    refine wpL_do (i := 14) rfl (by kernel_rfl) (by rfl) (fun K_ hK_ => ?_)
                    go_simp
                    refine (carry_q (q := 5) (HC.out.ext (HM.out.seq H.ext)) (by decide) (HT.out.ext0_ H.ext)).mono ?_
                    rintro e wd_ ⟨v, rfl, hto, hx⟩
                    obtain ⟨Ac, cc, Kc, kc, rfl, H3⟩ := H.resTm hx hto
                    clear H hx hto hR_
                    have H := H3
                    clear H3
                    refine hK_ _ _ (fun _ => H.sub (by simp)) (fun hR_ => ?_)
                    replace hR_ := hR_ (by decide)
                    refine wpL_do (i := 18) rfl (by kernel_rfl) (by rfl) (fun K_ hK_ => ?_)
                    go_simp
                    refine (ref_q (q := 5) (HC.out.ext (HM.out.seq H.ext)) (by decide) (HT.out.ext0_ H.ext)).mono ?_
                    rintro e we_ ⟨v, rfl, hto, hx⟩
                    obtain ⟨Ad, cd, Kd, kd, rfl, H3⟩ := H.resTm hx hto
                    clear H hx hto hR_
                    have H := H3
                    clear H3
                    refine hK_ _ _ (fun _ => H.sub (by simp)) (fun hR_ => ?_)
                    replace hR_ := hR_ (by decide)
                    refine wpL_do (i := 19) rfl (by kernel_rfl) (by rfl) (fun K_ hK_ => ?_)
                    go_simp
                    refine (sameTerm ⟨_, _, _, _, rfl, H.rd (.tail .head)⟩ ⟨_, _, _, _, rfl, H.rd .head⟩).mono ?_
                    rintro e wf_ ⟨r, rfl, hr, hx⟩
                    obtain rfl : r = true := hr.2 rfl
                    replace H := H.call hx
                    clear hx hr hR_
                    refine hK_ _ _ (fun _ => H.sub (by simp)) (fun hR_ => ?_)
                    replace hR_ := hR_ (by decide)
                    refine wpL_take (i := 20) (v := ?v31_) rfl (by kernel_rfl) (fun _ _ _ h => h) hR_ (by rfl) (fun w_ hw_ => ?h31_) ?_
                    case h31_ => have ho_ := hw_.old0.1; have hz_ := hw_.old0.2; have hr_ := hw_.rules; clear hw_; simp only [Rules, and_true] at hr_; go_split_ands; go_simp; try with_reducible rfl
                    simp only [List.getElem_toArray, List.getElem_cons_zero, List.getElem_cons_succ, Act.put, List.setIfInBounds_toArray, List.set_cons_zero, List.set_cons_succ]
                    refine wpL_take (i := 21) (v := ?v32_) rfl (by kernel_rfl) (fun _ _ _ h => h) hR_ (by rfl) (fun w_ hw_ => ?h32_) ?_
                    case h32_ => have ho_ := hw_.old0.1; have hz_ := hw_.old0.2; have hr_ := hw_.rules; clear hw_; simp only [Rules, and_true] at hr_; go_split_ands; go_simp; try with_reducible rfl
                    simp only [List.getElem_toArray, List.getElem_cons_zero, List.getElem_cons_succ, Act.put, List.setIfInBounds_toArray, List.set_cons_zero, List.set_cons_succ]
                    refine wpL_done (by kernel_rfl) ?_ _
                    have HE := Lib.hid H.ext
                    clear H
                    go_wp2_with fail
                    go_roundw
                    case rel => exact ⟨_, by first | exact .inr (.inl rfl) | exact .inr (.inr (.inl rfl)) | exact .inr (.inr (.inr rfl)), rfl, HE.out⟩
                    case measure => simp [intOf]
                  · go_wp2_with fail
                    have H : Hp no w8 wr [] := ⟨hext, [], by unfold Chs; rfl, by simp⟩
                    refine wp_region_H 22 [false, false, false, false, false, false, false, false, false, false, false, false, false, false, false, false, false, false, false, false, false, false] [] H .nil (by kernel_rfl) rfl rfl (fun H_ hR_ => ?_)
                    (try clear H0_); have H0_ := H; clear H; have H := H_; clear H_
                    refine wpL_take (i := 0) (v := ?v33_) rfl (by kernel_rfl) (fun _ _ _ h => h) hR_ (by rfl) (fun w_ hw_ => ?h33_) ?_
                    case h33_ => have ho_ := hw_.old0.1; have hz_ := hw_.old0.2; have hr_ := hw_.rules; clear hw_; simp only [Rules, and_true] at hr_; go_split_ands; go_simp; try with_reducible rfl
                    simp only [List.getElem_toArray, List.getElem_cons_zero, List.getElem_cons_succ, Act.put, List.setIfInBounds_toArray, List.set_cons_zero, List.set_cons_succ]
                    refine wpL_take (i := 1) (v := ?v34_) rfl (by kernel_rfl) (fun _ _ _ h => h) hR_ (by rfl) (fun w_ hw_ => ?h34_) ?_
                    case h34_ => have ho_ := hw_.old0.1; have hz_ := hw_.old0.2; have hr_ := hw_.rules; clear hw_; simp only [Rules, and_true] at hr_; go_split_ands; go_simp; try with_reducible rfl
                    simp only [List.getElem_toArray, List.getElem_cons_zero, List.getElem_cons_succ, Act.put, List.setIfInBounds_toArray, List.set_cons_zero, List.set_cons_succ]
                    refine wpL_take (i := 2) (v := ?v35_) rfl (by kernel_rfl) (fun _ _ _ h => h) hR_ (by rfl) (fun w_ hw_ => ?h35_) ?_
                    case h35_ => have ho_ := hw_.old0.1; have hz_ := hw_.old0.2; have hr_ := hw_.rules; clear hw_; simp only [Rules, and_true] at hr_; go_split_ands; go_simp; try with_reducible rfl
                    simp only [List.getElem_toArray, List.getElem_cons_zero, List.getElem_cons_succ, Act.put, List.setIfInBounds_toArray, List.set_cons_zero, List.set_cons_succ]
                    refine wpL_take (i := 4) (v := ?v36_) rfl (by kernel_rfl) (fun _ _ _ h => h) hR_ (by rfl) (fun w_ hw_ => ?h36_) ?_
                    case h36_ => have ho_ := hw_.old0.1; have hz_ := hw_.old0.2; have hr_ := hw_.rules; clear hw_; simp only [Rules, and_true] at hr_; go_split_ands; go_simp; try with_reducible rfl
                    simp only [List.getElem_toArray, List.getElem_cons_zero, List.getElem_cons_succ, Act.put, List.setIfInBounds_toArray, List.set_cons_zero, List.set_cons_succ]
                    refine wpL_take (i := 5) (v := ?v37_) rfl (by kernel_rfl) (fun _ _ _ h => h) hR_ (by rfl) (fun w_ hw_ => ?h37_) ?_
                    case h37_ => have ho_ := hw_.old0.1; have hz_ := hw_.old0.2; have hr_ := hw_.rules; clear hw_; simp only [Rules, and_true] at hr_; go_split_ands; go_simp; try with_reducible rfl
                    simp only [List.getElem_toArray, List.getElem_cons_zero, List.getElem_cons_succ, Act.put, List.setIfInBounds_toArray, List.set_cons_zero, List.set_cons_succ]
                    refine wpL_take (i := 6) (v := ?v38_) rfl (by kernel_rfl) (fun _ _ _ h => h) hR_ (by rfl) (fun w_ hw_ => ?h38_) ?_
                    case h38_ => have ho_ := hw_.old0.1; have hz_ := hw_.old0.2; have hr_ := hw_.rules; clear hw_; simp only [Rules, and_true] at hr_; go_split_ands; go_simp; try with_reducible rfl
                    simp only [List.getElem_toArray, List.getElem_cons_zero, List.getElem_cons_succ, Act.put, List.setIfInBounds_toArray, List.set_cons_zero, List.set_cons_succ]
                    refine wpL_do (i := 3) rfl (by kernel_rfl) (by rfl) (fun K_ hK_ => ?_)
                    go_simp
                    refine (carry_q (HC.out.ext (HM.out.seq H.ext)) (by decide) (HU.out.ext0_ H.ext)).mono ?_
                    rintro e wa_ ⟨v, rfl, hto, hx⟩
                    obtain ⟨Aa, ca, Ka, ka, rfl, H3⟩ := H.resTm hx hto
                    clear H H0_ hx hto hR_
                    have H := H3
                    clear H3
                    refine hK_ _ _ (fun _ => H.sub (by simp)) (fun hR_ => ?_)
                    replace hR_ := hR_ (by decide)
                    refine wpL_do (i := 7) rfl (by kernel_rfl) (by rfl) (fun K_ hK_ => ?_)
                    go_simp
                    refine (ref_q (HC.out.ext (HM.out.seq H.ext)) (by decide) (HU.out.ext0_ H.ext)).mono ?_
                    rintro e wb_ ⟨v, rfl, hto, hx⟩
                    obtain ⟨Ab, cb, Kb, kb, rfl, H3⟩ := H.resTm hx hto
                    clear H hx hto hR_
                    have H := H3
                    clear H3
                    refine hK_ _ _ (fun _ => H.sub (by simp)) (fun hR_ => ?_)
                    replace hR_ := hR_ (by decide)
                    refine wpL_do (i := 8) rfl (by kernel_rfl) (by rfl) (fun K_ hK_ => ?_)
                    go_simp
                    refine (sameTerm ⟨_, _, _, _, rfl, H.rd (.tail .head)⟩ ⟨_, _, _, _, rfl, H.rd .head⟩).mono ?_
                    rintro e wc_ ⟨r, rfl, hr, hx⟩
                    obtain rfl : r = true := hr.2 rfl
                    replace H := H.call hx
                    clear hx hr hR_
                    refine hK_ _ _ (fun _ => H.sub (by simp)) (fun hR_ => ?_)
                    replace hR_ := hR_ (by decide)
                    refine wpL_take (i := 9) (v := ?v39_) rfl (by kernel_rfl) (fun _ _ _ h => h) hR_ (by rfl) (fun w_ hw_ => ?h39_) ?_
                    case h39_ => have ho_ := hw_.old0.1; have hz_ := hw_.old0.2; have hr_ := hw_.rules; clear hw_; simp only [Rules, and_true] at hr_; go_split_ands; go_simp; try with_reducible rfl
                    simp only [List.getElem_toArray, List.getElem_cons_zero, List.getElem_cons_succ, Act.put, List.setIfInBounds_toArray, List.set_cons_zero, List.set_cons_succ]
                    refine wpL_take (i := 10) (v := ?v40_) rfl (by kernel_rfl) (fun _ _ _ h => h) hR_ (by rfl) (fun w_ hw_ => ?h40_) ?_
                    case h40_ => have ho_ := hw_.old0.1; have hz_ := hw_.old0.2; have hr_ := hw_.rules; clear hw_; simp only [Rules, and_true] at hr_; go_split_ands; go_simp; try with_reducible rfl
                    simp only [List.getElem_toArray, List.getElem_cons_zero, List.getElem_cons_succ, Act.put, List.setIfInBounds_toArray, List.set_cons_zero, List.set_cons_succ]
                    refine wpL_take (i := 11) (v := ?v41_) rfl (by kernel_rfl) (fun _ _ _ h => h) hR_ (by rfl) (fun w_ hw_ => ?h41_) ?_
                    case h41_ => have ho_ := hw_.old0.1; have hz_ := hw_.old0.2; have hr_ := hw_.rules; clear hw_; simp only [Rules, and_true] at hr_; go_split_ands; go_simp; try with_reducible rfl
                    simp only [List.getElem_toArray, List.getElem_cons_zero, List.getElem_cons_succ, Act.put, List.setIfInBounds_toArray, List.set_cons_zero, List.set_cons_succ]
                    refine wpL_take (i := 12) (v := ?v42_) rfl (by kernel_rfl) (fun _ _ _ h => h) hR_ (by rfl) (fun w_ hw_ => ?h42_) ?_
                    case h42_ => have ho_ := hw_.old0.1; have hz_ := hw_.old0.2; have hr_ := hw_.rules; clear hw_; simp only [Rules, and_true] at hr_; go_split_ands; go_simp; try with_reducible rfl
                    simp only [List.getElem_toArray, List.getElem_cons_zero, List.getElem_cons_succ, Act.put, List.setIfInBounds_toArray, List.set_cons_zero, List.set_cons_succ]
                    refine wpL_take (i := 13) (v := ?v43_) rfl (by kernel_rfl) (fun _ _ _ h => h) hR_ (by rfl) (fun w_ hw_ => ?h43_) ?_
                    case h43_ => have ho_ := hw_.old0.1; have hz_ := hw_.old0.2; have hr_ := hw_.rules; clear hw_; simp only [Rules, and_true] at hr_; go_split_ands; go_simp; try with_reducible rfl
                    simp only [List.getElem_toArray, List.getElem_cons_zero, List.getElem_cons_succ, Act.put, List.setIfInBounds_toArray, List.set_cons_zero, List.set_cons_succ]
                    refine wpL_take (i := 15) (v := ?v44_) rfl (by kernel_rfl) (fun _ _ _ h => h) hR_ (by rfl) (fun w_ hw_ => ?h44_) ?_
                    case h44_ => have ho_ := hw_.old0.1; have hz_ := hw_.old0.2; have hr_ := hw_.rules; clear hw_; simp only [Rules, and_true] at hr_; go_split_ands; go_simp; try with_reducible rfl
                    simp only [List.getElem_toArray, List.getElem_cons_zero, List.getElem_cons_succ, Act.put, List.setIfInBounds_toArray, List.set_cons_zero, List.set_cons_succ]
                    refine wpL_take (i := 16) (v := ?v45_) rfl (by kernel_rfl) (fun _ _ _ h => h) hR_ (by rfl) (fun w_ hw_ => ?h45_) ?_
                    case h45_ => have ho_ := hw_.old0.1; have hz_ := hw_.old0.2; have hr_ := hw_.rules; clear hw_; simp only [Rules, and_true] at hr_; go_split_ands; go_simp; try with_reducible rfl
                    simp only [List.getElem_toArray, List.getElem_cons_zero, List.getElem_cons_succ, Act.put, List.setIfInBounds_toArray, List.set_cons_zero, List.set_cons_succ]
                    refine wpL_take (i := 17) (v := ?v46_) rfl (by kernel_rfl) (fun _ _ _ h => h) hR_ (by rfl) (fun w_ hw_ => ?h46_) ?_
                    case h46_ => have ho_ := hw_.old0.1; have hz_ := hw_.old0.2; have hr_ := hw_.rules; clear hw_; simp only [Rules, and_true] at hr_; go_split_ands; go_simp; try with_reducible rfl
                    simp only [List.getElem_toArray, List.getElem_cons_zero, List.getElem_cons_succ, Act.put, List.setIfInBounds_toArray, List.set_cons_zero, List.set_cons_succ]
                    refine wpL_do (i := 14) rfl (by kernel_rfl) (by rfl) (fun K_ hK_ => ?_)
                    go_simp
                    refine (carry_q (q := 5) (HC.out.ext (HM.out.seq H.ext)) (by decide) (HT.out.ext0_ H.ext)).mono ?_
                    rintro e wd_ ⟨v, rfl, hto, hx⟩
                    obtain ⟨Ac, cc, Kc, kc, rfl, H3⟩ := H.resTm hx hto
                    clear H hx hto hR_
                    have H := H3
                    clear H3
                    refine hK_ _ _ (fun _ => H.sub (by simp)) (fun hR_ => ?_)
                    replace hR_ := hR_ (by decide)
                    refine wpL_do (i := 18) rfl (by kernel_rfl) (by rfl) (fun K_ hK_ => ?_)
                    go_simp
                    refine (ref_q (q := 5) (HC.out.ext (HM.out.seq H.ext)) (by decide) (HT.out.ext0_ H.ext)).mono ?_
                    rintro e we_ ⟨v, rfl, hto, hx⟩
                    obtain ⟨Ad, cd, Kd, kd, rfl, H3⟩ := H.resTm hx hto
                    clear H hx hto hR_
                    have H := H3
                    clear H3
                    refine hK_ _ _ (fun _ => H.sub (by simp)) (fun hR_ => ?_)
                    replace hR_ := hR_ (by decide)
                    refine wpL_do (i := 19) rfl (by kernel_rfl) (by rfl) (fun K_ hK_ => ?_)
                    go_simp
                    refine (sameTerm ⟨_, _, _, _, rfl, H.rd (.tail .head)⟩ ⟨_, _, _, _, rfl, H.rd .head⟩).mono ?_
                    rintro e wf_ ⟨r, rfl, hr, hx⟩
                    obtain rfl : r = true := hr.2 rfl
                    replace H := H.call hx
                    clear hx hr hR_
                    refine hK_ _ _ (fun _ => H.sub (by simp)) (fun hR_ => ?_)
                    replace hR_ := hR_ (by decide)
                    refine wpL_take (i := 20) (v := ?v47_) rfl (by kernel_rfl) (fun _ _ _ h => h) hR_ (by rfl) (fun w_ hw_ => ?h47_) ?_
                    case h47_ => have ho_ := hw_.old0.1; have hz_ := hw_.old0.2; have hr_ := hw_.rules; clear hw_; simp only [Rules, and_true] at hr_; go_split_ands; go_simp; try with_reducible rfl
                    simp only [List.getElem_toArray, List.getElem_cons_zero, List.getElem_cons_succ, Act.put, List.setIfInBounds_toArray, List.set_cons_zero, List.set_cons_succ]
                    refine wpL_take (i := 21) (v := ?v48_) rfl (by kernel_rfl) (fun _ _ _ h => h) hR_ (by rfl) (fun w_ hw_ => ?h48_) ?_
                    case h48_ => have ho_ := hw_.old0.1; have hz_ := hw_.old0.2; have hr_ := hw_.rules; clear hw_; simp only [Rules, and_true] at hr_; go_split_ands; go_simp; try with_reducible rfl
                    simp only [List.getElem_toArray, List.getElem_cons_zero, List.getElem_cons_succ, Act.put, List.setIfInBounds_toArray, List.set_cons_zero, List.set_cons_succ]
                    refine wpL_done (by kernel_rfl) ?_ _
                    have HE := Lib.hid H.ext
                    clear H
                    go_wp2_with fail
                    go_roundw
                    case rel => exact ⟨_, by first | exact .inr (.inl rfl) | exact .inr (.inr (.inl rfl)) | exact .inr (.inr (.inr rfl)), rfl, HE.out⟩
                    case measure => simp [intOf]
            · go_wp2_with fail
              go_roundw
              case rel => exact ⟨nn + 1, by omega, by omega, by go_num, hextm⟩
              case measure => simp [intOf] <;> omega
        · go_wp2_with fail
          go_roundw
          case rel => exact ⟨kk + 1, by omega, by omega, by go_num, hextn⟩
          case measure => simp [intOf] <;> omega
    · go_wp2_with fail
      refine (count_calls (S := fun _ => True) (d := dcZ 0 [] []) ⟨_, rfl, dcZ_rc (iI _ (by decide)) RC.nil RC.nil rfl rfl⟩).mono ?_
      rintro e w6 ⟨rfl, hx6⟩
      rw [show countD (dcZ 0 [] []) = 0 from rfl]
      go_wp2_with fail
      refine (carry_At (S0 := fun _ => True) (ds := []) RC.nil rfl).mono ?_
      rintro e w7 ⟨Az, cz, rfl, _, hx7⟩
      rw [show ((atL []).map D.i).length = 0 from rfl]
      go_wp2_with fail
      refine (awake21_calls (HC.out.2.2.ext ((hextk.seq hx6).seq hx7))).mono ?_
      rintro e w8 ⟨rfl, hx8⟩
      go_wp2_with fail
      go_ret
      exact ⟨rfl, HX.out.seq (((hextk.seq hx6).seq hx7).seq hx8)⟩
end Go.Proofs.YteelplgdojjakaaDoor
