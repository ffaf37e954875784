/- SplitShapes: its first loops. No statement of the seat is proved here. -/
import Derived.Test.YtgbokmphbimihaaDoorShapes4
namespace Go.Proofs.YtgbokmphbimihaaDoor
set_option linter.unusedSimpArgs false
set_option linter.unusedVariables false
open Go.RowKit

theorem inI_tmod2 {k : Int} (h : 0 ≤ k) : inI (k.tmod 2) := by
  rw [Int.tmod_eq_emod_of_nonneg h]; unfold inI; omega
theorem inI_tmod4 {k : Int} (h : 0 ≤ k) : inI (k.tmod 4) := by
  rw [Int.tmod_eq_emod_of_nonneg h]; unfold inI; omega
set_option maxRecDepth 100000 in
set_option maxHeartbeats 8000000 in
/-- From the first loops on. -/
theorem shA {w W : World} {S : Nat → Prop} {l : List Tm} {A : Option Addr} {c : Nat} {x0 x2 x3 x4 x5 x6 x7 x8 x9 x10 x11 x12 x13 x14 x15 x16 x17 x18 x19 x20 x21 x22 x23 x24 x25 x26 x27 x28 x29 x30 x31 x32 x33 x34 x35 x36 x37 x38 x39 x40 x41 x42 x43 x44 x45 x46 x47 x48 x49 x50 x51 x52 x53 x54 x55 x56 x57 x58 x59 x60 x61 x62 x63 x64 x65 x66 x67 x68 x69 x70 x71 x72 x73 x74 x75 x76 x77 x78 x79 x80 x81 x82 x83 x84 x85 x86 x87 x88 x89 x90 x91 x92 x93 x94 x95 x96 x97 x98 x99 x100 x101 x102 x103 x104 x105 x106 x107 x108 x109 x110 x111 x112 x113 x114 x115 x116 x117 x118 x119 x120 x121 x122 x123 x124 x125 x126 x127 x128 x129 x130 x131 x132 x133 x134 x135 x136 x137 x138 x139 x140 x141 x142 x143 x144 x145 x146 x147 x148 x149 x150 x151 x152 x153 x154 x155 x156 x157 x158 x159 x160 x161 x162 x163 x164 x165 x166 x167 x168 x169 x170 x171 x172 x173 x174 x175 x176 x177 x178 x179 x180 x181 x182 x183 x184 x185 x186 x187 x188 x189 x190 x191 x192 x193 x194 x195 x196 x197 : Value} (hT : Tab W) (hx : Ext no w W) (h : RC W S (.l 26 5 (l.map Tm.d)) [.slice A l.length c]) (hz : ∀ t ∈ l, sizeT t ≤ 1000) (hl : l.length ≤ 1000) :
    (fromF 2 (Tryd.f3.body.getD .skip)).wp Tryd.prog (bodyPost Tryd.prog Tryd.f3 (PV w (.bool true))) { tmps := #[x0, .slice A l.length c, x2, x3, x4, x5, x6, x7, x8, x9, x10, x11, x12, x13, x14, x15, x16, x17, x18, x19, x20, x21, x22, x23, x24, x25, x26, x27, x28, x29, x30, x31, x32, x33, x34, x35, x36, x37, x38, x39, x40, x41, x42, x43, x44, x45, x46, x47, x48, x49, x50, x51, x52, x53, x54, x55, x56, x57, x58, x59, x60, x61, x62, x63, x64, x65, x66, x67, x68, x69, x70, x71, x72, x73, x74, x75, x76, x77, x78, x79, x80, x81, x82, x83, x84, x85, x86, x87, x88, x89, x90, x91, x92, x93, x94, x95, x96, x97, x98, x99, x100, x101, x102, x103, x104, x105, x106, x107, x108, x109, x110, x111, x112, x113, x114, x115, x116, x117, x118, x119, x120, x121, x122, x123, x124, x125, x126, x127, x128, x129, x130, x131, x132, x133, x134, x135, x136, x137, x138, x139, x140, x141, x142, x143, x144, x145, x146, x147, x148, x149, x150, x151, x152, x153, x154, x155, x156, x157, x158, x159, x160, x161, x162, x163, x164, x165, x166, x167, x168, x169, x170, x171, x172, x173, x174, x175, x176, x177, x178, x179, x180, x181, x182, x183, x184, x185, x186, x187, x188, x189, x190, x191, x192, x193, x194, x195, x196, x197], defers := [] } W := by
  have HT := Lib.hid hT
  have HX := Lib.hid hx
  have HSZ := Lib.hid hz
  have hM := h.lenM
  clear hT hx hz
  conv => arg 2; whnf
  go_wp2_with fail
  go_loopw [2] (fun i wr => ∃ m : Nat, m ≤ l.length ∧ i = .int .i64 m ∧ Ext no W wr) (fun i _ => l.length - (intOf i).toNat)
  case atStart => exact ⟨0, Nat.zero_le _, rfl, Ext.refl _ _⟩
  case round =>
    obtain ⟨m, hm1, rfl, H1⟩ := hrel
    by_cases hlt : m < l.length
    · have hltI : (m : Int) < (l.length : Int) := by omega
      go_wp2_with fail
      have HX1 := Lib.hid H1
      clear H1
      go_loopw [3] (fun i wr => ∃ k : Nat, k ≤ l.length ∧ i = .int .i64 k ∧ Ext no W wr) (fun i _ => l.length - (intOf i).toNat)
      case atStart => exact ⟨0, Nat.zero_le _, rfl, HX1.out⟩
      case round =>
        obtain ⟨k, hk, rfl, H1⟩ := hrel
        by_cases hlk : k < l.length
        · obtain ⟨b, o, A1, a1, K1, k1, hA, hb, hS, hd, p0, p1, p2, p3, p4⟩ := h.atTm hlt
          subst hA
          obtain ⟨b', o', B1, b1, L1, l1, hA, hb', hS', hd', q0, q1, q2, q3, q4⟩ := h.atTm hlk
          simp only [Option.some.injEq, Addr.mk.injEq, and_true] at hA
          obtain ⟨rfl, rfl⟩ := hA
          have HXW := Lib.hid H1
          have HD0 := Lib.hid (hd.ext0 H1)
          have HD1 := Lib.hid (hd'.ext0 H1)
          have HS1 := Lib.hid (HSZ.out _ (List.getElem_mem hlt))
          have HS2 := Lib.hid (HSZ.out _ (List.getElem_mem hlk))
          replace p0 := H1.keep p0
          replace p1 := H1.keep p1
          replace p2 := H1.keep p2
          replace p3 := H1.keep p3
          replace p4 := H1.keep p4
          replace q0 := H1.keep q0
          replace q1 := H1.keep q1
          replace q2 := H1.keep q2
          replace q3 := H1.keep q3
          replace q4 := H1.keep q4
          have hbw : b < wr.heap.size := Nat.lt_of_lt_of_le hb H1.size
          clear hd hd' H1 hb hb' hS hS'
          generalize l[m] = tm_ at p0 p1 p2 p3 p4 HD0 HS1
          generalize l[k] = tk at q0 q1 q2 q3 q4 HD1 HS2
          go_wp2_with fail
          have H9 := Hp.start no wr
          refine wp_region_H 52 [false, false, false, false, false, false, false, false, false, false, false, false, false, false, false, false, false, false, false, false, false, false, false, false, false, false, false, false, false, false, false, false, false, false, false, false, false, false, false, false, false, false, false, false, false, false, false, false, false, false, false, false] [] H9 .nil (by kernel_rfl) rfl rfl (fun H9_ hR_ => ?_)
          (try clear H0_); have H0_ := H9; clear H9; have H9 := H9_; clear H9_
          refine wpL_reads (is := [(0, ?v1_0), (1, ?v1_1), (2, ?v1_2), (3, ?v1_3), (4, ?v1_4), (5, ?v1_5), (6, ?v1_6), (7, ?v1_7), (8, ?v1_8), (9, ?v1_9)]) (by kernel_rfl) (Nat.le_of_ble_eq_true rfl) (by intro _ _ d_ _ _ h_; cases d_ <;> exact h_) (by kernel_rfl) hR_ (fun w_ hw_ => ?h1_) ?_
          case h1_ =>
            have ho_ := hw_.old0.1; have hz_ := hw_.old0.2; have hr_ := hw_.rules; clear hw_; simp only [Rules, and_true] at hr_; go_split_ands
            (repeat (first | with_reducible exact RdOps.nil | (refine RdOps.run rfl (by rfl) ?_ ?_; (focus (first | (go_simp; done) | (go_simp; with_reducible rfl))); simp only [List.getElem_toArray, List.getElem_cons_zero, List.getElem_cons_succ, Act.put, List.setIfInBounds_toArray, List.set_cons_zero, List.set_cons_succ]) | (refine RdOps.skip rfl (by rfl) ?_ ?_; (focus (with_reducible rfl)); simp only [List.getElem_toArray, List.getElem_cons_zero, List.getElem_cons_succ, Act.put, List.setIfInBounds_toArray, List.set_cons_zero, List.set_cons_succ])))
          simp only [rdMark, rdAct, List.map_cons, List.map_nil, List.length_cons, List.length_nil, Nat.reduceAdd, Nat.reduceSub, Nat.zero_add, List.getElem?_toArray, List.getElem?_cons_zero, List.getElem?_cons_succ, Option.bind_some, Act.put, List.setIfInBounds_toArray, List.set_cons_zero, List.set_cons_succ]
          refine wpL_do (i := 10) rfl (by kernel_rfl) (by rfl) (fun K_ hK_ => ?_)
          go_simp
          refine (pi12_calls (HD0.out.ext0 H9.ext) (HD1.out.ext0 H9.ext)).mono ?_
          rintro e w_ ⟨cs_, rfl, hr_, hx⟩
          obtain ⟨P1, p1_, P2, p2_, rfl, -⟩ := RC.tm.1 hr_
          have HP := Lib.hid hr_
          clear hr_
          replace H9 := H9.call hx
          clear hx
          refine hK_ _ _ (fun _ => H9.sub (by simp)) (fun hR_ => ?_)
          replace hR_ := hR_ (by decide)
          refine wpL_do (i := 11) rfl (by kernel_rfl) (by rfl) (fun K_ hK_ => ?_)
          go_simp
          refine (of12_calls (t := .mk 4 0 0 [] [tm_, tk]) HP.out (inI_tmod2 (by omega))).mono ?_
          clear HP
          rintro e w_ ⟨cs_, rfl, hd, hx⟩
          replace H9 := H9.call hx
          clear hx
          obtain ⟨Aty, cty, Kty, kty, Abody, cbody, Kbody, kbody, Aparams, cparams, Asort, csort, Amembers, cmembers, Actors, cctors, rfl, _⟩ := RC.dc.1 hd
          have HD := Lib.hid hd
          clear hd
          refine hK_ _ _ (fun _ => H9.sub (by simp)) (fun hR_ => ?_)
          replace hR_ := hR_ (by decide)
          refine wpL_do (i := 12) rfl (by kernel_rfl) (by rfl) (fun K_ hK_ => ?_)
          go_simp
          have hcall := rules12_calls (HT.out.ext (HXW.out.seq H9.ext)) HD.out (cts12 (by have := HS1.out; have := HS2.out; simp only [sizeT, sizesT]; omega))
          refine (hcall).mono ?_
          rintro e w_ ⟨rfl, hx⟩
          replace H9 := H9.call hx
          clear hx
          clear hcall HD
          refine hK_ _ _ (fun _ => H9.sub (by simp)) (fun hR_ => ?_)
          replace hR_ := hR_ (by decide)
          refine wpL_reads (is := [(13, ?v2_0), (14, ?v2_1), (15, ?v2_2), (16, ?v2_3), (17, ?v2_4), (18, ?v2_5), (19, ?v2_6), (20, ?v2_7), (21, ?v2_8), (22, ?v2_9)]) (by kernel_rfl) (Nat.le_of_ble_eq_true rfl) (by intro _ _ d_ _ _ h_; cases d_ <;> exact h_) (by kernel_rfl) hR_ (fun w_ hw_ => ?h2_) ?_
          case h2_ =>
            have ho_ := hw_.old0.1; have hz_ := hw_.old0.2; have hr_ := hw_.rules; clear hw_; simp only [Rules, and_true] at hr_; go_split_ands
            (repeat (first | with_reducible exact RdOps.nil | (refine RdOps.run rfl (by rfl) ?_ ?_; (focus (first | (go_simp; done) | (go_simp; with_reducible rfl))); simp only [List.getElem_toArray, List.getElem_cons_zero, List.getElem_cons_succ, Act.put, List.setIfInBounds_toArray, List.set_cons_zero, List.set_cons_succ]) | (refine RdOps.skip rfl (by rfl) ?_ ?_; (focus (with_reducible rfl)); simp only [List.getElem_toArray, List.getElem_cons_zero, List.getElem_cons_succ, Act.put, List.setIfInBounds_toArray, List.set_cons_zero, List.set_cons_succ])))
          simp only [rdMark, rdAct, List.map_cons, List.map_nil, List.length_cons, List.length_nil, Nat.reduceAdd, Nat.reduceSub, Nat.zero_add, List.getElem?_toArray, List.getElem?_cons_zero, List.getElem?_cons_succ, Option.bind_some, Act.put, List.setIfInBounds_toArray, List.set_cons_zero, List.set_cons_succ]
          refine wpL_do (i := 23) rfl (by kernel_rfl) (by rfl) (fun K_ hK_ => ?_)
          go_simp
          refine (self12_calls).mono ?_
          rintro e w_ ⟨rfl, hx⟩
          replace H9 := H9.call hx
          clear hx
          refine hK_ _ _ (fun _ => H9.sub (by simp)) (fun hR_ => ?_)
          replace hR_ := hR_ (by decide)
          refine wpL_do (i := 24) rfl (by kernel_rfl) (by rfl) (fun K_ hK_ => ?_)
          go_simp
          refine (pi12_calls (S1 := anyW) (b := .mk 11 0 0 [] []) (HD1.out.ext0 H9.ext) (tN_rc (by unfold inI; omega) inIz inIz)).mono ?_
          rintro e w_ ⟨cs_, rfl, hr_, hx⟩
          obtain ⟨P1, p1_, P2, p2_, rfl, -⟩ := RC.tm.1 hr_
          have HP := Lib.hid hr_
          clear hr_
          replace H9 := H9.call hx
          clear hx
          refine hK_ _ _ (fun _ => H9.sub (by simp)) (fun hR_ => ?_)
          replace hR_ := hR_ (by decide)
          refine wpL_do (i := 25) rfl (by kernel_rfl) (by rfl) (fun K_ hK_ => ?_)
          go_simp
          refine (pi12_calls (HD0.out.ext0 H9.ext) HP.out).mono ?_
          clear HP
          rintro e w_ ⟨cs_, rfl, hr_, hx⟩
          obtain ⟨P1, p1_, P2, p2_, rfl, -⟩ := RC.tm.1 hr_
          have HP := Lib.hid hr_
          clear hr_
          replace H9 := H9.call hx
          clear hx
          refine hK_ _ _ (fun _ => H9.sub (by simp)) (fun hR_ => ?_)
          replace hR_ := hR_ (by decide)
          refine wpL_do (i := 26) rfl (by kernel_rfl) (by rfl) (fun K_ hK_ => ?_)
          go_simp
          refine (of12_calls (m := 0) (t := .mk 4 0 0 [] [tm_, .mk 4 0 0 [] [tk, .mk 11 0 0 [] []]]) HP.out inIz).mono ?_
          clear HP
          rintro e w_ ⟨cs_, rfl, hd, hx⟩
          replace H9 := H9.call hx
          clear hx
          obtain ⟨Aty, cty, Kty, kty, Abody, cbody, Kbody, kbody, Aparams, cparams, Asort, csort, Amembers, cmembers, Actors, cctors, rfl, _⟩ := RC.dc.1 hd
          have HD := Lib.hid hd
          clear hd
          refine hK_ _ _ (fun _ => H9.sub (by simp)) (fun hR_ => ?_)
          replace hR_ := hR_ (by decide)
          refine wpL_do (i := 27) rfl (by kernel_rfl) (by rfl) (fun K_ hK_ => ?_)
          go_simp
          have hcall := rules12_calls (HT.out.ext (HXW.out.seq H9.ext)) HD.out (cts12 (by have := HS1.out; have := HS2.out; simp only [sizeT, sizesT]; omega))
          refine (hcall).mono ?_
          rintro e w_ ⟨rfl, hx⟩
          replace H9 := H9.call hx
          clear hx
          clear hcall HD
          refine hK_ _ _ (fun _ => H9.sub (by simp)) (fun hR_ => ?_)
          replace hR_ := hR_ (by decide)
          refine wpL_reads (is := [(28, ?v3_0), (29, ?v3_1), (30, ?v3_2), (31, ?v3_3), (32, ?v3_4), (33, ?v3_5), (34, ?v3_6), (35, ?v3_7), (36, ?v3_8), (37, ?v3_9), (38, ?v3_10), (40, ?v3_11), (41, ?v3_12), (42, ?v3_13), (43, ?v3_14)]) (by kernel_rfl) (Nat.le_of_ble_eq_true rfl) (by intro _ _ d_ _ _ h_; cases d_ <;> exact h_) (by kernel_rfl) hR_ (fun w_ hw_ => ?h3_) ?_
          case h3_ =>
            have ho_ := hw_.old0.1; have hz_ := hw_.old0.2; have hr_ := hw_.rules; clear hw_; simp only [Rules, and_true] at hr_; go_split_ands
            (repeat (first | with_reducible exact RdOps.nil | (refine RdOps.run rfl (by rfl) ?_ ?_; (focus (first | (go_simp; done) | (go_simp; with_reducible rfl))); simp only [List.getElem_toArray, List.getElem_cons_zero, List.getElem_cons_succ, Act.put, List.setIfInBounds_toArray, List.set_cons_zero, List.set_cons_succ]) | (refine RdOps.skip rfl (by rfl) ?_ ?_; (focus (with_reducible rfl)); simp only [List.getElem_toArray, List.getElem_cons_zero, List.getElem_cons_succ, Act.put, List.setIfInBounds_toArray, List.set_cons_zero, List.set_cons_succ])))
          simp only [rdMark, rdAct, List.map_cons, List.map_nil, List.length_cons, List.length_nil, Nat.reduceAdd, Nat.reduceSub, Nat.zero_add, List.getElem?_toArray, List.getElem?_cons_zero, List.getElem?_cons_succ, Option.bind_some, Act.put, List.setIfInBounds_toArray, List.set_cons_zero, List.set_cons_succ]
          refine wpL_do (i := 39) rfl (by kernel_rfl) (by rfl) (fun K_ hK_ => ?_)
          go_simp
          refine (self12_calls).mono ?_
          rintro e w_ ⟨rfl, hx⟩
          replace H9 := H9.call hx
          clear hx
          refine hK_ _ _ (fun _ => H9.sub (by simp)) (fun hR_ => ?_)
          replace hR_ := hR_ (by decide)
          refine wpL_do (i := 44) rfl (by kernel_rfl) (by rfl) (fun K_ hK_ => ?_)
          go_simp
          rw [show IntKind.i64.wrap ((m : Int) + (k : Int)) = (m : Int) + (k : Int) by rw [IntKind.wrap_i64]; omega]
          refine (v12_calls).mono ?_
          rintro e w_ ⟨rfl, hx⟩
          replace H9 := H9.call hx
          clear hx
          refine hK_ _ _ (fun _ => H9.sub (by simp)) (fun hR_ => ?_)
          replace hR_ := hR_ (by decide)
          refine wpL_do (i := 45) rfl (by kernel_rfl) (by rfl) (fun K_ hK_ => ?_)
          go_simp
          refine (app12_calls (S := anyW) (S1 := anyW) (a := .mk 11 0 1 [] []) (b := .mk 1 (((m : Int) + (k : Int)).tmod 4) 0 [] []) (tN_rc (by unfold inI; omega) inIz (by unfold inI; omega)) (tN_rc (by unfold inI; omega) (inI_tmod4 (by omega)) inIz)).mono ?_
          rintro e w_ ⟨cs_, rfl, hr_, hx⟩
          obtain ⟨P1, p1_, P2, p2_, rfl, -⟩ := RC.tm.1 hr_
          have HP := Lib.hid hr_
          clear hr_
          replace H9 := H9.call hx
          clear hx
          refine hK_ _ _ (fun _ => H9.sub (by simp)) (fun hR_ => ?_)
          replace hR_ := hR_ (by decide)
          refine wpL_do (i := 46) rfl (by kernel_rfl) (by rfl) (fun K_ hK_ => ?_)
          go_simp
          refine (pi12_calls (HD1.out.ext0 H9.ext) HP.out).mono ?_
          clear HP
          rintro e w_ ⟨cs_, rfl, hr_, hx⟩
          obtain ⟨P1, p1_, P2, p2_, rfl, -⟩ := RC.tm.1 hr_
          have HP := Lib.hid hr_
          clear hr_
          replace H9 := H9.call hx
          clear hx
          refine hK_ _ _ (fun _ => H9.sub (by simp)) (fun hR_ => ?_)
          replace hR_ := hR_ (by decide)
          refine wpL_do (i := 47) rfl (by kernel_rfl) (by rfl) (fun K_ hK_ => ?_)
          go_simp
          refine (pi12_calls (HD0.out.ext0 H9.ext) HP.out).mono ?_
          clear HP
          rintro e w_ ⟨cs_, rfl, hr_, hx⟩
          obtain ⟨P1, p1_, P2, p2_, rfl, -⟩ := RC.tm.1 hr_
          have HP := Lib.hid hr_
          clear hr_
          replace H9 := H9.call hx
          clear hx
          refine hK_ _ _ (fun _ => H9.sub (by simp)) (fun hR_ => ?_)
          replace hR_ := hR_ (by decide)
          refine wpL_do (i := 48) rfl (by kernel_rfl) (by rfl) (fun K_ hK_ => ?_)
          go_simp
          refine (of12_calls (m := 1) (t := .mk 4 0 0 [] [tm_, .mk 4 0 0 [] [tk, .mk 6 0 0 [] [.mk 11 0 1 [] [], .mk 1 (((m : Int) + (k : Int)).tmod 4) 0 [] []]]]) HP.out (by unfold inI; omega)).mono ?_
          clear HP
          rintro e w_ ⟨cs_, rfl, hd, hx⟩
          replace H9 := H9.call hx
          clear hx
          obtain ⟨Aty, cty, Kty, kty, Abody, cbody, Kbody, kbody, Aparams, cparams, Asort, csort, Amembers, cmembers, Actors, cctors, rfl, _⟩ := RC.dc.1 hd
          have HD := Lib.hid hd
          clear hd
          refine hK_ _ _ (fun _ => H9.sub (by simp)) (fun hR_ => ?_)
          replace hR_ := hR_ (by decide)
          refine wpL_do (i := 49) rfl (by kernel_rfl) (by rfl) (fun K_ hK_ => ?_)
          go_simp
          have hcall := rules12_calls (HT.out.ext (HXW.out.seq H9.ext)) HD.out (cts12 (by have := HS1.out; have := HS2.out; simp only [sizeT, sizesT]; omega))
          refine (hcall).mono ?_
          rintro e w_ ⟨rfl, hx⟩
          replace H9 := H9.call hx
          clear hx
          clear hcall HD
          refine hK_ _ _ (fun _ => H9.sub (by simp)) (fun hR_ => ?_)
          replace hR_ := hR_ (by decide)
          refine wpL_reads (is := [(50, ?v4_0), (51, ?v4_1)]) (by kernel_rfl) (Nat.le_of_ble_eq_true rfl) (by intro _ _ d_ _ _ h_; cases d_ <;> exact h_) (by kernel_rfl) hR_ (fun w_ hw_ => ?h4_) ?_
          case h4_ =>
            have ho_ := hw_.old0.1; have hz_ := hw_.old0.2; have hr_ := hw_.rules; clear hw_; simp only [Rules, and_true] at hr_; go_split_ands
            (repeat (first | with_reducible exact RdOps.nil | (refine RdOps.run rfl (by rfl) ?_ ?_; (focus (first | (go_simp; done) | (go_simp; with_reducible rfl))); simp only [List.getElem_toArray, List.getElem_cons_zero, List.getElem_cons_succ, Act.put, List.setIfInBounds_toArray, List.set_cons_zero, List.set_cons_succ]) | (refine RdOps.skip rfl (by rfl) ?_ ?_; (focus (with_reducible rfl)); simp only [List.getElem_toArray, List.getElem_cons_zero, List.getElem_cons_succ, Act.put, List.setIfInBounds_toArray, List.set_cons_zero, List.set_cons_succ])))
          simp only [rdMark, rdAct, List.map_cons, List.map_nil, List.length_cons, List.length_nil, Nat.reduceAdd, Nat.reduceSub, Nat.zero_add, List.getElem?_toArray, List.getElem?_cons_zero, List.getElem?_cons_succ, Option.bind_some, Act.put, List.setIfInBounds_toArray, List.set_cons_zero, List.set_cons_succ]
          refine wpL_done (by kernel_rfl) ?_ _
          have HE := Lib.hid (HXW.out.seq H9.ext)
          clear H9 p0 p1 p2 p3 p4 q0 q1 q2 q3 q4 HD0 HD1 HXW
          go_wp2_with fail
          go_roundw
          case rel => first | exact ⟨k + 1, by omega, by first | go_num | rfl | simp, HE.out⟩ | ((repeat apply Exists.intro); refine ⟨⟨k + 1, by omega, by first | go_num | rfl | simp, HE.out⟩, ?_⟩; rfl)
          case measure => simp [intOf]; omega
        · go_wp2_with fail
          go_roundw
          case rel => first | exact ⟨m + 1, by omega, by first | go_num | rfl | simp, H1⟩ | ((repeat apply Exists.intro); refine ⟨⟨m + 1, by omega, by first | go_num | rfl | simp, H1⟩, ?_⟩; rfl)
          case measure => simp [intOf]; omega
    · repeat ((fail_if_success (with_reducible (first | show Code.wp _ (Code.seq (Code.region 10 _ _) _) _ _ _ | show Code.wp _ (Code.seq (Code.seq (Code.region 10 _ _) _) _) _ _ _))); go_step)
      exact shB (HT.out.ext H1) (HX.out.seq H1) (h.ext0 H1) HSZ.out
end Go.Proofs.YtgbokmphbimihaaDoor
