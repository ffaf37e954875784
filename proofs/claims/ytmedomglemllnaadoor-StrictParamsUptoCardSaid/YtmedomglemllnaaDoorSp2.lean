/- StrictParams: from the guard on, to what is asked first. No statement of the seat is proved here. -/
import Derived.Test.YtmedomglemllnaaDoorSpC
namespace Go.Proofs.YtmedomglemllnaaDoor
set_option linter.unusedSimpArgs false
set_option linter.unusedVariables false
open Go.RowKit

theorem any_dropS {α : Type} {p : α → Bool} {xs : List α} {j : Nat} (h : j < xs.length) : (xs.drop j).any p = (p xs[j] || (xs.drop (j + 1)).any p) := by
  rw [List.drop_eq_getElem_cons h, List.any_cons]
set_option maxRecDepth 100000 in
set_option maxHeartbeats 32000000 in
theorem spB {w W : World} {S1 : Nat → Prop} {ds : List Dc} {d : Dc} {A0 : Option Addr} {c gA cA gd : Nat} {Aty Kty Abody Kbody Aparams Asort Amembers Actors : Option Addr} {cty kty cbody kbody cparams csort cmembers cctors : Nat} {ai drop : Int} {x1 x4 x6 x7 x8 x10 x11 x12 x13 x14 x15 x16 x17 x18 x19 x20 x21 x22 x23 x24 x25 x26 x27 x28 x29 x30 x31 x32 x33 x34 x35 x36 x37 x38 x39 x40 x41 x42 x43 x44 x45 x46 x47 x48 x49 x50 x51 x52 x53 x54 x55 x56 x57 x58 x59 x60 x61 x62 x63 x64 x65 x66 x67 x68 x69 x70 x71 x72 x73 x74 x75 x76 x77 x78 x79 x80 x81 x82 x83 x84 x85 x86 x87 x88 x89 x90 x91 x92 x93 x94 x95 x96 x97 x98 x99 x100 x101 x102 x103 x104 x105 x106 x107 x108 x109 x110 x111 x112 x113 x114 x115 x116 x117 x118 x119 x120 x121 x122 x123 x124 x125 x126 x127 x128 x129 x130 x131 x132 x133 x134 x135 x136 x137 x138 x139 x140 x141 x142 x143 x144 x145 x146 x147 x148 x149 x150 x151 x152 x153 x154 x155 x156 x157 x158 x159 x160 x161 x162 x163 x164 x165 x166 x167 x168 x169 x170 x171 x172 x173 x174 x175 x176 x177 x178 x179 x180 x181 x182 x183 x184 x185 x186 x187 x188 x189 x190 x191 x192 x193 x194 x195 x196 x197 x198 x199 x200 x201 x202 x203 x204 x205 x206 x207 : Value}
    (hT : Tab w) (hx : Ext no w W) (hA : AllR W w.heap.size gA cA ds d) (hgA : w.heap.size ≤ gA) (hgA2 : gA < W.heap.size) (hgd : w.heap.size ≤ gd) (hne : gd ≠ gA) (hcl : d.ctors.length ≤ 4000000) (hd : RC w S1 d.d [.int .i64 d.kind, .int .i64 d.levels, .int .i64 d.ty.k, .int .i64 d.ty.n, .int .i64 d.ty.a, .slice Aty d.ty.ls.length cty, .slice Kty d.ty.ks.length kty, .int .i64 d.body.k, .int .i64 d.body.n, .int .i64 d.body.a, .slice Abody d.body.ls.length cbody, .slice Kbody d.body.ks.length kbody, .slice Aparams d.params.length cparams, .slice Asort d.sort.length csort, .slice Amembers d.members.length cmembers, .slice Actors d.ctors.length cctors]) (hbd : Blk W gd 37 [.int .i64 d.kind, .int .i64 d.levels, .int .i64 d.ty.k, .int .i64 d.ty.n, .int .i64 d.ty.a, .slice Aty d.ty.ls.length cty, .slice Kty d.ty.ks.length kty, .int .i64 d.body.k, .int .i64 d.body.n, .int .i64 d.body.a, .slice Abody d.body.ls.length cbody, .slice Kbody d.body.ks.length kbody, .slice Aparams d.params.length cparams, .slice Asort d.sort.length csort, .slice Amembers d.members.length cmembers, .slice Actors d.ctors.length cctors].toArray) (sm : ∀ x ∈ ds, SmDc x) (smd : SmDc d) (hi1 : inI drop) (hln : ds.length ≤ 1048576)
    (hpp : ∀ x ∈ ds ++ [d], x.params.length ≤ 4000000 ∧ ∀ m ∈ x.members, m.index.length ≤ 4000000) (hok : ∀ ct ∈ d.ctors, TmOK ct.ty ∧ depthT ct.ty ≤ 1000000000) :
    (fromF 4 (Tryd.f4.body.getD .skip)).wp Tryd.prog (bodyPost Tryd.prog Tryd.f4 (PV w (.bool true))) { tmps := #[.slice A0 ds.length c, x1, .int .i64 ai, .int .i64 drop, x4, .pointer (some ⟨gd, 0, none⟩), x6, x7, x8, .slice (some ⟨gA, 0, none⟩) (ds.length + 1) cA, x10, x11, x12, x13, x14, x15, x16, x17, x18, x19, x20, x21, x22, x23, x24, x25, x26, x27, x28, x29, x30, x31, x32, x33, x34, x35, x36, x37, x38, x39, x40, x41, x42, x43, x44, x45, x46, x47, x48, x49, x50, x51, x52, x53, x54, x55, x56, x57, x58, x59, x60, x61, x62, x63, x64, x65, x66, x67, x68, x69, x70, x71, x72, x73, x74, x75, x76, x77, x78, x79, x80, x81, x82, x83, x84, x85, x86, x87, x88, x89, x90, x91, x92, x93, x94, x95, x96, x97, x98, x99, x100, x101, x102, x103, x104, x105, x106, x107, x108, x109, x110, x111, x112, x113, x114, x115, x116, x117, x118, x119, x120, x121, x122, x123, x124, x125, x126, x127, x128, x129, x130, x131, x132, x133, x134, x135, x136, x137, x138, x139, x140, x141, x142, x143, x144, x145, x146, x147, x148, x149, x150, x151, x152, x153, x154, x155, x156, x157, x158, x159, x160, x161, x162, x163, x164, x165, x166, x167, x168, x169, x170, x171, x172, x173, x174, x175, x176, x177, x178, x179, x180, x181, x182, x183, x184, x185, x186, x187, x188, x189, x190, x191, x192, x193, x194, x195, x196, x197, x198, x199, x200, x201, x202, x203, x204, x205, x206, x207], defers := [] } W := by
  have HD := Lib.hid hd
  have HBD := Lib.hid hbd
  obtain ⟨_, _, _, _, _, _, _, _, _, _, _, _, _, _, _, _, he, _, _, r1, r2, hpa, hso, hmb, hct⟩ := RC.dc.1 hd
  simp only [List.cons.injEq, Value.slice.injEq, and_true, true_and] at he
  obtain ⟨⟨rfl, rfl⟩, ⟨rfl, rfl⟩, ⟨rfl, rfl⟩, ⟨rfl, rfl⟩, ⟨rfl, rfl⟩, ⟨rfl, rfl⟩, ⟨rfl, rfl⟩, rfl, rfl⟩ := he
  have HT := Lib.hid hT
  have HX := Lib.hid hx
  have HA := Lib.hid hA
  have HMB := Lib.hid (hmb.ext0 hx)
  have HCT := Lib.hid (hct.ext0 hx)
  have HSM := Lib.hid sm
  have HSMD := Lib.hid smd
  have HPP := Lib.hid hpp
  have HOK := Lib.hid hok
  have HI1 := Lib.hid hi1
  have HN9 := Lib.hid hln
  have HGA := Lib.hid (And.intro hgA hgA2)
  have HGD := Lib.hid (And.intro hgd hne)
  have hMm := hmb.lenM
  have hMc := hct.lenM
  have hMp := hpa.lenM
  have c0 : W.cell? ⟨gd, 0, none⟩ = some (.int .i64 d.kind) := hbd.cells 0
  have c12 : W.cell? ⟨gd, 12, none⟩ = some (.slice Aparams d.params.length cparams) := hbd.cells 12
  have c14 : W.cell? ⟨gd, 14, none⟩ = some (.slice Amembers d.members.length cmembers) := hbd.cells 14
  have c15 : W.cell? ⟨gd, 15, none⟩ = some (.slice Actors d.ctors.length cctors) := hbd.cells 15
  have lb := hbd.lt
  have hp9 : d.params.length ≤ 4000000 := (hpp d (by simp)).1
  clear hT hx hA hd hbd r1 r2 hpa hso hmb hct sm smd hpp hok hi1 hgA hgA2 hgd hne hln
  conv => arg 2; whnf
  by_cases h8 : (8 : Int) ≤ (ds.length : Int)
  · go_wp2_with fail
    go_ret
    exact ⟨rfl, HX.out⟩
  · go_wp2_with fail
    have hrc := HA.out.rc HGA.out.1
    have hgr := great18_calls (ds := ds ++ [d]) (A0 := some ⟨gA, 0, none⟩) (c := cA) (by rw [List.length_append, List.length_singleton]; exact hrc) HPP.out
    rw [List.length_append, List.length_singleton] at hgr
    refine hgr.mono ?_
    clear hgr
    rintro e W1 ⟨z, rfl, hx1⟩
    have HX1 := Lib.hid hx1
    replace c0 := hx1.keep c0
    replace c12 := hx1.keep c12
    replace c14 := hx1.keep c14
    replace c15 := hx1.keep c15
    replace lb := Nat.lt_of_lt_of_le lb hx1.size
    clear hrc hx1
    cases z
    · by_cases hk : d.kind = 3
      · have e3 : (d.kind != 3) = false := by rw [hk]; rfl
        have HK := Lib.hid hk
        clear hk
        by_cases ha0 : ai < 0
        · go_wp2_with fail
          go_ret
          exact ⟨rfl, HX.out.seq HX1.out⟩
        · by_cases haP : (d.params.length : Int) ≤ ai
          · go_wp2_with fail
            go_ret
            exact ⟨rfl, HX.out.seq HX1.out⟩
          · obtain ⟨a, rfl⟩ : ∃ a : Nat, ai = a := ⟨ai.toNat, by omega⟩
            have ha : a < d.params.length := by omega
            go_wp2_with fail
            obtain ⟨is, his⟩ : ∃ is, is = parQ (ds ++ [d]) ds.length a := ⟨_, rfl⟩
            have hcall := (HA.out.ext HX1.out).param (HT.out.ext (HX.out.seq HX1.out)) HGA.out.1 HSM.out HSMD.out HK.out ha
            rw [← his] at hcall
            have HIS := Lib.hid his
            clear his
            refine hcall.mono ?_
            clear hcall
            rintro e W2 ⟨rfl, hx2⟩
            replace c0 := hx2.keep c0
            replace c12 := hx2.keep c12
            replace c14 := hx2.keep c14
            replace c15 := hx2.keep c15
            replace lb := Nat.lt_of_lt_of_le lb hx2.size
            have HX2 := Lib.hid (HX1.out.seq hx2)
            have HC : Hid (Cells W2 [(⟨gd, 12, none⟩, .slice Aparams d.params.length cparams), (⟨gd, 14, none⟩, .slice Amembers d.members.length cmembers), (⟨gd, 15, none⟩, .slice Actors d.ctors.length cctors)]) := Lib.hid ⟨c12, c14, c15, trivial⟩
            clear hx2 HX1 c0
            obtain ⟨V, hV⟩ : ∃ V : Int, V = (d.params.length : Int) - 1 - a := ⟨_, rfl⟩
            have hV0 : 0 ≤ V := by omega
            have hV1 : V ≤ 4000000 := by omega
            have HV := Lib.hid hV
            have hw1 : IntKind.i64.wrap (IntKind.i64.wrap ((d.params.length : Int) - 1) - (a : Int)) = V := by rw [IntKind.wrap_i64, IntKind.wrap_i64, hV]; omega
            go_wp2_with fail
            rw [show (d.params.length : Int) - 1 - (a : Int) = V from HV.out.symm]
            clear hV hw1
            go_loopw [14, 15] (fun b i wr => ∃ (j : Nat) (q : Bool), j ≤ d.members.length ∧ i = .int .i64 (j : Int) ∧ b = .bool q ∧ Hid ((q || (d.members.drop j).any (fun m => !freeRow (some V) 0 m.index)) = idxQ d V) ∧ Ext no W2 wr) (fun _ i _ => d.members.length - (intOf i).toNat)
            case atStart => exact ⟨0, false, Nat.zero_le _, rfl, rfl, Lib.hid (by simp), Ext.refl _ _⟩
            case round =>
              clear c12 c14 c15 lb
              obtain ⟨j, q, hj, rfl, rfl, HS, hx⟩ := hrel
              have HX3 := Lib.hid hx
              have hc := HC.out.keep hx
              simp only [Cells_cons, Cells_nil, and_true] at hc
              obtain ⟨c12, c14, c15⟩ := hc
              have lb := cell_lt c12
              by_cases hlt : j < d.members.length
              · obtain ⟨b, o, A1, a1, hA_, hb_, hS_, hcd, p0⟩ := (HMB.out.ext0 HX2.out).atMb hlt
                subst hA_
                have HP0 := Lib.hid p0
                have hsmm := HSMD.out.mb _ (List.getElem_mem hlt)
                have HE := Lib.hid (any_dropS (p := fun m : Mb => !freeRow (some V) 0 m.index) hlt)
                obtain ⟨_, _, he, hix⟩ := RC.mb.1 hcd
                simp only [List.cons.injEq, Value.slice.injEq, and_true, true_and] at he
                obtain ⟨rfl, rfl⟩ := he
                generalize d.members[j] = mb at p0 HP0 hix hsmm HE
                obtain ⟨hl8, hs8⟩ := hsmm
                have hM3 := hix.lenM
                have HIX := Lib.hid hix
                replace p0 := hx.keep p0
                clear hcd hix hS_ hs8 hx
                go_wp2_with fail
                go_loopw [14, 16] (fun b i wr => ∃ (k : Nat) (q2 : Bool), k ≤ mb.index.length ∧ i = .int .i64 (k : Int) ∧ b = .bool q2 ∧ Hid ((q2 || !freeRow (some V) k (mb.index.drop k)) = (q || !freeRow (some V) 0 mb.index)) ∧ Ext no W2 wr) (fun _ i _ => mb.index.length - (intOf i).toNat)
                case atStart => exact ⟨0, q, Nat.zero_le _, rfl, rfl, Lib.hid (by simp), HX3.out⟩
                case round =>
                  clear c12 c14 c15 lb p0
                  obtain ⟨k, q2, hk, rfl, rfl, HT2, hx⟩ := hrel
                  have HX4 := Lib.hid hx
                  have p0 := hx.keep HP0.out
                  have hc := HC.out.keep hx
                  simp only [Cells_cons, Cells_nil, and_true] at hc
                  obtain ⟨c12, c14, c15⟩ := hc
                  have lb := cell_lt c12
                  by_cases hlk : k < mb.index.length
                  · obtain ⟨b2_, o2, B1, ca1, L1, ck1, rfl, hb2, hS_, hd, p5, p6, p7, p8, p9⟩ := (HIX.out.ext0 hx).atTm hlk
                    have HD2 := Lib.hid hd
                    have HE2 := Lib.hid (freeRow_drop (v := some V) hlk)
                    clear hd hS_ hx
                    cases q2
                    · go_wp2_with fail
                      obtain ⟨z, hz⟩ : ∃ z, z = freeT (V + k) (V + k + 1) 0 mb.index[k] := ⟨_, rfl⟩
                      have hcall := free_calls (t := mb.index[k]) (HT.out.ext (HX.out.seq (HX2.out.seq HX4.out))) ⟨_, _, _, _, rfl, HD2.out⟩ (V + k) (V + k + 1)
                      rw [← hz] at hcall
                      have HZ := Lib.hid (show standsM (upM (some V) (k : Int)) mb.index[k] = z from hz.symm)
                      clear hz
                      refine hcall.mono ?_
                      clear hcall
                      rintro e W5 ⟨rfl, hx⟩
                      go_wp2_with fail
                      go_roundw
                      case rel => exact ⟨k + 1, z, by omega, by first | go_num | rfl | simp, rfl, Lib.hid (by rw [← HT2.out, HE2.out, HZ.out]; cases z <;> simp), HX4.out.seq hx⟩
                      case measure => first | (simp [intOf]; done) | (simp [intOf]; omega)
                    · go_wp2_with fail
                      go_roundw
                      case rel => exact ⟨k + 1, true, by omega, by first | go_num | rfl | simp, rfl, Lib.hid (by rw [← HT2.out]; rfl), HX4.out⟩
                      case measure => first | (simp [intOf]; done) | (simp [intOf]; omega)
                  · have hq2 : q2 = (q || !freeRow (some V) 0 mb.index) := by
                      rw [← HT2.out, List.drop_eq_nil_of_le (by omega)]
                      simp [freeRow]
                    have HQ2 := Lib.hid hq2
                    clear hq2
                    go_wp2_with fail
                    go_roundw
                    case rel => exact ⟨j + 1, q2, by omega, by first | go_num | rfl | simp, rfl, Lib.hid (by rw [← HS.out, HE.out, HQ2.out, Bool.or_assoc]), HX4.out⟩
                    case measure => first | (simp [intOf]; done) | (simp [intOf]; omega)
              · have hq2 : q = idxQ d V := by
                  rw [← HS.out, List.drop_eq_nil_of_le (by omega)]
                  simp
                have HQ2 := Lib.hid hq2
                obtain ⟨W3, hW3⟩ : ∃ W3, W3 = wr := ⟨_, rfl⟩
                subst hW3
                clear hq2 HS hx
                go_wp2_with fail
                go_loopw [13, 17] (fun b i wr => ∃ (k : Nat) (n1 : Bool), k ≤ d.ctors.length ∧ i = .int .i64 (k : Int) ∧ b = .bool n1 ∧ Hid ((n1 && (d.ctors.drop k).all (fun c => !freeT V (V + 1) 0 c.ty)) = nowQ d V) ∧ Ext no W2 wr) (fun _ i _ => d.ctors.length - (intOf i).toNat)
                case atStart => exact ⟨0, true, Nat.zero_le _, rfl, rfl, Lib.hid (by simp), HX3.out⟩
                case round =>
                  clear c12 c14 c15 lb
                  obtain ⟨k, n1, hk, rfl, rfl, HT2, hx⟩ := hrel
                  have HX4 := Lib.hid hx
                  have hc := HC.out.keep hx
                  simp only [Cells_cons, Cells_nil, and_true] at hc
                  obtain ⟨c12, c14, c15⟩ := hc
                  have lb := cell_lt c12
                  by_cases hlk : k < d.ctors.length
                  · obtain ⟨b, o, A1, a1, K1, k1, hA_, hb_, hS_, hcd, p0, p1, p2, p3, p4, p5⟩ := ((HCT.out.ext0 HX2.out).ext0 hx).atCt hlk
                    subst hA_
                    have HE2 := Lib.hid (all_dropS (p := fun c : Ct => !freeT V (V + 1) 0 c.ty) hlk)
                    obtain ⟨_, _, _, _, he, _, hty⟩ := RC.ct.1 hcd
                    simp only [List.cons.injEq, Value.slice.injEq, and_true, true_and] at he
                    obtain ⟨⟨rfl, rfl⟩, rfl, rfl⟩ := he
                    generalize d.ctors[k] = ct at p0 p1 p2 p3 p4 p5 hty HE2
                    have HTY := Lib.hid hty
                    clear hcd hty hS_ hx
                    cases n1
                    · go_wp2_with fail
                      go_roundw
                      case rel => exact ⟨k + 1, false, by omega, by first | go_num | rfl | simp, rfl, Lib.hid (by rw [← HT2.out]; rfl), HX4.out⟩
                      case measure => first | (simp [intOf]; done) | (simp [intOf]; omega)
                    · go_wp2_with fail
                      obtain ⟨z, hz⟩ : ∃ z, z = freeT V (V + 1) 0 ct.ty := ⟨_, rfl⟩
                      have hcall := free_calls (t := ct.ty) (HT.out.ext (HX.out.seq (HX2.out.seq HX4.out))) ⟨_, _, _, _, rfl, HTY.out⟩ V (V + 1)
                      rw [← hz] at hcall
                      have HZ := Lib.hid hz
                      clear hz
                      refine hcall.mono ?_
                      clear hcall
                      rintro e W5 ⟨rfl, hx⟩
                      go_wp2_with fail
                      go_roundw
                      case rel => exact ⟨k + 1, !z, by omega, by first | go_num | rfl | simp, rfl, Lib.hid (by rw [← HT2.out, HE2.out, ← HZ.out]; simp), HX4.out.seq hx⟩
                      case measure => first | (simp [intOf]; done) | (simp [intOf]; omega)
                  · have hn1 : n1 = nowQ d V := by
                      rw [← HT2.out, List.drop_eq_nil_of_le (by omega)]
                      simp
                    have hi2 := HQ2.out
                    have hIS := HIS.out
                    have law1 : q = true → is = false := fun h => by rw [hIS]; exact params_index (by rw [← HV.out, ← hi2]; exact h)
                    have law2 : n1 = true → q = false → is = true := fun h h2 => by rw [hIS]; exact params_nowhere ha HOK.out (by rw [← HV.out, ← hn1]; exact h) (by rw [← HV.out, ← hi2]; exact h2)
                    have HE := HX2.out.seq HX4.out
                    clear HT2 hn1 hi2 hIS
                    cases n1 <;> cases q <;> cases is
                    all_goals first
                      | (have h9 := law1 rfl; cases h9; done)
                      | (have h9 := law2 rfl rfl; cases h9; done)
                      | (repeat ((fail_if_success (with_reducible (first | show Code.wp _ (Code.seq (Code.region 23 _ _) _) _ _ _ | show Code.wp _ (Code.seq (Code.seq (Code.region 23 _ _) _) _) _ _ _))); go_step)
                         rw [HV.out]
                         exact spC HT.out (HX.out.seq HE) (HA.out.ext HE) HGA.out.1 (Nat.lt_of_lt_of_le HGA.out.2 HE.size) HGD.out.1 HGD.out.2 HD.out (HBD.out.ext0 HE) HSM.out HSMD.out HI1.out HN9.out ha hp9 hcl HIS.out HK.out)
      · have e3 : (d.kind != 3) = true := by rw [bne_iff_ne]; exact hk
        clear hk
        go_wp2_with fail
        go_ret
        exact ⟨rfl, HX.out.seq HX1.out⟩
    · go_wp2_with fail
      go_ret
      exact ⟨rfl, HX.out.seq HX1.out⟩
end Go.Proofs.YtmedomglemllnaaDoor
