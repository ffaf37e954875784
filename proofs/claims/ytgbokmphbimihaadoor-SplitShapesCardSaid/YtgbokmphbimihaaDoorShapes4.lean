/- SplitShapes: its loops over the shapes. No statement of the seat is proved here. -/
import Derived.Test.YtgbokmphbimihaaDoorShapes2
namespace Go.Proofs.YtgbokmphbimihaaDoor
set_option linter.unusedSimpArgs false
set_option linter.unusedVariables false
open Go.RowKit

set_option maxRecDepth 100000 in
set_option maxHeartbeats 8000000 in
/-- From the second loops on. -/
theorem shB {w W : World} {S : Nat → Prop} {l : List Tm} {A : Option Addr} {c : Nat} {x0 x2 x3 x4 x5 x6 x7 x8 x9 x10 x11 x12 x13 x14 x15 x16 x17 x18 x19 x20 x21 x22 x23 x24 x25 x26 x27 x28 x29 x30 x31 x32 x33 x34 x35 x36 x37 x38 x39 x40 x41 x42 x43 x44 x45 x46 x47 x48 x49 x50 x51 x52 x53 x54 x55 x56 x57 x58 x59 x60 x61 x62 x63 x64 x65 x66 x67 x68 x69 x70 x71 x72 x73 x74 x75 x76 x77 x78 x79 x80 x81 x82 x83 x84 x85 x86 x87 x88 x89 x90 x91 x92 x93 x94 x95 x96 x97 x98 x99 x100 x101 x102 x103 x104 x105 x106 x107 x108 x109 x110 x111 x112 x113 x114 x115 x116 x117 x118 x119 x120 x121 x122 x123 x124 x125 x126 x127 x128 x129 x130 x131 x132 x133 x134 x135 x136 x137 x138 x139 x140 x141 x142 x143 x144 x145 x146 x147 x148 x149 x150 x151 x152 x153 x154 x155 x156 x157 x158 x159 x160 x161 x162 x163 x164 x165 x166 x167 x168 x169 x170 x171 x172 x173 x174 x175 x176 x177 x178 x179 x180 x181 x182 x183 x184 x185 x186 x187 x188 x189 x190 x191 x192 x193 x194 x195 x196 x197 : Value} (hT : Tab W) (hx : Ext no w W) (h : RC W S (.l 26 5 (l.map Tm.d)) [.slice A l.length c]) (hz : ∀ t ∈ l, sizeT t ≤ 1000) :
    (fromF 10 (Tryd.f3.body.getD .skip)).wp Tryd.prog (bodyPost Tryd.prog Tryd.f3 (PV w (.bool true))) { tmps := #[x0, .slice A l.length c, x2, x3, x4, x5, x6, x7, x8, x9, x10, x11, x12, x13, x14, x15, x16, x17, x18, x19, x20, x21, x22, x23, x24, x25, x26, x27, x28, x29, x30, x31, x32, x33, x34, x35, x36, x37, x38, x39, x40, x41, x42, x43, x44, x45, x46, x47, x48, x49, x50, x51, x52, x53, x54, x55, x56, x57, x58, x59, x60, x61, x62, x63, x64, x65, x66, x67, x68, x69, x70, x71, x72, x73, x74, x75, x76, x77, x78, x79, x80, x81, x82, x83, x84, x85, x86, x87, x88, x89, x90, x91, x92, x93, x94, x95, x96, x97, x98, x99, x100, x101, x102, x103, x104, x105, x106, x107, x108, x109, x110, x111, x112, x113, x114, x115, x116, x117, x118, x119, x120, x121, x122, x123, x124, x125, x126, x127, x128, x129, x130, x131, x132, x133, x134, x135, x136, x137, x138, x139, x140, x141, x142, x143, x144, x145, x146, x147, x148, x149, x150, x151, x152, x153, x154, x155, x156, x157, x158, x159, x160, x161, x162, x163, x164, x165, x166, x167, x168, x169, x170, x171, x172, x173, x174, x175, x176, x177, x178, x179, x180, x181, x182, x183, x184, x185, x186, x187, x188, x189, x190, x191, x192, x193, x194, x195, x196, x197], defers := [] } W := by
  have HT := Lib.hid hT
  have HX := Lib.hid hx
  have HSZ := Lib.hid hz
  have hM := h.lenM
  clear hT hx hz
  conv => arg 2; whnf
  go_wp2_with fail
  go_loopw [4] (fun i wr => ∃ m : Int, -1 ≤ m ∧ m ≤ 4 ∧ i = .int .i64 m ∧ Ext no W wr) (fun i _ => (4 - intOf i).toNat)
  case atStart => exact ⟨-1, by omega, by omega, rfl, Ext.refl _ _⟩
  case round =>
    obtain ⟨m, hm0, hm1, rfl, H1⟩ := hrel
    by_cases hlt : m < 4
    · go_wp2_with fail
      have HX1 := Lib.hid H1
      clear H1
      go_loopw [5] (fun i wr => ∃ k : Nat, k ≤ l.length ∧ i = .int .i64 k ∧ Ext no W wr) (fun i _ => l.length - (intOf i).toNat)
      case atStart => exact ⟨0, Nat.zero_le _, rfl, HX1.out⟩
      case round =>
        obtain ⟨k, hk, rfl, H1⟩ := hrel
        by_cases hlk : k < l.length
        · obtain ⟨b, o, A1, a1, K1, k1, hA, hb, hS, hd, p0, p1, p2, p3, p4⟩ := h.atTm hlk
          subst hA
          have HXW := Lib.hid H1
          have HD0 := Lib.hid (hd.ext0 H1)
          replace p0 := H1.keep p0
          replace p1 := H1.keep p1
          replace p2 := H1.keep p2
          replace p3 := H1.keep p3
          replace p4 := H1.keep p4
          clear hd H1 hb
          go_wp2_with fail
          refine (of12_calls (m := m) HD0.out (by unfold inI; omega)).mono ?_
          have H9 := Hp.start no wr
          rintro e w_ ⟨cs_, rfl, hd, hx⟩
          replace H9 := H9.call hx
          clear hx
          obtain ⟨Aty, cty, Kty, kty, Abody, cbody, Kbody, kbody, Aparams, cparams, Asort, csort, Amembers, cmembers, Actors, cctors, rfl, _⟩ := RC.dc.1 hd
          have HD := Lib.hid hd
          clear hd
          go_wp2_with fail
          have hcall := rules12_calls (HT.out.ext (HXW.out.seq H9.ext)) HD.out (cts12 (by first | (have := HSZ.out _ (List.getElem_mem hlk); omega) | (have := HSZ.out _ (List.getElem_mem hi); have := HSZ.out _ (List.getElem_mem hk); simp only [sizeT, sizesT]; omega)))
          refine (hcall).mono ?_
          rintro e w_ ⟨rfl, hx⟩
          replace H9 := H9.call hx
          clear hx
          clear hcall HD
          go_wp2_with fail
          have HE := Lib.hid (HXW.out.seq H9.ext)
          clear H9 p0 p1 p2 p3 p4 HD0 HXW
          go_roundw
          case rel => first | exact ⟨k + 1, by omega, by first | go_num | rfl | simp, HE.out⟩ | ((repeat apply Exists.intro); refine ⟨⟨k + 1, by omega, by first | go_num | rfl | simp, HE.out⟩, ?_⟩; rfl)
          case measure => simp [intOf]; omega
        · go_wp2_with fail
          go_roundw
          case rel => first | exact ⟨m + 1, by omega, by omega, by first | go_num | rfl | simp, H1⟩ | ((repeat apply Exists.intro); refine ⟨⟨m + 1, by omega, by omega, by first | go_num | rfl | simp, H1⟩, ?_⟩; rfl)
          case measure => simp [intOf]; omega
    · repeat ((fail_if_success (with_reducible (first | show Code.wp _ (Code.seq (Code.region 18 _ _) _) _ _ _ | show Code.wp _ (Code.seq (Code.seq (Code.region 18 _ _) _) _) _ _ _))); go_step)
      exact shC (HT.out.ext H1) (HX.out.seq H1)
end Go.Proofs.YtgbokmphbimihaaDoor
