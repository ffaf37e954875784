/- SourceCases: the loops over numbers and over kinds of terms. No statement of the seat is proved here. -/
import Derived.Test.YteelplgdojjakaaDoorCases6
namespace Go.Proofs.YteelplgdojjakaaDoor
set_option linter.unusedSimpArgs false
set_option linter.unusedVariables false
open Go.RowKit

abbrev numsC : List Value := [.int .i64 (-9223372036854775808), .int .i64 (-1), .int .i64 0, .int .i64 1, .int .i64 2, .int .i64 1048576, .int .i64 9223372036854775807]
theorem numsAt {i : Nat} (h : i < 7) : ∃ a : Int, numsC[i]? = some (.int .i64 a) := by
  obtain rfl | rfl | rfl | rfl | rfl | rfl | rfl : i = 0 ∨ i = 1 ∨ i = 2 ∨ i = 3 ∨ i = 4 ∨ i = 5 ∨ i = 6 := by omega
  all_goals exact ⟨_, rfl⟩
theorem lamRc {w : World} {g : Nat} {a b : Int} (h : Blk w g 30 #[.int .i64 1, .int .i64 a, .int .i64 0, .slice none 0 0, .slice none 0 0, .int .i64 1, .int .i64 b, .int .i64 0, .slice none 0 0, .slice none 0 0]) (ia : inI a) (ib : inI b) :
    RC w (fun _ => True) (Tm.mk 5 0 0 [] [.mk 1 a 0 [] [], .mk 1 b 0 [] []]).d [.int .i64 5, .int .i64 0, .int .i64 0, .slice none 0 0, .slice (some ⟨g, 0, none⟩) 2 2] :=
  RC.tm.2 ⟨none, 0, some ⟨g, 0, none⟩, 2, rfl, by show inI 5; unfold inI; omega, inI0, inI0, RC.nil,
    rowOf (cs := [.int .i64 1, .int .i64 a, .int .i64 0, .slice none 0 0, .slice none 0 0, .int .i64 1, .int .i64 b, .int .i64 0, .slice none 0 0, .slice none 0 0]) h trivial (RCs.two (c1 := [.int .i64 1, .int .i64 a, .int .i64 0, .slice none 0 0, .slice none 0 0]) (tmN_rc ⟨by unfold inI; omega, ia, inI0⟩) (tmN_rc ⟨by unfold inI; omega, ib, inI0⟩)) (by simp [Tm.size_d]) rfl (by show 2 ≤ 1000; omega)⟩
theorem sortRc {w : World} {g1 g2 : Nat} {a : Int} (h1 : Blk w g1 68 #[.int .i64 a, .int .i64 0]) (h2 : Blk w g2 38 #[.slice (some ⟨g1, 0, none⟩) 1 1]) (ia : inI a) :
    RC w (fun _ => True) (Tm.mk 2 0 0 [[(a, 0)]] []).d [.int .i64 2, .int .i64 0, .int .i64 0, .slice (some ⟨g2, 0, none⟩) 1 1, .slice none 0 0] := by
  have k1 : RC w (fun _ => True) (.l 68 2 ([(a, (0 : Int))].map ptD)) [.slice (some ⟨g1, 0, none⟩) 1 1] := rowOf (cs := [.int .i64 a, .int .i64 0]) h1 trivial (RCs.single (RC.pt.2 ⟨rfl, ia, inI0⟩)) (by simp [ptD_size]) rfl (by simp)
  have k2 : RC w (fun _ => True) (.l 38 1 ([([(a, (0 : Int))] : Lv)].map lvD)) [.slice (some ⟨g2, 0, none⟩) 1 1] := rowOf (cs := [.slice (some ⟨g1, 0, none⟩) 1 1]) h2 trivial (RCs.single (RC.lv.2 ⟨some ⟨g1, 0, none⟩, 1, rfl, k1⟩)) (by simp [lvD_size]) rfl (by simp)
  exact RC.tm.2 ⟨some ⟨g2, 0, none⟩, 1, none, 0, rfl, by show inI 2; unfold inI; omega, inI0, inI0, k2, RC.nil⟩

set_option maxRecDepth 100000 in
set_option maxHeartbeats 8000000 in
theorem scC {w W : World} {S : Nat → Prop} {ds : List Dc} {A : Option Addr} {c : Nat} {x0 x1 x3 x4 x5 x6 x7 x8 x9 x10 x11 x12 x13 x14 x15 x16 x17 x18 x19 x20 x21 x22 x23 x24 x25 x26 x27 x28 x29 x30 x31 x32 x33 x34 x35 x36 x37 x38 x39 x40 x41 x42 x43 x44 x45 x46 x47 x48 x49 x50 x51 x52 x53 x54 x55 x56 x57 x58 x59 x60 x61 x62 x63 x64 x65 x66 x67 x68 x69 x70 x71 x72 x73 x74 x75 x76 x77 x78 x79 x80 x81 x82 x83 x84 x85 x86 x87 x88 x89 x90 x91 x92 x93 x94 x95 x96 x97 x98 x99 x100 x101 x102 x103 x104 x105 x106 x107 x108 x109 x110 x111 x112 x113 x114 x115 x116 x117 x118 x119 x120 x121 x122 x123 x124 x125 x126 x127 x128 x129 x130 x131 x132 x133 x134 x135 x136 x137 x138 x139 x140 x141 x142 x143 x144 x145 x146 x147 x148 x149 x150 x151 x152 x153 x154 x155 x156 x157 x158 x159 x160 x161 x162 x163 x164 x165 x166 x167 x168 x169 x170 x171 x172 x173 x174 x175 x176 x177 x178 x179 x180 x181 x182 x183 x184 x185 x186 x187 x188 x189 x190 x191 x192 x193 x194 x195 x196 x197 x198 x199 x200 x201 x202 x203 x204 x205 x206 x207 x208 x209 x210 x211 x212 x213 x214 x215 x216 x217 x218 x219 x220 x221 x222 x223 x224 x225 x226 x227 x228 x229 x230 x231 x232 x233 x234 x235 x236 x237 x238 x239 x240 x241 x242 x243 x244 x245 x246 x247 x248 x249 x250 x251 x252 x253 x254 x255 x256 x257 x258 x259 x260 x261 x262 x263 x264 x265 x266 x267 x268 x269 x270 x271 x272 x273 x274 x275 x276 x277 x278 x279 x280 x281 x282 x283 x284 x285 x286 x287 x288 x289 x290 x291 x292 x293 x294 x295 x296 x297 x298 x299 : Value} (hT : Tab W) (h : RC W S (.l 42 16 (ds.map Dc.d)) [.slice A ds.length c]) (hx : Ext no w W) :
    (fromC 15 (Tryd.f6.body.getD .skip)).wp Tryd.prog (bodyPost Tryd.prog Tryd.f6 (PV w (.bool true))) { tmps := #[x0, x1, .slice A ds.length c, x3, x4, x5, x6, x7, x8, x9, x10, x11, x12, x13, x14, x15, x16, x17, x18, x19, x20, x21, x22, x23, x24, x25, x26, x27, x28, x29, x30, x31, x32, x33, x34, x35, x36, x37, x38, x39, x40, x41, x42, x43, x44, x45, x46, x47, x48, x49, x50, x51, x52, x53, x54, x55, x56, x57, x58, x59, x60, x61, x62, x63, x64, x65, x66, x67, x68, x69, x70, x71, x72, x73, x74, x75, x76, x77, x78, x79, x80, x81, x82, x83, x84, x85, x86, x87, x88, x89, x90, x91, x92, x93, x94, x95, x96, x97, x98, x99, x100, x101, x102, x103, x104, x105, x106, x107, x108, x109, x110, x111, x112, x113, x114, x115, x116, x117, x118, x119, x120, x121, x122, x123, x124, x125, x126, x127, x128, x129, x130, x131, x132, x133, x134, x135, x136, x137, x138, x139, x140, x141, x142, x143, x144, x145, x146, x147, x148, x149, x150, x151, x152, x153, x154, x155, x156, x157, x158, x159, x160, x161, x162, x163, x164, x165, x166, x167, x168, x169, x170, x171, x172, x173, x174, x175, x176, x177, x178, x179, x180, x181, x182, x183, x184, x185, x186, x187, x188, x189, x190, x191, x192, x193, x194, x195, x196, x197, x198, x199, x200, x201, x202, x203, x204, x205, x206, x207, x208, x209, x210, x211, x212, x213, x214, x215, x216, x217, x218, x219, x220, x221, x222, x223, x224, x225, x226, x227, x228, x229, x230, x231, x232, x233, x234, x235, x236, x237, x238, x239, x240, x241, x242, x243, x244, x245, x246, x247, x248, x249, x250, x251, x252, x253, x254, x255, x256, x257, x258, x259, x260, x261, x262, x263, x264, x265, x266, x267, x268, x269, x270, x271, x272, x273, x274, x275, x276, x277, x278, x279, x280, x281, x282, x283, x284, x285, x286, x287, x288, x289, x290, x291, x292, x293, x294, x295, x296, x297, x298, x299], defers := [] } W := by
  have HT := Lib.hid hT
  have HH := Lib.hid h
  have HX := Lib.hid hx
  clear hT h hx
  conv => arg 2; whnf
  have H := Hp.start no W
  have hr_ := H.rules; simp only [Rules, and_true] at hr_; have hd_ := H.dif; simp only [Dif, Neq, and_true] at hd_; obtain ⟨ho_, hz_⟩ := H.old0
  go_wp2_with fail
  (try clear hr_ hd_ ho_ hz_)
  refine codeH (by (repeat (first | with_reducible exact H | with_reducible exact H0_ | with_reducible apply Hp.alloc | with_reducible apply Hp.allocMap | with_reducible apply Hp.drew | with_reducible apply Hp.drewN | with_reducible apply Hp.set)); (try any_goals (repeat (first | with_reducible exact Upd.head | with_reducible apply Upd.tail)))) ?_
  clear H; intro w8 H; (try simp only [size_drew_, size_drewN_, World.size_alloc, World.size_setCell, List.set_cons_zero, List.set_cons_succ] at H)
  generalize W.heap.size = gn at H ⊢
  go_loopw [8] (fun i wr => ∃ j : Nat, j ≤ 7 ∧ i = .int .i64 j ∧ Hp no W wr [.box gn 3 numsC]) (fun i _ => 7 - (intOf i).toNat)
  case atStart => exact ⟨0, Nat.zero_le _, rfl, (H.arr (by (repeat (first | with_reducible exact Arr.nil | refine Arr.cons (by (repeat (first | with_reducible exact Pick.head | with_reducible apply Pick.tail))) ?_)) <;> exact Arr.of_subl (by (repeat (first | with_reducible exact Subl.refl _ | with_reducible apply Subl.drop)))))⟩
  case round =>
    clear H
    obtain ⟨j, hj, rfl, H⟩ := hrel
    by_cases hlt : j < 7
    · have hlt2 : (j : Int) < 7 := by omega
      go_wp2_with fail
      have H_ := H
      clear H
      have HX1 := Lib.hid H_
      clear H_
      go_loopw [9] (fun i wr => ∃ k : Nat, k ≤ 7 ∧ i = .int .i64 k ∧ Hp no W wr [.box gn 3 numsC]) (fun i _ => 7 - (intOf i).toNat)
      case atStart => exact ⟨0, Nat.zero_le _, rfl, HX1.out⟩
      case round =>
        obtain ⟨k, hk, rfl, H⟩ := hrel
        by_cases hlk : k < 7
        · have hr_ := H.rules; simp only [Rules, and_true] at hr_; have hd_ := H.dif; simp only [Dif, Neq, and_true] at hd_; obtain ⟨ho_, hz_⟩ := H.old0
          go_wp2_with fail
          (try clear hr_ hd_ ho_ hz_)
          refine (v11_calls).mono ?_
          rintro e w_ ⟨rfl, hx⟩
          replace H := H.call hx
          clear hx
          have hr_ := H.rules; simp only [Rules, and_true] at hr_; have hd_ := H.dif; simp only [Dif, Neq, and_true] at hd_; obtain ⟨ho_, hz_⟩ := H.old0
          go_wp2_with fail
          (try clear hr_ hd_ ho_ hz_)
          refine (v11_calls).mono ?_
          rintro e w_ ⟨rfl, hx⟩
          replace H := H.call hx
          clear hx
          dsimp only
          have hr_ := H.rules; simp only [Rules, and_true] at hr_; have hd_ := H.dif; simp only [Dif, Neq, and_true] at hd_; obtain ⟨ho_, hz_⟩ := H.old0
          repeat ((fail_if_success (with_reducible (show Code.wp _ (Code.region 24 _ _) _ _ _))); (first | ((with_reducible refine atStore (t := 30) ?_); go_must (refine wpList_storeH (t := 30) rfl rfl (by go_simp <;> first | rfl | exact ⟨rfl, rfl⟩) (by go_simp <;> first | rfl | exact ⟨rfl, rfl⟩) (by exact Hp.norm (by (repeat (first | with_reducible exact H | with_reducible exact H0_ | with_reducible apply Hp.alloc | with_reducible apply Hp.allocMap | with_reducible apply Hp.drew | with_reducible apply Hp.drewN | with_reducible apply Hp.set)); (try any_goals (repeat (first | with_reducible exact Upd.head | with_reducible apply Upd.tail)))) (by ((try simp only [size_drew_, size_drewN_, World.size_alloc, World.size_setCell, List.set_cons_zero, List.set_cons_succ, List.nil_append, List.cons_append]) <;> rfl))) (by (repeat (first | with_reducible exact Upd.head | with_reducible apply Upd.tail))) (by exact aggTerm) (by rfl) (by simp [Value.oneCell']) ?_; clear H; intro w3 H; (try simp only [size_drew_, size_drewN_, World.size_alloc, World.size_setCell, List.set_cons_zero, List.set_cons_succ] at H); (try clear hr_ hd_ ho_ hz_); have hr_ := H.rules; simp only [Rules, and_true] at hr_; have hd_ := H.dif; simp only [Dif, Neq, and_true] at hd_; obtain ⟨ho_, hz_⟩ := H.old0)) | go_step))
          (try clear hr_ hd_ ho_ hz_)
          refine regionH (by (repeat (first | with_reducible exact H | with_reducible exact H0_ | with_reducible apply Hp.alloc | with_reducible apply Hp.allocMap | with_reducible apply Hp.drew | with_reducible apply Hp.drewN | with_reducible apply Hp.set)); (try any_goals (repeat (first | with_reducible exact Upd.head | with_reducible apply Upd.tail)))) ?_
          clear H; intro w9 H; (try simp only [size_drew_, size_drewN_, World.size_alloc, World.size_setCell, List.set_cons_zero, List.set_cons_succ] at H)
          have ij : inI (j : Int) := by unfold inI; omega
          have ik : inI (k : Int) := by unfold inI; omega
          have kt := lamRc (H.blk (cs := [.int .i64 1, .int .i64 (j : Int), .int .i64 0, .slice none 0 0, .slice none 0 0, .int .i64 1, .int .i64 (k : Int), .int .i64 0, .slice none 0 0, .slice none 0 0]) (by (repeat (first | with_reducible exact Pick.head | with_reducible apply Pick.tail)))) ij ik
          have b3 := H.blk (t := 38) (by (repeat (first | with_reducible exact Pick.head | with_reducible apply Pick.tail)))
          have ks := sortRc (H.blk (t := 68) (cs := [.int .i64 (j : Int), .int .i64 0]) (by (repeat (first | with_reducible exact Pick.head | with_reducible apply Pick.tail)))) b3 ij
          have b4 := H.blk (g := gn) (cs := numsC) (by (repeat (first | with_reducible exact Pick.head | with_reducible apply Pick.tail)))
          have b1 := H.blk (t := 30) (cs := [.int .i64 5, .int .i64 0, .int .i64 0, .slice none 0 0, .slice (some ⟨_, 0, none⟩) 2 2]) (by (repeat (first | with_reducible exact Pick.head | with_reducible apply Pick.tail)))
          have b2 := H.blk (t := 30) (cs := [.int .i64 2, .int .i64 0, .int .i64 0, .slice (some ⟨_, 0, none⟩) 1 1, .slice none 0 0]) (by (repeat (first | with_reducible exact Pick.head | with_reducible apply Pick.tail)))
          obtain ⟨a_, ha⟩ := numsAt hlt
          obtain ⟨b_, hb⟩ := numsAt hlk
          refine cases24 (ds := ds) (t := Tm.mk 5 0 0 [] [.mk 1 j 0 [] [], .mk 1 k 0 [] []]) (u := Tm.mk 2 0 0 [[((j : Int), 0)]] []) (gn := gn) (i := j) (k := k) (a := a_) (b := b_) (HT.out.ext H.ext) (HH.out.ext0 H.ext) kt ks b1 b2 hlt hlk b4.lt (b4.at j ha) (b4.at k hb) ?_
          intro z105 z106 z107 z108 z109 z110 z111 z112 z113 z114 z115 z116 z117 z118 z119 z120 z121 z122 z123 z124 z125 z126 z127 z128 z129 z130 z131 z132 z133 z134 z135 z136 z137 z138 z139 z140 z141 z142 z143 z144 z145 z146 z147 z148 z149 w10 hx10
          have H10 := H.call hx10
          clear H hx10 kt ks b1 b2 b3 b4 ha hb
          go_wp2_with fail
          go_roundw
          case rel => first | exact ⟨k + 1, by omega, by first | go_num | rfl | simp, (H10.arr (by (repeat (first | with_reducible exact Arr.nil | refine Arr.cons (by (repeat (first | with_reducible exact Pick.head | with_reducible apply Pick.tail))) ?_)) <;> exact Arr.of_subl (by (repeat (first | with_reducible exact Subl.refl _ | with_reducible apply Subl.drop)))))⟩ | ((repeat apply Exists.intro); refine ⟨⟨k + 1, by omega, by first | go_num | rfl | simp, (H10.arr (by (repeat (first | with_reducible exact Arr.nil | refine Arr.cons (by (repeat (first | with_reducible exact Pick.head | with_reducible apply Pick.tail))) ?_)) <;> exact Arr.of_subl (by (repeat (first | with_reducible exact Subl.refl _ | with_reducible apply Subl.drop)))))⟩, ?_⟩; rfl)
          case measure => simp [intOf]; omega
        · go_wp2_with fail
          go_roundw
          case rel => first | exact ⟨j + 1, by omega, by first | go_num | rfl | simp, H⟩ | ((repeat apply Exists.intro); refine ⟨⟨j + 1, by omega, by first | go_num | rfl | simp, H⟩, ?_⟩; rfl)
          case measure => simp [intOf]; omega
    · repeat ((fail_if_success (with_reducible (first | show Code.wp _ (Code.seq (Code.region 26 _ _) _) _ _ _ | show Code.wp _ (Code.seq (Code.seq (Code.region 26 _ _) _) _) _ _ _))); go_step)
      exact scD (HT.out.ext H.ext) (HH.out.ext0 H.ext) (HX.out.seq H.ext)
end Go.Proofs.YteelplgdojjakaaDoor
/- SourceCases: the loops over kinds of terms. No statement of the seat is proved here. -/
namespace Go.Proofs.YteelplgdojjakaaDoor
set_option linter.unusedSimpArgs false
set_option linter.unusedVariables false
open Go.RowKit

set_option maxRecDepth 100000 in
set_option maxHeartbeats 8000000 in
theorem scB {w W : World} {S : Nat → Prop} {ds : List Dc} {A : Option Addr} {c : Nat} {x0 x1 x3 x4 x5 x6 x7 x8 x9 x10 x11 x12 x13 x14 x15 x16 x17 x18 x19 x20 x21 x22 x23 x24 x25 x26 x27 x28 x29 x30 x31 x32 x33 x34 x35 x36 x37 x38 x39 x40 x41 x42 x43 x44 x45 x46 x47 x48 x49 x50 x51 x52 x53 x54 x55 x56 x57 x58 x59 x60 x61 x62 x63 x64 x65 x66 x67 x68 x69 x70 x71 x72 x73 x74 x75 x76 x77 x78 x79 x80 x81 x82 x83 x84 x85 x86 x87 x88 x89 x90 x91 x92 x93 x94 x95 x96 x97 x98 x99 x100 x101 x102 x103 x104 x105 x106 x107 x108 x109 x110 x111 x112 x113 x114 x115 x116 x117 x118 x119 x120 x121 x122 x123 x124 x125 x126 x127 x128 x129 x130 x131 x132 x133 x134 x135 x136 x137 x138 x139 x140 x141 x142 x143 x144 x145 x146 x147 x148 x149 x150 x151 x152 x153 x154 x155 x156 x157 x158 x159 x160 x161 x162 x163 x164 x165 x166 x167 x168 x169 x170 x171 x172 x173 x174 x175 x176 x177 x178 x179 x180 x181 x182 x183 x184 x185 x186 x187 x188 x189 x190 x191 x192 x193 x194 x195 x196 x197 x198 x199 x200 x201 x202 x203 x204 x205 x206 x207 x208 x209 x210 x211 x212 x213 x214 x215 x216 x217 x218 x219 x220 x221 x222 x223 x224 x225 x226 x227 x228 x229 x230 x231 x232 x233 x234 x235 x236 x237 x238 x239 x240 x241 x242 x243 x244 x245 x246 x247 x248 x249 x250 x251 x252 x253 x254 x255 x256 x257 x258 x259 x260 x261 x262 x263 x264 x265 x266 x267 x268 x269 x270 x271 x272 x273 x274 x275 x276 x277 x278 x279 x280 x281 x282 x283 x284 x285 x286 x287 x288 x289 x290 x291 x292 x293 x294 x295 x296 x297 x298 x299 : Value} (hT : Tab W) (h : RC W S (.l 42 16 (ds.map Dc.d)) [.slice A ds.length c]) (hx : Ext no w W) :
    (fromC 5 (Tryd.f6.body.getD .skip)).wp Tryd.prog (bodyPost Tryd.prog Tryd.f6 (PV w (.bool true))) { tmps := #[x0, x1, .slice A ds.length c, x3, x4, x5, x6, x7, x8, x9, x10, x11, x12, x13, x14, x15, x16, x17, x18, x19, x20, x21, x22, x23, x24, x25, x26, x27, x28, x29, x30, x31, x32, x33, x34, x35, x36, x37, x38, x39, x40, x41, x42, x43, x44, x45, x46, x47, x48, x49, x50, x51, x52, x53, x54, x55, x56, x57, x58, x59, x60, x61, x62, x63, x64, x65, x66, x67, x68, x69, x70, x71, x72, x73, x74, x75, x76, x77, x78, x79, x80, x81, x82, x83, x84, x85, x86, x87, x88, x89, x90, x91, x92, x93, x94, x95, x96, x97, x98, x99, x100, x101, x102, x103, x104, x105, x106, x107, x108, x109, x110, x111, x112, x113, x114, x115, x116, x117, x118, x119, x120, x121, x122, x123, x124, x125, x126, x127, x128, x129, x130, x131, x132, x133, x134, x135, x136, x137, x138, x139, x140, x141, x142, x143, x144, x145, x146, x147, x148, x149, x150, x151, x152, x153, x154, x155, x156, x157, x158, x159, x160, x161, x162, x163, x164, x165, x166, x167, x168, x169, x170, x171, x172, x173, x174, x175, x176, x177, x178, x179, x180, x181, x182, x183, x184, x185, x186, x187, x188, x189, x190, x191, x192, x193, x194, x195, x196, x197, x198, x199, x200, x201, x202, x203, x204, x205, x206, x207, x208, x209, x210, x211, x212, x213, x214, x215, x216, x217, x218, x219, x220, x221, x222, x223, x224, x225, x226, x227, x228, x229, x230, x231, x232, x233, x234, x235, x236, x237, x238, x239, x240, x241, x242, x243, x244, x245, x246, x247, x248, x249, x250, x251, x252, x253, x254, x255, x256, x257, x258, x259, x260, x261, x262, x263, x264, x265, x266, x267, x268, x269, x270, x271, x272, x273, x274, x275, x276, x277, x278, x279, x280, x281, x282, x283, x284, x285, x286, x287, x288, x289, x290, x291, x292, x293, x294, x295, x296, x297, x298, x299], defers := [] } W := by
  have HT := Lib.hid hT
  have HH := Lib.hid h
  have HX := Lib.hid hx
  clear hT h hx
  conv => arg 2; whnf
  go_wp2_with fail
  go_loopw [3] (fun i wr => ∃ k : Int, -1 ≤ k ∧ k ≤ 26 ∧ i = .int .i64 k ∧ Hp no W wr []) (fun i _ => (26 - intOf i).toNat)
  case atStart => exact ⟨-1, by omega, by omega, rfl, Hp.start no W⟩
  case round =>
    obtain ⟨k, hk0, hk, rfl, H⟩ := hrel
    by_cases hlk : k < 26
    · go_wp2_with fail
      have HX1 := Lib.hid H
      clear H
      go_loopw [4] (fun i wr => ∃ n : Nat, n ≤ 216 ∧ i = .int .i64 n ∧ Hp no W wr []) (fun i _ => 216 - (intOf i).toNat)
      case atStart => exact ⟨0, Nat.zero_le _, rfl, HX1.out⟩
      case round =>
        obtain ⟨n, hn, rfl, H⟩ := hrel
        by_cases hln : n < 216
        · have hr_ := H.rules; simp only [Rules, and_true] at hr_; have hd_ := H.dif; simp only [Dif, Neq, and_true] at hd_; obtain ⟨ho_, hz_⟩ := H.old0
          go_wp2_with fail
          (try clear hr_ hd_ ho_ hz_)
          rw [show (n : Int) / 18 % 4 = ((n / 18 % 4 : Nat) : Int) by omega]
          have ik : inI k := by unfold inI; omega
          have in1 : inI ((n : Int) % 6) := by unfold inI; omega
          have in2 : inI ((n : Int) / 6 % 3) := by unfold inI; omega
          refine (term11_calls (n / 18 % 4) (by omega) ik in1 in2).mono ?_
          obtain ⟨T3, hT3⟩ : ∃ T : Tm, T = Tm.mk k ((n : Int) % 6) ((n : Int) / 6 % 3) (List.replicate (n / 18 % 4) []) [] := ⟨_, rfl⟩
          rw [← hT3]
          clear hT3 ik in1 in2
          rintro e w3 ⟨cs3, rfl, hk3, hx3⟩
          obtain ⟨A3, ca3, B3, cb3, rfl, -⟩ := RC.tm.1 hk3
          obtain ⟨K3, H2⟩ := H.resR hx3 hk3
          clear H hx3 hk3
          have H := H2
          clear H2
          dsimp only
          have hr_ := H.rules; simp only [Rules, and_true] at hr_; have hd_ := H.dif; simp only [Dif, Neq, and_true] at hd_; obtain ⟨ho_, hz_⟩ := H.old0
          repeat ((fail_if_success (with_reducible (show Code.wp _ (Code.region 13 _ _) _ _ _))); (first | ((with_reducible refine atStore (t := 30) ?_); go_must (refine wpList_storeH (t := 30) rfl rfl (by go_simp <;> first | rfl | exact ⟨rfl, rfl⟩) (by go_simp <;> first | rfl | exact ⟨rfl, rfl⟩) (by exact Hp.norm (by (repeat (first | with_reducible exact H | with_reducible exact H0_ | with_reducible apply Hp.alloc | with_reducible apply Hp.allocMap | with_reducible apply Hp.drew | with_reducible apply Hp.drewN | with_reducible apply Hp.set)); (try any_goals (repeat (first | with_reducible exact Upd.head | with_reducible apply Upd.tail)))) (by ((try simp only [size_drew_, size_drewN_, World.size_alloc, World.size_setCell, List.set_cons_zero, List.set_cons_succ, List.nil_append, List.cons_append]) <;> rfl))) (by (repeat (first | with_reducible exact Upd.head | with_reducible apply Upd.tail))) (by exact aggTerm) (by rfl) (by simp [Value.oneCell']) ?_; clear H; intro w5 H; (try simp only [size_drew_, size_drewN_, World.size_alloc, World.size_setCell, List.set_cons_zero, List.set_cons_succ] at H); (try clear hr_ hd_ ho_ hz_); have hr_ := H.rules; simp only [Rules, and_true] at hr_; have hd_ := H.dif; simp only [Dif, Neq, and_true] at hd_; obtain ⟨ho_, hz_⟩ := H.old0)) | go_step))
          (try clear hr_ hd_ ho_ hz_)
          refine regionH (by (repeat (first | with_reducible exact H | with_reducible exact H0_ | with_reducible apply Hp.alloc | with_reducible apply Hp.allocMap | with_reducible apply Hp.drew | with_reducible apply Hp.drewN | with_reducible apply Hp.set)); (try any_goals (repeat (first | with_reducible exact Upd.head | with_reducible apply Upd.tail)))) ?_
          clear H; intro w9 H; (try simp only [size_drew_, size_drewN_, World.size_alloc, World.size_setCell, List.set_cons_zero, List.set_cons_succ] at H)
          have hp := H.gh (p := fun w' => RC w' (fun k => W.heap.size ≤ k) T3.d [.int .i64 T3.k, .int .i64 T3.n, .int .i64 T3.a, .slice A3 T3.ls.length ca3, .slice B3 T3.ks.length cb3]) (by (repeat (first | with_reducible exact Pick.head | with_reducible apply Pick.tail)))
          have kr := rowOf (S := fun _ => True) (z := 5) (e := 30) (n := 2) (ds := [T3, T3].map Tm.d) (H.blk (cs := [.int .i64 T3.k, .int .i64 T3.n, .int .i64 T3.a, .slice A3 T3.ls.length ca3, .slice B3 T3.ks.length cb3, .int .i64 T3.k, .int .i64 T3.n, .int .i64 T3.a, .slice A3 T3.ls.length ca3, .slice B3 T3.ks.length cb3]) (by (repeat (first | with_reducible exact Pick.head | with_reducible apply Pick.tail)))) trivial (RCs.two (c1 := [.int .i64 T3.k, .int .i64 T3.n, .int .i64 T3.a, .slice A3 T3.ls.length ca3, .slice B3 T3.ks.length cb3]) (tru hp) (tru hp)) (by simp [Tm.size_d]) rfl (by simp)
          have ku : RC w9 (fun _ => True) (Tm.mk 4 0 0 [] [T3, T3]).d [.int .i64 4, .int .i64 0, .int .i64 0, .slice none 0 0, .slice (some _) 2 2] := RC.tm.2 ⟨none, 0, some _, 2, rfl, by show inI 4; unfold inI; omega, inI0, inI0, RC.nil, kr⟩
          have b1 := H.blk (t := 30) (cs := [.int .i64 T3.k, .int .i64 T3.n, .int .i64 T3.a, .slice A3 T3.ls.length ca3, .slice B3 T3.ks.length cb3]) (by (repeat (first | with_reducible exact Pick.head | with_reducible apply Pick.tail)))
          have b2 := H.blk (t := 30) (cs := [.int .i64 4, .int .i64 0, .int .i64 0, .slice none 0 0, .slice (some ⟨_, 0, none⟩) 2 2]) (by (repeat (first | with_reducible exact Pick.head | with_reducible apply Pick.tail)))
          refine cases13 (ds := ds) (t := T3) (u := Tm.mk 4 0 0 [] [T3, T3]) (n := n) (HT.out.ext H.ext) (HH.out.ext0 H.ext) hp ku b1 b2 ?_
          intro z56 z57 z58 z59 z60 z61 z62 z63 z64 z65 z66 z67 z68 z69 z70 z71 z72 z73 z74 z75 z76 z77 z78 w10 hx10
          have H10 := H.call hx10
          clear H hx10 hp kr ku b1 b2
          go_wp2_with fail
          go_roundw
          case rel => first | exact ⟨n + 1, by omega, by first | go_num | rfl | simp, (H10.arr (by (repeat (first | with_reducible exact Arr.nil | refine Arr.cons (by (repeat (first | with_reducible exact Pick.head | with_reducible apply Pick.tail))) ?_)) <;> exact Arr.of_subl (by (repeat (first | with_reducible exact Subl.refl _ | with_reducible apply Subl.drop)))))⟩ | ((repeat apply Exists.intro); refine ⟨⟨n + 1, by omega, by first | go_num | rfl | simp, (H10.arr (by (repeat (first | with_reducible exact Arr.nil | refine Arr.cons (by (repeat (first | with_reducible exact Pick.head | with_reducible apply Pick.tail))) ?_)) <;> exact Arr.of_subl (by (repeat (first | with_reducible exact Subl.refl _ | with_reducible apply Subl.drop)))))⟩, ?_⟩; rfl)
          case measure => simp [intOf]; omega
        · go_wp2_with fail
          go_roundw
          case rel => first | exact ⟨k + 1, by omega, by omega, by first | go_num | rfl | simp, H⟩ | ((repeat apply Exists.intro); refine ⟨⟨k + 1, by omega, by omega, by first | go_num | rfl | simp, H⟩, ?_⟩; rfl)
          case measure => simp [intOf]; omega
    · repeat ((fail_if_success (with_reducible (first | show Code.wp _ (Code.seq (Code.region 15 _ _) _) _ _ _ | show Code.wp _ (Code.seq (Code.seq (Code.region 15 _ _) _) _) _ _ _))); go_step)
      exact scC (HT.out.ext H.ext) (HH.out.ext0 H.ext) (HX.out.seq H.ext)
end Go.Proofs.YteelplgdojjakaaDoor
