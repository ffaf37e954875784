/- SplitShapes: its last line. No statement of the seat is proved here. -/
import Derived.Test.YtgbokmphbimihaaDoorShapes1
namespace Go.Proofs.YtgbokmphbimihaaDoor
set_option linter.unusedSimpArgs false
set_option linter.unusedVariables false
open Go.RowKit

abbrev dcK (k : Int) (ms : List Mb) (cs : List Ct) : Dc := ⟨k, 0, zT, zT, [], [], ms, cs⟩
theorem dcK_rc {w : World} {S : Nat → Prop} {k : Int} {ms : List Mb} {cs : List Ct} {A B : Option Addr} {c d : Nat} (hk : inI k) (h1 : RC w S (.l 42 1 (ms.map Mb.d)) [.slice A ms.length c]) (h2 : RC w S (.l 40 6 (cs.map Ct.d)) [.slice B cs.length d]) :
    RC w S (dcK k ms cs).d [.int .i64 k, .int .i64 0, .int .i64 0, .int .i64 0, .int .i64 0, .slice none 0 0, .slice none 0 0, .int .i64 0, .int .i64 0, .int .i64 0, .slice none 0 0, .slice none 0 0, .slice none 0 0, .slice none 0 0, .slice A ms.length c, .slice B cs.length d] :=
  RC.dc.2 ⟨none, 0, none, 0, none, 0, none, 0, none, 0, none, 0, A, c, B, d, rfl, hk, inIz, tN_rc inIz inIz inIz, tN_rc inIz inIz inIz, RC.nil, RC.nil, h1, h2⟩
theorem cts0 : CtsOK [] := fun c h => by cases h
theorem cts1 : CtsOK [⟨0, .mk 11 0 0 [] []⟩] := by
  intro c hc
  simp only [List.mem_cons, List.not_mem_nil, or_false] at hc
  subst hc
  simp [sizeT, sizesT]
set_option maxRecDepth 100000 in
set_option maxHeartbeats 8000000 in
theorem shD {w W : World} {x0 x1 x2 x3 x4 x5 x6 x7 x8 x9 x10 x11 x12 x13 x14 x15 x16 x17 x18 x19 x20 x21 x22 x23 x24 x25 x26 x27 x28 x29 x30 x31 x32 x33 x34 x35 x36 x37 x38 x39 x40 x41 x42 x43 x44 x45 x46 x47 x48 x49 x50 x51 x52 x53 x54 x55 x56 x57 x58 x59 x60 x61 x62 x63 x64 x65 x66 x67 x68 x69 x70 x71 x72 x73 x74 x75 x76 x77 x78 x79 x80 x81 x82 x83 x84 x85 x86 x87 x88 x89 x90 x91 x92 x93 x94 x95 x96 x97 x98 x99 x100 x101 x102 x103 x104 x105 x106 x107 x108 x109 x110 x111 x112 x113 x114 x115 x116 x117 x118 x119 x120 x121 x122 x123 x124 x125 x126 x127 x128 x129 x130 x131 x132 x133 x134 x135 x136 x137 x138 x139 x140 x141 x142 x143 x144 x145 x146 x147 x148 x149 x150 x151 x152 x153 x154 x155 x156 x157 x158 x159 x160 x161 x162 x163 x164 x165 x166 x167 x168 x169 x170 x171 x172 x173 x174 x175 x176 x177 x178 x179 x180 x181 x182 x183 x184 x185 x186 x187 x188 x189 x190 x191 x192 x193 x194 x195 x196 x197 : Value} (hT : Tab W) (hx : Ext no w W) :
    (fromF 26 (Tryd.f3.body.getD .skip)).wp Tryd.prog (bodyPost Tryd.prog Tryd.f3 (PV w (.bool true))) { tmps := #[x0, x1, x2, x3, x4, x5, x6, x7, x8, x9, x10, x11, x12, x13, x14, x15, x16, x17, x18, x19, x20, x21, x22, x23, x24, x25, x26, x27, x28, x29, x30, x31, x32, x33, x34, x35, x36, x37, x38, x39, x40, x41, x42, x43, x44, x45, x46, x47, x48, x49, x50, x51, x52, x53, x54, x55, x56, x57, x58, x59, x60, x61, x62, x63, x64, x65, x66, x67, x68, x69, x70, x71, x72, x73, x74, x75, x76, x77, x78, x79, x80, x81, x82, x83, x84, x85, x86, x87, x88, x89, x90, x91, x92, x93, x94, x95, x96, x97, x98, x99, x100, x101, x102, x103, x104, x105, x106, x107, x108, x109, x110, x111, x112, x113, x114, x115, x116, x117, x118, x119, x120, x121, x122, x123, x124, x125, x126, x127, x128, x129, x130, x131, x132, x133, x134, x135, x136, x137, x138, x139, x140, x141, x142, x143, x144, x145, x146, x147, x148, x149, x150, x151, x152, x153, x154, x155, x156, x157, x158, x159, x160, x161, x162, x163, x164, x165, x166, x167, x168, x169, x170, x171, x172, x173, x174, x175, x176, x177, x178, x179, x180, x181, x182, x183, x184, x185, x186, x187, x188, x189, x190, x191, x192, x193, x194, x195, x196, x197], defers := [] } W := by
  have HT := Lib.hid hT
  have HX := Lib.hid hx
  clear hT hx
  have H := Hp.start no W
  conv => arg 2; whnf
  go_wp2_with fail
  refine (rules12_calls (d := dcK 0 [] []) HT.out (dcK_rc (S := anyW) inIz RC.nil RC.nil) cts0).mono ?_
  rintro e w_ ⟨rfl, hx⟩
  replace H := H.call hx
  clear hx
  have hr_ := H.rules; simp only [Rules, and_true] at hr_; have hd_ := H.dif; simp only [Dif, Neq, and_true] at hd_; obtain ⟨ho_, hz_⟩ := H.old0
  go_wp2_with fail
  (try clear hr_ hd_ ho_ hz_)
  refine (self12_calls).mono ?_
  rintro e w_ ⟨rfl, hx⟩
  replace H := H.call hx
  clear hx
  have hr_ := H.rules; simp only [Rules, and_true] at hr_; have hd_ := H.dif; simp only [Dif, Neq, and_true] at hd_; obtain ⟨ho_, hz_⟩ := H.old0
  go_wp2_with fail
  (try clear hr_ hd_ ho_ hz_)
  refine callsH (by (repeat (first | with_reducible exact H | with_reducible exact H0_ | with_reducible apply Hp.alloc | with_reducible apply Hp.allocMap | with_reducible apply Hp.drew | with_reducible apply Hp.drewN | with_reducible apply Hp.set)); (try any_goals (repeat (first | with_reducible exact Upd.head | with_reducible apply Upd.tail)))) ?_
  clear H; intro w3 H; (try simp only [size_drew_, size_drewN_, World.size_alloc, World.size_setCell, List.set_cons_zero, List.set_cons_succ] at H)
  have hb := H.blk (t := 40) (by (repeat (first | with_reducible exact Pick.head | with_reducible apply Pick.tail)))
  have hcall := rules12_calls (d := dcK 3 [] [⟨0, .mk 11 0 0 [] []⟩]) (HT.out.ext H.ext) (dcK_rc (S := anyW) (by unfold inI; omega) RC.nil (RC.blkRow (cs := [.int .i64 0, .int .i64 11, .int .i64 0, .int .i64 0, .slice none 0 0, .slice none 0 0]) hb trivial (RCs.single (RC.ct.2 ⟨none, 0, none, 0, rfl, inIz, tN_rc (by unfold inI; omega) inIz inIz⟩)) (by simp [Ct.size_d]) rfl (by unfold M; simp))) cts1
  refine (hcall).mono ?_
  rintro e w_ ⟨rfl, hx⟩
  replace H := H.call hx
  clear hx
  clear hcall hb
  have hr_ := H.rules; simp only [Rules, and_true] at hr_; have hd_ := H.dif; simp only [Dif, Neq, and_true] at hd_; obtain ⟨ho_, hz_⟩ := H.old0
  go_wp2_with fail
  (try clear hr_ hd_ ho_ hz_)
  refine callsH (by (repeat (first | with_reducible exact H | with_reducible exact H0_ | with_reducible apply Hp.alloc | with_reducible apply Hp.allocMap | with_reducible apply Hp.drew | with_reducible apply Hp.drewN | with_reducible apply Hp.set)); (try any_goals (repeat (first | with_reducible exact Upd.head | with_reducible apply Upd.tail)))) ?_
  clear H; intro w4 H; (try simp only [size_drew_, size_drewN_, World.size_alloc, World.size_setCell, List.set_cons_zero, List.set_cons_succ] at H)
  have hb := H.blk (t := 42) (by (repeat (first | with_reducible exact Pick.head | with_reducible apply Pick.tail)))
  have hcall := rules12_calls (d := dcK 3 [⟨[]⟩] []) (HT.out.ext H.ext) (dcK_rc (S := anyW) (by unfold inI; omega) (RC.blkRow (cs := [.slice none 0 0]) hb trivial (RCs.single (RC.mb.2 ⟨none, 0, rfl, RC.nil⟩)) (by simp [Mb.size_d]) rfl (by unfold M; simp)) RC.nil) cts0
  refine (hcall).mono ?_
  rintro e w_ ⟨rfl, hx⟩
  replace H := H.call hx
  clear hx
  clear hcall hb
  have hr_ := H.rules; simp only [Rules, and_true] at hr_; have hd_ := H.dif; simp only [Dif, Neq, and_true] at hd_; obtain ⟨ho_, hz_⟩ := H.old0
  go_wp2_with fail
  (try clear hr_ hd_ ho_ hz_)
  refine (awake12_calls (HT.out.ext H.ext)).mono ?_
  rintro e w_ ⟨rfl, hx⟩
  replace H := H.call hx
  clear hx
  go_wp2_with fail
  go_ret
  exact ⟨rfl, HX.out.seq H.ext⟩
end Go.Proofs.YtgbokmphbimihaaDoor
