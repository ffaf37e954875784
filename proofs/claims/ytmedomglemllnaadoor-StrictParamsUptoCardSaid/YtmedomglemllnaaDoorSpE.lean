/- StrictParams: the last declaration overwritten, and asked. No statement of the seat is proved here. -/
import Derived.Test.YtmedomglemllnaaDoorSpD
namespace Go.Proofs.YtmedomglemllnaaDoor
set_option linter.unusedSimpArgs false
set_option linter.unusedVariables false
open Go.RowKit

set_option maxRecDepth 100000 in
set_option maxHeartbeats 32000000 in
theorem spC2 {w W : World} {S1 : Nat → Prop} {ds : List Dc} {d e : Dc} {A0 : Option Addr} {c gA cA gd g18 : Nat} {Aty Kty Abody Kbody Aparams Asort Amembers Actors : Option Addr} {cty kty cbody kbody cparams csort cmembers cctors : Nat} {qAty qKty qAbody qKbody qAparams qAsort qAmembers qActors : Option Addr} {qcty qkty qcbody qkbody qcparams qcsort qcmembers qcctors : Nat} {a : Nat} {drop : Int} {is : Bool} {es c2 sp : List Value} {x1 x4 x6 x7 x8 x12 x13 x14 x15 x16 x17 x19 x20 x21 x22 x23 x24 x25 x26 x27 x28 x29 x30 x31 x32 x33 x34 x35 x36 x37 x38 x39 x40 x41 x42 x43 x44 x45 x46 x47 x48 x49 x50 x51 x52 x53 x54 x55 x56 x57 x58 x59 x60 x61 x62 x63 x64 x65 x66 x67 x68 x69 x70 x71 x72 x73 x74 x75 x76 x77 x78 x79 x80 x81 x82 x83 x84 x85 x86 x87 x88 x89 x90 x91 x92 x93 x94 x95 x96 x97 x98 x99 x100 x101 x102 x103 x104 x105 x106 x107 x108 x109 x110 x111 x112 x113 x114 x115 x116 x117 x118 x119 x120 x121 x122 x123 x124 x125 x126 x127 x128 x129 x130 x131 x132 x133 x134 x135 x136 x137 x138 x139 x140 x141 x142 x143 x144 x145 x146 x147 x148 x149 x150 x151 x152 x153 x154 x155 x156 x157 x158 x159 x160 x161 x162 x163 x164 x165 x166 x167 x168 x169 x170 x171 x172 x173 x174 x175 x176 x177 x178 x179 x180 x181 x182 x183 x184 x185 x186 x187 x188 x189 x190 x191 x192 x193 x194 x195 x196 x197 x198 x199 x200 x201 x202 x203 x204 x205 x206 x207 : Value}
    (hT : Tab w) (hx : Ext no w W) (hb : Blk W gA 37 (es ++ (c2 ++ sp)).toArray) (k2 : es.length = ds.length * 16) (k20 : c2.length = 16) (k3 : RCs W (fun k => k < w.heap.size) (ds.map Dc.d) es) (k5 : ds.length + 1 ≤ cA) (k6 : cA ≤ maxLen) (k7 : ds.length + 1 ≤ M)
    (hgA : w.heap.size ≤ gA) (hgA2 : gA < W.heap.size) (hgd : w.heap.size ≤ gd) (hne : gd ≠ gA) (hg18 : w.heap.size ≤ g18) (hn18 : g18 ≠ gA) (hleft : RC W (fun k => k ≠ gA) e.d [.int .i64 e.kind, .int .i64 e.levels, .int .i64 e.ty.k, .int .i64 e.ty.n, .int .i64 e.ty.a, .slice qAty e.ty.ls.length qcty, .slice qKty e.ty.ks.length qkty, .int .i64 e.body.k, .int .i64 e.body.n, .int .i64 e.body.a, .slice qAbody e.body.ls.length qcbody, .slice qKbody e.body.ks.length qkbody, .slice qAparams e.params.length qcparams, .slice qAsort e.sort.length qcsort, .slice qAmembers e.members.length qcmembers, .slice qActors e.ctors.length qcctors]) (hb18 : Blk W g18 37 [.int .i64 e.kind, .int .i64 e.levels, .int .i64 e.ty.k, .int .i64 e.ty.n, .int .i64 e.ty.a, .slice qAty e.ty.ls.length qcty, .slice qKty e.ty.ks.length qkty, .int .i64 e.body.k, .int .i64 e.body.n, .int .i64 e.body.a, .slice qAbody e.body.ls.length qcbody, .slice qKbody e.body.ks.length qkbody, .slice qAparams e.params.length qcparams, .slice qAsort e.sort.length qcsort, .slice qAmembers e.members.length qcmembers, .slice qActors e.ctors.length qcctors].toArray) (hd : RC w S1 d.d [.int .i64 d.kind, .int .i64 d.levels, .int .i64 d.ty.k, .int .i64 d.ty.n, .int .i64 d.ty.a, .slice Aty d.ty.ls.length cty, .slice Kty d.ty.ks.length kty, .int .i64 d.body.k, .int .i64 d.body.n, .int .i64 d.body.a, .slice Abody d.body.ls.length cbody, .slice Kbody d.body.ks.length kbody, .slice Aparams d.params.length cparams, .slice Asort d.sort.length csort, .slice Amembers d.members.length cmembers, .slice Actors d.ctors.length cctors]) (hbd : Blk W gd 37 [.int .i64 d.kind, .int .i64 d.levels, .int .i64 d.ty.k, .int .i64 d.ty.n, .int .i64 d.ty.a, .slice Aty d.ty.ls.length cty, .slice Kty d.ty.ks.length kty, .int .i64 d.body.k, .int .i64 d.body.n, .int .i64 d.body.a, .slice Abody d.body.ls.length cbody, .slice Kbody d.body.ks.length kbody, .slice Aparams d.params.length cparams, .slice Asort d.sort.length csort, .slice Amembers d.members.length cmembers, .slice Actors d.ctors.length cctors].toArray) (sm : ∀ x ∈ ds, SmDc x) (smd : SmDc d) (sme : SmDc e) (hi1 : inI drop) (hln : ds.length ≤ 1048576)
    (ha : a < d.params.length) (hp9 : d.params.length ≤ 4000000) (hcl : d.ctors.length ≤ 4000000) (his : is = parQ (ds ++ [d]) ds.length a) (hk : d.kind = 3) (hek : e.kind = 3) (hae : a < e.params.length) (hpe : parQ (ds ++ [e]) ds.length a = false) :
    (fromF 26 (Tryd.f4.body.getD .skip)).wp Tryd.prog (bodyPost Tryd.prog Tryd.f4 (PV w (.bool true))) { tmps := #[.slice A0 ds.length c, x1, .int .i64 (a : Int), .int .i64 drop, x4, .pointer (some ⟨gd, 0, none⟩), x6, x7, x8, .slice (some ⟨gA, 0, none⟩) (ds.length + 1) cA, .int .i64 (ds.length : Int), .bool is, x12, x13, x14, x15, x16, x17, .pointer (some ⟨g18, 0, none⟩), x19, x20, x21, x22, x23, x24, x25, x26, x27, x28, x29, x30, x31, x32, x33, x34, x35, x36, x37, x38, x39, x40, x41, x42, x43, x44, x45, x46, x47, x48, x49, x50, x51, x52, x53, x54, x55, x56, x57, x58, x59, x60, x61, x62, x63, x64, x65, x66, x67, x68, x69, x70, x71, x72, x73, x74, x75, x76, x77, x78, x79, x80, x81, x82, x83, x84, x85, x86, x87, x88, x89, x90, x91, x92, x93, x94, x95, x96, x97, x98, x99, x100, x101, x102, x103, x104, x105, x106, x107, x108, x109, x110, x111, x112, x113, x114, x115, x116, x117, x118, x119, x120, x121, x122, x123, x124, x125, x126, x127, x128, x129, x130, x131, x132, x133, x134, x135, x136, x137, x138, x139, x140, x141, x142, x143, x144, x145, x146, x147, x148, x149, x150, x151, x152, x153, x154, x155, x156, x157, x158, x159, x160, x161, x162, x163, x164, x165, x166, x167, x168, x169, x170, x171, x172, x173, x174, x175, x176, x177, x178, x179, x180, x181, x182, x183, x184, x185, x186, x187, x188, x189, x190, x191, x192, x193, x194, x195, x196, x197, x198, x199, x200, x201, x202, x203, x204, x205, x206, x207], defers := [] } W := by
  have HX := Lib.hid hx
  have HBA := Lib.hid hb
  have HBD := Lib.hid hbd
  have HHIS := Lib.hid his
  have u0 : W.cell? ⟨g18, 0, none⟩ = some (.int .i64 e.kind) := hb18.cells 0
  have u1 : W.cell? ⟨g18, 1, none⟩ = some (.int .i64 e.levels) := hb18.cells 1
  have u2 : W.cell? ⟨g18, 2, none⟩ = some (.int .i64 e.ty.k) := hb18.cells 2
  have u3 : W.cell? ⟨g18, 3, none⟩ = some (.int .i64 e.ty.n) := hb18.cells 3
  have u4 : W.cell? ⟨g18, 4, none⟩ = some (.int .i64 e.ty.a) := hb18.cells 4
  have u5 : W.cell? ⟨g18, 5, none⟩ = some (.slice qAty e.ty.ls.length qcty) := hb18.cells 5
  have u6 : W.cell? ⟨g18, 6, none⟩ = some (.slice qKty e.ty.ks.length qkty) := hb18.cells 6
  have u7 : W.cell? ⟨g18, 7, none⟩ = some (.int .i64 e.body.k) := hb18.cells 7
  have u8 : W.cell? ⟨g18, 8, none⟩ = some (.int .i64 e.body.n) := hb18.cells 8
  have u9 : W.cell? ⟨g18, 9, none⟩ = some (.int .i64 e.body.a) := hb18.cells 9
  have u10 : W.cell? ⟨g18, 10, none⟩ = some (.slice qAbody e.body.ls.length qcbody) := hb18.cells 10
  have u11 : W.cell? ⟨g18, 11, none⟩ = some (.slice qKbody e.body.ks.length qkbody) := hb18.cells 11
  have u12 : W.cell? ⟨g18, 12, none⟩ = some (.slice qAparams e.params.length qcparams) := hb18.cells 12
  have u13 : W.cell? ⟨g18, 13, none⟩ = some (.slice qAsort e.sort.length qcsort) := hb18.cells 13
  have u14 : W.cell? ⟨g18, 14, none⟩ = some (.slice qAmembers e.members.length qcmembers) := hb18.cells 14
  have u15 : W.cell? ⟨g18, 15, none⟩ = some (.slice qActors e.ctors.length qcctors) := hb18.cells 15
  have lb := hb18.lt
  have hnM : (ds.length : Int) < ((ds.length + 1 : Nat) : Int) := by omega
  have hlcs : ds.length * 16 + 16 ≤ (es ++ (c2 ++ sp)).length := by simp; omega
  clear hb hbd his
  conv => arg 2; whnf
  go_wp2_with ((with_reducible refine atStore (t := 37) ?_); go_must (refine wpList_storeAt (t := 37) (g := gA) (off := ds.length * 16) (nc := [.int .i64 e.kind, .int .i64 e.levels, .int .i64 e.ty.k, .int .i64 e.ty.n, .int .i64 e.ty.a, .slice qAty e.ty.ls.length qcty, .slice qKty e.ty.ks.length qkty, .int .i64 e.body.k, .int .i64 e.body.n, .int .i64 e.body.a, .slice qAbody e.body.ls.length qcbody, .slice qKbody e.body.ks.length qkbody, .slice qAparams e.params.length qcparams, .slice qAsort e.sort.length qcsort, .slice qAmembers e.members.length qcmembers, .slice qActors e.ctors.length qcctors]) rfl rfl (by go_simp <;> first | rfl | exact ⟨rfl, rfl⟩) (by go_simp <;> first | rfl | exact ⟨rfl, rfl⟩) HBA.out (by exact aggDecl) hlcs (by simp [Value.oneCell']) ?_; intro W7 HX7 HB7))
  have hx7 : Ext no w W7 := HX.out.old HX7 (fun i hi e => by omega)
  have HA7 := AllR.put HB7 HX7 k2 k20 k3 hgA hleft k5 k6 k7
  have hcall := HA7.param (hT.ext hx7) hgA sm sme hek hae
  rw [hpe] at hcall
  refine hcall.mono ?_
  clear hcall
  rintro e_ W8 ⟨rfl, hx8⟩
  dsimp only
  repeat ((fail_if_success (with_reducible (first | show Code.wp _ (Code.seq (Code.region 29 _ _) _) _ _ _ | show Code.wp _ (Code.seq (Code.seq (Code.region 29 _ _) _) _) _ _ _))); go_step)
  exact spD hT (hx7.seq hx8) (HA7.ext hx8) hgA (by have := hx8.size; have := HX7.size; omega) hgd hne hd (Blk.ext0 (show Blk W7 gd _ _ from (HX7.block gd HBD.out.lt hne).trans HBD.out) hx8) sm smd hi1 hln ha hp9 hcl HHIS.out hk
end Go.Proofs.YtmedomglemllnaaDoor
