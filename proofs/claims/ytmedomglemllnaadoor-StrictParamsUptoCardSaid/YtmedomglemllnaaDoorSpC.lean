/- StrictParams: from the further constructor on. No statement of the seat is proved here. -/
import Derived.Test.YtmedomglemllnaaDoorSpE
namespace Go.Proofs.YtmedomglemllnaaDoor
set_option linter.unusedSimpArgs false
set_option linter.unusedVariables false
open Go.RowKit

abbrev leftD (d : Dc) (V : Int) : Dc := ⟨d.kind, d.levels, d.ty, d.body, d.params, d.sort, d.members, d.ctors ++ [⟨0, aboveT 4 [aboveT 4 [v18T V] sort18T] (self18T 0)⟩]⟩
set_option maxRecDepth 100000 in
set_option maxHeartbeats 8000000 in
theorem spC3 {w W W5 w9 : World} {S1 : Nat → Prop} {ds : List Dc} {d : Dc} {A0 A7 : Option Addr} {c c7 gA cA gd : Nat} {Aty Kty Abody Kbody Aparams Asort Amembers Actors : Option Addr} {cty kty cbody kbody cparams csort cmembers cctors : Nat} {a : Nat} {drop V : Int} {is : Bool} {x1 x4 x6 x7 x8 x12 x13 x14 x15 x16 x17 x19 x20 x21 x22 x23 x24 x25 x26 x27 x28 x29 x30 x31 x32 x33 x34 x35 x36 x37 x38 x39 x40 x41 x42 x43 x44 x45 x46 x47 x48 x49 x50 x51 x52 x53 x54 x55 x56 x57 x58 x59 x60 x61 x62 x63 x64 x65 x66 x67 x68 x69 x70 x71 x72 x73 x74 x75 x76 x77 x78 x79 x80 x81 x82 x83 x84 x85 x86 x87 x88 x89 x90 x91 x92 x93 x94 x95 x96 x97 x98 x99 x100 x101 x102 x103 x104 x105 x106 x107 x108 x109 x110 x111 x112 x113 x114 x115 x116 x117 x118 x119 x120 x121 x122 x123 x124 x125 x126 x127 x128 x129 x130 x131 x132 x133 x134 x135 x136 x137 x138 x139 x140 x141 x142 x143 x144 x145 x146 x147 x148 x149 x150 x151 x152 x153 x154 x155 x156 x157 x158 x159 x160 x161 x162 x163 x164 x165 x166 x167 x168 x169 x170 x171 x172 x173 x174 x175 x176 x177 x178 x179 x180 x181 x182 x183 x184 x185 x186 x187 x188 x189 x190 x191 x192 x193 x194 x195 x196 x197 x198 x199 x200 x201 x202 x203 x204 x205 x206 x207 : Value}
    (hT : Tab w) (hx : Ext no w W) (h5 : Ext no W W5) (h9 : Ext no W5 w9) (hA : AllR W w.heap.size gA cA ds d) (hgA : w.heap.size ≤ gA) (hgA2 : gA < W.heap.size) (hgd : w.heap.size ≤ gd) (hne : gd ≠ gA) (hd : RC w S1 d.d [.int .i64 d.kind, .int .i64 d.levels, .int .i64 d.ty.k, .int .i64 d.ty.n, .int .i64 d.ty.a, .slice Aty d.ty.ls.length cty, .slice Kty d.ty.ks.length kty, .int .i64 d.body.k, .int .i64 d.body.n, .int .i64 d.body.a, .slice Abody d.body.ls.length cbody, .slice Kbody d.body.ks.length kbody, .slice Aparams d.params.length cparams, .slice Asort d.sort.length csort, .slice Amembers d.members.length cmembers, .slice Actors d.ctors.length cctors]) (hbd : Blk W gd 37 [.int .i64 d.kind, .int .i64 d.levels, .int .i64 d.ty.k, .int .i64 d.ty.n, .int .i64 d.ty.a, .slice Aty d.ty.ls.length cty, .slice Kty d.ty.ks.length kty, .int .i64 d.body.k, .int .i64 d.body.n, .int .i64 d.body.a, .slice Abody d.body.ls.length cbody, .slice Kbody d.body.ks.length kbody, .slice Aparams d.params.length cparams, .slice Asort d.sort.length csort, .slice Amembers d.members.length cmembers, .slice Actors d.ctors.length cctors].toArray) (b18g : Blk w9 W.heap.size 37 [.int .i64 d.kind, .int .i64 d.levels, .int .i64 d.ty.k, .int .i64 d.ty.n, .int .i64 d.ty.a, .slice Aty d.ty.ls.length cty, .slice Kty d.ty.ks.length kty, .int .i64 d.body.k, .int .i64 d.body.n, .int .i64 d.body.a, .slice Abody d.body.ls.length cbody, .slice Kbody d.body.ks.length kbody, .slice Aparams d.params.length cparams, .slice Asort d.sort.length csort, .slice Amembers d.members.length cmembers, .slice Actors d.ctors.length cctors].toArray)
    (hrp : RC w9 (fun k => ((k ≠ gA ∧ k ≠ W.heap.size) ∧ k < W5.heap.size) ∨ W5.heap.size ≤ k) (.l 40 6 (d.ctors.map Ct.d ++ [Ct.d ⟨0, aboveT 4 [aboveT 4 [v18T V] sort18T] (self18T 0)⟩])) [.slice A7 (d.ctors.length + 1) c7]) (hl18 : W.heap.size < W5.heap.size) (sm : ∀ x ∈ ds, SmDc x) (smd : SmDc d) (hi1 : inI drop) (hln : ds.length ≤ 1048576)
    (ha : a < d.params.length) (hp9 : d.params.length ≤ 4000000) (hcl : d.ctors.length ≤ 4000000) (his : is = parQ (ds ++ [d]) ds.length a) (hk : d.kind = 3) (hV : V = (d.params.length : Int) - 1 - a) :
    (fromF 26 (Tryd.f4.body.getD .skip)).wp Tryd.prog (bodyPost Tryd.prog Tryd.f4 (PV w (.bool true))) { tmps := #[.slice A0 ds.length c, x1, .int .i64 (a : Int), .int .i64 drop, x4, .pointer (some ⟨gd, 0, none⟩), x6, x7, x8, .slice (some ⟨gA, 0, none⟩) (ds.length + 1) cA, .int .i64 (ds.length : Int), .bool is, x12, x13, x14, x15, x16, x17, .pointer (some ⟨W.heap.size, 0, none⟩), x19, x20, x21, x22, x23, x24, x25, x26, x27, x28, x29, x30, x31, x32, x33, x34, x35, x36, x37, x38, x39, x40, x41, x42, x43, x44, x45, x46, x47, x48, x49, x50, x51, x52, x53, x54, x55, x56, x57, x58, x59, x60, x61, x62, x63, x64, x65, x66, x67, x68, x69, x70, x71, x72, x73, x74, x75, x76, x77, x78, x79, x80, x81, x82, x83, x84, x85, x86, x87, x88, x89, x90, x91, x92, x93, x94, x95, x96, x97, x98, x99, x100, x101, x102, x103, x104, x105, x106, x107, x108, x109, x110, x111, x112, x113, x114, x115, x116, x117, x118, x119, x120, x121, x122, x123, x124, x125, x126, x127, x128, x129, x130, x131, x132, x133, x134, x135, x136, x137, x138, x139, x140, x141, x142, x143, x144, x145, x146, x147, x148, x149, x150, x151, x152, x153, x154, x155, x156, x157, x158, x159, x160, x161, x162, x163, x164, x165, x166, x167, x168, x169, x170, x171, x172, x173, x174, x175, x176, x177, x178, x179, x180, x181, x182, x183, x184, x185, x186, x187, x188, x189, x190, x191, x192, x193, x194, x195, x196, x197, x198, x199, x200, x201, x202, x203, x204, x205, x206, x207], defers := [] } (w9.setCell ⟨W.heap.size, 15, none⟩ (.slice A7 (d.ctors.length + 1) c7)) := by
  obtain ⟨W6, hW6⟩ : ∃ W6, W6 = w9.setCell ⟨W.heap.size, 15, none⟩ (.slice A7 (d.ctors.length + 1) c7) := ⟨_, rfl⟩
  have hX6 : Ext (fun k => k = W.heap.size) w9 W6 := by
    rw [hW6]
    exact Ext.setL (X := fun k => k = W.heap.size) (p := ⟨W.heap.size, 15, none⟩) (Ext.refl _ _) rfl _
  have hb6 : Blk W6 W.heap.size 37 [.int .i64 d.kind, .int .i64 d.levels, .int .i64 d.ty.k, .int .i64 d.ty.n, .int .i64 d.ty.a, .slice Aty d.ty.ls.length cty, .slice Kty d.ty.ks.length kty, .int .i64 d.body.k, .int .i64 d.body.n, .int .i64 d.body.a, .slice Abody d.body.ls.length cbody, .slice Kbody d.body.ks.length kbody, .slice Aparams d.params.length cparams, .slice Asort d.sort.length csort, .slice Amembers d.members.length cmembers, .slice A7 (leftD d V).ctors.length c7].toArray := by
    have := b18g.set 15 (.slice A7 (d.ctors.length + 1) c7)
    rw [hW6, show (leftD d V).ctors.length = d.ctors.length + 1 by simp [leftD]]
    simpa using this
  rw [← hW6]
  have hx9 := hx.seq (h5.seq h9)
  have hx6 : Ext no w W6 := hx9.old hX6 (fun i hi e => by have := hx.size; omega)
  have hsw := hx.size
  have hs5 := h5.size
  have hs9 := h9.size
  have hs6 := hX6.size
  obtain ⟨es, c2, sp, k1, k2, k3, k4, k5, k6, k7⟩ := hA
  have hlast : RC W6 (fun k => k ≠ gA) (.l 40 6 ((leftD d V).ctors.map Ct.d)) [.slice A7 (leftD d V).ctors.length c7] := by
    rw [List.map_append, List.length_append, List.length_singleton]
    refine RC.frame (Nat.le_refl _) (fun k _ hk e => ?_) (fun _ _ _ => rfl) _ _ (hrp.ext hX6 (fun k _ hk e => ?_))
    · rcases hk with hk | hk
      · exact hk.1.1 e
      · omega
    · rcases hk with hk | hk
      · exact hk.1.2 e
      · omega
  have hold : ∀ {dd : D} {cc : List Value}, RC w S1 dd cc → RC W6 (fun k => k ≠ gA) dd cc := fun h => RC.frame hx6.size (fun k hk _ e => by omega) (fun k hk _ => hx6.block k hk no_not) _ _ h
  have hpe : parQ (ds ++ [leftD d V]) ds.length a = false := by
    have := params_arg (ds := ds) (d := d) (a := a) ha (by omega)
    rw [← hV] at this
    exact this
  have hsme : SmDc (leftD d V) := ⟨fun c hc => by
    rcases List.mem_append.1 hc with hc | hc
    · exact smd.ct c hc
    · rw [List.mem_singleton.1 hc]; exact Nat.le_of_ble_eq_true rfl, smd.mb, smd.pa⟩
  obtain ⟨_, _, _, _, _, _, _, _, _, _, _, _, _, _, _, _, he, z0, z1, z2, z3, z4, z5, z6, _⟩ := RC.dc.1 hd
  simp only [List.cons.injEq, Value.slice.injEq, and_true, true_and] at he
  obtain ⟨⟨rfl, rfl⟩, ⟨rfl, rfl⟩, ⟨rfl, rfl⟩, ⟨rfl, rfl⟩, ⟨rfl, rfl⟩, ⟨rfl, rfl⟩, ⟨rfl, rfl⟩, rfl, rfl⟩ := he
  have hleft : RC W6 (fun k => k ≠ gA) (leftD d V).d [.int .i64 d.kind, .int .i64 d.levels, .int .i64 d.ty.k, .int .i64 d.ty.n, .int .i64 d.ty.a, .slice Aty d.ty.ls.length cty, .slice Kty d.ty.ks.length kty, .int .i64 d.body.k, .int .i64 d.body.n, .int .i64 d.body.a, .slice Abody d.body.ls.length cbody, .slice Kbody d.body.ks.length kbody, .slice Aparams d.params.length cparams, .slice Asort d.sort.length csort, .slice Amembers d.members.length cmembers, .slice A7 (leftD d V).ctors.length c7] := RC.dc.2 ⟨Aty, cty, Kty, kty, Abody, cbody, Kbody, kbody, Aparams, cparams, Asort, csort, Amembers, cmembers, A7, c7, rfl, z0, z1, hold z2, hold z3, hold z4, hold z5, hold z6, hlast⟩
  have hb : Blk W6 gA 37 (es ++ (c2 ++ sp)).toArray := (hX6.block gA (by omega) (by omega)).trans ((k1.ext0 h5).ext0 h9)
  have hbd6 : Blk W6 gd 37 [.int .i64 d.kind, .int .i64 d.levels, .int .i64 d.ty.k, .int .i64 d.ty.n, .int .i64 d.ty.a, .slice Aty d.ty.ls.length cty, .slice Kty d.ty.ks.length kty, .int .i64 d.body.k, .int .i64 d.body.n, .int .i64 d.body.a, .slice Abody d.body.ls.length cbody, .slice Kbody d.body.ks.length kbody, .slice Aparams d.params.length cparams, .slice Asort d.sort.length csort, .slice Amembers d.members.length cmembers, .slice Actors d.ctors.length cctors].toArray := (hX6.block gd (by have := hbd.lt; omega) (by have := hbd.lt; omega)).trans ((hbd.ext0 h5).ext0 h9)
  have k3' : RCs W6 (fun k => k < w.heap.size) (ds.map Dc.d) es := RCs.frame (by omega) (fun _ _ h => h) (fun k hk hS => (hx6.block k hS no_not).trans (hx.block k hS no_not).symm) _ _ k3
  exact spC2 (e := leftD d V) hT hx6 hb k2 ((RC.len _ _ k4).trans (Dc.size_d d)) k3' k5 k6 k7 hgA (by omega) hgd hne hsw (by omega) hleft hb6 hd hbd6 sm smd hsme hi1 hln ha hp9 hcl his hk hk ha hpe
set_option maxRecDepth 100000 in
set_option maxHeartbeats 32000000 in
theorem spC {w W : World} {S1 : Nat → Prop} {ds : List Dc} {d : Dc} {A0 : Option Addr} {c gA cA gd : Nat} {Aty Kty Abody Kbody Aparams Asort Amembers Actors : Option Addr} {cty kty cbody kbody cparams csort cmembers cctors : Nat} {a : Nat} {drop : Int} {is : Bool} {x1 x4 x6 x7 x8 x13 x14 x15 x16 x17 x18 x19 x20 x21 x22 x23 x24 x25 x26 x27 x28 x29 x30 x31 x32 x33 x34 x35 x36 x37 x38 x39 x40 x41 x42 x43 x44 x45 x46 x47 x48 x49 x50 x51 x52 x53 x54 x55 x56 x57 x58 x59 x60 x61 x62 x63 x64 x65 x66 x67 x68 x69 x70 x71 x72 x73 x74 x75 x76 x77 x78 x79 x80 x81 x82 x83 x84 x85 x86 x87 x88 x89 x90 x91 x92 x93 x94 x95 x96 x97 x98 x99 x100 x101 x102 x103 x104 x105 x106 x107 x108 x109 x110 x111 x112 x113 x114 x115 x116 x117 x118 x119 x120 x121 x122 x123 x124 x125 x126 x127 x128 x129 x130 x131 x132 x133 x134 x135 x136 x137 x138 x139 x140 x141 x142 x143 x144 x145 x146 x147 x148 x149 x150 x151 x152 x153 x154 x155 x156 x157 x158 x159 x160 x161 x162 x163 x164 x165 x166 x167 x168 x169 x170 x171 x172 x173 x174 x175 x176 x177 x178 x179 x180 x181 x182 x183 x184 x185 x186 x187 x188 x189 x190 x191 x192 x193 x194 x195 x196 x197 x198 x199 x200 x201 x202 x203 x204 x205 x206 x207 : Value}
    (hT : Tab w) (hx : Ext no w W) (hA : AllR W w.heap.size gA cA ds d) (hgA : w.heap.size ≤ gA) (hgA2 : gA < W.heap.size) (hgd : w.heap.size ≤ gd) (hne : gd ≠ gA) (hd : RC w S1 d.d [.int .i64 d.kind, .int .i64 d.levels, .int .i64 d.ty.k, .int .i64 d.ty.n, .int .i64 d.ty.a, .slice Aty d.ty.ls.length cty, .slice Kty d.ty.ks.length kty, .int .i64 d.body.k, .int .i64 d.body.n, .int .i64 d.body.a, .slice Abody d.body.ls.length cbody, .slice Kbody d.body.ks.length kbody, .slice Aparams d.params.length cparams, .slice Asort d.sort.length csort, .slice Amembers d.members.length cmembers, .slice Actors d.ctors.length cctors]) (hbd : Blk W gd 37 [.int .i64 d.kind, .int .i64 d.levels, .int .i64 d.ty.k, .int .i64 d.ty.n, .int .i64 d.ty.a, .slice Aty d.ty.ls.length cty, .slice Kty d.ty.ks.length kty, .int .i64 d.body.k, .int .i64 d.body.n, .int .i64 d.body.a, .slice Abody d.body.ls.length cbody, .slice Kbody d.body.ks.length kbody, .slice Aparams d.params.length cparams, .slice Asort d.sort.length csort, .slice Amembers d.members.length cmembers, .slice Actors d.ctors.length cctors].toArray) (sm : ∀ x ∈ ds, SmDc x) (smd : SmDc d) (hi1 : inI drop) (hln : ds.length ≤ 1048576)
    (ha : a < d.params.length) (hp9 : d.params.length ≤ 4000000) (hcl : d.ctors.length ≤ 4000000) (his : is = parQ (ds ++ [d]) ds.length a) (hk : d.kind = 3) :
    (fromF 23 (Tryd.f4.body.getD .skip)).wp Tryd.prog (bodyPost Tryd.prog Tryd.f4 (PV w (.bool true))) { tmps := #[.slice A0 ds.length c, x1, .int .i64 (a : Int), .int .i64 drop, x4, .pointer (some ⟨gd, 0, none⟩), x6, x7, x8, .slice (some ⟨gA, 0, none⟩) (ds.length + 1) cA, .int .i64 (ds.length : Int), .bool is, .int .i64 ((d.params.length : Int) - 1 - a), x13, x14, x15, x16, x17, x18, x19, x20, x21, x22, x23, x24, x25, x26, x27, x28, x29, x30, x31, x32, x33, x34, x35, x36, x37, x38, x39, x40, x41, x42, x43, x44, x45, x46, x47, x48, x49, x50, x51, x52, x53, x54, x55, x56, x57, x58, x59, x60, x61, x62, x63, x64, x65, x66, x67, x68, x69, x70, x71, x72, x73, x74, x75, x76, x77, x78, x79, x80, x81, x82, x83, x84, x85, x86, x87, x88, x89, x90, x91, x92, x93, x94, x95, x96, x97, x98, x99, x100, x101, x102, x103, x104, x105, x106, x107, x108, x109, x110, x111, x112, x113, x114, x115, x116, x117, x118, x119, x120, x121, x122, x123, x124, x125, x126, x127, x128, x129, x130, x131, x132, x133, x134, x135, x136, x137, x138, x139, x140, x141, x142, x143, x144, x145, x146, x147, x148, x149, x150, x151, x152, x153, x154, x155, x156, x157, x158, x159, x160, x161, x162, x163, x164, x165, x166, x167, x168, x169, x170, x171, x172, x173, x174, x175, x176, x177, x178, x179, x180, x181, x182, x183, x184, x185, x186, x187, x188, x189, x190, x191, x192, x193, x194, x195, x196, x197, x198, x199, x200, x201, x202, x203, x204, x205, x206, x207], defers := [] } W := by
  have HD := Lib.hid hd
  have HBD := Lib.hid hbd
  have HT := Lib.hid hT
  have HX := Lib.hid hx
  have HA := Lib.hid hA
  have HSM := Lib.hid sm
  have HSMD := Lib.hid smd
  have HI1 := Lib.hid hi1
  have HN9 := Lib.hid hln
  have HGA := Lib.hid (And.intro hgA hgA2)
  have HGD := Lib.hid (And.intro hgd hne)
  have HIS := Lib.hid his
  have HK := Lib.hid hk
  have HCL := Lib.hid hcl
  obtain ⟨V, hV⟩ : ∃ V : Int, V = (d.params.length : Int) - 1 - a := ⟨_, rfl⟩
  rw [← hV]
  have hV0 : 0 ≤ V := by omega
  have hV1 : V ≤ 4000000 := by omega
  have HV := Lib.hid hV
  have u0 : W.cell? ⟨gd, 0, none⟩ = some (.int .i64 d.kind) := hbd.cells 0
  have u1 : W.cell? ⟨gd, 1, none⟩ = some (.int .i64 d.levels) := hbd.cells 1
  have u2 : W.cell? ⟨gd, 2, none⟩ = some (.int .i64 d.ty.k) := hbd.cells 2
  have u3 : W.cell? ⟨gd, 3, none⟩ = some (.int .i64 d.ty.n) := hbd.cells 3
  have u4 : W.cell? ⟨gd, 4, none⟩ = some (.int .i64 d.ty.a) := hbd.cells 4
  have u5 : W.cell? ⟨gd, 5, none⟩ = some (.slice Aty d.ty.ls.length cty) := hbd.cells 5
  have u6 : W.cell? ⟨gd, 6, none⟩ = some (.slice Kty d.ty.ks.length kty) := hbd.cells 6
  have u7 : W.cell? ⟨gd, 7, none⟩ = some (.int .i64 d.body.k) := hbd.cells 7
  have u8 : W.cell? ⟨gd, 8, none⟩ = some (.int .i64 d.body.n) := hbd.cells 8
  have u9 : W.cell? ⟨gd, 9, none⟩ = some (.int .i64 d.body.a) := hbd.cells 9
  have u10 : W.cell? ⟨gd, 10, none⟩ = some (.slice Abody d.body.ls.length cbody) := hbd.cells 10
  have u11 : W.cell? ⟨gd, 11, none⟩ = some (.slice Kbody d.body.ks.length kbody) := hbd.cells 11
  have u12 : W.cell? ⟨gd, 12, none⟩ = some (.slice Aparams d.params.length cparams) := hbd.cells 12
  have u13 : W.cell? ⟨gd, 13, none⟩ = some (.slice Asort d.sort.length csort) := hbd.cells 13
  have u14 : W.cell? ⟨gd, 14, none⟩ = some (.slice Amembers d.members.length cmembers) := hbd.cells 14
  have u15 : W.cell? ⟨gd, 15, none⟩ = some (.slice Actors d.ctors.length cctors) := hbd.cells 15
  have lb := hbd.lt
  clear hT hx hA hgA hgA2 hgd hne hd hbd sm smd hi1 hln his hk hV hcl
  conv => arg 2; whnf
  have H := Hp.start no W
  have hr_ := H.rules; simp only [Rules, and_true] at hr_; have hd_ := H.dif; simp only [Dif, Neq, and_true] at hd_; obtain ⟨ho_, hz_⟩ := H.old0
  go_wp2_with ((with_reducible refine atStore (t := 37) ?_); go_must (refine wpList_storeH (t := 37) rfl rfl (by go_simp <;> first | rfl | exact ⟨rfl, rfl⟩) (by go_simp <;> first | rfl | exact ⟨rfl, rfl⟩) (by exact Hp.norm (by (repeat (first | with_reducible exact H | with_reducible exact H0_ | with_reducible apply Hp.alloc | with_reducible apply Hp.allocMap | with_reducible apply Hp.drew | with_reducible apply Hp.drewN | with_reducible apply Hp.set)); (try any_goals (repeat (first | with_reducible exact Upd.head | with_reducible apply Upd.tail)))) (by ((try simp only [size_drew_, size_drewN_, World.size_alloc, World.size_setCell, List.set_cons_zero, List.set_cons_succ, List.nil_append, List.cons_append]) <;> rfl))) (by (repeat (first | with_reducible exact Upd.head | with_reducible apply Upd.tail))) (by exact aggDecl) (by rfl) (by simp [Value.oneCell']) ?_; clear H; intro w7 H; (try simp only [size_drew_, size_drewN_, World.size_alloc, World.size_setCell, List.set_cons_zero, List.set_cons_succ] at H); (try clear hr_ hd_ ho_ hz_); have hr_ := H.rules; simp only [Rules, and_true] at hr_; have hd_ := H.dif; simp only [Dif, Neq, and_true] at hd_; obtain ⟨ho_, hz_⟩ := H.old0))
  (try clear hr_ hd_ ho_ hz_)
  have HLT : Hid (W.heap.size < w7.heap.size) := Lib.hid (H.blk (g := W.heap.size) (t := 37) (by (repeat (first | with_reducible exact Pick.head | with_reducible apply Pick.tail)))).lt
  go_wp2_with fail
  refine callsH2 (w6 := w7) (by (repeat (first | with_reducible exact H | with_reducible apply Hp.alloc | with_reducible apply Hp.allocMap))) (by first | exact Ext.refl _ _ | exact (Ext.refl _ _).alloc _ | exact ((Ext.refl _ _).alloc _).alloc _ | exact (((Ext.refl _ _).alloc _).alloc _).alloc _) ?_
  clear H; intro wa1_ H HX_; (try simp only [size_drew_, size_drewN_, World.size_alloc, World.size_setCell, List.set_cons_zero, List.set_cons_succ] at H)
  have HLT := Lib.hid (show W.heap.size < wa1_.heap.size from Nat.lt_of_lt_of_le HLT.out HX_.size)
  clear HX_
  refine (self18_calls (n := 0)).mono ?_
  intro e wb2_ hpr_
  obtain ⟨rfl, hx_⟩ := hpr_
  replace H := H.call hx_
  have HLT := Lib.hid (show W.heap.size < wb2_.heap.size from Nat.lt_of_lt_of_le HLT.out hx_.size)
  clear hx_
  go_wp2_with fail
  refine callsH2 (w6 := wb2_) (by (repeat (first | with_reducible exact H | with_reducible apply Hp.alloc | with_reducible apply Hp.allocMap))) (by first | exact Ext.refl _ _ | exact (Ext.refl _ _).alloc _ | exact ((Ext.refl _ _).alloc _).alloc _ | exact (((Ext.refl _ _).alloc _).alloc _).alloc _) ?_
  clear H; intro wa3_ H HX_; (try simp only [size_drew_, size_drewN_, World.size_alloc, World.size_setCell, List.set_cons_zero, List.set_cons_succ] at H)
  have HLT := Lib.hid (show W.heap.size < wa3_.heap.size from Nat.lt_of_lt_of_le HLT.out HX_.size)
  clear HX_
  refine (sort18_calls (S := (fun k => W.heap.size + 1 ≤ k))).mono ?_
  intro e wb4_ hpr_
  obtain ⟨As, cs, Ks, ks, rfl, hr_, hx_⟩ := hpr_.tmS (fun k hk => by have := HLT.out; omega)
  have HRs := Lib.hid hr_
  clear hr_ hpr_
  replace H := H.call hx_
  have HLT := Lib.hid (show W.heap.size < wb4_.heap.size from Nat.lt_of_lt_of_le HLT.out hx_.size)
  clear hx_
  have HLT0 := Lib.hid HLT.out
  go_wp2_with fail
  refine callsH2 (w6 := wb4_) (by (repeat (first | with_reducible exact H | with_reducible apply Hp.alloc | with_reducible apply Hp.allocMap))) (by first | exact Ext.refl _ _ | exact (Ext.refl _ _).alloc _ | exact ((Ext.refl _ _).alloc _).alloc _ | exact (((Ext.refl _ _).alloc _).alloc _).alloc _) ?_
  clear H; intro wa5_ H HX_; (try simp only [size_drew_, size_drewN_, World.size_alloc, World.size_setCell, List.set_cons_zero, List.set_cons_succ] at H)
  have HRs := Lib.hid (HRs.out.ext0 HX_)
  have HLT := Lib.hid (show W.heap.size < wa5_.heap.size from Nat.lt_of_lt_of_le HLT.out HX_.size)
  clear HX_
  refine (pi18_calls (S := (fun k => W.heap.size + 1 ≤ k)) (b := sort18T) (cb := [.int .i64 (sort18T).k, .int .i64 (sort18T).n, .int .i64 (sort18T).a, .slice As (sort18T).ls.length cs, .slice Ks (sort18T).ks.length ks]) (row := [v18T V]) HRs.out (RC.blkRow (S := (fun k => W.heap.size + 1 ≤ k)) (e := 26) (z := 5) (n := 1) (ds := ([v18T V]).map Tm.d) (cs := [.int .i64 1, .int .i64 V, .int .i64 0, .slice none 0 0, .slice none 0 0]) (H.blk .head) (by have := HLT0.out; omega) (RCs.one18 (tN18 (inI18 (by decide) (by decide)) (inI18 (by omega) (by omega)) (inI18 (by decide) (by decide)))) (by simp [Tm.size_d]) rfl (by unfold M; simp))).mono ?_
  intro e wb6_ hpr_
  obtain ⟨Ap, cp, Kp, kp, rfl, hr_, hx_⟩ := hpr_.tmS (fun k hk => by have := HLT.out; omega)
  have HRp := Lib.hid hr_
  clear hr_ hpr_
  replace H := H.call hx_
  have HRs := Lib.hid (HRs.out.ext0 hx_)
  have HLT := Lib.hid (show W.heap.size < wb6_.heap.size from Nat.lt_of_lt_of_le HLT.out hx_.size)
  clear hx_
  have HLT0 := Lib.hid HLT.out
  go_wp2_with fail
  refine callsH2 (w6 := wb6_) (by (repeat (first | with_reducible exact H | with_reducible apply Hp.alloc | with_reducible apply Hp.allocMap))) (by first | exact Ext.refl _ _ | exact (Ext.refl _ _).alloc _ | exact ((Ext.refl _ _).alloc _).alloc _ | exact (((Ext.refl _ _).alloc _).alloc _).alloc _) ?_
  clear H; intro wa7_ H HX_; (try simp only [size_drew_, size_drewN_, World.size_alloc, World.size_setCell, List.set_cons_zero, List.set_cons_succ] at H)
  have HRs := Lib.hid (HRs.out.ext0 HX_)
  have HRp := Lib.hid (HRp.out.ext0 HX_)
  have HLT := Lib.hid (show W.heap.size < wa7_.heap.size from Nat.lt_of_lt_of_le HLT.out HX_.size)
  clear HX_
  refine (pi18_calls (S := (fun k => W.heap.size + 1 ≤ k)) (b := self18T 0) (cb := [.int .i64 11, .int .i64 0, .int .i64 0, .slice none 0 0, .slice none 0 0]) (row := [aboveT 4 [v18T V] (sort18T)]) (tN18 (inI18 (by decide) (by decide)) (inI18 (by decide) (by decide)) (inI18 (by decide) (by decide))) (RC.blkRow (S := (fun k => W.heap.size + 1 ≤ k)) (e := 26) (z := 5) (n := 1) (ds := ([aboveT 4 [v18T V] (sort18T)]).map Tm.d) (cs := [.int .i64 (aboveT 4 [v18T V] (sort18T)).k, .int .i64 (aboveT 4 [v18T V] (sort18T)).n, .int .i64 (aboveT 4 [v18T V] (sort18T)).a, .slice Ap (aboveT 4 [v18T V] (sort18T)).ls.length cp, .slice Kp (aboveT 4 [v18T V] (sort18T)).ks.length kp]) (H.blk .head) (by have := HLT0.out; omega) (RCs.one18 HRp.out) (by simp [Tm.size_d]) rfl (by unfold M; simp))).mono ?_
  intro e wb8_ hpr_
  obtain ⟨Aq, cq, Kq, kq, rfl, hr_, hx_⟩ := hpr_.tmS (fun k hk => by have := HLT.out; omega)
  have HRq := Lib.hid hr_
  clear hr_ hpr_
  replace H := H.call hx_
  have HRs := Lib.hid (HRs.out.ext0 hx_)
  have HRp := Lib.hid (HRp.out.ext0 hx_)
  have HLT := Lib.hid (show W.heap.size < wb8_.heap.size from Nat.lt_of_lt_of_le HLT.out hx_.size)
  clear hx_
  have HRq_b := Lib.hid HRq.out.bd
  go_wp2_with ((with_reducible refine atStore (t := 26) ?_); go_must (refine wpList_storeX (t := 26) rfl rfl (by go_simp <;> first | rfl | exact ⟨rfl, rfl⟩) (by go_simp <;> first | rfl | exact ⟨rfl, rfl⟩) (by (repeat (first | with_reducible exact H | with_reducible apply Hp.alloc))) (by (repeat (first | with_reducible exact Upd.head | with_reducible apply Upd.tail))) (by exact aggTerm) (by rfl) (by simp [Value.oneCell']) ?_; clear H; intro ws_ H HXS; (try simp only [size_drew_, size_drewN_, World.size_alloc, World.size_setCell, List.set_cons_zero, List.set_cons_succ] at H); have HRq := Lib.hid ((HRq.out.bd.ext0 ((Ext.refl no wb8_).alloc _)).ext HXS (fun k _ hk e => by have h2 := hk.2; rw [e] at h2; exact Nat.lt_irrefl _ h2)); clear HXS))
  refine codeH2 (w6 := ws_) H (Ext.refl _ _) ?_
  clear H; intro W5 H HX5
  have HRq := Lib.hid (HRq.out.ext0 HX5)
  have hc19 := Blk.cells5 (H.blk .head)
  have HB18 := Lib.hid (H.blk (g := W.heap.size) (t := 37) (cs := [.int .i64 d.kind, .int .i64 d.levels, .int .i64 d.ty.k, .int .i64 d.ty.n, .int .i64 d.ty.a, .slice Aty d.ty.ls.length cty, .slice Kty d.ty.ks.length kty, .int .i64 d.body.k, .int .i64 d.body.n, .int .i64 d.body.a, .slice Abody d.body.ls.length cbody, .slice Kbody d.body.ks.length kbody, .slice Aparams d.params.length cparams, .slice Asort d.sort.length csort, .slice Amembers d.members.length cmembers, .slice Actors d.ctors.length cctors]) (by (repeat (first | with_reducible exact Pick.head | with_reducible apply Pick.tail))))
  simp only [Cells_cons, Cells_nil, and_true] at hc19
  obtain ⟨t0, t1, t2, t3, t4⟩ := hc19
  have l19 := cell_lt t0
  have HE5 := Lib.hid H.ext
  have q15 := H.ext.keep u15
  have lb5 := Nat.lt_of_lt_of_le lb H.ext.size
  have hl18 := HB18.out.lt
  have hcd := RC.dc.1 HD.out
  obtain ⟨_, _, _, _, _, _, _, _, _, _, _, _, _, _, _, _, he, i0, i1, r1, r2, hpa, hso, hmb, hct⟩ := hcd
  simp only [List.cons.injEq, Value.slice.injEq, and_true, true_and] at he
  obtain ⟨⟨rfl, rfl⟩, ⟨rfl, rfl⟩, ⟨rfl, rfl⟩, ⟨rfl, rfl⟩, ⟨rfl, rfl⟩, ⟨rfl, rfl⟩, ⟨rfl, rfl⟩, rfl, rfl⟩ := he
  have hMc := hct.lenM
  have HCT5 : Hid (RC W5 (fun k => (k ≠ gA ∧ k ≠ W.heap.size) ∧ k < W5.heap.size) (.l 40 6 (d.ctors.map Ct.d)) [.slice Actors d.ctors.length cctors]) := Lib.hid (RC.frame (Nat.le_refl _) (fun k hk hs => by have h1 := hs.2; have h2 := HGA.out; have h3 := HX.out.size; exact ⟨⟨by omega, by omega⟩, hk⟩) (fun _ _ _ => rfl) _ _ (hct.bd.ext0 (HX.out.seq H.ext)))
  have HARG : Hid (RC W5 (fun k => (k ≠ gA ∧ k ≠ W.heap.size) ∧ k < W5.heap.size) (Ct.d ⟨0, aboveT 4 [aboveT 4 [v18T V] sort18T] (self18T 0)⟩) [.int .i64 0, .int .i64 (aboveT 4 [aboveT 4 [v18T V] sort18T] (self18T 0)).k, .int .i64 (aboveT 4 [aboveT 4 [v18T V] sort18T] (self18T 0)).n, .int .i64 (aboveT 4 [aboveT 4 [v18T V] sort18T] (self18T 0)).a, .slice Aq (aboveT 4 [aboveT 4 [v18T V] sort18T] (self18T 0)).ls.length cq, .slice Kq (aboveT 4 [aboveT 4 [v18T V] sort18T] (self18T 0)).ks.length kq]) := Lib.hid (RC.ct.2 ⟨Aq, cq, Kq, kq, rfl, inI18 (k := 0) (by decide) (by decide), RC.frame (Nat.le_refl _) (fun k hk hs => by have h1 := hs.1; have h2 := HGA.out; exact ⟨⟨by omega, by omega⟩, hk⟩) (fun _ _ _ => rfl) _ _ HRq.out⟩)
  have HDP := Lib.hid (And.intro i0 (And.intro i1 (And.intro r1 (And.intro r2 (And.intro hpa (And.intro hso hmb))))))
  clear H i0 i1 r1 r2 hpa hso hmb hct u0 u1 u2 u3 u4 u5 u6 u7 u8 u9 u10 u11 u12 u13 u14 u15 HX5
  have G := Hp.start no W5
  refine wp_region_H 10 [false, false, false, false, false, false, false, false, false, false] [9] G .nil (by kernel_rfl) rfl rfl (fun G_ hR_ => ?_)
  (try clear H0_); have H0_ := G; clear G; have G := G_; clear G_
  refine wpL_reads (is := [(1, ?v1_0), (2, ?v1_1), (4, ?v1_2), (5, ?v1_3)]) (by kernel_rfl) (Nat.le_of_ble_eq_true rfl) (by intro _ _ d_ _ _ h_; cases d_ <;> exact h_) (by kernel_rfl) hR_ (fun w_ hw_ => ?h1_) ?_
  case h1_ =>
    have ho_ := hw_.old0.1; have hz_ := hw_.old0.2; have hr_ := hw_.rules; clear hw_; simp only [Rules, and_true] at hr_; go_split_ands
    (repeat (first | with_reducible exact RdOps.nil | (refine RdOps.run rfl (by rfl) ?_ ?_; (focus (first | (go_simp; done) | (go_simp; with_reducible rfl))); simp only [List.getElem_toArray, List.getElem_cons_zero, List.getElem_cons_succ, Act.put, List.setIfInBounds_toArray, List.set_cons_zero, List.set_cons_succ]) | (refine RdOps.skip rfl (by rfl) ?_ ?_; (focus (with_reducible rfl)); simp only [List.getElem_toArray, List.getElem_cons_zero, List.getElem_cons_succ, Act.put, List.setIfInBounds_toArray, List.set_cons_zero, List.set_cons_succ])))
  simp only [rdMark, rdAct, List.map_cons, List.map_nil, List.length_cons, List.length_nil, Nat.reduceAdd, Nat.reduceSub, Nat.zero_add, List.getElem?_toArray, List.getElem?_cons_zero, List.getElem?_cons_succ, Option.bind_some, Act.put, List.setIfInBounds_toArray, List.set_cons_zero, List.set_cons_succ]
  refine wpL_many (is := [0, 6]) (by kernel_rfl) (by simp) ?_
  simp only [List.forall_mem_cons]
  refine ⟨?_, ?_, fun _ h => by cases h⟩
  · refine wpOp_do (i := 0) rfl (by rfl) (fun K_ hK_ => ?_)
    go_simp
    refine kontH (by (repeat (first | with_reducible exact G | with_reducible exact H0_ | with_reducible apply Hp.alloc | with_reducible apply Hp.allocMap | with_reducible apply Hp.drew | with_reducible apply Hp.drewN | with_reducible apply Hp.set)); (try any_goals (repeat (first | with_reducible exact Upd.head | with_reducible apply Upd.tail)))) ?_
    clear G; intro wb_ G; (try simp only [size_drew_, size_drewN_, World.size_alloc, World.size_setCell, List.set_cons_zero, List.set_cons_succ] at G)
    replace G := G.rpBox0 (S := fun k => k ≠ gA ∧ k ≠ W.heap.size) (e := 40) (z := 6) (by (repeat (first | with_reducible exact Pick.head | with_reducible apply Pick.tail)))
    refine hK_ _ _ (fun _ => G.sub (by simp)) (fun hR_ => ?_)
    replace hR_ := hR_ (by decide)
    refine wpL_many (is := [3, 6]) (by kernel_rfl) (by simp) ?_
    simp only [List.forall_mem_cons]
    refine ⟨?_, ?_, fun _ h => by cases h⟩
    · refine wpOp_do (i := 3) rfl (by rfl) (fun K_ hK_ => ?_)
      refine wp_pushPs (S := fun k => k ≠ gA ∧ k ≠ W.heap.size) (ds := []) (.tmp 148) (.tmp 150) 35 rfl stCts18 (by go_simp <;> first | rfl | exact ⟨rfl, rfl⟩) (by go_simp <;> first | rfl | exact ⟨rfl, rfl⟩) G (by (repeat (first | with_reducible exact Pick.head | with_reducible apply Pick.tail))) (HCT5.out.ext0 G.ext) ?_ ?_
      focus (have := HCL.out; simp [M]; omega)
      clear G; intro v1 w8 G
      rw [List.nil_append] at G
      obtain ⟨A6, c6, rfl⟩ := (G.rpAt (S := fun k => k ≠ gA ∧ k ≠ W.heap.size) (v := v1) (by (repeat (first | with_reducible exact Pick.head | with_reducible apply Pick.tail)))).slice
      rw [List.length_map] at G
      (try rw [List.length_map])
      refine hK_ _ _ (fun _ => G.sub (by simp)) (fun hR_ => ?_)
      replace hR_ := hR_ (by decide)
      simp only [List.getElem_toArray, List.getElem_cons_zero, List.getElem_cons_succ, Act.put, List.setIfInBounds_toArray, List.set_cons_zero, List.set_cons_succ]
      refine wpL_do (i := 6) rfl (by kernel_rfl) (by rfl) (fun K_ hK_ => ?_)
      go_simp
      refine kontH (by (repeat (first | with_reducible exact G | with_reducible exact H0_ | with_reducible apply Hp.alloc | with_reducible apply Hp.allocMap | with_reducible apply Hp.drew | with_reducible apply Hp.drewN | with_reducible apply Hp.set)); (try any_goals (repeat (first | with_reducible exact Upd.head | with_reducible apply Upd.tail)))) ?_
      clear G; intro wb_ G; (try simp only [size_drew_, size_drewN_, World.size_alloc, World.size_setCell, List.set_cons_zero, List.set_cons_succ] at G)
      refine hK_ _ _ (fun _ => G.sub (by simp)) (fun hR_ => ?_)
      replace hR_ := hR_ (by decide)
      refine wpL_do (i := 7) rfl (by kernel_rfl) (by rfl) (fun K_ hK_ => ?_)
      refine wp_pushP (S := fun k => k ≠ gA ∧ k ≠ W.heap.size) (ds := d.ctors.map Ct.d) (d := Ct.d ⟨0, aboveT 4 [aboveT 4 [v18T V] sort18T] (self18T 0)⟩) (.tmp 151) (.tmp 154) 35 rfl stCts18 (by go_simp <;> first | rfl | exact ⟨rfl, rfl⟩) (by go_simp <;> first | rfl | exact ⟨rfl, rfl⟩) G (by (repeat (first | with_reducible exact Pick.head | with_reducible apply Pick.tail))) (by (repeat (first | with_reducible exact Pick.head | with_reducible apply Pick.tail))) (HARG.out.ext0 G.ext) (Ct.size_d _) ?_ ?_
      focus (have := HCL.out; simp [M]; omega)
      clear G; intro v2 w9 G
      obtain ⟨A7, c7, rfl⟩ := (G.rpAt (S := fun k => k ≠ gA ∧ k ≠ W.heap.size) (v := v2) (by (repeat (first | with_reducible exact Pick.head | with_reducible apply Pick.tail)))).slice
      rw [show (d.ctors.map Ct.d ++ [Ct.d ⟨0, aboveT 4 [aboveT 4 [v18T V] sort18T] (self18T 0)⟩]).length = d.ctors.length + 1 by simp] at G
      (try rw [show (d.ctors.map Ct.d ++ [Ct.d ⟨0, aboveT 4 [aboveT 4 [v18T V] sort18T] (self18T 0)⟩]).length = d.ctors.length + 1 by simp])
      refine hK_ _ _ (fun _ => G.sub (by simp)) (fun hR_ => ?_)
      replace hR_ := hR_ (by decide)
      simp only [List.getElem_toArray, List.getElem_cons_zero, List.getElem_cons_succ, Act.put, List.setIfInBounds_toArray, List.set_cons_zero, List.set_cons_succ]
      refine wpL_reads (is := [(8, ?v2_0)]) (by kernel_rfl) (Nat.le_of_ble_eq_true rfl) (by intro _ _ d_ _ _ h_; cases d_ <;> exact h_) (by kernel_rfl) hR_ (fun w_ hw_ => ?h2_) ?_
      case h2_ =>
        have ho_ := hw_.old0.1; have hz_ := hw_.old0.2; have hr_ := hw_.rules; clear hw_; simp only [Rules, and_true] at hr_; go_split_ands
        (repeat (first | with_reducible exact RdOps.nil | (refine RdOps.run rfl (by rfl) ?_ ?_; (focus (first | (go_simp; done) | (go_simp; with_reducible rfl))); simp only [List.getElem_toArray, List.getElem_cons_zero, List.getElem_cons_succ, Act.put, List.setIfInBounds_toArray, List.set_cons_zero, List.set_cons_succ]) | (refine RdOps.skip rfl (by rfl) ?_ ?_; (focus (with_reducible rfl)); simp only [List.getElem_toArray, List.getElem_cons_zero, List.getElem_cons_succ, Act.put, List.setIfInBounds_toArray, List.set_cons_zero, List.set_cons_succ])))
      simp only [rdMark, rdAct, List.map_cons, List.map_nil, List.length_cons, List.length_nil, Nat.reduceAdd, Nat.reduceSub, Nat.zero_add, List.getElem?_toArray, List.getElem?_cons_zero, List.getElem?_cons_succ, Option.bind_some, Act.put, List.setIfInBounds_toArray, List.set_cons_zero, List.set_cons_succ]
      refine wpL_do (i := 9) rfl (by kernel_rfl) (by rfl) (fun K_ hK_ => ?_)
      have b18g := HB18.out.ext0 G.ext
      have q18 := b18g.cells 15
      have f18 := b18g.frz
      have l18 := b18g.lt
      have hrp := (G.rpAt (S := fun k => k ≠ gA ∧ k ≠ W.heap.size) (v := .slice A7 (d.ctors.length + 1) c7) (by (repeat (first | with_reducible exact Pick.head | with_reducible apply Pick.tail)))).rc
      have HRP := Lib.hid hrp
      go_simp
      clear hrp
      refine hK_ _ _ (fun h => absurd (by decide) h) (fun _ => ?_)
      refine wpL_done (by kernel_rfl) ?_ _
      repeat ((fail_if_success (with_reducible (first | show Code.wp _ (Code.seq (Code.region 26 _ _) _) _ _ _ | show Code.wp _ (Code.seq (Code.seq (Code.region 26 _ _) _) _) _ _ _))); go_step)
      exact spC3 HT.out HX.out HE5.out G.ext HA.out HGA.out.1 HGA.out.2 HGD.out.1 HGD.out.2 HD.out HBD.out b18g HRP.out hl18 HSM.out HSMD.out HI1.out HN9.out ha hp9 HCL.out HIS.out HK.out HV.out
    · refine wpOp_do (i := 6) rfl (by rfl) (fun K_ hK_ => ?_)
      go_simp
      refine kontH (by (repeat (first | with_reducible exact G | with_reducible exact H0_ | with_reducible apply Hp.alloc | with_reducible apply Hp.allocMap | with_reducible apply Hp.drew | with_reducible apply Hp.drewN | with_reducible apply Hp.set)); (try any_goals (repeat (first | with_reducible exact Upd.head | with_reducible apply Upd.tail)))) ?_
      clear G; intro wb_ G; (try simp only [size_drew_, size_drewN_, World.size_alloc, World.size_setCell, List.set_cons_zero, List.set_cons_succ] at G)
      refine hK_ _ _ (fun _ => G.sub (by simp)) (fun hR_ => ?_)
      replace hR_ := hR_ (by decide)
      refine wpL_do (i := 3) rfl (by kernel_rfl) (by rfl) (fun K_ hK_ => ?_)
      refine wp_pushPs (S := fun k => k ≠ gA ∧ k ≠ W.heap.size) (ds := []) (.tmp 148) (.tmp 150) 35 rfl stCts18 (by go_simp <;> first | rfl | exact ⟨rfl, rfl⟩) (by go_simp <;> first | rfl | exact ⟨rfl, rfl⟩) G (by (repeat (first | with_reducible exact Pick.head | with_reducible apply Pick.tail))) (HCT5.out.ext0 G.ext) ?_ ?_
      focus (have := HCL.out; simp [M]; omega)
      clear G; intro v1 w8 G
      rw [List.nil_append] at G
      obtain ⟨A6, c6, rfl⟩ := (G.rpAt (S := fun k => k ≠ gA ∧ k ≠ W.heap.size) (v := v1) (by (repeat (first | with_reducible exact Pick.head | with_reducible apply Pick.tail)))).slice
      rw [List.length_map] at G
      (try rw [List.length_map])
      refine hK_ _ _ (fun _ => G.sub (by simp)) (fun hR_ => ?_)
      replace hR_ := hR_ (by decide)
      simp only [List.getElem_toArray, List.getElem_cons_zero, List.getElem_cons_succ, Act.put, List.setIfInBounds_toArray, List.set_cons_zero, List.set_cons_succ]
      refine wpL_do (i := 7) rfl (by kernel_rfl) (by rfl) (fun K_ hK_ => ?_)
      refine wp_pushP (S := fun k => k ≠ gA ∧ k ≠ W.heap.size) (ds := d.ctors.map Ct.d) (d := Ct.d ⟨0, aboveT 4 [aboveT 4 [v18T V] sort18T] (self18T 0)⟩) (.tmp 151) (.tmp 154) 35 rfl stCts18 (by go_simp <;> first | rfl | exact ⟨rfl, rfl⟩) (by go_simp <;> first | rfl | exact ⟨rfl, rfl⟩) G (by (repeat (first | with_reducible exact Pick.head | with_reducible apply Pick.tail))) (by (repeat (first | with_reducible exact Pick.head | with_reducible apply Pick.tail))) (HARG.out.ext0 G.ext) (Ct.size_d _) ?_ ?_
      focus (have := HCL.out; simp [M]; omega)
      clear G; intro v2 w9 G
      obtain ⟨A7, c7, rfl⟩ := (G.rpAt (S := fun k => k ≠ gA ∧ k ≠ W.heap.size) (v := v2) (by (repeat (first | with_reducible exact Pick.head | with_reducible apply Pick.tail)))).slice
      rw [show (d.ctors.map Ct.d ++ [Ct.d ⟨0, aboveT 4 [aboveT 4 [v18T V] sort18T] (self18T 0)⟩]).length = d.ctors.length + 1 by simp] at G
      (try rw [show (d.ctors.map Ct.d ++ [Ct.d ⟨0, aboveT 4 [aboveT 4 [v18T V] sort18T] (self18T 0)⟩]).length = d.ctors.length + 1 by simp])
      refine hK_ _ _ (fun _ => G.sub (by simp)) (fun hR_ => ?_)
      replace hR_ := hR_ (by decide)
      simp only [List.getElem_toArray, List.getElem_cons_zero, List.getElem_cons_succ, Act.put, List.setIfInBounds_toArray, List.set_cons_zero, List.set_cons_succ]
      refine wpL_reads (is := [(8, ?v3_0)]) (by kernel_rfl) (Nat.le_of_ble_eq_true rfl) (by intro _ _ d_ _ _ h_; cases d_ <;> exact h_) (by kernel_rfl) hR_ (fun w_ hw_ => ?h3_) ?_
      case h3_ =>
        have ho_ := hw_.old0.1; have hz_ := hw_.old0.2; have hr_ := hw_.rules; clear hw_; simp only [Rules, and_true] at hr_; go_split_ands
        (repeat (first | with_reducible exact RdOps.nil | (refine RdOps.run rfl (by rfl) ?_ ?_; (focus (first | (go_simp; done) | (go_simp; with_reducible rfl))); simp only [List.getElem_toArray, List.getElem_cons_zero, List.getElem_cons_succ, Act.put, List.setIfInBounds_toArray, List.set_cons_zero, List.set_cons_succ]) | (refine RdOps.skip rfl (by rfl) ?_ ?_; (focus (with_reducible rfl)); simp only [List.getElem_toArray, List.getElem_cons_zero, List.getElem_cons_succ, Act.put, List.setIfInBounds_toArray, List.set_cons_zero, List.set_cons_succ])))
      simp only [rdMark, rdAct, List.map_cons, List.map_nil, List.length_cons, List.length_nil, Nat.reduceAdd, Nat.reduceSub, Nat.zero_add, List.getElem?_toArray, List.getElem?_cons_zero, List.getElem?_cons_succ, Option.bind_some, Act.put, List.setIfInBounds_toArray, List.set_cons_zero, List.set_cons_succ]
      refine wpL_do (i := 9) rfl (by kernel_rfl) (by rfl) (fun K_ hK_ => ?_)
      have b18g := HB18.out.ext0 G.ext
      have q18 := b18g.cells 15
      have f18 := b18g.frz
      have l18 := b18g.lt
      have hrp := (G.rpAt (S := fun k => k ≠ gA ∧ k ≠ W.heap.size) (v := .slice A7 (d.ctors.length + 1) c7) (by (repeat (first | with_reducible exact Pick.head | with_reducible apply Pick.tail)))).rc
      have HRP := Lib.hid hrp
      go_simp
      clear hrp
      refine hK_ _ _ (fun h => absurd (by decide) h) (fun _ => ?_)
      refine wpL_done (by kernel_rfl) ?_ _
      repeat ((fail_if_success (with_reducible (first | show Code.wp _ (Code.seq (Code.region 26 _ _) _) _ _ _ | show Code.wp _ (Code.seq (Code.seq (Code.region 26 _ _) _) _) _ _ _))); go_step)
      exact spC3 HT.out HX.out HE5.out G.ext HA.out HGA.out.1 HGA.out.2 HGD.out.1 HGD.out.2 HD.out HBD.out b18g HRP.out hl18 HSM.out HSMD.out HI1.out HN9.out ha hp9 HCL.out HIS.out HK.out HV.out
  · refine wpOp_do (i := 6) rfl (by rfl) (fun K_ hK_ => ?_)
    go_simp
    refine kontH (by (repeat (first | with_reducible exact G | with_reducible exact H0_ | with_reducible apply Hp.alloc | with_reducible apply Hp.allocMap | with_reducible apply Hp.drew | with_reducible apply Hp.drewN | with_reducible apply Hp.set)); (try any_goals (repeat (first | with_reducible exact Upd.head | with_reducible apply Upd.tail)))) ?_
    clear G; intro wb_ G; (try simp only [size_drew_, size_drewN_, World.size_alloc, World.size_setCell, List.set_cons_zero, List.set_cons_succ] at G)
    refine hK_ _ _ (fun _ => G.sub (by simp)) (fun hR_ => ?_)
    replace hR_ := hR_ (by decide)
    refine wpL_do (i := 0) rfl (by kernel_rfl) (by rfl) (fun K_ hK_ => ?_)
    go_simp
    refine kontH (by (repeat (first | with_reducible exact G | with_reducible exact H0_ | with_reducible apply Hp.alloc | with_reducible apply Hp.allocMap | with_reducible apply Hp.drew | with_reducible apply Hp.drewN | with_reducible apply Hp.set)); (try any_goals (repeat (first | with_reducible exact Upd.head | with_reducible apply Upd.tail)))) ?_
    clear G; intro wb_ G; (try simp only [size_drew_, size_drewN_, World.size_alloc, World.size_setCell, List.set_cons_zero, List.set_cons_succ] at G)
    replace G := G.rpBox0 (S := fun k => k ≠ gA ∧ k ≠ W.heap.size) (e := 40) (z := 6) (by (repeat (first | with_reducible exact Pick.head | with_reducible apply Pick.tail)))
    refine hK_ _ _ (fun _ => G.sub (by simp)) (fun hR_ => ?_)
    replace hR_ := hR_ (by decide)
    refine wpL_do (i := 3) rfl (by kernel_rfl) (by rfl) (fun K_ hK_ => ?_)
    refine wp_pushPs (S := fun k => k ≠ gA ∧ k ≠ W.heap.size) (ds := []) (.tmp 148) (.tmp 150) 35 rfl stCts18 (by go_simp <;> first | rfl | exact ⟨rfl, rfl⟩) (by go_simp <;> first | rfl | exact ⟨rfl, rfl⟩) G (by (repeat (first | with_reducible exact Pick.head | with_reducible apply Pick.tail))) (HCT5.out.ext0 G.ext) ?_ ?_
    focus (have := HCL.out; simp [M]; omega)
    clear G; intro v1 w8 G
    rw [List.nil_append] at G
    obtain ⟨A6, c6, rfl⟩ := (G.rpAt (S := fun k => k ≠ gA ∧ k ≠ W.heap.size) (v := v1) (by (repeat (first | with_reducible exact Pick.head | with_reducible apply Pick.tail)))).slice
    rw [List.length_map] at G
    (try rw [List.length_map])
    refine hK_ _ _ (fun _ => G.sub (by simp)) (fun hR_ => ?_)
    replace hR_ := hR_ (by decide)
    simp only [List.getElem_toArray, List.getElem_cons_zero, List.getElem_cons_succ, Act.put, List.setIfInBounds_toArray, List.set_cons_zero, List.set_cons_succ]
    refine wpL_do (i := 7) rfl (by kernel_rfl) (by rfl) (fun K_ hK_ => ?_)
    refine wp_pushP (S := fun k => k ≠ gA ∧ k ≠ W.heap.size) (ds := d.ctors.map Ct.d) (d := Ct.d ⟨0, aboveT 4 [aboveT 4 [v18T V] sort18T] (self18T 0)⟩) (.tmp 151) (.tmp 154) 35 rfl stCts18 (by go_simp <;> first | rfl | exact ⟨rfl, rfl⟩) (by go_simp <;> first | rfl | exact ⟨rfl, rfl⟩) G (by (repeat (first | with_reducible exact Pick.head | with_reducible apply Pick.tail))) (by (repeat (first | with_reducible exact Pick.head | with_reducible apply Pick.tail))) (HARG.out.ext0 G.ext) (Ct.size_d _) ?_ ?_
    focus (have := HCL.out; simp [M]; omega)
    clear G; intro v2 w9 G
    obtain ⟨A7, c7, rfl⟩ := (G.rpAt (S := fun k => k ≠ gA ∧ k ≠ W.heap.size) (v := v2) (by (repeat (first | with_reducible exact Pick.head | with_reducible apply Pick.tail)))).slice
    rw [show (d.ctors.map Ct.d ++ [Ct.d ⟨0, aboveT 4 [aboveT 4 [v18T V] sort18T] (self18T 0)⟩]).length = d.ctors.length + 1 by simp] at G
    (try rw [show (d.ctors.map Ct.d ++ [Ct.d ⟨0, aboveT 4 [aboveT 4 [v18T V] sort18T] (self18T 0)⟩]).length = d.ctors.length + 1 by simp])
    refine hK_ _ _ (fun _ => G.sub (by simp)) (fun hR_ => ?_)
    replace hR_ := hR_ (by decide)
    simp only [List.getElem_toArray, List.getElem_cons_zero, List.getElem_cons_succ, Act.put, List.setIfInBounds_toArray, List.set_cons_zero, List.set_cons_succ]
    refine wpL_reads (is := [(8, ?v4_0)]) (by kernel_rfl) (Nat.le_of_ble_eq_true rfl) (by intro _ _ d_ _ _ h_; cases d_ <;> exact h_) (by kernel_rfl) hR_ (fun w_ hw_ => ?h4_) ?_
    case h4_ =>
      have ho_ := hw_.old0.1; have hz_ := hw_.old0.2; have hr_ := hw_.rules; clear hw_; simp only [Rules, and_true] at hr_; go_split_ands
      (repeat (first | with_reducible exact RdOps.nil | (refine RdOps.run rfl (by rfl) ?_ ?_; (focus (first | (go_simp; done) | (go_simp; with_reducible rfl))); simp only [List.getElem_toArray, List.getElem_cons_zero, List.getElem_cons_succ, Act.put, List.setIfInBounds_toArray, List.set_cons_zero, List.set_cons_succ]) | (refine RdOps.skip rfl (by rfl) ?_ ?_; (focus (with_reducible rfl)); simp only [List.getElem_toArray, List.getElem_cons_zero, List.getElem_cons_succ, Act.put, List.setIfInBounds_toArray, List.set_cons_zero, List.set_cons_succ])))
    simp only [rdMark, rdAct, List.map_cons, List.map_nil, List.length_cons, List.length_nil, Nat.reduceAdd, Nat.reduceSub, Nat.zero_add, List.getElem?_toArray, List.getElem?_cons_zero, List.getElem?_cons_succ, Option.bind_some, Act.put, List.setIfInBounds_toArray, List.set_cons_zero, List.set_cons_succ]
    refine wpL_do (i := 9) rfl (by kernel_rfl) (by rfl) (fun K_ hK_ => ?_)
    have b18g := HB18.out.ext0 G.ext
    have q18 := b18g.cells 15
    have f18 := b18g.frz
    have l18 := b18g.lt
    have hrp := (G.rpAt (S := fun k => k ≠ gA ∧ k ≠ W.heap.size) (v := .slice A7 (d.ctors.length + 1) c7) (by (repeat (first | with_reducible exact Pick.head | with_reducible apply Pick.tail)))).rc
    have HRP := Lib.hid hrp
    go_simp
    clear hrp
    refine hK_ _ _ (fun h => absurd (by decide) h) (fun _ => ?_)
    refine wpL_done (by kernel_rfl) ?_ _
    repeat ((fail_if_success (with_reducible (first | show Code.wp _ (Code.seq (Code.region 26 _ _) _) _ _ _ | show Code.wp _ (Code.seq (Code.seq (Code.region 26 _ _) _) _) _ _ _))); go_step)
    exact spC3 HT.out HX.out HE5.out G.ext HA.out HGA.out.1 HGA.out.2 HGD.out.1 HGD.out.2 HD.out HBD.out b18g HRP.out hl18 HSM.out HSMD.out HI1.out HN9.out ha hp9 HCL.out HIS.out HK.out HV.out
end Go.Proofs.YtmedomglemllnaaDoor
