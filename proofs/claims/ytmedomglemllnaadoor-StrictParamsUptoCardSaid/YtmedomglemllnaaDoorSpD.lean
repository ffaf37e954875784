/- StrictParams: from the constructors' number on. No statement of the seat is proved here. -/
import Derived.Test.YtmedomglemllnaaDoorSpF
namespace Go.Proofs.YtmedomglemllnaaDoor
set_option linter.unusedSimpArgs false
set_option linter.unusedVariables false
open Go.RowKit

theorem sizeCtS (w : World) : (Go.sizeOf (Tryd.prog.elem 35)).run Tryd.prog w = .ok 6 w := by kernel_rfl
theorem elemCtS : Tryd.prog.underlying 35 = some (.slice (Tryd.prog.elem 35)) := by kernel_rfl
theorem runSufCt (A : Option Addr) {n c i : Nat} (hi : i ≤ n) (hn : n ≤ c) (w : World) : (Instr.sliceAt 35 (.slice A n c) (some (.int .i64 (i : Int))) none none).run Tryd.prog w = .ok (.slice (sufAd A c i 6) (n - i) (c - i)) w := by
  rw [run_sliceAt_slice w 35 _ _ _ _ elemCtS, run_slice_l w 35 _ _ _ elemCtS .i64 _ (by omega) (by omega), sizeCtS]
  simp [Result.andThen, sliced, sufAd]
theorem runPreCt (A : Option Addr) {n c i : Nat} (hi : i ≤ n) (hn : n ≤ c) (w : World) : (Instr.sliceAt 35 (.slice A n c) none (some (.int .i64 (i : Int))) none).run Tryd.prog w = .ok (.slice A i c) w := by
  rw [run_sliceAt_slice w 35 _ _ _ _ elemCtS, run_slice_h w 35 _ _ _ elemCtS .i64 _ (by omega) (by omega), sizeCtS]
  have e : (Option.map (fun x => Addr.add x (0 * 6)) A) = A := by cases A with
    | none => rfl
    | some a => cases a; simp [Addr.add]
  simp [Result.andThen, sliced, e]
theorem drop_at {n : Nat} (drop : Int) (h0 : n ≠ 0) (h1 : n ≤ 4000000) : ∃ k : Nat, (IntKind.i64.wrap (drop.tmod (n : Int) + (n : Int))).tmod (n : Int) = (k : Int) ∧ k < n := by
  have a1 := Int.tmod_lt_of_pos drop (show (0 : Int) < n by omega)
  have a2 := Int.lt_tmod_of_pos drop (show (0 : Int) < n by omega)
  have e : IntKind.i64.wrap (drop.tmod (n : Int) + (n : Int)) = drop.tmod (n : Int) + (n : Int) := by rw [IntKind.wrap_i64]; omega
  rw [e]
  have b1 := Int.tmod_nonneg (n : Int) (show (0 : Int) ≤ drop.tmod (n : Int) + (n : Int) by omega)
  have b2 := Int.tmod_lt_of_pos (drop.tmod (n : Int) + (n : Int)) (show (0 : Int) < n by omega)
  exact ⟨((drop.tmod (n : Int) + (n : Int)).tmod (n : Int)).toNat, by omega, by omega⟩
abbrev lessD (d : Dc) (k : Nat) : Dc := ⟨d.kind, d.levels, d.ty, d.body, d.params, d.sort, d.members, d.ctors.take k ++ d.ctors.drop (k + 1)⟩
set_option maxRecDepth 100000 in
set_option maxHeartbeats 8000000 in
theorem spD3 {w W W5 w9 : World} {S1 : Nat → Prop} {ds : List Dc} {d d2 : Dc} {A0 A7 : Option Addr} {c c7 gA cA gd : Nat} {Aty Kty Abody Kbody Aparams Asort Amembers Actors : Option Addr} {cty kty cbody kbody cparams csort cmembers cctors : Nat} {a : Nat} {drop : Int} {kk N7 g21 : Nat} {is : Bool} {x1 x4 x6 x7 x8 x12 x13 x14 x15 x16 x17 x18 x19 x20 x22 x23 x24 x25 x26 x27 x28 x29 x30 x31 x32 x33 x34 x35 x36 x37 x38 x39 x40 x41 x42 x43 x44 x45 x46 x47 x48 x49 x50 x51 x52 x53 x54 x55 x56 x57 x58 x59 x60 x61 x62 x63 x64 x65 x66 x67 x68 x69 x70 x71 x72 x73 x74 x75 x76 x77 x78 x79 x80 x81 x82 x83 x84 x85 x86 x87 x88 x89 x90 x91 x92 x93 x94 x95 x96 x97 x98 x99 x100 x101 x102 x103 x104 x105 x106 x107 x108 x109 x110 x111 x112 x113 x114 x115 x116 x117 x118 x119 x120 x121 x122 x123 x124 x125 x126 x127 x128 x129 x130 x131 x132 x133 x134 x135 x136 x137 x138 x139 x140 x141 x142 x143 x144 x145 x146 x147 x148 x149 x150 x151 x152 x153 x154 x155 x156 x157 x158 x159 x160 x161 x162 x163 x164 x165 x166 x167 x168 x169 x170 x171 x172 x173 x174 x175 x176 x177 x178 x179 x180 x181 x182 x183 x184 x185 x186 x187 x188 x189 x190 x191 x192 x193 x194 x195 x196 x197 x198 x199 x200 x201 x202 x203 x204 x205 x206 x207 : Value}
    (hT : Tab w) (hx : Ext no w W) (h5 : Ext no W W5) (h9 : Ext no W5 w9) (hA : AllR W w.heap.size gA cA ds d2) (hgA : w.heap.size ≤ gA) (hgA2 : gA < W.heap.size) (hgd : w.heap.size ≤ gd) (hne : gd ≠ gA) (hd : RC w S1 d.d [.int .i64 d.kind, .int .i64 d.levels, .int .i64 d.ty.k, .int .i64 d.ty.n, .int .i64 d.ty.a, .slice Aty d.ty.ls.length cty, .slice Kty d.ty.ks.length kty, .int .i64 d.body.k, .int .i64 d.body.n, .int .i64 d.body.a, .slice Abody d.body.ls.length cbody, .slice Kbody d.body.ks.length kbody, .slice Aparams d.params.length cparams, .slice Asort d.sort.length csort, .slice Amembers d.members.length cmembers, .slice Actors d.ctors.length cctors]) (hbd : Blk W gd 37 [.int .i64 d.kind, .int .i64 d.levels, .int .i64 d.ty.k, .int .i64 d.ty.n, .int .i64 d.ty.a, .slice Aty d.ty.ls.length cty, .slice Kty d.ty.ks.length kty, .int .i64 d.body.k, .int .i64 d.body.n, .int .i64 d.body.a, .slice Abody d.body.ls.length cbody, .slice Kbody d.body.ks.length kbody, .slice Aparams d.params.length cparams, .slice Asort d.sort.length csort, .slice Amembers d.members.length cmembers, .slice Actors d.ctors.length cctors].toArray) (hg21 : W.heap.size ≤ g21) (b18g : Blk w9 g21 37 [.int .i64 d.kind, .int .i64 d.levels, .int .i64 d.ty.k, .int .i64 d.ty.n, .int .i64 d.ty.a, .slice Aty d.ty.ls.length cty, .slice Kty d.ty.ks.length kty, .int .i64 d.body.k, .int .i64 d.body.n, .int .i64 d.body.a, .slice Abody d.body.ls.length cbody, .slice Kbody d.body.ks.length kbody, .slice Aparams d.params.length cparams, .slice Asort d.sort.length csort, .slice Amembers d.members.length cmembers, .slice Actors d.ctors.length cctors].toArray)
    (hrp : RC w9 (fun k => ((k ≠ gA ∧ k ≠ g21) ∧ k < W5.heap.size) ∨ W5.heap.size ≤ k) (.l 40 6 ((d.ctors.take kk).map Ct.d ++ (d.ctors.drop (kk + 1)).map Ct.d)) [.slice A7 N7 c7]) (hl18 : g21 < W5.heap.size) (sm : ∀ x ∈ ds, SmDc x) (smd : SmDc d) (hi1 : inI drop) (hln : ds.length ≤ 1048576)
    (ha : a < d.params.length) (hp9 : d.params.length ≤ 4000000) (hcl : d.ctors.length ≤ 4000000) (his : is = parQ (ds ++ [d]) ds.length a) (hk : d.kind = 3) (hN7 : N7 = (lessD d kk).ctors.length) :
    (fromF 34 (Tryd.f4.body.getD .skip)).wp Tryd.prog (bodyPost Tryd.prog Tryd.f4 (PV w (.bool true))) { tmps := #[.slice A0 ds.length c, x1, .int .i64 (a : Int), .int .i64 drop, x4, .pointer (some ⟨gd, 0, none⟩), x6, x7, x8, .slice (some ⟨gA, 0, none⟩) (ds.length + 1) cA, .int .i64 (ds.length : Int), .bool is, x12, x13, x14, x15, x16, x17, x18, x19, x20, .pointer (some ⟨g21, 0, none⟩), x22, x23, x24, x25, x26, x27, x28, x29, x30, x31, x32, x33, x34, x35, x36, x37, x38, x39, x40, x41, x42, x43, x44, x45, x46, x47, x48, x49, x50, x51, x52, x53, x54, x55, x56, x57, x58, x59, x60, x61, x62, x63, x64, x65, x66, x67, x68, x69, x70, x71, x72, x73, x74, x75, x76, x77, x78, x79, x80, x81, x82, x83, x84, x85, x86, x87, x88, x89, x90, x91, x92, x93, x94, x95, x96, x97, x98, x99, x100, x101, x102, x103, x104, x105, x106, x107, x108, x109, x110, x111, x112, x113, x114, x115, x116, x117, x118, x119, x120, x121, x122, x123, x124, x125, x126, x127, x128, x129, x130, x131, x132, x133, x134, x135, x136, x137, x138, x139, x140, x141, x142, x143, x144, x145, x146, x147, x148, x149, x150, x151, x152, x153, x154, x155, x156, x157, x158, x159, x160, x161, x162, x163, x164, x165, x166, x167, x168, x169, x170, x171, x172, x173, x174, x175, x176, x177, x178, x179, x180, x181, x182, x183, x184, x185, x186, x187, x188, x189, x190, x191, x192, x193, x194, x195, x196, x197, x198, x199, x200, x201, x202, x203, x204, x205, x206, x207], defers := [] } (w9.setCell ⟨g21, 15, none⟩ (.slice A7 N7 c7)) := by
  obtain ⟨W6, hW6⟩ : ∃ W6, W6 = w9.setCell ⟨g21, 15, none⟩ (.slice A7 N7 c7) := ⟨_, rfl⟩
  have hX6 : Ext (fun k => k = g21) w9 W6 := by
    rw [hW6]
    exact Ext.setL (X := fun k => k = g21) (p := ⟨g21, 15, none⟩) (Ext.refl _ _) rfl _
  have hb6 : Blk W6 g21 37 [.int .i64 d.kind, .int .i64 d.levels, .int .i64 d.ty.k, .int .i64 d.ty.n, .int .i64 d.ty.a, .slice Aty d.ty.ls.length cty, .slice Kty d.ty.ks.length kty, .int .i64 d.body.k, .int .i64 d.body.n, .int .i64 d.body.a, .slice Abody d.body.ls.length cbody, .slice Kbody d.body.ks.length kbody, .slice Aparams d.params.length cparams, .slice Asort d.sort.length csort, .slice Amembers d.members.length cmembers, .slice A7 (lessD d kk).ctors.length c7].toArray := by
    have := b18g.set 15 (.slice A7 N7 c7)
    rw [hW6, ← hN7]
    simpa using this
  rw [← hW6]
  have hx9 := hx.seq (h5.seq h9)
  have hx6 : Ext no w W6 := hx9.old hX6 (fun i hi e => by have := hx.size; omega)
  have hsw := hx.size
  have hs5 := h5.size
  have hs9 := h9.size
  have hs6 := hX6.size
  obtain ⟨es, c2, sp, k1, k2, k3, k4, k5, k6, k7⟩ := hA
  have hlast : RC W6 (fun k => k ≠ gA) (.l 40 6 ((lessD d kk).ctors.map Ct.d)) [.slice A7 (lessD d kk).ctors.length c7] := by
    rw [← hN7, List.map_append]
    refine RC.frame (Nat.le_refl _) (fun k _ hk e => ?_) (fun _ _ _ => rfl) _ _ (hrp.ext hX6 (fun k _ hk e => ?_))
    · rcases hk with hk | hk
      · exact hk.1.1 e
      · omega
    · rcases hk with hk | hk
      · exact hk.1.2 e
      · omega
  have hold : ∀ {dd : D} {cc : List Value}, RC w S1 dd cc → RC W6 (fun k => k ≠ gA) dd cc := fun h => RC.frame hx6.size (fun k hk _ e => by omega) (fun k hk _ => hx6.block k hk no_not) _ _ h
  have hpe : is = true → parQ (ds ++ [lessD d kk]) ds.length a = true := fun h => params_less (k := kk) (by rw [← his]; exact h)
  have hsme : SmDc (lessD d kk) := ⟨fun c hc => by
    rcases List.mem_append.1 hc with hc | hc
    · exact smd.ct c (List.mem_of_mem_take hc)
    · exact smd.ct c (List.mem_of_mem_drop hc), smd.mb, smd.pa⟩
  obtain ⟨_, _, _, _, _, _, _, _, _, _, _, _, _, _, _, _, he, z0, z1, z2, z3, z4, z5, z6, _⟩ := RC.dc.1 hd
  simp only [List.cons.injEq, Value.slice.injEq, and_true, true_and] at he
  obtain ⟨⟨rfl, rfl⟩, ⟨rfl, rfl⟩, ⟨rfl, rfl⟩, ⟨rfl, rfl⟩, ⟨rfl, rfl⟩, ⟨rfl, rfl⟩, ⟨rfl, rfl⟩, rfl, rfl⟩ := he
  have hleft : RC W6 (fun k => k ≠ gA) (lessD d kk).d [.int .i64 d.kind, .int .i64 d.levels, .int .i64 d.ty.k, .int .i64 d.ty.n, .int .i64 d.ty.a, .slice Aty d.ty.ls.length cty, .slice Kty d.ty.ks.length kty, .int .i64 d.body.k, .int .i64 d.body.n, .int .i64 d.body.a, .slice Abody d.body.ls.length cbody, .slice Kbody d.body.ks.length kbody, .slice Aparams d.params.length cparams, .slice Asort d.sort.length csort, .slice Amembers d.members.length cmembers, .slice A7 (lessD d kk).ctors.length c7] := RC.dc.2 ⟨Aty, cty, Kty, kty, Abody, cbody, Kbody, kbody, Aparams, cparams, Asort, csort, Amembers, cmembers, A7, c7, rfl, z0, z1, hold z2, hold z3, hold z4, hold z5, hold z6, hlast⟩
  have hb : Blk W6 gA 37 (es ++ (c2 ++ sp)).toArray := (hX6.block gA (by omega) (by omega)).trans ((k1.ext0 h5).ext0 h9)
  have hbd6 : Blk W6 gd 37 [.int .i64 d.kind, .int .i64 d.levels, .int .i64 d.ty.k, .int .i64 d.ty.n, .int .i64 d.ty.a, .slice Aty d.ty.ls.length cty, .slice Kty d.ty.ks.length kty, .int .i64 d.body.k, .int .i64 d.body.n, .int .i64 d.body.a, .slice Abody d.body.ls.length cbody, .slice Kbody d.body.ks.length kbody, .slice Aparams d.params.length cparams, .slice Asort d.sort.length csort, .slice Amembers d.members.length cmembers, .slice Actors d.ctors.length cctors].toArray := (hX6.block gd (by have := hbd.lt; omega) (by have := hbd.lt; omega)).trans ((hbd.ext0 h5).ext0 h9)
  have k3' : RCs W6 (fun k => k < w.heap.size) (ds.map Dc.d) es := RCs.frame (by omega) (fun _ _ h => h) (fun k hk hS => (hx6.block k hS no_not).trans (hx.block k hS no_not).symm) _ _ k3
  exact spD2 (e := lessD d kk) hT hx6 hb k2 ((RC.len _ _ k4).trans (Dc.size_d d2)) k3' k5 k6 k7 hgA (by omega) hgd hne (by omega) (by omega) hleft hb6 hd hbd6 sm smd hsme hi1 hln ha hp9 hcl his hk hk ha hpe
set_option maxRecDepth 100000 in
set_option maxHeartbeats 32000000 in
theorem spD {w W : World} {S1 : Nat → Prop} {ds : List Dc} {d d2 : Dc} {A0 : Option Addr} {c gA cA gd : Nat} {Aty Kty Abody Kbody Aparams Asort Amembers Actors : Option Addr} {cty kty cbody kbody cparams csort cmembers cctors : Nat} {a : Nat} {drop : Int} {is : Bool} {x1 x4 x6 x7 x8 x12 x13 x14 x15 x16 x17 x18 x19 x20 x21 x22 x23 x24 x25 x26 x27 x28 x29 x30 x31 x32 x33 x34 x35 x36 x37 x38 x39 x40 x41 x42 x43 x44 x45 x46 x47 x48 x49 x50 x51 x52 x53 x54 x55 x56 x57 x58 x59 x60 x61 x62 x63 x64 x65 x66 x67 x68 x69 x70 x71 x72 x73 x74 x75 x76 x77 x78 x79 x80 x81 x82 x83 x84 x85 x86 x87 x88 x89 x90 x91 x92 x93 x94 x95 x96 x97 x98 x99 x100 x101 x102 x103 x104 x105 x106 x107 x108 x109 x110 x111 x112 x113 x114 x115 x116 x117 x118 x119 x120 x121 x122 x123 x124 x125 x126 x127 x128 x129 x130 x131 x132 x133 x134 x135 x136 x137 x138 x139 x140 x141 x142 x143 x144 x145 x146 x147 x148 x149 x150 x151 x152 x153 x154 x155 x156 x157 x158 x159 x160 x161 x162 x163 x164 x165 x166 x167 x168 x169 x170 x171 x172 x173 x174 x175 x176 x177 x178 x179 x180 x181 x182 x183 x184 x185 x186 x187 x188 x189 x190 x191 x192 x193 x194 x195 x196 x197 x198 x199 x200 x201 x202 x203 x204 x205 x206 x207 : Value}
    (hT : Tab w) (hx : Ext no w W) (hA : AllR W w.heap.size gA cA ds d2) (hgA : w.heap.size ≤ gA) (hgA2 : gA < W.heap.size) (hgd : w.heap.size ≤ gd) (hne : gd ≠ gA) (hd : RC w S1 d.d [.int .i64 d.kind, .int .i64 d.levels, .int .i64 d.ty.k, .int .i64 d.ty.n, .int .i64 d.ty.a, .slice Aty d.ty.ls.length cty, .slice Kty d.ty.ks.length kty, .int .i64 d.body.k, .int .i64 d.body.n, .int .i64 d.body.a, .slice Abody d.body.ls.length cbody, .slice Kbody d.body.ks.length kbody, .slice Aparams d.params.length cparams, .slice Asort d.sort.length csort, .slice Amembers d.members.length cmembers, .slice Actors d.ctors.length cctors]) (hbd : Blk W gd 37 [.int .i64 d.kind, .int .i64 d.levels, .int .i64 d.ty.k, .int .i64 d.ty.n, .int .i64 d.ty.a, .slice Aty d.ty.ls.length cty, .slice Kty d.ty.ks.length kty, .int .i64 d.body.k, .int .i64 d.body.n, .int .i64 d.body.a, .slice Abody d.body.ls.length cbody, .slice Kbody d.body.ks.length kbody, .slice Aparams d.params.length cparams, .slice Asort d.sort.length csort, .slice Amembers d.members.length cmembers, .slice Actors d.ctors.length cctors].toArray) (sm : ∀ x ∈ ds, SmDc x) (smd : SmDc d) (hi1 : inI drop) (hln : ds.length ≤ 1048576)
    (ha : a < d.params.length) (hp9 : d.params.length ≤ 4000000) (hcl : d.ctors.length ≤ 4000000) (his : is = parQ (ds ++ [d]) ds.length a) (hk : d.kind = 3) :
    (fromF 29 (Tryd.f4.body.getD .skip)).wp Tryd.prog (bodyPost Tryd.prog Tryd.f4 (PV w (.bool true))) { tmps := #[.slice A0 ds.length c, x1, .int .i64 (a : Int), .int .i64 drop, x4, .pointer (some ⟨gd, 0, none⟩), x6, x7, x8, .slice (some ⟨gA, 0, none⟩) (ds.length + 1) cA, .int .i64 (ds.length : Int), .bool is, x12, x13, x14, x15, x16, x17, x18, x19, x20, x21, x22, x23, x24, x25, x26, x27, x28, x29, x30, x31, x32, x33, x34, x35, x36, x37, x38, x39, x40, x41, x42, x43, x44, x45, x46, x47, x48, x49, x50, x51, x52, x53, x54, x55, x56, x57, x58, x59, x60, x61, x62, x63, x64, x65, x66, x67, x68, x69, x70, x71, x72, x73, x74, x75, x76, x77, x78, x79, x80, x81, x82, x83, x84, x85, x86, x87, x88, x89, x90, x91, x92, x93, x94, x95, x96, x97, x98, x99, x100, x101, x102, x103, x104, x105, x106, x107, x108, x109, x110, x111, x112, x113, x114, x115, x116, x117, x118, x119, x120, x121, x122, x123, x124, x125, x126, x127, x128, x129, x130, x131, x132, x133, x134, x135, x136, x137, x138, x139, x140, x141, x142, x143, x144, x145, x146, x147, x148, x149, x150, x151, x152, x153, x154, x155, x156, x157, x158, x159, x160, x161, x162, x163, x164, x165, x166, x167, x168, x169, x170, x171, x172, x173, x174, x175, x176, x177, x178, x179, x180, x181, x182, x183, x184, x185, x186, x187, x188, x189, x190, x191, x192, x193, x194, x195, x196, x197, x198, x199, x200, x201, x202, x203, x204, x205, x206, x207], defers := [] } W := by
  have HD := Lib.hid hd
  have HBD := Lib.hid hbd
  have HT := Lib.hid hT
  have HX := Lib.hid hx
  have HA := Lib.hid hA
  have HSM := Lib.hid sm
  have HSMD := Lib.hid smd
  have HI1 := Lib.hid hi1
  have HN9 := Lib.hid hln
  have HGA := Lib.hid (And.intro hgA hgA2)
  have HGD := Lib.hid (And.intro hgd hne)
  have HIS := Lib.hid his
  have HK := Lib.hid hk
  have HCL := Lib.hid hcl
  have u15 : W.cell? ⟨gd, 15, none⟩ = some (.slice Actors d.ctors.length cctors) := hbd.cells 15
  have lb := hbd.lt
  clear hT hx hA hgA hgA2 hgd hne hd hbd sm smd hln his hk
  conv => arg 2; whnf
  by_cases hn0 : d.ctors.length = 0
  · have hn1 : ((d.ctors.length : Int) == 0) = true := by rw [hn0]; rfl
    go_wp2_with fail
    go_ret
    exact ⟨rfl, HX.out⟩
  · have hn1 : ((d.ctors.length : Int) == 0) = false := by rw [beq_eq_false_iff_ne]; omega
    have hn2 : ¬ ((d.ctors.length : Int) = 0) := by omega
    have H := Hp.start no W
    have hr_ := H.rules; simp only [Rules, and_true] at hr_; have hd_ := H.dif; simp only [Dif, Neq, and_true] at hd_; obtain ⟨ho_, hz_⟩ := H.old0
    go_wp2_with fail
    (try clear hr_ hd_ ho_ hz_)
    refine regionH (by (repeat (first | with_reducible exact H | with_reducible exact H0_ | with_reducible apply Hp.alloc | with_reducible apply Hp.allocMap | with_reducible apply Hp.drew | with_reducible apply Hp.drewN | with_reducible apply Hp.set)); (try any_goals (repeat (first | with_reducible exact Upd.head | with_reducible apply Upd.tail)))) ?_
    clear H; intro W1 H; (try simp only [size_drew_, size_drewN_, World.size_alloc, World.size_setCell, List.set_cons_zero, List.set_cons_succ] at H)
    refine wp_region_H 14 [false, false, false, false, false, false, false, false, false, false, false, false, false, false] [] H .nil (by kernel_rfl) rfl rfl (fun H_ hR_ => ?_)
    (try clear H0_); have H0_ := H; clear H; have H := H_; clear H_
    refine wpL_reads (is := [(0, ?v1_0), (1, ?v1_1), (2, ?v1_2), (3, ?v1_3), (4, ?v1_4), (5, ?v1_5), (6, ?v1_6), (7, ?v1_7), (8, ?v1_8), (9, ?v1_9), (10, ?v1_10), (11, ?v1_11), (12, ?v1_12), (13, ?v1_13)]) (by kernel_rfl) (Nat.le_of_ble_eq_true rfl) (by intro _ _ d_ _ _ h_; cases d_ <;> exact h_) (by kernel_rfl) hR_ (fun w_ hw_ => ?h1_) ?_
    case h1_ =>
      have ho_ := hw_.old0.1; have hz_ := hw_.old0.2; have hr_ := hw_.rules; clear hw_; simp only [Rules, and_true] at hr_; go_split_ands
      (repeat (first | with_reducible exact RdOps.nil | (refine RdOps.run rfl (by rfl) ?_ ?_; (focus (first | (go_simp; done) | (go_simp; with_reducible rfl))); simp only [List.getElem_toArray, List.getElem_cons_zero, List.getElem_cons_succ, Act.put, List.setIfInBounds_toArray, List.set_cons_zero, List.set_cons_succ]) | (refine RdOps.skip rfl (by rfl) ?_ ?_; (focus (with_reducible rfl)); simp only [List.getElem_toArray, List.getElem_cons_zero, List.getElem_cons_succ, Act.put, List.setIfInBounds_toArray, List.set_cons_zero, List.set_cons_succ])))
    simp only [rdMark, rdAct, List.map_cons, List.map_nil, List.length_cons, List.length_nil, Nat.reduceAdd, Nat.reduceSub, Nat.zero_add, List.getElem?_toArray, List.getElem?_cons_zero, List.getElem?_cons_succ, Option.bind_some, Act.put, List.setIfInBounds_toArray, List.set_cons_zero, List.set_cons_succ]
    refine wpL_done (by kernel_rfl) ?_ _
    obtain ⟨kk, hkk, hkl⟩ := drop_at drop hn0 HCL.out
    rw [hkk]
    have HKL := Lib.hid hkl
    clear hkk
    clear hR_ H0_
    generalize W1.drew = W2 at H ⊢
    have HE1 := Lib.hid H.ext
    have hbd1 := HBD.out.ext0 H.ext
    have u0 : W2.cell? ⟨gd, 0, none⟩ = some (.int .i64 d.kind) := hbd1.cells 0
    have u1 : W2.cell? ⟨gd, 1, none⟩ = some (.int .i64 d.levels) := hbd1.cells 1
    have u2 : W2.cell? ⟨gd, 2, none⟩ = some (.int .i64 d.ty.k) := hbd1.cells 2
    have u3 : W2.cell? ⟨gd, 3, none⟩ = some (.int .i64 d.ty.n) := hbd1.cells 3
    have u4 : W2.cell? ⟨gd, 4, none⟩ = some (.int .i64 d.ty.a) := hbd1.cells 4
    have u5 : W2.cell? ⟨gd, 5, none⟩ = some (.slice Aty d.ty.ls.length cty) := hbd1.cells 5
    have u6 : W2.cell? ⟨gd, 6, none⟩ = some (.slice Kty d.ty.ks.length kty) := hbd1.cells 6
    have u7 : W2.cell? ⟨gd, 7, none⟩ = some (.int .i64 d.body.k) := hbd1.cells 7
    have u8 : W2.cell? ⟨gd, 8, none⟩ = some (.int .i64 d.body.n) := hbd1.cells 8
    have u9 : W2.cell? ⟨gd, 9, none⟩ = some (.int .i64 d.body.a) := hbd1.cells 9
    have u10 : W2.cell? ⟨gd, 10, none⟩ = some (.slice Abody d.body.ls.length cbody) := hbd1.cells 10
    have u11 : W2.cell? ⟨gd, 11, none⟩ = some (.slice Kbody d.body.ks.length kbody) := hbd1.cells 11
    have u12 : W2.cell? ⟨gd, 12, none⟩ = some (.slice Aparams d.params.length cparams) := hbd1.cells 12
    have u13 : W2.cell? ⟨gd, 13, none⟩ = some (.slice Asort d.sort.length csort) := hbd1.cells 13
    have u14 : W2.cell? ⟨gd, 14, none⟩ = some (.slice Amembers d.members.length cmembers) := hbd1.cells 14
    have v15 : W2.cell? ⟨gd, 15, none⟩ = some (.slice Actors d.ctors.length cctors) := hbd1.cells 15
    have lb1 := hbd1.lt
    clear H hbd1 u15 lb
    have H := Hp.start no W2
    have hr_ := H.rules; simp only [Rules, and_true] at hr_; have hd_ := H.dif; simp only [Dif, Neq, and_true] at hd_; obtain ⟨ho_, hz_⟩ := H.old0
    go_wp2_with ((with_reducible refine atStore (t := 37) ?_); go_must (refine wpList_storeH (t := 37) rfl rfl (by go_simp <;> first | rfl | exact ⟨rfl, rfl⟩) (by go_simp <;> first | rfl | exact ⟨rfl, rfl⟩) (by exact Hp.norm (by (repeat (first | with_reducible exact H | with_reducible exact H0_ | with_reducible apply Hp.alloc | with_reducible apply Hp.allocMap | with_reducible apply Hp.drew | with_reducible apply Hp.drewN | with_reducible apply Hp.set)); (try any_goals (repeat (first | with_reducible exact Upd.head | with_reducible apply Upd.tail)))) (by ((try simp only [size_drew_, size_drewN_, World.size_alloc, World.size_setCell, List.set_cons_zero, List.set_cons_succ, List.nil_append, List.cons_append]) <;> rfl))) (by (repeat (first | with_reducible exact Upd.head | with_reducible apply Upd.tail))) (by exact aggDecl) (by rfl) (by simp [Value.oneCell']) ?_; clear H; intro w7 H; (try simp only [size_drew_, size_drewN_, World.size_alloc, World.size_setCell, List.set_cons_zero, List.set_cons_succ] at H); (try clear hr_ hd_ ho_ hz_); have hr_ := H.rules; simp only [Rules, and_true] at hr_; have hd_ := H.dif; simp only [Dif, Neq, and_true] at hd_; obtain ⟨ho_, hz_⟩ := H.old0))
    (try clear hr_ hd_ ho_ hz_)
    refine codeH2 (w6 := w7) H (Ext.refl _ _) ?_
    clear H; intro W5 H HX5
    have b21 := H.blk (t := 37) (cs := [.int .i64 d.kind, .int .i64 d.levels, .int .i64 d.ty.k, .int .i64 d.ty.n, .int .i64 d.ty.a, .slice Aty d.ty.ls.length cty, .slice Kty d.ty.ks.length kty, .int .i64 d.body.k, .int .i64 d.body.n, .int .i64 d.body.a, .slice Abody d.body.ls.length cbody, .slice Kbody d.body.ks.length kbody, .slice Aparams d.params.length cparams, .slice Asort d.sort.length csort, .slice Amembers d.members.length cmembers, .slice Actors d.ctors.length cctors]) (by (repeat (first | with_reducible exact Pick.head | with_reducible apply Pick.tail)))
    have HB21 := Lib.hid b21
    have HE5 := Lib.hid (HE1.out.seq H.ext)
    have q15 := H.ext.keep v15
    have lb5 := Nat.lt_of_lt_of_le lb1 H.ext.size
    have hl21 := b21.lt
    have hg21 : W.heap.size ≤ W2.heap.size := HE1.out.size
    clear H b21 u0 u1 u2 u3 u4 u5 u6 u7 u8 u9 u10 u11 u12 u13 u14 v15 lb1 HX5
    obtain ⟨_, _, _, _, _, _, _, _, _, _, _, _, _, _, _, _, he, i0, i1, r1, r2, hpa, hso, hmb, hct⟩ := RC.dc.1 HD.out
    simp only [List.cons.injEq, Value.slice.injEq, and_true, true_and] at he
    obtain ⟨⟨rfl, rfl⟩, ⟨rfl, rfl⟩, ⟨rfl, rfl⟩, ⟨rfl, rfl⟩, ⟨rfl, rfl⟩, ⟨rfl, rfl⟩, ⟨rfl, rfl⟩, rfl, rfl⟩ := he
    have hMc := hct.lenM
    have hct5 : RC W5 (fun k => (k ≠ gA ∧ k ≠ W2.heap.size) ∧ k < W5.heap.size) (.l 40 6 (d.ctors.map Ct.d)) [.slice Actors d.ctors.length cctors] := RC.frame (Nat.le_refl _) (fun k hk hs => by have h1 := hs.2; have h2 := HGA.out; have h3 := HX.out.size; exact ⟨⟨by omega, by omega⟩, hk⟩) (fun _ _ _ => rfl) _ _ (hct.bd.ext0 (HX.out.seq HE5.out))
    have hp5 := hct5.preS (i := kk) (by have := HKL.out; omega)
    rw [← List.map_take] at hp5
    have hs5 := hct5.sufS (i := kk + 1) (by have := HKL.out; omega)
    rw [← List.map_drop] at hs5
    have HP5 := Lib.hid hp5
    have HS5 := Lib.hid hs5
    have hpreC : ∀ W, (Instr.sliceAt 35 (.slice Actors d.ctors.length cctors) none (some (.int .i64 (kk : Int))) none).run Tryd.prog W = .ok (.slice Actors kk cctors) W := fun W => runPreCt Actors (by have := HKL.out; omega) hMc.2 W
    have hsufC : ∀ W, (Instr.sliceAt 35 (.slice Actors d.ctors.length cctors) (some (.int .i64 ((kk : Int) + 1))) none none).run Tryd.prog W = .ok (.slice (sufAd Actors cctors (kk + 1) 6) (d.ctors.length - (kk + 1)) (cctors - (kk + 1))) W := fun W => by
      have := runSufCt Actors (i := kk + 1) (by have := HKL.out; omega) hMc.2 W
      push_cast at this
      exact this
    have hk4 : (kk : Int) ≤ 4000000 := by have := HKL.out; have := HCL.out; omega
    have hw1 : IntKind.i64.wrap ((kk : Int) + 1) = (kk : Int) + 1 := by rw [IntKind.wrap_i64]; omega
    have hl1 : ((d.ctors.take kk).map Ct.d).length = kk := by have := HKL.out; simp; omega
    have hl2 : ((d.ctors.drop (kk + 1)).map Ct.d).length = d.ctors.length - (kk + 1) := by simp
    have HL1 := Lib.hid hl1
    have HL2 := Lib.hid hl2
    have HG21 := Lib.hid hg21
    clear i0 i1 r1 r2 hpa hso hmb hct hct5 hp5 hs5 hl1 hl2 hg21
    have G := Hp.start no W5
    refine wp_region_H 14 [false, false, false, false, false, false, false, false, false, false, false, false, false, false] [13] G .nil (by kernel_rfl) rfl rfl (fun G_ hR_ => ?_)
    (try clear H0_); have H0_ := G; clear G; have G := G_; clear G_
    refine wpL_reads (is := [(1, ?v2_0), (2, ?v2_1), (3, ?v2_2), (4, ?v2_3), (6, ?v2_4), (7, ?v2_5), (8, ?v2_6), (9, ?v2_7), (10, ?v2_8)]) (by kernel_rfl) (Nat.le_of_ble_eq_true rfl) (by intro _ _ d_ _ _ h_; cases d_ <;> exact h_) (by kernel_rfl) hR_ (fun w_ hw_ => ?h2_) ?_
    case h2_ =>
      have ho_ := hw_.old0.1; have hz_ := hw_.old0.2; have hr_ := hw_.rules; clear hw_; simp only [Rules, and_true] at hr_; go_split_ands
      (repeat (first | with_reducible exact RdOps.nil | (refine RdOps.run rfl (by rfl) ?_ ?_; (focus (first | (go_simp; done) | (go_simp; with_reducible rfl))); simp only [List.getElem_toArray, List.getElem_cons_zero, List.getElem_cons_succ, Act.put, List.setIfInBounds_toArray, List.set_cons_zero, List.set_cons_succ]) | (refine RdOps.skip rfl (by rfl) ?_ ?_; (focus (with_reducible rfl)); simp only [List.getElem_toArray, List.getElem_cons_zero, List.getElem_cons_succ, Act.put, List.setIfInBounds_toArray, List.set_cons_zero, List.set_cons_succ])))
    simp only [rdMark, rdAct, List.map_cons, List.map_nil, List.length_cons, List.length_nil, Nat.reduceAdd, Nat.reduceSub, Nat.zero_add, List.getElem?_toArray, List.getElem?_cons_zero, List.getElem?_cons_succ, Option.bind_some, Act.put, List.setIfInBounds_toArray, List.set_cons_zero, List.set_cons_succ]
    refine wpL_do (i := 0) rfl (by kernel_rfl) (by rfl) (fun K_ hK_ => ?_)
    go_simp
    refine kontH (by (repeat (first | with_reducible exact G | with_reducible exact H0_ | with_reducible apply Hp.alloc | with_reducible apply Hp.allocMap | with_reducible apply Hp.drew | with_reducible apply Hp.drewN | with_reducible apply Hp.set)); (try any_goals (repeat (first | with_reducible exact Upd.head | with_reducible apply Upd.tail)))) ?_
    clear G; intro wb_ G; (try simp only [size_drew_, size_drewN_, World.size_alloc, World.size_setCell, List.set_cons_zero, List.set_cons_succ] at G)
    replace G := G.rpBox0 (S := fun k => k ≠ gA ∧ k ≠ W2.heap.size) (e := 40) (z := 6) (by (repeat (first | with_reducible exact Pick.head | with_reducible apply Pick.tail)))
    refine hK_ _ _ (fun _ => G.sub (by simp)) (fun hR_ => ?_)
    replace hR_ := hR_ (by decide)
    refine wpL_do (i := 5) rfl (by kernel_rfl) (by rfl) (fun K_ hK_ => ?_)
    refine wp_pushPs (S := fun k => k ≠ gA ∧ k ≠ W2.heap.size) (ds := []) (.tmp 183) (.tmp 187) 35 rfl stCts18 (by go_simp <;> first | rfl | exact ⟨rfl, rfl⟩) (by go_simp <;> first | rfl | exact ⟨rfl, rfl⟩) G (by (repeat (first | with_reducible exact Pick.head | with_reducible apply Pick.tail))) (HP5.out.ext0 G.ext) ?_ ?_
    focus (have := HL1.out; have := HKL.out; have := HCL.out; rw [HL1.out]; simp [M]; omega)
    clear G; intro v1 w8 G
    rw [List.nil_append] at G
    obtain ⟨A6, c6, rfl⟩ := (G.rpAt (S := fun k => k ≠ gA ∧ k ≠ W2.heap.size) (v := v1) (by (repeat (first | with_reducible exact Pick.head | with_reducible apply Pick.tail)))).slice
    rw [HL1.out] at G
    (try rw [HL1.out])
    refine hK_ _ _ (fun _ => G.sub (by simp)) (fun hR_ => ?_)
    replace hR_ := hR_ (by decide)
    simp only [List.getElem_toArray, List.getElem_cons_zero, List.getElem_cons_succ, Act.put, List.setIfInBounds_toArray, List.set_cons_zero, List.set_cons_succ]
    refine wpL_do (i := 11) rfl (by kernel_rfl) (by rfl) (fun K_ hK_ => ?_)
    refine wp_pushPs (S := fun k => k ≠ gA ∧ k ≠ W2.heap.size) (ds := (d.ctors.take kk).map Ct.d) (.tmp 188) (.tmp 193) 35 rfl stCts18 (by go_simp <;> first | rfl | exact ⟨rfl, rfl⟩) (by go_simp <;> first | rfl | exact ⟨rfl, rfl⟩) G (by (repeat (first | with_reducible exact Pick.head | with_reducible apply Pick.tail))) (HS5.out.ext0 G.ext) ?_ ?_
    focus (rw [HL1.out, HL2.out]; have := HKL.out; have := HCL.out; simp [M]; omega)
    clear G; intro v2 w9 G
    obtain ⟨A7, c7, rfl⟩ := (G.rpAt (S := fun k => k ≠ gA ∧ k ≠ W2.heap.size) (v := v2) (by (repeat (first | with_reducible exact Pick.head | with_reducible apply Pick.tail)))).slice
    obtain ⟨N7, hN7⟩ : ∃ N7, N7 = ((d.ctors.take kk).map Ct.d ++ (d.ctors.drop (kk + 1)).map Ct.d).length := ⟨_, rfl⟩
    rw [← hN7] at G
    (try rw [← hN7])
    have HN7 := Lib.hid (show N7 = (lessD d kk).ctors.length by rw [hN7]; simp [lessD])
    clear hN7
    refine hK_ _ _ (fun _ => G.sub (by simp)) (fun hR_ => ?_)
    replace hR_ := hR_ (by decide)
    simp only [List.getElem_toArray, List.getElem_cons_zero, List.getElem_cons_succ, Act.put, List.setIfInBounds_toArray, List.set_cons_zero, List.set_cons_succ]
    refine wpL_reads (is := [(12, ?v3_0)]) (by kernel_rfl) (Nat.le_of_ble_eq_true rfl) (by intro _ _ d_ _ _ h_; cases d_ <;> exact h_) (by kernel_rfl) hR_ (fun w_ hw_ => ?h3_) ?_
    case h3_ =>
      have ho_ := hw_.old0.1; have hz_ := hw_.old0.2; have hr_ := hw_.rules; clear hw_; simp only [Rules, and_true] at hr_; go_split_ands
      (repeat (first | with_reducible exact RdOps.nil | (refine RdOps.run rfl (by rfl) ?_ ?_; (focus (first | (go_simp; done) | (go_simp; with_reducible rfl))); simp only [List.getElem_toArray, List.getElem_cons_zero, List.getElem_cons_succ, Act.put, List.setIfInBounds_toArray, List.set_cons_zero, List.set_cons_succ]) | (refine RdOps.skip rfl (by rfl) ?_ ?_; (focus (with_reducible rfl)); simp only [List.getElem_toArray, List.getElem_cons_zero, List.getElem_cons_succ, Act.put, List.setIfInBounds_toArray, List.set_cons_zero, List.set_cons_succ])))
    simp only [rdMark, rdAct, List.map_cons, List.map_nil, List.length_cons, List.length_nil, Nat.reduceAdd, Nat.reduceSub, Nat.zero_add, List.getElem?_toArray, List.getElem?_cons_zero, List.getElem?_cons_succ, Option.bind_some, Act.put, List.setIfInBounds_toArray, List.set_cons_zero, List.set_cons_succ]
    refine wpL_do (i := 13) rfl (by kernel_rfl) (by rfl) (fun K_ hK_ => ?_)
    have b21g := HB21.out.ext0 G.ext
    have q21 := b21g.cells 15
    have f21 := b21g.frz
    have l21 := b21g.lt
    have hrp := (G.rpAt (S := fun k => k ≠ gA ∧ k ≠ W2.heap.size) (v := .slice A7 N7 c7) (by (repeat (first | with_reducible exact Pick.head | with_reducible apply Pick.tail)))).rc
    have HRP := Lib.hid hrp
    go_simp
    clear hrp
    refine hK_ _ _ (fun h => absurd (by decide) h) (fun _ => ?_)
    refine wpL_done (by kernel_rfl) ?_ _
    repeat ((fail_if_success (with_reducible (first | show Code.wp _ (Code.seq (Code.region 34 _ _) _) _ _ _ | show Code.wp _ (Code.seq (Code.seq (Code.region 34 _ _) _) _) _ _ _))); go_step)
    exact spD3 HT.out HX.out HE5.out G.ext HA.out HGA.out.1 HGA.out.2 HGD.out.1 HGD.out.2 HD.out HBD.out HG21.out b21g HRP.out hl21 HSM.out HSMD.out HI1.out HN9.out ha hp9 HCL.out HIS.out HK.out HN7.out
end Go.Proofs.YtmedomglemllnaaDoor
