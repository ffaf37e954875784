/- SourceCases: the ways of its switch: what they make of a declaration is a declaration. No statement of the seat is proved here. -/
import Derived.Test.YteelplgdojjakaaDoorCases3
import Derived.Test.YteelplgdojjakaaDoorMgRev0
import Derived.Test.YteelplgdojjakaaDoorMgRow
namespace Go.Proofs.YteelplgdojjakaaDoor
set_option linter.unusedSimpArgs false
set_option linter.unusedVariables false
open Go.RowKit


/-- The last element of a row of terms is written over by an own term. -/
theorem Hp.lastSet5 {w0 w : World} {l : List Ch} {us : List Tm} {x : Tm} {c1 sp : List Value} {a0 a1 a2 a3 a4 : Value} {g c : Nat} (H : Hp no w0 w (.box g 30 (c1 ++ (a0 :: a1 :: a2 :: a3 :: a4 :: sp)) :: .dat (.s (us.map Tm.d)) c1 :: .dat x.d [a0, a1, a2, a3, a4] :: l))
    (hl : c1.length = us.length * 5) (hc : c1.length + 5 + sp.length = c * 5) (h2 : c ≤ maxLen) (hM : us.length + 1 ≤ M) : Hp no w0 w (.dat (.l 30 5 ((us ++ [x]).map Tm.d)) [.slice (some ⟨g, 0, none⟩) (us.length + 1) c] :: l) := by
  have H1 := (H.pick (.tail (.tail .head))).one
  have H2 := H1.join (a := us.map Tm.d) (b := [x.d]) (c1 := c1) (c2 := [a0, a1, a2, a3, a4]) (.tail (.tail .head)) .head
  have e : c1 ++ (a0 :: a1 :: a2 :: a3 :: a4 :: sp) = (c1 ++ [a0, a1, a2, a3, a4]) ++ sp := by simp
  rw [e] at H2
  have H3 := H2.boxraw' (z := 5) (n := us.length + 1) (c := c) (.tail .head) (by simp; omega) (by simp; omega) (by omega) h2
  have H4 := H3.mkrow .head .head (by simp) (fun d hd => by
    simp only [List.mem_append, List.mem_map, List.mem_singleton] at hd
    rcases hd with ⟨t, _, rfl⟩ | rfl <;> exact Tm.size_d _) hM
  simpa using H4
/-- The row of a term and zero behind it, taken apart: a box, its cells. -/
theorem Hp.lastBox5 {w0 w : World} {l l' : List Ch} {us : List Tm} {x : Tm} {v : Value} (H : Hp no w0 w l) (p : Pick l (.dat (.l 30 5 (us.map Tm.d ++ [x.d])) [v]) l') :
    ∃ g c c1 sp z0 z1 z2 z3 z4, v = .slice (some ⟨g, 0, none⟩) (us.length + 1) c ∧ c1.length = us.length * 5 ∧ c1.length + 5 + List.length sp = c * 5 ∧ c ≤ maxLen ∧ us.length + 1 ≤ c ∧ us.length + 1 ≤ M ∧
      Hp no w0 w (.box g 30 (c1 ++ (z0 :: z1 :: z2 :: z3 :: z4 :: sp)) :: .dat (.s (us.map Tm.d)) c1 :: l') := by
  obtain ⟨_, _, _, _, _, hM⟩ := H.slice p
  obtain ⟨es, hes, H1⟩ := H.unrow p
  obtain ⟨g, c, rfl, hc, _⟩ := H1.rawAt .head (by simp)
  obtain ⟨sp, hl, hl2, _, hl4, H2⟩ := H1.rawbox .head
  obtain ⟨c1, c2, rfl, l1, l2, H3⟩ := H2.cut (.tail .head)
  rw [sizes_tms] at l1
  obtain ⟨z0, z1, z2, z3, z4, rfl⟩ := five_of (by rw [l2]; simp [D.sizes, Tm.size_d])
  have e : (c1 ++ [z0, z1, z2, z3, z4]) ++ sp = c1 ++ (z0 :: z1 :: z2 :: z3 :: z4 :: sp) := by simp
  simp only [List.length_append, List.length_map, List.length_cons, List.length_nil, Nat.zero_add] at hl2 hc hM
  refine ⟨g, c, c1, sp, z0, z1, z2, z3, z4, by simp, l1, by omega, hl4, hc, hM, ?_⟩
  rw [e] at H3
  exact H3.arr (.cons (.tail (.tail .head)) (.cons .head (Arr.of_subl (.drop (Subl.refl _)))))
theorem last55 {c1 sp : List Value} {z0 z1 z2 z3 z4 : Value} {n : Nat} (h : c1.length = n * 5) : (c1 ++ (z0 :: z1 :: z2 :: z3 :: z4 :: sp))[n * 5]? = some z0 ∧ (c1 ++ (z0 :: z1 :: z2 :: z3 :: z4 :: sp))[n * 5 + 1]? = some z1 ∧ (c1 ++ (z0 :: z1 :: z2 :: z3 :: z4 :: sp))[n * 5 + 2]? = some z2 ∧ (c1 ++ (z0 :: z1 :: z2 :: z3 :: z4 :: sp))[n * 5 + 3]? = some z3 ∧ (c1 ++ (z0 :: z1 :: z2 :: z3 :: z4 :: sp))[n * 5 + 4]? = some z4 := by
  rw [← h]
  simp [List.getElem?_append_right]
set_option maxRecDepth 100000 in
set_option maxHeartbeats 2000000 in
theorem term1O_calls {w : World} : Calls Tryd.prog 35 #[.int .i64 2, .int .i64 0, .int .i64 0, .int .i64 1] w (PTm w (.mk 2 0 0 [[]] [])) := by
  have hmk := fun w => makeLv 1 (by omega) w
  simp only [show ((1 : Nat) : Int) = 1 from rfl, List.replicate_succ, List.replicate_zero, List.flatten_cons, List.flatten_nil, List.append_nil] at hmk
  go_enter Tryd.func35, Tryd.ntmps35
  have H := Hp.start no w
  go_wp2_with ((with_reducible refine atStore (t := 30) ?_); go_must (refine wpList_storeH (t := 30) rfl rfl (by go_simp <;> first | rfl | exact ⟨rfl, rfl⟩) (by go_simp <;> first | rfl | exact ⟨rfl, rfl⟩) (by exact Hp.norm (by (repeat (first | with_reducible exact H | with_reducible exact H0_ | with_reducible apply Hp.alloc | with_reducible apply Hp.allocMap | with_reducible apply Hp.drew | with_reducible apply Hp.drewN | with_reducible apply Hp.set)); (try any_goals (repeat (first | with_reducible exact Upd.head | with_reducible apply Upd.tail)))) (by ((try simp only [size_drew_, size_drewN_, World.size_alloc, World.size_setCell, List.set_cons_zero, List.set_cons_succ, List.nil_append, List.cons_append]) <;> rfl))) (by (repeat (first | with_reducible exact Upd.head | with_reducible apply Upd.tail))) (by exact aggTerm) (by rfl) (by simp [Value.oneCell']) ?_; clear H; intro w7 H; (try simp only [size_drew_, size_drewN_, World.size_alloc, World.size_setCell, List.set_cons_zero, List.set_cons_succ] at H); (try clear hr_ hd_ ho_ hz_); have hr_ := H.rules; simp only [Rules, and_true] at hr_; have hd_ := H.dif; simp only [Dif, Neq, and_true] at hd_; obtain ⟨ho_, hz_⟩ := H.old0))
  (try clear hr_ hd_ ho_ hz_)
  have H1 := ((((H.nil 68 2).one).one).nil 30 5)
  have H2 := H1.boxrow (g := w.heap.size + 1) (e := 38) (z := 1) (n := 1) (ds := [lvD []]) (cs := [.slice none 0 0]) (.tail (.tail .head)) (.tail .head) rfl (by simp [lvD_size]) (by unfold M; omega)
  have H3 := H2.tm (k := 2) (n := 0) (a := 0) (ls := [[]]) (ks := []) .head .head (by unfold inI; omega) inI0 inI0
  exact bodyPost_ret (v := .agg #[.int .i64 2, .int .i64 0, .int .i64 0, .slice (some ⟨w.heap.size + 1, 0, none⟩) 1 1, .slice none 0 0]) (Res.one Tryd.results35 (H.resBox (by (repeat (first | with_reducible exact Pick.head | with_reducible apply Pick.tail))) aggTerm rfl rfl)) rfl (H3.ptmk .head rfl rfl)

set_option maxRecDepth 100000 in
set_option maxHeartbeats 8000000 in
theorem case36_5 {w W : World} {gd g1 g2 g3 m : Nat} {Q : Exit → Act → World → Prop} {x0 x1 x2 x3 x4 x5 x6 x7 x8 x9 x10 x11 x13 x15 x16 x17 x18 x19 x20 x21 x22 x23 x24 x25 x26 x27 x28 x29 x30 x31 x32 x33 x34 x35 x36 x37 x38 x39 x40 x41 x42 x43 x44 x45 x46 x47 x48 x49 x50 x51 x52 x53 x54 x55 x56 x57 x58 x59 x60 x61 x62 x63 x64 x65 x66 x67 x68 x69 x70 x71 x72 x73 x74 x75 x76 x77 x78 x79 x80 x81 x82 x83 x84 x85 x86 x87 x88 x89 x90 x91 x92 x93 x94 x95 x96 x97 x98 x99 x100 x101 x102 x103 x104 x105 x106 x107 x108 x109 x110 x111 x112 x113 x114 x115 x116 x117 x118 x119 x120 x121 x122 x123 x124 x125 x126 x127 x128 x129 x130 x131 x132 x133 x134 x135 x136 x137 x138 x139 x140 x141 x142 x143 x144 x145 x146 x147 x148 x149 x150 x151 x152 x153 x154 x155 x156 x157 x158 x159 x161 x162 x163 x164 x165 x166 x167 x168 x169 x170 x171 x172 x173 x174 x175 x176 x177 x178 x179 x180 x181 x182 x183 x184 x185 x186 x187 x188 x189 x190 x191 x192 x193 x194 x195 x196 x197 x198 x199 x200 x201 x202 x203 x204 x205 x206 x207 x208 x209 x210 x211 x212 x213 x214 x215 x216 x217 x218 x219 x220 x221 x222 x223 x224 x225 x226 x227 x228 x229 x230 x231 x232 x233 x234 x235 x236 x237 x238 x239 x240 x241 x242 x243 x244 x245 x246 x247 x248 x249 x250 x251 x252 x253 x254 x255 x256 x257 x258 x259 x260 x261 x262 x263 x264 x265 x266 x267 x268 x269 x270 x271 x272 x273 x274 x275 x276 x277 x278 x279 x280 x281 x282 x283 x284 x285 x286 x287 x288 x289 x290 x291 x292 x293 x294 x295 x296 x297 x298 x299 : Value} (hm : m < 20)
    (H : Hp no w W [.box gd 42 (natL g1 g2), .box g1 64 [.slice none 0 0], .box g2 70 (natC g3), .box g3 30 natK])
    (hQ : ∀ (y15 y16 y17 y161 y162 y163 y164 y165 y166 y167 y168 y169 y170 y171 y172 y173 y174 y175 y176 y177 y178 y179 y180 y181 y182 y183 y184 y185 y186 y187 y188 y189 y190 y191 y192 y193 y194 y195 y196 y197 y198 y199 y200 y201 y202 y203 y204 y205 y206 y207 y208 y209 y210 y211 y212 y213 y214 y215 y216 y217 y218 y219 y220 y221 y222 y223 y224 y225 y226 y227 y228 y229 y230 y231 y232 y233 y234 y235 y236 y237 y238 y239 y240 y241 y242 y243 y244 y245 y246 y247 y248 y249 y250 y251 y252 y253 y254 y255 y256 y257 y258 y259 y260 y261 y262 y263 y264 y265 y266 y267 y268 y269 y270 y271 y272 y273 y274 y275 y276 y277 y278 y279 y280 y281 y282 y283 y284 : Value) (d : Dc) (cs : List Value) (w' : World), Hp no w w' [.box gd 42 cs] → RC w' (fun _ => True) d.d cs → Q .normal { tmps := #[x0, x1, x2, x3, x4, x5, x6, x7, x8, x9, x10, x11, .int .i64 (m : Int), x13, .pointer (some ⟨gd, 0, none⟩), y15, y16, y17, x18, x19, x20, x21, x22, x23, x24, x25, x26, x27, x28, x29, x30, x31, x32, x33, x34, x35, x36, x37, x38, x39, x40, x41, x42, x43, x44, x45, x46, x47, x48, x49, x50, x51, x52, x53, x54, x55, x56, x57, x58, x59, x60, x61, x62, x63, x64, x65, x66, x67, x68, x69, x70, x71, x72, x73, x74, x75, x76, x77, x78, x79, x80, x81, x82, x83, x84, x85, x86, x87, x88, x89, x90, x91, x92, x93, x94, x95, x96, x97, x98, x99, x100, x101, x102, x103, x104, x105, x106, x107, x108, x109, x110, x111, x112, x113, x114, x115, x116, x117, x118, x119, x120, x121, x122, x123, x124, x125, x126, x127, x128, x129, x130, x131, x132, x133, x134, x135, x136, x137, x138, x139, x140, x141, x142, x143, x144, x145, x146, x147, x148, x149, x150, x151, x152, x153, x154, x155, x156, x157, x158, x159, .int .i64 5, y161, y162, y163, y164, y165, y166, y167, y168, y169, y170, y171, y172, y173, y174, y175, y176, y177, y178, y179, y180, y181, y182, y183, y184, y185, y186, y187, y188, y189, y190, y191, y192, y193, y194, y195, y196, y197, y198, y199, y200, y201, y202, y203, y204, y205, y206, y207, y208, y209, y210, y211, y212, y213, y214, y215, y216, y217, y218, y219, y220, y221, y222, y223, y224, y225, y226, y227, y228, y229, y230, y231, y232, y233, y234, y235, y236, y237, y238, y239, y240, y241, y242, y243, y244, y245, y246, y247, y248, y249, y250, y251, y252, y253, y254, y255, y256, y257, y258, y259, y260, y261, y262, y263, y264, y265, y266, y267, y268, y269, y270, y271, y272, y273, y274, y275, y276, y277, y278, y279, y280, y281, y282, y283, y284, x285, x286, x287, x288, x289, x290, x291, x292, x293, x294, x295, x296, x297, x298, x299], defers := [] } w') :
    ((findR 36 (Tryd.f6.body.getD .skip)).getD .skip).wp Tryd.prog Q { tmps := #[x0, x1, x2, x3, x4, x5, x6, x7, x8, x9, x10, x11, .int .i64 (m : Int), x13, .pointer (some ⟨gd, 0, none⟩), x15, x16, x17, x18, x19, x20, x21, x22, x23, x24, x25, x26, x27, x28, x29, x30, x31, x32, x33, x34, x35, x36, x37, x38, x39, x40, x41, x42, x43, x44, x45, x46, x47, x48, x49, x50, x51, x52, x53, x54, x55, x56, x57, x58, x59, x60, x61, x62, x63, x64, x65, x66, x67, x68, x69, x70, x71, x72, x73, x74, x75, x76, x77, x78, x79, x80, x81, x82, x83, x84, x85, x86, x87, x88, x89, x90, x91, x92, x93, x94, x95, x96, x97, x98, x99, x100, x101, x102, x103, x104, x105, x106, x107, x108, x109, x110, x111, x112, x113, x114, x115, x116, x117, x118, x119, x120, x121, x122, x123, x124, x125, x126, x127, x128, x129, x130, x131, x132, x133, x134, x135, x136, x137, x138, x139, x140, x141, x142, x143, x144, x145, x146, x147, x148, x149, x150, x151, x152, x153, x154, x155, x156, x157, x158, x159, .int .i64 5, x161, x162, x163, x164, x165, x166, x167, x168, x169, x170, x171, x172, x173, x174, x175, x176, x177, x178, x179, x180, x181, x182, x183, x184, x185, x186, x187, x188, x189, x190, x191, x192, x193, x194, x195, x196, x197, x198, x199, x200, x201, x202, x203, x204, x205, x206, x207, x208, x209, x210, x211, x212, x213, x214, x215, x216, x217, x218, x219, x220, x221, x222, x223, x224, x225, x226, x227, x228, x229, x230, x231, x232, x233, x234, x235, x236, x237, x238, x239, x240, x241, x242, x243, x244, x245, x246, x247, x248, x249, x250, x251, x252, x253, x254, x255, x256, x257, x258, x259, x260, x261, x262, x263, x264, x265, x266, x267, x268, x269, x270, x271, x272, x273, x274, x275, x276, x277, x278, x279, x280, x281, x282, x283, x284, x285, x286, x287, x288, x289, x290, x291, x292, x293, x294, x295, x296, x297, x298, x299], defers := [] } W := by
  have inv : True := trivial
  conv => arg 2; whnf
  have hr_ := H.rules; simp only [Rules, and_true] at hr_; have hd_ := H.dif; simp only [Dif, Neq, and_true] at hd_; obtain ⟨ho_, hz_⟩ := H.old0
  go_wp2_with fail
  (try clear hr_ hd_ ho_ hz_)
  go_loopw [17] (fun i wr => ∃ (j : Nat) (ts : List Tm) (A : Option Addr) (c : Nat), j ≤ m ∧ i = .int .i64 j ∧ ts.length = j ∧ Hp no w wr [.dat (.l 30 5 (ts.map Tm.d)) [.slice A ts.length c], .box g1 64 [.slice A ts.length c], .box gd 42 (natL g1 g2), .box g2 70 (natC g3), .box g3 30 natK]) (fun i _ => m - (intOf i).toNat)
  case atStart =>
    have H := H.nil 30 5
    refine ⟨0, [], none, 0, Nat.zero_le _, rfl, rfl, ?_⟩
    simp only [List.length_nil, List.map_nil]
    exact (H.arr (by (repeat (first | with_reducible exact Arr.nil | refine Arr.cons (by (repeat (first | with_reducible exact Pick.head | with_reducible apply Pick.tail))) ?_)) <;> exact Arr.of_subl (by (repeat (first | with_reducible exact Subl.refl _ | with_reducible apply Subl.drop)))))
  case round =>
    clear H
    obtain ⟨j, ts, A, c, hj, rfl, hts, H⟩ := hrel
    by_cases hlt : j < m
    · have HTS := Lib.hid hts
      clear hts
      have hr_ := H.rules; simp only [Rules, and_true] at hr_; have hd_ := H.dif; simp only [Dif, Neq, and_true] at hd_; obtain ⟨ho_, hz_⟩ := H.old0
      go_wp2_with fail
      (try clear hr_ hd_ ho_ hz_)
      refine regionH (by (repeat (first | with_reducible exact H | with_reducible exact H0_ | with_reducible apply Hp.alloc | with_reducible apply Hp.allocMap | with_reducible apply Hp.drew | with_reducible apply Hp.drewN | with_reducible apply Hp.set)); (try any_goals (repeat (first | with_reducible exact Upd.head | with_reducible apply Upd.tail)))) ?_
      clear H; intro w9 H; (try simp only [size_drew_, size_drewN_, World.size_alloc, World.size_setCell, List.set_cons_zero, List.set_cons_succ] at H)
      refine onlyN3 ?_
      refine wp_region_H 4 [false, false, false, false] [] H .nil (by kernel_rfl) rfl rfl (fun H_ hR_ => ?_)
      (try clear H0_); have H0_ := H; clear H; have H := H_; clear H_
      refine wpL_do (i := 0) rfl (by kernel_rfl) (by rfl) (fun K_ hK_ => ?_)
      go_simp
      refine kontH (by (repeat (first | with_reducible exact H | with_reducible exact H0_ | with_reducible apply Hp.alloc | with_reducible apply Hp.allocMap | with_reducible apply Hp.drew | with_reducible apply Hp.drewN | with_reducible apply Hp.set)); (try any_goals (repeat (first | with_reducible exact Upd.head | with_reducible apply Upd.tail)))) ?_
      clear H; intro w10 H; (try simp only [size_drew_, size_drewN_, World.size_alloc, World.size_setCell, List.set_cons_zero, List.set_cons_succ] at H)
      refine hK_ _ _ (fun _ => H.sub (by simp)) (fun hR_ => ?_)
      replace hR_ := hR_ (by decide)
      refine wpL_many (is := [1, 2]) (by kernel_rfl) (by simp) ?_
      simp only [List.forall_mem_cons]
      refine ⟨?_, ?_, fun _ h => by cases h⟩
      · refine wpOp_do (i := 1) rfl (by rfl) (fun K_ hK_ => ?_)
        have hrs_ := H.rules
        simp only [Rules, and_true] at hrs_
        go_simp
        clear hrs_
        refine kontH (by (repeat (first | with_reducible exact H | with_reducible exact H0_ | with_reducible apply Hp.alloc | with_reducible apply Hp.allocMap | with_reducible apply Hp.drew | with_reducible apply Hp.drewN | with_reducible apply Hp.set)); (try any_goals (repeat (first | with_reducible exact Upd.head | with_reducible apply Upd.tail)))) ?_
        clear H; intro w11 H; (try simp only [size_drew_, size_drewN_, World.size_alloc, World.size_setCell, List.set_cons_zero, List.set_cons_succ] at H)
        refine hK_ _ _ (fun _ => H.sub (by simp)) (fun hR_ => ?_)
        replace hR_ := hR_ (by decide)
        refine wpL_do (i := 2) rfl (by kernel_rfl) (by rfl) (fun K_ hK_ => ?_)
        have hrs_ := H.rules
        simp only [Rules, and_true] at hrs_
        go_simp
        clear hrs_
        refine kontH (by (repeat (first | with_reducible exact H | with_reducible exact H0_ | with_reducible apply Hp.alloc | with_reducible apply Hp.allocMap | with_reducible apply Hp.drew | with_reducible apply Hp.drewN | with_reducible apply Hp.set)); (try any_goals (repeat (first | with_reducible exact Upd.head | with_reducible apply Upd.tail)))) ?_
        clear H; intro w11 H; (try simp only [size_drew_, size_drewN_, World.size_alloc, World.size_setCell, List.set_cons_zero, List.set_cons_succ] at H)
        refine hK_ _ _ (fun _ => H.sub (by simp)) (fun hR_ => ?_)
        replace hR_ := hR_ (by decide)
        refine wpL_do (i := 3) rfl (by kernel_rfl) (by rfl) (fun K_ hK_ => ?_)
        have hrs_ := H.rules
        simp only [Rules, and_true] at hrs_
        go_simp
        clear hrs_
        refine hK_ _ _ (fun _ => H.sub (by simp)) (fun _ => ?_)
        refine wpL_done (by kernel_rfl) ?_ _
        go_wp2_with fail
        refine regionH (by (repeat (first | with_reducible exact H | with_reducible exact H0_ | with_reducible apply Hp.alloc | with_reducible apply Hp.allocMap | with_reducible apply Hp.drew | with_reducible apply Hp.drewN | with_reducible apply Hp.set)); (try any_goals (repeat (first | with_reducible exact Upd.head | with_reducible apply Upd.tail)))) ?_
        clear H; intro w12 H; (try simp only [size_drew_, size_drewN_, World.size_alloc, World.size_setCell, List.set_cons_zero, List.set_cons_succ] at H)
        refine onlyN3 ?_
        refine wp_region_H 13 [false, false, false, false, false, false, false, false, false, false, false, false, false] [12] H (.cons (i := 2) rfl (.cons (i := 3) rfl .nil)) (by kernel_rfl) rfl rfl (fun H_ hR_ => ?_)
        (try clear H0_); have H0_ := H; clear H; have H := H_; clear H_
        refine wpL_reads (is := [(0, ?v1_0), (1, ?v1_1), (2, ?v1_2), (3, ?v1_3), (4, ?v1_4), (5, ?v1_5), (6, ?v1_6)]) (by kernel_rfl) (Nat.le_of_ble_eq_true rfl) (by intro _ _ d_ _ _ h_; cases d_ <;> exact h_) (by kernel_rfl) hR_ (fun w_ hw_ => ?h1_) ?_
        case h1_ =>
          have ho_ := hw_.old0.1; have hz_ := hw_.old0.2; have hr_ := hw_.rules; clear hw_; simp only [Rules, and_true] at hr_; go_split_ands
          (repeat (first | with_reducible exact RdOps.nil | (refine RdOps.run rfl (by rfl) ?_ ?_; (focus (first | (go_simp; done) | (go_simp; with_reducible rfl))); simp only [List.getElem_toArray, List.getElem_cons_zero, List.getElem_cons_succ, Act.put, List.setIfInBounds_toArray, List.set_cons_zero, List.set_cons_succ]) | (refine RdOps.skip rfl (by rfl) ?_ ?_; (focus (with_reducible rfl)); simp only [List.getElem_toArray, List.getElem_cons_zero, List.getElem_cons_succ, Act.put, List.setIfInBounds_toArray, List.set_cons_zero, List.set_cons_succ])))
        simp only [rdMark, rdAct, List.map_cons, List.map_nil, List.length_cons, List.length_nil, Nat.reduceAdd, Nat.reduceSub, Nat.zero_add, List.getElem?_toArray, List.getElem?_cons_zero, List.getElem?_cons_succ, Option.bind_some, Act.put, List.setIfInBounds_toArray, List.set_cons_zero, List.set_cons_succ]
        refine wpL_do (i := 7) rfl (by kernel_rfl) (by rfl) (fun K_ hK_ => ?_)
        go_simp
        refine term1O_calls.mono ?_
        rintro e w_ ⟨v, rfl, hto, hx⟩
        obtain ⟨E1, Ec, E2, Ek, rfl, H_⟩ := H.resTm hx hto
        clear H hx hto
        have H := H_
        clear H_
        refine hK_ _ _ (fun _ => H.sub (by simp)) (fun hR_ => ?_)
        replace hR_ := hR_ (by decide)
        refine wpL_do (i := 8) rfl (by kernel_rfl) (by rfl) (fun K_ hK_ => ?_)
        go_simp
        refine kontH (by (repeat (first | with_reducible exact H | with_reducible exact H0_ | with_reducible apply Hp.alloc | with_reducible apply Hp.allocMap | with_reducible apply Hp.drew | with_reducible apply Hp.drewN | with_reducible apply Hp.set)); (try any_goals (repeat (first | with_reducible exact Upd.head | with_reducible apply Upd.tail)))) ?_
        clear H; intro wb H; (try simp only [size_drew_, size_drewN_, World.size_alloc, World.size_setCell, List.set_cons_zero, List.set_cons_succ] at H)
        refine hK_ _ _ (fun _ => H.sub (by simp)) (fun hR_ => ?_)
        replace hR_ := hR_ (by decide)
        have hub : ts.length ≤ 20 := by have := HTS.out; omega
        refine wpL_do (i := 9) rfl (by kernel_rfl) (by rfl) (fun K_ hK_ => ?_)
        refine wp_pushH (.tmp 249) (.tmp 251) 28 rfl stTerms (by go_simp <;> first | rfl | exact ⟨rfl, rfl⟩) (by go_simp <;> first | rfl | exact ⟨rfl, rfl⟩) H (by (repeat (first | with_reducible exact Pick.head | with_reducible apply Pick.tail))) (by (repeat (first | with_reducible exact Pick.head | with_reducible apply Pick.tail))) (by (repeat (first | with_reducible exact Pick.head | with_reducible apply Pick.tail))) (Tm.size_d _) ?_ ?_
        focus (simp [M]; omega)
        clear H; intro v' w13 H
        obtain ⟨A5, c6, rfl, _, _, _⟩ := H.slice (e := 30) (z := 5) (v := v') (by (repeat (first | with_reducible exact Pick.head | with_reducible apply Pick.tail)))
        rw [show (ts.map Tm.d ++ [(Tm.mk 2 0 0 [[]] []).d]).length = ts.length + 1 by simp] at H ⊢
        refine hK_ _ _ (fun _ => H.sub (by simp)) (fun hR_ => ?_)
        replace hR_ := hR_ (by decide)
        simp only [List.getElem_toArray, List.getElem_cons_zero, List.getElem_cons_succ, Act.put, List.setIfInBounds_toArray, List.set_cons_zero, List.set_cons_succ]
        refine wpL_takeF (i := 10) (v := .pointer (some ⟨g1, 0, none⟩)) rfl (by kernel_rfl) (fun _ _ _ h => h) (by rfl) (fun w_ => by go_simp) ?_
        simp only [List.getElem_toArray, List.getElem_cons_zero, List.getElem_cons_succ, Act.put, List.setIfInBounds_toArray, List.set_cons_zero, List.set_cons_succ]
        refine wpL_takeF (i := 11) (v := .pointer (some ⟨g1, 0, none⟩)) rfl (by kernel_rfl) (fun _ _ _ h => h) (by rfl) (fun w_ => by go_simp) ?_
        simp only [List.getElem_toArray, List.getElem_cons_zero, List.getElem_cons_succ, Act.put, List.setIfInBounds_toArray, List.set_cons_zero, List.set_cons_succ]
        refine wpL_do (i := 12) rfl (by kernel_rfl) (by rfl) (fun K_ hK_ => ?_)
        have hrs_ := H.rules
        simp only [Rules, and_true] at hrs_
        go_simp
        clear hrs_
        refine kontH (by (repeat (first | with_reducible exact H | with_reducible exact H0_ | with_reducible apply Hp.alloc | with_reducible apply Hp.allocMap | with_reducible apply Hp.drew | with_reducible apply Hp.drewN | with_reducible apply Hp.set)); (try any_goals (repeat (first | with_reducible exact Upd.head | with_reducible apply Upd.tail)))) ?_
        clear H; intro w14 H; (try simp only [size_drew_, size_drewN_, World.size_alloc, World.size_setCell, List.set_cons_zero, List.set_cons_succ] at H)
        refine hK_ _ _ (fun h => absurd (by decide) h) (fun _ => ?_)
        refine wpL_done (by kernel_rfl) ?_ _
        have hL5 : ts.length + 1 = (ts ++ [Tm.mk 2 0 0 [[]] []]).length := by simp
        rw [show ts.map Tm.d ++ [(Tm.mk 2 0 0 [[]] []).d] = (ts ++ [Tm.mk 2 0 0 [[]] []]).map Tm.d by simp, hL5] at H
        go_wp2_with fail
        go_roundw
        case rel => exact ⟨j + 1, ts ++ [.mk 2 0 0 [[]] []], _, _, by omega, by first | go_num | rfl | simp, by simp [HTS.out], (H.arr (by (repeat (first | with_reducible exact Arr.nil | refine Arr.cons (by (repeat (first | with_reducible exact Pick.head | with_reducible apply Pick.tail))) ?_)) <;> exact Arr.of_subl (by (repeat (first | with_reducible exact Subl.refl _ | with_reducible apply Subl.drop)))))⟩
        case measure => simp [intOf]; omega
      · refine wpOp_do (i := 2) rfl (by rfl) (fun K_ hK_ => ?_)
        have hrs_ := H.rules
        simp only [Rules, and_true] at hrs_
        go_simp
        clear hrs_
        refine kontH (by (repeat (first | with_reducible exact H | with_reducible exact H0_ | with_reducible apply Hp.alloc | with_reducible apply Hp.allocMap | with_reducible apply Hp.drew | with_reducible apply Hp.drewN | with_reducible apply Hp.set)); (try any_goals (repeat (first | with_reducible exact Upd.head | with_reducible apply Upd.tail)))) ?_
        clear H; intro w11 H; (try simp only [size_drew_, size_drewN_, World.size_alloc, World.size_setCell, List.set_cons_zero, List.set_cons_succ] at H)
        refine hK_ _ _ (fun _ => H.sub (by simp)) (fun hR_ => ?_)
        replace hR_ := hR_ (by decide)
        refine wpL_do (i := 1) rfl (by kernel_rfl) (by rfl) (fun K_ hK_ => ?_)
        have hrs_ := H.rules
        simp only [Rules, and_true] at hrs_
        go_simp
        clear hrs_
        refine kontH (by (repeat (first | with_reducible exact H | with_reducible exact H0_ | with_reducible apply Hp.alloc | with_reducible apply Hp.allocMap | with_reducible apply Hp.drew | with_reducible apply Hp.drewN | with_reducible apply Hp.set)); (try any_goals (repeat (first | with_reducible exact Upd.head | with_reducible apply Upd.tail)))) ?_
        clear H; intro w11 H; (try simp only [size_drew_, size_drewN_, World.size_alloc, World.size_setCell, List.set_cons_zero, List.set_cons_succ] at H)
        refine hK_ _ _ (fun _ => H.sub (by simp)) (fun hR_ => ?_)
        replace hR_ := hR_ (by decide)
        refine wpL_do (i := 3) rfl (by kernel_rfl) (by rfl) (fun K_ hK_ => ?_)
        have hrs_ := H.rules
        simp only [Rules, and_true] at hrs_
        go_simp
        clear hrs_
        refine hK_ _ _ (fun _ => H.sub (by simp)) (fun _ => ?_)
        refine wpL_done (by kernel_rfl) ?_ _
        go_wp2_with fail
        refine regionH (by (repeat (first | with_reducible exact H | with_reducible exact H0_ | with_reducible apply Hp.alloc | with_reducible apply Hp.allocMap | with_reducible apply Hp.drew | with_reducible apply Hp.drewN | with_reducible apply Hp.set)); (try any_goals (repeat (first | with_reducible exact Upd.head | with_reducible apply Upd.tail)))) ?_
        clear H; intro w12 H; (try simp only [size_drew_, size_drewN_, World.size_alloc, World.size_setCell, List.set_cons_zero, List.set_cons_succ] at H)
        refine onlyN3 ?_
        have hub : ts.length ≤ 20 := by have := HTS.out; omega
        refine wp_region_H 12 [false, false, false, false, false, false, false, false, false, false, false, false] [8, 11] H (.cons (i := 2) rfl (.cons (i := 3) rfl .nil)) (by kernel_rfl) rfl rfl (fun H_ hR_ => ?_)
        (try clear H0_); have H0_ := H; clear H; have H := H_; clear H_
        refine wpL_reads (is := [(0, ?v2_0), (1, ?v2_1), (2, ?v2_2), (3, ?v2_3), (4, ?v2_4), (6, ?v2_5)]) (by kernel_rfl) (Nat.le_of_ble_eq_true rfl) (by intro _ _ d_ _ _ h_; cases d_ <;> exact h_) (by kernel_rfl) hR_ (fun w_ hw_ => ?h2_) ?_
        case h2_ =>
          have ho_ := hw_.old0.1; have hz_ := hw_.old0.2; have hr_ := hw_.rules; clear hw_; simp only [Rules, and_true] at hr_; go_split_ands
          (repeat (first | with_reducible exact RdOps.nil | (refine RdOps.run rfl (by rfl) ?_ ?_; (focus (first | (go_simp; done) | (go_simp; with_reducible rfl))); simp only [List.getElem_toArray, List.getElem_cons_zero, List.getElem_cons_succ, Act.put, List.setIfInBounds_toArray, List.set_cons_zero, List.set_cons_succ]) | (refine RdOps.skip rfl (by rfl) ?_ ?_; (focus (with_reducible rfl)); simp only [List.getElem_toArray, List.getElem_cons_zero, List.getElem_cons_succ, Act.put, List.setIfInBounds_toArray, List.set_cons_zero, List.set_cons_succ])))
        simp only [rdMark, rdAct, List.map_cons, List.map_nil, List.length_cons, List.length_nil, Nat.reduceAdd, Nat.reduceSub, Nat.zero_add, List.getElem?_toArray, List.getElem?_cons_zero, List.getElem?_cons_succ, Option.bind_some, Act.put, List.setIfInBounds_toArray, List.set_cons_zero, List.set_cons_succ]
        refine wpL_many (is := [5, 7]) (by kernel_rfl) (by simp) ?_
        simp only [List.forall_mem_cons]
        refine ⟨?_, ?_, fun _ h => by cases h⟩
        · refine wpOp_do (i := 5) rfl (by rfl) (fun K_ hK_ => ?_)
          go_simp
          refine term1O_calls.mono ?_
          rintro e w_ ⟨v, rfl, hto, hx⟩
          obtain ⟨E1, Ec, E2, Ek, rfl, H_⟩ := H.resTm hx hto
          clear H hx hto
          have H := H_
          clear H_
          refine hK_ _ _ (fun _ => H.sub (by simp)) (fun hR_ => ?_)
          replace hR_ := hR_ (by decide)
          refine wpL_do (i := 7) rfl (by kernel_rfl) (by rfl) (fun K_ hK_ => ?_)
          go_simp
          refine kontH (by (repeat (first | with_reducible exact H | with_reducible exact H0_ | with_reducible apply Hp.alloc | with_reducible apply Hp.allocMap | with_reducible apply Hp.drew | with_reducible apply Hp.drewN | with_reducible apply Hp.set)); (try any_goals (repeat (first | with_reducible exact Upd.head | with_reducible apply Upd.tail)))) ?_
          clear H; intro wb H; (try simp only [size_drew_, size_drewN_, World.size_alloc, World.size_setCell, List.set_cons_zero, List.set_cons_succ] at H)
          refine hK_ _ _ (fun _ => H.sub (by simp)) (fun hR_ => ?_)
          replace hR_ := hR_ (by decide)
          simp only [List.getElem_toArray, List.getElem_cons_zero, List.getElem_cons_succ, Act.put, List.setIfInBounds_toArray, List.set_cons_zero, List.set_cons_succ]
          have H := (H.nil 30 5).nil 38 1
          have H := H.tm (k := 0) (n := 0) (a := 0) (ls := []) (ks := []) .head .head (by unfold inI; omega) (by unfold inI; omega) (by unfold inI; omega)
          refine wpL_do (i := 8) rfl (by kernel_rfl) (by rfl) (fun K_ hK_ => ?_)
          refine wp_pushH (.tmp 235) (.tmp 238) 28 rfl stTerms (by go_simp <;> first | rfl | exact ⟨rfl, rfl⟩) (by go_simp <;> first | rfl | exact ⟨rfl, rfl⟩) H (by (repeat (first | with_reducible exact Pick.head | with_reducible apply Pick.tail))) (by (repeat (first | with_reducible exact Pick.head | with_reducible apply Pick.tail))) (by (repeat (first | with_reducible exact Pick.head | with_reducible apply Pick.tail))) (Tm.size_d _) ?_ ?_
          focus (simp [M]; omega)
          clear H; intro v' w13 H
          obtain ⟨g', c', c1, sp, z0, z1, z2, z3, z4, rfl, hl1, hl2, hl3, hl4, hl5, H_⟩ := H.lastBox5 (x := .mk 0 0 0 [] []) (by (repeat (first | with_reducible exact Pick.head | with_reducible apply Pick.tail)))
          clear H
          have H := H_
          clear H_
          refine hK_ _ _ (fun h => absurd (by decide) h) (fun _ => ?_)
          have HL1 := Lib.hid hl1
          have HL2 := Lib.hid hl2
          clear hl1 hl2
          refine wpL_takeF (i := 9) (v := .pointer (some ⟨g1, 0, none⟩)) rfl (by kernel_rfl) (fun _ _ _ h => h) (by rfl) (fun w_ => by go_simp) ?_
          simp only [List.getElem_toArray, List.getElem_cons_zero, List.getElem_cons_succ, Act.put, List.setIfInBounds_toArray, List.set_cons_zero, List.set_cons_succ]
          refine wpL_takeF (i := 10) (v := .pointer (some ⟨g1, 0, none⟩)) rfl (by kernel_rfl) (fun _ _ _ h => h) (by rfl) (fun w_ => by go_simp) ?_
          simp only [List.getElem_toArray, List.getElem_cons_zero, List.getElem_cons_succ, Act.put, List.setIfInBounds_toArray, List.set_cons_zero, List.set_cons_succ]
          refine wpL_do (i := 11) rfl (by kernel_rfl) (by rfl) (fun K_ hK_ => ?_)
          have hrs_ := H.rules
          simp only [Rules, and_true] at hrs_
          go_simp
          clear hrs_
          refine kontH (by (repeat (first | with_reducible exact H | with_reducible exact H0_ | with_reducible apply Hp.alloc | with_reducible apply Hp.allocMap | with_reducible apply Hp.drew | with_reducible apply Hp.drewN | with_reducible apply Hp.set)); (try any_goals (repeat (first | with_reducible exact Upd.head | with_reducible apply Upd.tail)))) ?_
          clear H; intro w14 H; (try simp only [size_drew_, size_drewN_, World.size_alloc, World.size_setCell, List.set_cons_zero, List.set_cons_succ] at H)
          refine hK_ _ _ (fun h => absurd (by decide) h) (fun _ => ?_)
          refine wpL_done (by kernel_rfl) ?_ _
          have F := last55 (sp := sp) (z0 := z0) (z1 := z1) (z2 := z2) (z3 := z3) (z4 := z4) HL1.out
          obtain ⟨F0, F1, F2, F3, F4⟩ := F
          have hr_ := H.rules; simp only [Rules, and_true] at hr_; have hd_ := H.dif; simp only [Dif, Neq, and_true] at hd_; obtain ⟨ho_, hz_⟩ := H.old0
          repeat ((fail_if_success (with_reducible (show Code.wp _ (Code.region 57 _ _) _ _ _))); go_step)
          (try clear hr_ hd_ ho_ hz_ F0 F1 F2 F3 F4)
          refine regionH (by (repeat (first | with_reducible exact H | with_reducible exact H0_ | with_reducible apply Hp.alloc | with_reducible apply Hp.allocMap | with_reducible apply Hp.drew | with_reducible apply Hp.drewN | with_reducible apply Hp.set)); (try any_goals (repeat (first | with_reducible exact Upd.head | with_reducible apply Upd.tail)))) ?_
          clear H; intro w15 H; (try simp only [size_drew_, size_drewN_, World.size_alloc, World.size_setCell, List.set_cons_zero, List.set_cons_succ] at H)
          rw [set5 HL1.out] at H
          have H := Hp.lastSet5 (x := .mk 2 0 0 [[]] []) (us := ts) (((H.pick (c := .dat (Tm.mk 2 0 0 [[]] []).d _) (by (repeat (first | with_reducible exact Pick.head | with_reducible apply Pick.tail)))).pick (c := .dat (.s (ts.map Tm.d)) c1) (.tail (by (repeat (first | with_reducible exact Pick.head | with_reducible apply Pick.tail))))).pick (c := .box g' 30 _) (.tail (.tail (by (repeat (first | with_reducible exact Pick.head | with_reducible apply Pick.tail)))))) HL1.out HL2.out hl3 (by unfold M; omega)
          have hL5 : ts.length + 1 = (ts ++ [Tm.mk 2 0 0 [[]] []]).length := by simp
          rw [hL5] at H
          go_wp2_with fail
          go_roundw
          case rel => exact ⟨j + 1, ts ++ [.mk 2 0 0 [[]] []], _, _, by omega, by first | go_num | rfl | simp, by simp [HTS.out], (H.arr (by (repeat (first | with_reducible exact Arr.nil | refine Arr.cons (by (repeat (first | with_reducible exact Pick.head | with_reducible apply Pick.tail))) ?_)) <;> exact Arr.of_subl (by (repeat (first | with_reducible exact Subl.refl _ | with_reducible apply Subl.drop)))))⟩
          case measure => simp [intOf]; omega
        · refine wpOp_do (i := 7) rfl (by rfl) (fun K_ hK_ => ?_)
          go_simp
          refine kontH (by (repeat (first | with_reducible exact H | with_reducible exact H0_ | with_reducible apply Hp.alloc | with_reducible apply Hp.allocMap | with_reducible apply Hp.drew | with_reducible apply Hp.drewN | with_reducible apply Hp.set)); (try any_goals (repeat (first | with_reducible exact Upd.head | with_reducible apply Upd.tail)))) ?_
          clear H; intro wb H; (try simp only [size_drew_, size_drewN_, World.size_alloc, World.size_setCell, List.set_cons_zero, List.set_cons_succ] at H)
          refine hK_ _ _ (fun _ => H.sub (by simp)) (fun hR_ => ?_)
          replace hR_ := hR_ (by decide)
          refine wpL_do (i := 5) rfl (by kernel_rfl) (by rfl) (fun K_ hK_ => ?_)
          go_simp
          refine term1O_calls.mono ?_
          rintro e w_ ⟨v, rfl, hto, hx⟩
          obtain ⟨E1, Ec, E2, Ek, rfl, H_⟩ := H.resTm hx hto
          clear H hx hto
          have H := H_
          clear H_
          refine hK_ _ _ (fun _ => H.sub (by simp)) (fun hR_ => ?_)
          replace hR_ := hR_ (by decide)
          simp only [List.getElem_toArray, List.getElem_cons_zero, List.getElem_cons_succ, Act.put, List.setIfInBounds_toArray, List.set_cons_zero, List.set_cons_succ]
          have H := (H.nil 30 5).nil 38 1
          have H := H.tm (k := 0) (n := 0) (a := 0) (ls := []) (ks := []) .head .head (by unfold inI; omega) (by unfold inI; omega) (by unfold inI; omega)
          refine wpL_do (i := 8) rfl (by kernel_rfl) (by rfl) (fun K_ hK_ => ?_)
          refine wp_pushH (.tmp 235) (.tmp 238) 28 rfl stTerms (by go_simp <;> first | rfl | exact ⟨rfl, rfl⟩) (by go_simp <;> first | rfl | exact ⟨rfl, rfl⟩) H (by (repeat (first | with_reducible exact Pick.head | with_reducible apply Pick.tail))) (by (repeat (first | with_reducible exact Pick.head | with_reducible apply Pick.tail))) (by (repeat (first | with_reducible exact Pick.head | with_reducible apply Pick.tail))) (Tm.size_d _) ?_ ?_
          focus (simp [M]; omega)
          clear H; intro v' w13 H
          obtain ⟨g', c', c1, sp, z0, z1, z2, z3, z4, rfl, hl1, hl2, hl3, hl4, hl5, H_⟩ := H.lastBox5 (x := .mk 0 0 0 [] []) (by (repeat (first | with_reducible exact Pick.head | with_reducible apply Pick.tail)))
          clear H
          have H := H_
          clear H_
          refine hK_ _ _ (fun h => absurd (by decide) h) (fun _ => ?_)
          have HL1 := Lib.hid hl1
          have HL2 := Lib.hid hl2
          clear hl1 hl2
          refine wpL_takeF (i := 9) (v := .pointer (some ⟨g1, 0, none⟩)) rfl (by kernel_rfl) (fun _ _ _ h => h) (by rfl) (fun w_ => by go_simp) ?_
          simp only [List.getElem_toArray, List.getElem_cons_zero, List.getElem_cons_succ, Act.put, List.setIfInBounds_toArray, List.set_cons_zero, List.set_cons_succ]
          refine wpL_takeF (i := 10) (v := .pointer (some ⟨g1, 0, none⟩)) rfl (by kernel_rfl) (fun _ _ _ h => h) (by rfl) (fun w_ => by go_simp) ?_
          simp only [List.getElem_toArray, List.getElem_cons_zero, List.getElem_cons_succ, Act.put, List.setIfInBounds_toArray, List.set_cons_zero, List.set_cons_succ]
          refine wpL_do (i := 11) rfl (by kernel_rfl) (by rfl) (fun K_ hK_ => ?_)
          have hrs_ := H.rules
          simp only [Rules, and_true] at hrs_
          go_simp
          clear hrs_
          refine kontH (by (repeat (first | with_reducible exact H | with_reducible exact H0_ | with_reducible apply Hp.alloc | with_reducible apply Hp.allocMap | with_reducible apply Hp.drew | with_reducible apply Hp.drewN | with_reducible apply Hp.set)); (try any_goals (repeat (first | with_reducible exact Upd.head | with_reducible apply Upd.tail)))) ?_
          clear H; intro w14 H; (try simp only [size_drew_, size_drewN_, World.size_alloc, World.size_setCell, List.set_cons_zero, List.set_cons_succ] at H)
          refine hK_ _ _ (fun h => absurd (by decide) h) (fun _ => ?_)
          refine wpL_done (by kernel_rfl) ?_ _
          have F := last55 (sp := sp) (z0 := z0) (z1 := z1) (z2 := z2) (z3 := z3) (z4 := z4) HL1.out
          obtain ⟨F0, F1, F2, F3, F4⟩ := F
          have hr_ := H.rules; simp only [Rules, and_true] at hr_; have hd_ := H.dif; simp only [Dif, Neq, and_true] at hd_; obtain ⟨ho_, hz_⟩ := H.old0
          repeat ((fail_if_success (with_reducible (show Code.wp _ (Code.region 57 _ _) _ _ _))); go_step)
          (try clear hr_ hd_ ho_ hz_ F0 F1 F2 F3 F4)
          refine regionH (by (repeat (first | with_reducible exact H | with_reducible exact H0_ | with_reducible apply Hp.alloc | with_reducible apply Hp.allocMap | with_reducible apply Hp.drew | with_reducible apply Hp.drewN | with_reducible apply Hp.set)); (try any_goals (repeat (first | with_reducible exact Upd.head | with_reducible apply Upd.tail)))) ?_
          clear H; intro w15 H; (try simp only [size_drew_, size_drewN_, World.size_alloc, World.size_setCell, List.set_cons_zero, List.set_cons_succ] at H)
          rw [set5 HL1.out] at H
          have H := Hp.lastSet5 (x := .mk 2 0 0 [[]] []) (us := ts) (((H.pick (c := .dat (Tm.mk 2 0 0 [[]] []).d _) (by (repeat (first | with_reducible exact Pick.head | with_reducible apply Pick.tail)))).pick (c := .dat (.s (ts.map Tm.d)) c1) (.tail (by (repeat (first | with_reducible exact Pick.head | with_reducible apply Pick.tail))))).pick (c := .box g' 30 _) (.tail (.tail (by (repeat (first | with_reducible exact Pick.head | with_reducible apply Pick.tail)))))) HL1.out HL2.out hl3 (by unfold M; omega)
          have hL5 : ts.length + 1 = (ts ++ [Tm.mk 2 0 0 [[]] []]).length := by simp
          rw [hL5] at H
          go_wp2_with fail
          go_roundw
          case rel => exact ⟨j + 1, ts ++ [.mk 2 0 0 [[]] []], _, _, by omega, by first | go_num | rfl | simp, by simp [HTS.out], (H.arr (by (repeat (first | with_reducible exact Arr.nil | refine Arr.cons (by (repeat (first | with_reducible exact Pick.head | with_reducible apply Pick.tail))) ?_)) <;> exact Arr.of_subl (by (repeat (first | with_reducible exact Subl.refl _ | with_reducible apply Subl.drop)))))⟩
          case measure => simp [intOf]; omega
    · subst hts
      have hje : ts.length = m := by omega
      subst hje
      go_wp2_with fail
      (try clear hr_ hd_ ho_ hz_)
      refine endH (by (repeat (first | with_reducible exact H | with_reducible exact H0_ | with_reducible apply Hp.alloc | with_reducible apply Hp.allocMap | with_reducible apply Hp.drew | with_reducible apply Hp.drewN | with_reducible apply Hp.set)); (try any_goals (repeat (first | with_reducible exact Upd.head | with_reducible apply Upd.tail)))) ?_
      clear H; intro w10 H; (try simp only [size_drew_, size_drewN_, World.size_alloc, World.size_setCell, List.set_cons_zero, List.set_cons_succ] at H)
      have h1 := H.rd (d := .l 30 5 (ts.map Tm.d)) (cs := [.slice A ts.length c]) (by (repeat (first | with_reducible exact Pick.head | with_reducible apply Pick.tail)))
      have k1 : RC w10 (fun _ => True) (.l 64 1 ([(⟨ts⟩ : Mb)].map Mb.d)) [.slice (some ⟨g1, 0, none⟩) 1 1] := rowOf (H.blk (g := g1) (cs := [.slice A ts.length c]) (by (repeat (first | with_reducible exact Pick.head | with_reducible apply Pick.tail)))) trivial (RCs.single (RC.mb.2 ⟨A, c, rfl, tru h1⟩)) (by simp [Mb.size_d]) rfl (by simp)
      have HD_ := (Hp.only (Hp.pick H (c := .box gd 42 _) (by (repeat (first | with_reducible exact Pick.head | with_reducible apply Pick.tail)))) (.keep (by (repeat (first | with_reducible exact Subl.nil | with_reducible apply Subl.drop)))))
      exact hQ _ _ _ _ _ _ _ _ _ _ _ _ _ _ _ _ _ _ _ _ _ _ _ _ _ _ _ _ _ _ _ _ _ _ _ _ _ _ _ _ _ _ _ _ _ _ _ _ _ _ _ _ _ _ _ _ _ _ _ _ _ _ _ _ _ _ _ _ _ _ _ _ _ _ _ _ _ _ _ _ _ _ _ _ _ _ _ _ _ _ _ _ _ _ _ _ _ _ _ _ _ _ _ _ _ _ _ _ _ _ _ _ _ _ _ _ _ _ _ _ _ _ _ _ _ _ _ ⟨3, 0, tmZ, tmZ, [], [], [⟨ts⟩], [⟨0, tmS 0⟩, ⟨0, piT⟩]⟩ _ _ HD_ (RC.dc.2 ⟨none, 0, none, 0, none, 0, none, 0, none, 0, none, 0, some ⟨g1, 0, none⟩, 1, some ⟨g2, 0, none⟩, 2, rfl, by unfold inI; simp, inI0, tmZ_rc inI0, tmZ_rc inI0, RC.nil, RC.nil, k1, natCt (H.blk (by (repeat (first | with_reducible exact Pick.head | with_reducible apply Pick.tail)))) (H.blk (by (repeat (first | with_reducible exact Pick.head | with_reducible apply Pick.tail)))) inI0 inI0 (by unfold inI; omega)⟩)

end Go.Proofs.YteelplgdojjakaaDoor
