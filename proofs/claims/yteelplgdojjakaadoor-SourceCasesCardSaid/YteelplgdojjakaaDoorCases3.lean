/- SourceCases: the ways of its switch: what they make of a declaration is a declaration. No statement of the seat is proved here. -/
import Derived.Test.YteelplgdojjakaaDoorCases2
namespace Go.Proofs.YteelplgdojjakaaDoor
set_option linter.unusedSimpArgs false
set_option linter.unusedVariables false
open Go.RowKit


abbrev natX (v12 v14 v15 : Value) : List Value := [.int .i64 3, .int .i64 0, .int .i64 0, .int .i64 0, .int .i64 0, .slice none 0 0, .slice none 0 0, .int .i64 0, .int .i64 0, .int .i64 0, .slice none 0 0, .slice none 0 0, v12, .slice none 0 0, v14, v15]
theorem RCs.tru {w : World} {S : Nat → Prop} {ds : List D} {cs : List Value} (h : RCs w S ds cs) : RCs w (fun _ => True) ds cs := RCs.frame (Nat.le_refl _) (fun _ _ _ => trivial) (fun _ _ _ => rfl) _ _ h
theorem RCs.put2 {w : World} {S : Nat → Prop} {z j : Nat} {ds : List D} {d : D} {pre c c' post : List Value} (h : RCs w S ds (pre ++ (c ++ post))) (hz : ∀ x ∈ ds, x.size = z) (hj : j < ds.length) (h1 : pre.length = j * z) (h2 : c.length = z) (hd : RC w S d c') : RCs w S (ds.set j d) (pre ++ (c' ++ post)) := by
  have := RCs.put h hz hj hd
  rw [← h1, List.take_left, List.drop_length_add_append, List.drop_left' h2] at this
  exact this
theorem set_in {pre c post : List Value} {i : Nat} {v : Value} (h : i < c.length) : (pre ++ (c ++ post)).set (pre.length + i) v = pre ++ (c.set i v ++ post) := by
  rw [List.set_append_right _ _ (by omega), Nat.add_sub_cancel_left, List.set_append_left _ _ h]
theorem sets5 {pre post : List Value} {n : Nat} {a b c d e v0 v1 v2 v3 v4 : Value} (h : pre.length = n) : (((((pre ++ ([a, b, c, d, e] ++ post)).set n v0).set (n + 1) v1).set (n + 2) v2).set (n + 3) v3).set (n + 4) v4 = pre ++ ([v0, v1, v2, v3, v4] ++ post) := by
  subst h
  have e0 := set_in (pre := pre) (c := [a, b, c, d, e]) (post := post) (i := 0) (v := v0) (by simp)
  rw [Nat.add_zero] at e0
  rw [e0, set_in (i := 1) (by simp), set_in (i := 2) (by simp), set_in (i := 3) (by simp), set_in (i := 4) (by simp)]
  rfl
theorem sets6 {pre post : List Value} {n : Nat} {m a b c d e v0 v1 v2 v3 v4 : Value} (h : pre.length = n) : (((((pre ++ ([m, a, b, c, d, e] ++ post)).set (n + 1) v0).set (n + 2) v1).set (n + 3) v2).set (n + 4) v3).set (n + 5) v4 = pre ++ ([m, v0, v1, v2, v3, v4] ++ post) := by
  subst h
  rw [set_in (i := 1) (by simp), set_in (i := 2) (by simp), set_in (i := 3) (by simp), set_in (i := 4) (by simp), set_in (i := 5) (by simp)]
  rfl
theorem get_in {pre c post : List Value} {n i : Nat} {v : Value} (h : pre.length = n) (hv : c[i]? = some v) : (pre ++ (c ++ post))[n + i]? = some v := by
  subst h
  rw [List.getElem?_append_right (by omega), Nat.add_sub_cancel_left]
  obtain ⟨h, -⟩ := List.getElem?_eq_some_iff.1 hv
  rw [List.getElem?_append_left h, hv]
theorem onlyN3 {P : Program} {c : Code} {Q : Exit → Act → World → Prop} {a : Act} {w : World} (h : c.wp P (Exit.then (Q .normal) fun _ _ _ => False) a w) : c.wp P Q a w :=
  Code.wp_mono (fun e a w q => by cases e <;> first | exact q | exact q.elim) h
theorem Hp.ghM {X : Nat → Prop} {w0 w : World} {l : List Ch} {K : List Nat} {p q : World → Prop} (H : Hp X w0 w (.gh K p :: l)) (h : ∀ w, p w → q w) : Hp X w0 w (.gh K q :: l) := by
  have := Hp.gh2 (H.gh0 (p := fun _ => True) (fun _ => trivial)) (r := q) (fun w _ h1 => h w h1)
  simpa using this

set_option maxRecDepth 100000 in
set_option maxHeartbeats 8000000 in
theorem case36_1 {w W : World} {gd g1 g2 g3 m : Nat} {Q : Exit → Act → World → Prop} {x0 x1 x2 x3 x4 x5 x6 x7 x8 x9 x10 x11 x13 x15 x16 x17 x18 x19 x20 x21 x22 x23 x24 x25 x26 x27 x28 x29 x30 x31 x32 x33 x34 x35 x36 x37 x38 x39 x40 x41 x42 x43 x44 x45 x46 x47 x48 x49 x50 x51 x52 x53 x54 x55 x56 x57 x58 x59 x60 x61 x62 x63 x64 x65 x66 x67 x68 x69 x70 x71 x72 x73 x74 x75 x76 x77 x78 x79 x80 x81 x82 x83 x84 x85 x86 x87 x88 x89 x90 x91 x92 x93 x94 x95 x96 x97 x98 x99 x100 x101 x102 x103 x104 x105 x106 x107 x108 x109 x110 x111 x112 x113 x114 x115 x116 x117 x118 x119 x120 x121 x122 x123 x124 x125 x126 x127 x128 x129 x130 x131 x132 x133 x134 x135 x136 x137 x138 x139 x140 x141 x142 x143 x144 x145 x146 x147 x148 x149 x150 x151 x152 x153 x154 x155 x156 x157 x158 x159 x161 x162 x163 x164 x165 x166 x167 x168 x169 x170 x171 x172 x173 x174 x175 x176 x177 x178 x179 x180 x181 x182 x183 x184 x185 x186 x187 x188 x189 x190 x191 x192 x193 x194 x195 x196 x197 x198 x199 x200 x201 x202 x203 x204 x205 x206 x207 x208 x209 x210 x211 x212 x213 x214 x215 x216 x217 x218 x219 x220 x221 x222 x223 x224 x225 x226 x227 x228 x229 x230 x231 x232 x233 x234 x235 x236 x237 x238 x239 x240 x241 x242 x243 x244 x245 x246 x247 x248 x249 x250 x251 x252 x253 x254 x255 x256 x257 x258 x259 x260 x261 x262 x263 x264 x265 x266 x267 x268 x269 x270 x271 x272 x273 x274 x275 x276 x277 x278 x279 x280 x281 x282 x283 x284 x285 x286 x287 x288 x289 x290 x291 x292 x293 x294 x295 x296 x297 x298 x299 : Value} (hm : m < 20)
    (H : Hp no w W [.box gd 42 (natL g1 g2), .box g1 64 [.slice none 0 0], .box g2 70 (natC g3), .box g3 30 natK])
    (hQ : ∀ (y15 y16 y17 y161 y162 y163 y164 y165 y166 y167 y168 y169 y170 y171 y172 y173 y174 y175 y176 y177 y178 y179 y180 y181 y182 y183 y184 y185 y186 y187 y188 y189 y190 y191 y192 y193 y194 y195 y196 y197 y198 y199 y200 y201 y202 y203 y204 y205 y206 y207 y208 y209 y210 y211 y212 y213 y214 y215 y216 y217 y218 y219 y220 y221 y222 y223 y224 y225 y226 y227 y228 y229 y230 y231 y232 y233 y234 y235 y236 y237 y238 y239 y240 y241 y242 y243 y244 y245 y246 y247 y248 y249 y250 y251 y252 y253 y254 y255 y256 y257 y258 y259 y260 y261 y262 y263 y264 y265 y266 y267 y268 y269 y270 y271 y272 y273 y274 y275 y276 y277 y278 y279 y280 y281 y282 y283 y284 : Value) (d : Dc) (cs : List Value) (w' : World), Hp no w w' [.box gd 42 cs] → RC w' (fun _ => True) d.d cs → Q .normal { tmps := #[x0, x1, x2, x3, x4, x5, x6, x7, x8, x9, x10, x11, .int .i64 (m : Int), x13, .pointer (some ⟨gd, 0, none⟩), y15, y16, y17, x18, x19, x20, x21, x22, x23, x24, x25, x26, x27, x28, x29, x30, x31, x32, x33, x34, x35, x36, x37, x38, x39, x40, x41, x42, x43, x44, x45, x46, x47, x48, x49, x50, x51, x52, x53, x54, x55, x56, x57, x58, x59, x60, x61, x62, x63, x64, x65, x66, x67, x68, x69, x70, x71, x72, x73, x74, x75, x76, x77, x78, x79, x80, x81, x82, x83, x84, x85, x86, x87, x88, x89, x90, x91, x92, x93, x94, x95, x96, x97, x98, x99, x100, x101, x102, x103, x104, x105, x106, x107, x108, x109, x110, x111, x112, x113, x114, x115, x116, x117, x118, x119, x120, x121, x122, x123, x124, x125, x126, x127, x128, x129, x130, x131, x132, x133, x134, x135, x136, x137, x138, x139, x140, x141, x142, x143, x144, x145, x146, x147, x148, x149, x150, x151, x152, x153, x154, x155, x156, x157, x158, x159, .int .i64 1, y161, y162, y163, y164, y165, y166, y167, y168, y169, y170, y171, y172, y173, y174, y175, y176, y177, y178, y179, y180, y181, y182, y183, y184, y185, y186, y187, y188, y189, y190, y191, y192, y193, y194, y195, y196, y197, y198, y199, y200, y201, y202, y203, y204, y205, y206, y207, y208, y209, y210, y211, y212, y213, y214, y215, y216, y217, y218, y219, y220, y221, y222, y223, y224, y225, y226, y227, y228, y229, y230, y231, y232, y233, y234, y235, y236, y237, y238, y239, y240, y241, y242, y243, y244, y245, y246, y247, y248, y249, y250, y251, y252, y253, y254, y255, y256, y257, y258, y259, y260, y261, y262, y263, y264, y265, y266, y267, y268, y269, y270, y271, y272, y273, y274, y275, y276, y277, y278, y279, y280, y281, y282, y283, y284, x285, x286, x287, x288, x289, x290, x291, x292, x293, x294, x295, x296, x297, x298, x299], defers := [] } w') :
    ((findR 36 (Tryd.f6.body.getD .skip)).getD .skip).wp Tryd.prog Q { tmps := #[x0, x1, x2, x3, x4, x5, x6, x7, x8, x9, x10, x11, .int .i64 (m : Int), x13, .pointer (some ⟨gd, 0, none⟩), x15, x16, x17, x18, x19, x20, x21, x22, x23, x24, x25, x26, x27, x28, x29, x30, x31, x32, x33, x34, x35, x36, x37, x38, x39, x40, x41, x42, x43, x44, x45, x46, x47, x48, x49, x50, x51, x52, x53, x54, x55, x56, x57, x58, x59, x60, x61, x62, x63, x64, x65, x66, x67, x68, x69, x70, x71, x72, x73, x74, x75, x76, x77, x78, x79, x80, x81, x82, x83, x84, x85, x86, x87, x88, x89, x90, x91, x92, x93, x94, x95, x96, x97, x98, x99, x100, x101, x102, x103, x104, x105, x106, x107, x108, x109, x110, x111, x112, x113, x114, x115, x116, x117, x118, x119, x120, x121, x122, x123, x124, x125, x126, x127, x128, x129, x130, x131, x132, x133, x134, x135, x136, x137, x138, x139, x140, x141, x142, x143, x144, x145, x146, x147, x148, x149, x150, x151, x152, x153, x154, x155, x156, x157, x158, x159, .int .i64 1, x161, x162, x163, x164, x165, x166, x167, x168, x169, x170, x171, x172, x173, x174, x175, x176, x177, x178, x179, x180, x181, x182, x183, x184, x185, x186, x187, x188, x189, x190, x191, x192, x193, x194, x195, x196, x197, x198, x199, x200, x201, x202, x203, x204, x205, x206, x207, x208, x209, x210, x211, x212, x213, x214, x215, x216, x217, x218, x219, x220, x221, x222, x223, x224, x225, x226, x227, x228, x229, x230, x231, x232, x233, x234, x235, x236, x237, x238, x239, x240, x241, x242, x243, x244, x245, x246, x247, x248, x249, x250, x251, x252, x253, x254, x255, x256, x257, x258, x259, x260, x261, x262, x263, x264, x265, x266, x267, x268, x269, x270, x271, x272, x273, x274, x275, x276, x277, x278, x279, x280, x281, x282, x283, x284, x285, x286, x287, x288, x289, x290, x291, x292, x293, x294, x295, x296, x297, x298, x299], defers := [] } W := by
  obtain ⟨cl0, hcl, hmk⟩ := hidden _ (fun (cl : List Value) => ∀ w : World, (Instr.makeSlice 28 (.int .i64 (m : Int)) (.int .i64 (m : Int))).run Tryd.prog w = .ok (.slice (some ⟨w.heap.size, 0, none⟩) m m) (w.alloc (.cells cl.toArray 30))) (makeTm m (by omega))
  conv => arg 2; whnf
  have hr_ := H.rules; simp only [Rules, and_true] at hr_; have hd_ := H.dif; simp only [Dif, Neq, and_true] at hd_; obtain ⟨ho_, hz_⟩ := H.old0
  go_wp2_with fail
  (try clear hr_ hd_ ho_ hz_)
  clear hmk
  refine codeH (by (repeat (first | with_reducible exact H | with_reducible exact H0_ | with_reducible apply Hp.alloc | with_reducible apply Hp.allocMap | with_reducible apply Hp.drew | with_reducible apply Hp.drewN | with_reducible apply Hp.set)); (try any_goals (repeat (first | with_reducible exact Upd.head | with_reducible apply Upd.tail)))) ?_
  clear H; intro w8 H; (try simp only [size_drew_, size_drewN_, World.size_alloc, World.size_setCell, List.set_cons_zero, List.set_cons_succ] at H)
  have H := H.gh0 (p := fun w' => RCs w' (fun k => w.heap.size ≤ k) ((List.replicate m tmZ).map Tm.d) cl0) (fun w' => by show RCs _ _ _ _; rw [hcl.out, List.map_replicate]; exact RCs.rep (tmZ_rc inI0) m)
  generalize W.heap.size = gp at H ⊢
  go_loopw [15] (fun i wr => ∃ (j : Nat) (ts : List Tm) (cl : List Value) (K : List Nat), j ≤ m ∧ i = .int .i64 j ∧ ts.length = m ∧ Hp no w wr [.gh K (fun w' => RCs w' (fun k => w.heap.size ≤ k) (ts.map Tm.d) cl), .box gp 30 cl, .box gd 42 (natX (.slice (some ⟨gp, 0, none⟩) m m) (.slice (some ⟨g1, 0, none⟩) 1 1) (.slice (some ⟨g2, 0, none⟩) 2 2)), .box g1 64 [.slice none 0 0], .box g2 70 (natC g3), .box g3 30 natK]) (fun i _ => m - (intOf i).toNat)
  case atStart => exact ⟨0, List.replicate m tmZ, cl0, [], Nat.zero_le _, rfl, by simp, (H.arr (by (repeat (first | with_reducible exact Arr.nil | refine Arr.cons (by (repeat (first | with_reducible exact Pick.head | with_reducible apply Pick.tail))) ?_)) <;> exact Arr.of_subl (by (repeat (first | with_reducible exact Subl.refl _ | with_reducible apply Subl.drop)))))⟩
  case round =>
    clear H
    obtain ⟨j, ts, cl, K, hj, rfl, hts, H⟩ := hrel
    by_cases hlt : j < m
    · have hp := H.gh (p := fun w' => RCs w' (fun k => w.heap.size ≤ k) (ts.map Tm.d) cl) (by (repeat (first | with_reducible exact Pick.head | with_reducible apply Pick.tail)))
      obtain ⟨c, hc, l1, l2, hcc⟩ := RCs.part (z := 5) (j := j) hp (by simp [Tm.size_d]) (by simp [hts, hlt])
      rw [List.getElem_map] at hcc
      generalize ts[j] = tj at hcc
      obtain ⟨A2, c2, B2, b2, rfl, -⟩ := RC.tm.1 hcc
      obtain ⟨pre, hpre⟩ : ∃ pre, pre = cl.take (j * 5) := ⟨_, rfl⟩
      obtain ⟨post, hpost⟩ : ∃ post, post = cl.drop (j * 5 + 5) := ⟨_, rfl⟩
      rw [← hpre] at l1
      rw [← hpre, ← hpost] at hc
      clear hp hcc hpre hpost
      subst hc
      have HTS := Lib.hid hts
      have L1 := Lib.hid l1
      clear l1 l2 hts
      have hr_ := H.rules; simp only [Rules, and_true] at hr_; have hd_ := H.dif; simp only [Dif, Neq, and_true] at hd_; obtain ⟨ho_, hz_⟩ := H.old0
      go_wp2_with fail
      (try clear hr_ hd_ ho_ hz_)
      refine regionH (by (repeat (first | with_reducible exact H | with_reducible exact H0_ | with_reducible apply Hp.alloc | with_reducible apply Hp.allocMap | with_reducible apply Hp.drew | with_reducible apply Hp.drewN | with_reducible apply Hp.set)); (try any_goals (repeat (first | with_reducible exact Upd.head | with_reducible apply Upd.tail)))) ?_
      clear H; intro w9 H; (try simp only [size_drew_, size_drewN_, World.size_alloc, World.size_setCell, List.set_cons_zero, List.set_cons_succ] at H)
      refine onlyN3 ?_
      refine wp_region_H 6 [false, false, false, false, false, false] [] H (.cons (i := 2) rfl .nil) (by kernel_rfl) rfl rfl (fun H_ hR_ => ?_)
      (try clear H0_); have H0_ := H; clear H; have H := H_; clear H_
      refine wpL_reads (is := [(0, ?v1_0), (1, ?v1_1), (2, ?v1_2)]) (by kernel_rfl) (Nat.le_of_ble_eq_true rfl) (by intro _ _ d_ _ _ h_; cases d_ <;> exact h_) (by kernel_rfl) hR_ (fun w_ hw_ => ?h1_) ?_
      case h1_ =>
        have ho_ := hw_.old0.1; have hz_ := hw_.old0.2; have hr_ := hw_.rules; clear hw_; simp only [Rules, and_true] at hr_; go_split_ands
        (repeat (first | with_reducible exact RdOps.nil | (refine RdOps.run rfl (by rfl) ?_ ?_; (focus (first | (go_simp; done) | (go_simp; with_reducible rfl))); simp only [List.getElem_toArray, List.getElem_cons_zero, List.getElem_cons_succ, Act.put, List.setIfInBounds_toArray, List.set_cons_zero, List.set_cons_succ]) | (refine RdOps.skip rfl (by rfl) ?_ ?_; (focus (with_reducible rfl)); simp only [List.getElem_toArray, List.getElem_cons_zero, List.getElem_cons_succ, Act.put, List.setIfInBounds_toArray, List.set_cons_zero, List.set_cons_succ])))
      simp only [rdMark, rdAct, List.map_cons, List.map_nil, List.length_cons, List.length_nil, Nat.reduceAdd, Nat.reduceSub, Nat.zero_add, List.getElem?_toArray, List.getElem?_cons_zero, List.getElem?_cons_succ, Option.bind_some, Act.put, List.setIfInBounds_toArray, List.set_cons_zero, List.set_cons_succ]
      refine wpL_do (i := 3) rfl (by kernel_rfl) (by rfl) (fun K_ hK_ => ?_)
      go_simp
      obtain ⟨T3, hT3⟩ : ∃ T : Tm, T = Tm.mk 2 0 0 (List.replicate 1 []) [] := ⟨_, rfl⟩
      refine (term11_calls (k := 2) (n := 0) (a := 0) 1 (by omega) (by unfold inI; omega) inI0 inI0).mono ?_
      rw [← hT3]
      clear hT3
      rintro e w3 ⟨cs3, rfl, hk3, hx3⟩
      obtain ⟨A3, ca3, B3, cb3, rfl, -⟩ := RC.tm.1 hk3
      obtain ⟨K3, H2⟩ := H.resR hx3 hk3
      clear H hx3 hk3
      have H := H2
      clear H2
      refine hK_ _ _ (fun _ => H.sub (by simp)) (fun hR_ => ?_)
      replace hR_ := hR_ (by decide)
      refine wpL_reads (is := [(4, ?v2_0)]) (by kernel_rfl) (Nat.le_of_ble_eq_true rfl) (by intro _ _ d_ _ _ h_; cases d_ <;> exact h_) (by kernel_rfl) hR_ (fun w_ hw_ => ?h2_) ?_
      case h2_ =>
        have ho_ := hw_.old0.1; have hz_ := hw_.old0.2; have hr_ := hw_.rules; clear hw_; simp only [Rules, and_true] at hr_; go_split_ands
        (repeat (first | with_reducible exact RdOps.nil | (refine RdOps.run rfl (by rfl) ?_ ?_; (focus (first | (go_simp; done) | (go_simp; with_reducible rfl))); simp only [List.getElem_toArray, List.getElem_cons_zero, List.getElem_cons_succ, Act.put, List.setIfInBounds_toArray, List.set_cons_zero, List.set_cons_succ]) | (refine RdOps.skip rfl (by rfl) ?_ ?_; (focus (with_reducible rfl)); simp only [List.getElem_toArray, List.getElem_cons_zero, List.getElem_cons_succ, Act.put, List.setIfInBounds_toArray, List.set_cons_zero, List.set_cons_succ])))
      simp only [rdMark, rdAct, List.map_cons, List.map_nil, List.length_cons, List.length_nil, Nat.reduceAdd, Nat.reduceSub, Nat.zero_add, List.getElem?_toArray, List.getElem?_cons_zero, List.getElem?_cons_succ, Option.bind_some, Act.put, List.setIfInBounds_toArray, List.set_cons_zero, List.set_cons_succ]
      refine wpL_do (i := 5) rfl (by kernel_rfl) (by rfl) (fun K_ hK_ => ?_)
      have s0 := get_in (pre := pre) (post := post) (c := [.int .i64 tj.k, .int .i64 tj.n, .int .i64 tj.a, .slice A2 tj.ls.length c2, .slice B2 tj.ks.length b2]) (i := 0) L1.out rfl
      have s1 := get_in (pre := pre) (post := post) (c := [.int .i64 tj.k, .int .i64 tj.n, .int .i64 tj.a, .slice A2 tj.ls.length c2, .slice B2 tj.ks.length b2]) (i := 1) L1.out rfl
      have s2 := get_in (pre := pre) (post := post) (c := [.int .i64 tj.k, .int .i64 tj.n, .int .i64 tj.a, .slice A2 tj.ls.length c2, .slice B2 tj.ks.length b2]) (i := 2) L1.out rfl
      have s3 := get_in (pre := pre) (post := post) (c := [.int .i64 tj.k, .int .i64 tj.n, .int .i64 tj.a, .slice A2 tj.ls.length c2, .slice B2 tj.ks.length b2]) (i := 3) L1.out rfl
      have s4 := get_in (pre := pre) (post := post) (c := [.int .i64 tj.k, .int .i64 tj.n, .int .i64 tj.a, .slice A2 tj.ls.length c2, .slice B2 tj.ks.length b2]) (i := 4) L1.out rfl
      simp only [List.cons_append, List.nil_append, Nat.add_zero] at s0 s1 s2 s3 s4
      have hr_ := H.rules
      simp only [Rules, and_true] at hr_
      go_simp
      clear hr_ s0 s1 s2 s3 s4
      refine kontH (by (repeat (first | with_reducible exact H | with_reducible exact H0_ | with_reducible apply Hp.alloc | with_reducible apply Hp.allocMap | with_reducible apply Hp.drew | with_reducible apply Hp.drewN | with_reducible apply Hp.set)); (try any_goals (repeat (first | with_reducible exact Upd.head | with_reducible apply Upd.tail)))) ?_
      clear H; intro w10 H; (try simp only [size_drew_, size_drewN_, World.size_alloc, World.size_setCell, List.set_cons_zero, List.set_cons_succ] at H)
      rw [sets5 L1.out] at H
      have H2 := Hp.gh2 H (r := fun w' => RCs w' (fun k => w.heap.size ≤ k) ((ts.set j T3).map Tm.d) (pre ++ ([.int .i64 T3.k, .int .i64 T3.n, .int .i64 T3.a, .slice A3 T3.ls.length ca3, .slice B3 T3.ks.length cb3] ++ post))) (fun w' h1 h2 => by rw [List.map_set]; exact RCs.put2 h2 (by simp [Tm.size_d]) (by simp [HTS.out, hlt]) L1.out rfl h1)
      clear H
      have H := H2
      clear H2
      refine hK_ _ _ (fun _ => H.sub (by simp)) (fun _ => ?_)
      refine wpL_done (by kernel_rfl) ?_ _
      go_wp2_with fail
      go_roundw
      case rel => exact ⟨j + 1, ts.set j T3, _, _, by omega, by first | go_num | rfl | simp, by simp [HTS.out], (H.arr (by (repeat (first | with_reducible exact Arr.nil | refine Arr.cons (by (repeat (first | with_reducible exact Pick.head | with_reducible apply Pick.tail))) ?_)) <;> exact Arr.of_subl (by (repeat (first | with_reducible exact Subl.refl _ | with_reducible apply Subl.drop)))))⟩
      case measure => simp [intOf]; omega
    · subst hts
      go_wp2_with fail
      (try clear hr_ hd_ ho_ hz_)
      refine endH (by (repeat (first | with_reducible exact H | with_reducible exact H0_ | with_reducible apply Hp.alloc | with_reducible apply Hp.allocMap | with_reducible apply Hp.drew | with_reducible apply Hp.drewN | with_reducible apply Hp.set)); (try any_goals (repeat (first | with_reducible exact Upd.head | with_reducible apply Upd.tail)))) ?_
      clear H; intro w10 H; (try simp only [size_drew_, size_drewN_, World.size_alloc, World.size_setCell, List.set_cons_zero, List.set_cons_succ] at H)
      have h1 := H.gh (p := fun w' => RCs w' (fun k => w.heap.size ≤ k) (ts.map Tm.d) cl) (by (repeat (first | with_reducible exact Pick.head | with_reducible apply Pick.tail)))
      have k1 : RC w10 (fun _ => True) (.l 30 5 (ts.map Tm.d)) [.slice (some ⟨gp, 0, none⟩) ts.length ts.length] := rowOf (H.blk (g := gp) (by (repeat (first | with_reducible exact Pick.head | with_reducible apply Pick.tail)))) trivial h1.tru (by simp [Tm.size_d]) (by simp) (by simp; omega)
      have HD_ := (Hp.only (Hp.pick H (c := .box gd 42 _) (by (repeat (first | with_reducible exact Pick.head | with_reducible apply Pick.tail)))) (.keep (by (repeat (first | with_reducible exact Subl.nil | with_reducible apply Subl.drop)))))
      exact hQ _ _ _ _ _ _ _ _ _ _ _ _ _ _ _ _ _ _ _ _ _ _ _ _ _ _ _ _ _ _ _ _ _ _ _ _ _ _ _ _ _ _ _ _ _ _ _ _ _ _ _ _ _ _ _ _ _ _ _ _ _ _ _ _ _ _ _ _ _ _ _ _ _ _ _ _ _ _ _ _ _ _ _ _ _ _ _ _ _ _ _ _ _ _ _ _ _ _ _ _ _ _ _ _ _ _ _ _ _ _ _ _ _ _ _ _ _ _ _ _ _ _ _ _ _ _ _ ⟨3, 0, tmZ, tmZ, ts, [], [⟨[]⟩], [⟨0, tmS 0⟩, ⟨0, piT⟩]⟩ _ _ HD_ (RC.dc.2 ⟨none, 0, none, 0, none, 0, none, 0, some ⟨gp, 0, none⟩, ts.length, none, 0, some ⟨g1, 0, none⟩, 1, some ⟨g2, 0, none⟩, 2, rfl, by unfold inI; simp, inI0, tmZ_rc inI0, tmZ_rc inI0, k1, RC.nil, natMb (H.blk (by (repeat (first | with_reducible exact Pick.head | with_reducible apply Pick.tail)))), natCt (H.blk (by (repeat (first | with_reducible exact Pick.head | with_reducible apply Pick.tail)))) (H.blk (by (repeat (first | with_reducible exact Pick.head | with_reducible apply Pick.tail)))) inI0 inI0 (by unfold inI; omega)⟩)

set_option maxRecDepth 100000 in
set_option maxHeartbeats 8000000 in
theorem case36_3 {w W : World} {gd g1 g2 g3 m : Nat} {Q : Exit → Act → World → Prop} {x0 x1 x2 x3 x4 x5 x6 x7 x8 x9 x10 x11 x13 x15 x16 x17 x18 x19 x20 x21 x22 x23 x24 x25 x26 x27 x28 x29 x30 x31 x32 x33 x34 x35 x36 x37 x38 x39 x40 x41 x42 x43 x44 x45 x46 x47 x48 x49 x50 x51 x52 x53 x54 x55 x56 x57 x58 x59 x60 x61 x62 x63 x64 x65 x66 x67 x68 x69 x70 x71 x72 x73 x74 x75 x76 x77 x78 x79 x80 x81 x82 x83 x84 x85 x86 x87 x88 x89 x90 x91 x92 x93 x94 x95 x96 x97 x98 x99 x100 x101 x102 x103 x104 x105 x106 x107 x108 x109 x110 x111 x112 x113 x114 x115 x116 x117 x118 x119 x120 x121 x122 x123 x124 x125 x126 x127 x128 x129 x130 x131 x132 x133 x134 x135 x136 x137 x138 x139 x140 x141 x142 x143 x144 x145 x146 x147 x148 x149 x150 x151 x152 x153 x154 x155 x156 x157 x158 x159 x161 x162 x163 x164 x165 x166 x167 x168 x169 x170 x171 x172 x173 x174 x175 x176 x177 x178 x179 x180 x181 x182 x183 x184 x185 x186 x187 x188 x189 x190 x191 x192 x193 x194 x195 x196 x197 x198 x199 x200 x201 x202 x203 x204 x205 x206 x207 x208 x209 x210 x211 x212 x213 x214 x215 x216 x217 x218 x219 x220 x221 x222 x223 x224 x225 x226 x227 x228 x229 x230 x231 x232 x233 x234 x235 x236 x237 x238 x239 x240 x241 x242 x243 x244 x245 x246 x247 x248 x249 x250 x251 x252 x253 x254 x255 x256 x257 x258 x259 x260 x261 x262 x263 x264 x265 x266 x267 x268 x269 x270 x271 x272 x273 x274 x275 x276 x277 x278 x279 x280 x281 x282 x283 x284 x285 x286 x287 x288 x289 x290 x291 x292 x293 x294 x295 x296 x297 x298 x299 : Value} (hm : m < 20)
    (H : Hp no w W [.box gd 42 (natL g1 g2), .box g1 64 [.slice none 0 0], .box g2 70 (natC g3), .box g3 30 natK])
    (hQ : ∀ (y15 y16 y17 y161 y162 y163 y164 y165 y166 y167 y168 y169 y170 y171 y172 y173 y174 y175 y176 y177 y178 y179 y180 y181 y182 y183 y184 y185 y186 y187 y188 y189 y190 y191 y192 y193 y194 y195 y196 y197 y198 y199 y200 y201 y202 y203 y204 y205 y206 y207 y208 y209 y210 y211 y212 y213 y214 y215 y216 y217 y218 y219 y220 y221 y222 y223 y224 y225 y226 y227 y228 y229 y230 y231 y232 y233 y234 y235 y236 y237 y238 y239 y240 y241 y242 y243 y244 y245 y246 y247 y248 y249 y250 y251 y252 y253 y254 y255 y256 y257 y258 y259 y260 y261 y262 y263 y264 y265 y266 y267 y268 y269 y270 y271 y272 y273 y274 y275 y276 y277 y278 y279 y280 y281 y282 y283 y284 : Value) (d : Dc) (cs : List Value) (w' : World), Hp no w w' [.box gd 42 cs] → RC w' (fun _ => True) d.d cs → Q .normal { tmps := #[x0, x1, x2, x3, x4, x5, x6, x7, x8, x9, x10, x11, .int .i64 (m : Int), x13, .pointer (some ⟨gd, 0, none⟩), y15, y16, y17, x18, x19, x20, x21, x22, x23, x24, x25, x26, x27, x28, x29, x30, x31, x32, x33, x34, x35, x36, x37, x38, x39, x40, x41, x42, x43, x44, x45, x46, x47, x48, x49, x50, x51, x52, x53, x54, x55, x56, x57, x58, x59, x60, x61, x62, x63, x64, x65, x66, x67, x68, x69, x70, x71, x72, x73, x74, x75, x76, x77, x78, x79, x80, x81, x82, x83, x84, x85, x86, x87, x88, x89, x90, x91, x92, x93, x94, x95, x96, x97, x98, x99, x100, x101, x102, x103, x104, x105, x106, x107, x108, x109, x110, x111, x112, x113, x114, x115, x116, x117, x118, x119, x120, x121, x122, x123, x124, x125, x126, x127, x128, x129, x130, x131, x132, x133, x134, x135, x136, x137, x138, x139, x140, x141, x142, x143, x144, x145, x146, x147, x148, x149, x150, x151, x152, x153, x154, x155, x156, x157, x158, x159, .int .i64 3, y161, y162, y163, y164, y165, y166, y167, y168, y169, y170, y171, y172, y173, y174, y175, y176, y177, y178, y179, y180, y181, y182, y183, y184, y185, y186, y187, y188, y189, y190, y191, y192, y193, y194, y195, y196, y197, y198, y199, y200, y201, y202, y203, y204, y205, y206, y207, y208, y209, y210, y211, y212, y213, y214, y215, y216, y217, y218, y219, y220, y221, y222, y223, y224, y225, y226, y227, y228, y229, y230, y231, y232, y233, y234, y235, y236, y237, y238, y239, y240, y241, y242, y243, y244, y245, y246, y247, y248, y249, y250, y251, y252, y253, y254, y255, y256, y257, y258, y259, y260, y261, y262, y263, y264, y265, y266, y267, y268, y269, y270, y271, y272, y273, y274, y275, y276, y277, y278, y279, y280, y281, y282, y283, y284, x285, x286, x287, x288, x289, x290, x291, x292, x293, x294, x295, x296, x297, x298, x299], defers := [] } w') :
    ((findR 36 (Tryd.f6.body.getD .skip)).getD .skip).wp Tryd.prog Q { tmps := #[x0, x1, x2, x3, x4, x5, x6, x7, x8, x9, x10, x11, .int .i64 (m : Int), x13, .pointer (some ⟨gd, 0, none⟩), x15, x16, x17, x18, x19, x20, x21, x22, x23, x24, x25, x26, x27, x28, x29, x30, x31, x32, x33, x34, x35, x36, x37, x38, x39, x40, x41, x42, x43, x44, x45, x46, x47, x48, x49, x50, x51, x52, x53, x54, x55, x56, x57, x58, x59, x60, x61, x62, x63, x64, x65, x66, x67, x68, x69, x70, x71, x72, x73, x74, x75, x76, x77, x78, x79, x80, x81, x82, x83, x84, x85, x86, x87, x88, x89, x90, x91, x92, x93, x94, x95, x96, x97, x98, x99, x100, x101, x102, x103, x104, x105, x106, x107, x108, x109, x110, x111, x112, x113, x114, x115, x116, x117, x118, x119, x120, x121, x122, x123, x124, x125, x126, x127, x128, x129, x130, x131, x132, x133, x134, x135, x136, x137, x138, x139, x140, x141, x142, x143, x144, x145, x146, x147, x148, x149, x150, x151, x152, x153, x154, x155, x156, x157, x158, x159, .int .i64 3, x161, x162, x163, x164, x165, x166, x167, x168, x169, x170, x171, x172, x173, x174, x175, x176, x177, x178, x179, x180, x181, x182, x183, x184, x185, x186, x187, x188, x189, x190, x191, x192, x193, x194, x195, x196, x197, x198, x199, x200, x201, x202, x203, x204, x205, x206, x207, x208, x209, x210, x211, x212, x213, x214, x215, x216, x217, x218, x219, x220, x221, x222, x223, x224, x225, x226, x227, x228, x229, x230, x231, x232, x233, x234, x235, x236, x237, x238, x239, x240, x241, x242, x243, x244, x245, x246, x247, x248, x249, x250, x251, x252, x253, x254, x255, x256, x257, x258, x259, x260, x261, x262, x263, x264, x265, x266, x267, x268, x269, x270, x271, x272, x273, x274, x275, x276, x277, x278, x279, x280, x281, x282, x283, x284, x285, x286, x287, x288, x289, x290, x291, x292, x293, x294, x295, x296, x297, x298, x299], defers := [] } W := by
  obtain ⟨cl0, hcl, hmk⟩ := hidden _ (fun (cl : List Value) => ∀ w : World, (Instr.makeSlice 40 (.int .i64 (m : Int)) (.int .i64 (m : Int))).run Tryd.prog w = .ok (.slice (some ⟨w.heap.size, 0, none⟩) m m) (w.alloc (.cells cl.toArray 70))) (makeCt m (by omega))
  conv => arg 2; whnf
  have hr_ := H.rules; simp only [Rules, and_true] at hr_; have hd_ := H.dif; simp only [Dif, Neq, and_true] at hd_; obtain ⟨ho_, hz_⟩ := H.old0
  go_wp2_with fail
  (try clear hr_ hd_ ho_ hz_)
  clear hmk
  refine codeH (by (repeat (first | with_reducible exact H | with_reducible exact H0_ | with_reducible apply Hp.alloc | with_reducible apply Hp.allocMap | with_reducible apply Hp.drew | with_reducible apply Hp.drewN | with_reducible apply Hp.set)); (try any_goals (repeat (first | with_reducible exact Upd.head | with_reducible apply Upd.tail)))) ?_
  clear H; intro w8 H; (try simp only [size_drew_, size_drewN_, World.size_alloc, World.size_setCell, List.set_cons_zero, List.set_cons_succ] at H)
  have H := H.gh0 (p := fun w' => RCs w' (fun k => w.heap.size ≤ k) ((List.replicate m (⟨0, tmZ⟩ : Ct)).map Ct.d) cl0) (fun w' => by show RCs _ _ _ _; rw [hcl.out, List.map_replicate]; exact RCs.rep (RC.ct.2 ⟨none, 0, none, 0, rfl, inI0, tmZ_rc inI0⟩) m)
  generalize W.heap.size = gp at H ⊢
  go_loopw [16] (fun i wr => ∃ (j : Nat) (us : List Ct) (cl : List Value) (K : List Nat), j ≤ m ∧ i = .int .i64 j ∧ us.length = m ∧ Hp no w wr [.gh K (fun w' => RCs w' (fun k => w.heap.size ≤ k) (us.map Ct.d) cl), .box gp 70 cl, .box gd 42 (natX (.slice none 0 0) (.slice (some ⟨g1, 0, none⟩) 1 1) (.slice (some ⟨gp, 0, none⟩) m m)), .box g1 64 [.slice none 0 0], .box g2 70 (natC g3), .box g3 30 natK]) (fun i _ => m - (intOf i).toNat)
  case atStart => exact ⟨0, List.replicate m ⟨0, tmZ⟩, cl0, [], Nat.zero_le _, rfl, by simp, (H.arr (by (repeat (first | with_reducible exact Arr.nil | refine Arr.cons (by (repeat (first | with_reducible exact Pick.head | with_reducible apply Pick.tail))) ?_)) <;> exact Arr.of_subl (by (repeat (first | with_reducible exact Subl.refl _ | with_reducible apply Subl.drop)))))⟩
  case round =>
    clear H
    obtain ⟨j, us, cl, K, hj, rfl, hts, H⟩ := hrel
    by_cases hlt : j < m
    · have hp := H.gh (p := fun w' => RCs w' (fun k => w.heap.size ≤ k) (us.map Ct.d) cl) (by (repeat (first | with_reducible exact Pick.head | with_reducible apply Pick.tail)))
      obtain ⟨c, hc, l1, l2, hcc⟩ := RCs.part (z := 6) (j := j) hp (by simp [Ct.size_d]) (by simp [hts, hlt])
      rw [List.getElem_map] at hcc
      generalize us[j] = uj at hcc
      obtain ⟨A2, c2, B2, b2, rfl, hmb, -⟩ := RC.ct.1 hcc
      have HMB := Lib.hid hmb
      obtain ⟨pre, hpre⟩ : ∃ pre, pre = cl.take (j * 6) := ⟨_, rfl⟩
      obtain ⟨post, hpost⟩ : ∃ post, post = cl.drop (j * 6 + 6) := ⟨_, rfl⟩
      rw [← hpre] at l1
      rw [← hpre, ← hpost] at hc
      clear hp hcc hpre hpost hmb
      subst hc
      have HTS := Lib.hid hts
      have L1 := Lib.hid l1
      clear l1 l2 hts
      have hr_ := H.rules; simp only [Rules, and_true] at hr_; have hd_ := H.dif; simp only [Dif, Neq, and_true] at hd_; obtain ⟨ho_, hz_⟩ := H.old0
      go_wp2_with fail
      (try clear hr_ hd_ ho_ hz_)
      refine regionH (by (repeat (first | with_reducible exact H | with_reducible exact H0_ | with_reducible apply Hp.alloc | with_reducible apply Hp.allocMap | with_reducible apply Hp.drew | with_reducible apply Hp.drewN | with_reducible apply Hp.set)); (try any_goals (repeat (first | with_reducible exact Upd.head | with_reducible apply Upd.tail)))) ?_
      clear H; intro w9 H; (try simp only [size_drew_, size_drewN_, World.size_alloc, World.size_setCell, List.set_cons_zero, List.set_cons_succ] at H)
      refine onlyN3 ?_
      refine wp_region_H 7 [false, false, false, false, false, false, false] [] H (.cons (i := 2) rfl .nil) (by kernel_rfl) rfl rfl (fun H_ hR_ => ?_)
      (try clear H0_); have H0_ := H; clear H; have H := H_; clear H_
      refine wpL_reads (is := [(0, ?v3_0), (1, ?v3_1), (2, ?v3_2)]) (by kernel_rfl) (Nat.le_of_ble_eq_true rfl) (by intro _ _ d_ _ _ h_; cases d_ <;> exact h_) (by kernel_rfl) hR_ (fun w_ hw_ => ?h3_) ?_
      case h3_ =>
        have ho_ := hw_.old0.1; have hz_ := hw_.old0.2; have hr_ := hw_.rules; clear hw_; simp only [Rules, and_true] at hr_; go_split_ands
        (repeat (first | with_reducible exact RdOps.nil | (refine RdOps.run rfl (by rfl) ?_ ?_; (focus (first | (go_simp; done) | (go_simp; with_reducible rfl))); simp only [List.getElem_toArray, List.getElem_cons_zero, List.getElem_cons_succ, Act.put, List.setIfInBounds_toArray, List.set_cons_zero, List.set_cons_succ]) | (refine RdOps.skip rfl (by rfl) ?_ ?_; (focus (with_reducible rfl)); simp only [List.getElem_toArray, List.getElem_cons_zero, List.getElem_cons_succ, Act.put, List.setIfInBounds_toArray, List.set_cons_zero, List.set_cons_succ])))
      simp only [rdMark, rdAct, List.map_cons, List.map_nil, List.length_cons, List.length_nil, Nat.reduceAdd, Nat.reduceSub, Nat.zero_add, List.getElem?_toArray, List.getElem?_cons_zero, List.getElem?_cons_succ, Option.bind_some, Act.put, List.setIfInBounds_toArray, List.set_cons_zero, List.set_cons_succ]
      refine wpL_do (i := 3) rfl (by kernel_rfl) (by rfl) (fun K_ hK_ => ?_)
      go_simp
      refine (self11_calls).mono ?_
      rintro e w_ ⟨rfl, hx⟩
      replace H := H.call hx
      clear hx
      refine hK_ _ _ (fun _ => H.sub (by simp)) (fun hR_ => ?_)
      replace hR_ := hR_ (by decide)
      refine wpL_reads (is := [(4, ?v4_0), (5, ?v4_1)]) (by kernel_rfl) (Nat.le_of_ble_eq_true rfl) (by intro _ _ d_ _ _ h_; cases d_ <;> exact h_) (by kernel_rfl) hR_ (fun w_ hw_ => ?h4_) ?_
      case h4_ =>
        have ho_ := hw_.old0.1; have hz_ := hw_.old0.2; have hr_ := hw_.rules; clear hw_; simp only [Rules, and_true] at hr_; go_split_ands
        (repeat (first | with_reducible exact RdOps.nil | (refine RdOps.run rfl (by rfl) ?_ ?_; (focus (first | (go_simp; done) | (go_simp; with_reducible rfl))); simp only [List.getElem_toArray, List.getElem_cons_zero, List.getElem_cons_succ, Act.put, List.setIfInBounds_toArray, List.set_cons_zero, List.set_cons_succ]) | (refine RdOps.skip rfl (by rfl) ?_ ?_; (focus (with_reducible rfl)); simp only [List.getElem_toArray, List.getElem_cons_zero, List.getElem_cons_succ, Act.put, List.setIfInBounds_toArray, List.set_cons_zero, List.set_cons_succ])))
      simp only [rdMark, rdAct, List.map_cons, List.map_nil, List.length_cons, List.length_nil, Nat.reduceAdd, Nat.reduceSub, Nat.zero_add, List.getElem?_toArray, List.getElem?_cons_zero, List.getElem?_cons_succ, Option.bind_some, Act.put, List.setIfInBounds_toArray, List.set_cons_zero, List.set_cons_succ]
      refine wpL_do (i := 6) rfl (by kernel_rfl) (by rfl) (fun K_ hK_ => ?_)
      have s0 := get_in (pre := pre) (post := post) (c := [.int .i64 uj.member, .int .i64 uj.ty.k, .int .i64 uj.ty.n, .int .i64 uj.ty.a, .slice A2 uj.ty.ls.length c2, .slice B2 uj.ty.ks.length b2]) (i := 1) L1.out rfl
      have s1 := get_in (pre := pre) (post := post) (c := [.int .i64 uj.member, .int .i64 uj.ty.k, .int .i64 uj.ty.n, .int .i64 uj.ty.a, .slice A2 uj.ty.ls.length c2, .slice B2 uj.ty.ks.length b2]) (i := 2) L1.out rfl
      have s2 := get_in (pre := pre) (post := post) (c := [.int .i64 uj.member, .int .i64 uj.ty.k, .int .i64 uj.ty.n, .int .i64 uj.ty.a, .slice A2 uj.ty.ls.length c2, .slice B2 uj.ty.ks.length b2]) (i := 3) L1.out rfl
      have s3 := get_in (pre := pre) (post := post) (c := [.int .i64 uj.member, .int .i64 uj.ty.k, .int .i64 uj.ty.n, .int .i64 uj.ty.a, .slice A2 uj.ty.ls.length c2, .slice B2 uj.ty.ks.length b2]) (i := 4) L1.out rfl
      have s4 := get_in (pre := pre) (post := post) (c := [.int .i64 uj.member, .int .i64 uj.ty.k, .int .i64 uj.ty.n, .int .i64 uj.ty.a, .slice A2 uj.ty.ls.length c2, .slice B2 uj.ty.ks.length b2]) (i := 5) L1.out rfl
      simp only [List.cons_append, List.nil_append, Nat.add_zero] at s0 s1 s2 s3 s4
      have hr_ := H.rules
      simp only [Rules, and_true] at hr_
      go_simp
      clear hr_ s0 s1 s2 s3 s4
      refine kontH (by (repeat (first | with_reducible exact H | with_reducible exact H0_ | with_reducible apply Hp.alloc | with_reducible apply Hp.allocMap | with_reducible apply Hp.drew | with_reducible apply Hp.drewN | with_reducible apply Hp.set)); (try any_goals (repeat (first | with_reducible exact Upd.head | with_reducible apply Upd.tail)))) ?_
      clear H; intro w10 H; (try simp only [size_drew_, size_drewN_, World.size_alloc, World.size_setCell, List.set_cons_zero, List.set_cons_succ] at H)
      rw [sets6 L1.out] at H
      have H2 := Hp.ghM H (q := fun w' => RCs w' (fun k => w.heap.size ≤ k) ((us.set j ⟨uj.member, tmS 0⟩).map Ct.d) (pre ++ ([.int .i64 uj.member, .int .i64 11, .int .i64 0, .int .i64 0, .slice none 0 0, .slice none 0 0] ++ post))) (fun w' h2 => by rw [List.map_set]; exact RCs.put2 h2 (by simp [Ct.size_d]) (by simp [HTS.out, hlt]) L1.out rfl (RC.ct.2 ⟨none, 0, none, 0, rfl, HMB.out, tmN_rc (by unfold inI; omega)⟩))
      clear H
      have H := H2
      clear H2
      refine hK_ _ _ (fun _ => H.sub (by simp)) (fun _ => ?_)
      refine wpL_done (by kernel_rfl) ?_ _
      go_wp2_with fail
      go_roundw
      case rel => exact ⟨j + 1, us.set j ⟨uj.member, tmS 0⟩, _, _, by omega, by first | go_num | rfl | simp, by simp [HTS.out], (H.arr (by (repeat (first | with_reducible exact Arr.nil | refine Arr.cons (by (repeat (first | with_reducible exact Pick.head | with_reducible apply Pick.tail))) ?_)) <;> exact Arr.of_subl (by (repeat (first | with_reducible exact Subl.refl _ | with_reducible apply Subl.drop)))))⟩
      case measure => simp [intOf]; omega
    · subst hts
      go_wp2_with fail
      (try clear hr_ hd_ ho_ hz_)
      refine endH (by (repeat (first | with_reducible exact H | with_reducible exact H0_ | with_reducible apply Hp.alloc | with_reducible apply Hp.allocMap | with_reducible apply Hp.drew | with_reducible apply Hp.drewN | with_reducible apply Hp.set)); (try any_goals (repeat (first | with_reducible exact Upd.head | with_reducible apply Upd.tail)))) ?_
      clear H; intro w10 H; (try simp only [size_drew_, size_drewN_, World.size_alloc, World.size_setCell, List.set_cons_zero, List.set_cons_succ] at H)
      have h1 := H.gh (p := fun w' => RCs w' (fun k => w.heap.size ≤ k) (us.map Ct.d) cl) (by (repeat (first | with_reducible exact Pick.head | with_reducible apply Pick.tail)))
      have k1 : RC w10 (fun _ => True) (.l 70 6 (us.map Ct.d)) [.slice (some ⟨gp, 0, none⟩) us.length us.length] := rowOf (H.blk (g := gp) (by (repeat (first | with_reducible exact Pick.head | with_reducible apply Pick.tail)))) trivial h1.tru (by simp [Ct.size_d]) (by simp) (by simp; omega)
      have HD_ := (Hp.only (Hp.pick H (c := .box gd 42 _) (by (repeat (first | with_reducible exact Pick.head | with_reducible apply Pick.tail)))) (.keep (by (repeat (first | with_reducible exact Subl.nil | with_reducible apply Subl.drop)))))
      exact hQ _ _ _ _ _ _ _ _ _ _ _ _ _ _ _ _ _ _ _ _ _ _ _ _ _ _ _ _ _ _ _ _ _ _ _ _ _ _ _ _ _ _ _ _ _ _ _ _ _ _ _ _ _ _ _ _ _ _ _ _ _ _ _ _ _ _ _ _ _ _ _ _ _ _ _ _ _ _ _ _ _ _ _ _ _ _ _ _ _ _ _ _ _ _ _ _ _ _ _ _ _ _ _ _ _ _ _ _ _ _ _ _ _ _ _ _ _ _ _ _ _ _ _ _ _ _ _ ⟨3, 0, tmZ, tmZ, [], [], [⟨[]⟩], us⟩ _ _ HD_ (RC.dc.2 ⟨none, 0, none, 0, none, 0, none, 0, none, 0, none, 0, some ⟨g1, 0, none⟩, 1, some ⟨gp, 0, none⟩, us.length, rfl, by unfold inI; simp, inI0, tmZ_rc inI0, tmZ_rc inI0, RC.nil, RC.nil, natMb (H.blk (by (repeat (first | with_reducible exact Pick.head | with_reducible apply Pick.tail)))), k1⟩)

end Go.Proofs.YteelplgdojjakaaDoor
