/- law 04: TeleOpens, from its region 16 on. No statement of the seat is proved here. -/
import Derived.Test.YteelplgdojjakaaDoorTo18
namespace Go.Proofs.YteelplgdojjakaaDoor
set_option linter.unusedSimpArgs false
set_option linter.unusedVariables false
open Go.RowKit

set_option maxRecDepth 100000 in
set_option maxHeartbeats 0 in
theorem tail16 {w W : World} {row by_ : List Tm} {t T : Tm} {n : Int} {f : Nat} {A B A0 K0 P1 P2 : Option Addr} {c cb ca ck Pc Pk g9 gt : Nat} {U : Tm} {E1 E2 E3 : Option Addr} {E1c E2c E3c g19 : Nat} {x1 x4 x6 x7 x8 x10 x11 x12 x13 x14 x15 x16 x21 x22 x24 x25 x26 x27 x28 x29 x30 x31 x32 x33 x34 x35 x36 x37 x38 x39 x40 x41 x42 x43 x44 x45 x46 x47 x48 x49 x50 x51 x52 x53 x54 x55 x56 x57 x58 x59 x60 x61 x62 x63 x64 x65 x66 x67 x68 x69 x70 x71 x72 x73 x74 x75 x76 x77 x78 x79 x80 x81 x82 x83 x84 x85 x86 x87 x88 x89 x90 x91 x92 x93 x94 x95 x96 x97 x98 x99 x100 x101 x102 x103 x104 x105 x106 x107 x108 x109 x110 x111 x112 x113 x114 x115 x116 x117 x118 x119 x120 x121 x122 x123 x124 x125 x126 x127 x128 x129 x130 x131 x132 x133 x134 x135 x136 x137 x138 x139 x140 x141 x142 x143 x144 x145 x146 x147 x148 x149 x150 x151 x152 x153 x154 x155 x156 x157 x158 x159 x160 x161 x162 x163 x164 x165 x166 x167 x168 x169 x170 x171 x172 x173 x174 x175 x176 x177 x178 x179 x180 x181 x182 x183 x184 x185 x186 x187 x188 x189 x190 x191 x192 x193 x194 x195 x196 x197 x198 x199 x200 x201 x202 x203 x204 x205 x206 x207 x208 x209 x210 x211 x212 x213 x214 x215 x216 x217 x218 x219 x220 x221 x222 x223 x224 x225 x226 x227 x228 x229 x230 x231 x232 x233 x234 : Value} (I : TIn w row by_ t T n f A B A0 K0 c cb ca ck) (hU : U = aboveT 4 (row.drop f) t)
    (H : Hp no w W [.box g19 30 [.int .i64 U.k, .int .i64 U.n, .int .i64 U.a, .slice E2 U.ls.length E2c, .slice E3 U.ks.length E3c], .dat (.l 30 5 ((row.take f).map Tm.d)) [.slice E1 f E1c], .dat U.d [.int .i64 U.k, .int .i64 U.n, .int .i64 U.a, .slice E2 U.ls.length E2c, .slice E3 U.ks.length E3c], .box g9 30 [.int .i64 T.k, .int .i64 T.n, .int .i64 T.a, .slice P1 T.ls.length Pc, .slice P2 T.ks.length Pk], .dat T.d [.int .i64 T.k, .int .i64 T.n, .int .i64 T.a, .slice P1 T.ls.length Pc, .slice P2 T.ks.length Pk], .box gt 30 [.int .i64 t.k, .int .i64 t.n, .int .i64 t.a, .slice A0 t.ls.length ca, .slice K0 t.ks.length ck]]) :
    (fromR 16 (Tryd.f5.body.getD .skip)).wp Tryd.prog (bodyPost Tryd.prog Tryd.f5 (PV w (.bool true))) { tmps := #[.slice A row.length c, x1, .slice B by_.length cb, .int .i64 n, x4, .pointer (some ⟨gt, 0, none⟩), x6, x7, x8, .pointer (some ⟨g9, 0, none⟩), x10, x11, x12, x13, x14, x15, x16, .int .i64 f, .slice E1 f E1c, .pointer (some ⟨g19, 0, none⟩), .bool true, x21, x22, .bool false, x24, x25, x26, x27, x28, x29, x30, x31, x32, x33, x34, x35, x36, x37, x38, x39, x40, x41, x42, x43, x44, x45, x46, x47, x48, x49, x50, x51, x52, x53, x54, x55, x56, x57, x58, x59, x60, x61, x62, x63, x64, x65, x66, x67, x68, x69, x70, x71, x72, x73, x74, x75, x76, x77, x78, x79, x80, x81, x82, x83, x84, x85, x86, x87, x88, x89, x90, x91, x92, x93, x94, x95, x96, x97, x98, x99, x100, x101, x102, x103, x104, x105, x106, x107, x108, x109, x110, x111, x112, x113, x114, x115, x116, x117, x118, x119, x120, x121, x122, x123, x124, x125, x126, x127, x128, x129, x130, x131, x132, x133, x134, x135, x136, x137, x138, x139, x140, x141, x142, x143, x144, x145, x146, x147, x148, x149, x150, x151, x152, x153, x154, x155, x156, x157, x158, x159, x160, x161, x162, x163, x164, x165, x166, x167, x168, x169, x170, x171, x172, x173, x174, x175, x176, x177, x178, x179, x180, x181, x182, x183, x184, x185, x186, x187, x188, x189, x190, x191, x192, x193, x194, x195, x196, x197, x198, x199, x200, x201, x202, x203, x204, x205, x206, x207, x208, x209, x210, x211, x212, x213, x214, x215, x216, x217, x218, x219, x220, x221, x222, x223, x224, x225, x226, x227, x228, x229, x230, x231, x232, x233, x234], defers := [] } W := by
  have hrl := I.hrl
  have hbl := I.hbl
  have hcT := I.hcT
  have hsT := I.hsT
  have hsR := I.hsR
  have hrc' := I.hrc
  have hfl := I.hfl
  have HF := Lib.hid I.hf
  have HT := Lib.hid I.tab
  have HR := Lib.hid I.hrow
  have HV := Lib.hid I.ht
  have HB := Lib.hid I.hby
  have HDT := Lib.hid I.hDT
  have HDR := Lib.hid I.hDR
  have HTT := Lib.hid I.hTT
  conv => arg 2; whnf
  have HU := Lib.hid hU
  clear hU
  have hpre : ∀ W, (Instr.sliceAt 28 (.slice A row.length c) none (some (.int .i64 (f : Int))) none).run Tryd.prog W = .ok (.slice A f c) W := fun W => runPre A hfl hrc' W
  have hsuf : ∀ W, (Instr.sliceAt 28 (.slice A row.length c) (some (.int .i64 (f : Int))) none none).run Tryd.prog W = .ok (.slice (sufA A c f 5) (row.length - f) (c - f)) W := fun W => runSuf A hfl hrc' W
  go_wp2_with fail
  refine regionH (by (repeat (first | with_reducible exact H | with_reducible exact H0_ | with_reducible apply Hp.alloc | with_reducible apply Hp.allocMap | with_reducible apply Hp.drew | with_reducible apply Hp.drewN | with_reducible apply Hp.set)); (try any_goals (repeat (first | with_reducible exact Upd.head | with_reducible apply Upd.tail)))) ?_
  clear H; intro w13 H; (try simp only [size_drew_, size_drewN_, World.size_alloc, World.size_setCell, List.set_cons_zero, List.set_cons_succ] at H)
  refine wp_region_H 23 [false, false, false, false, false, false, false, false, false, false, false, false, false, false, false, false, false, false, false, false, false, false, false] [] H (.cons (i := 0) rfl (.cons (i := 5) rfl .nil)) (by kernel_rfl) rfl rfl (fun H_ hR_ => ?_)
  (try clear H0_); have H0_ := H; clear H; have H := H_; clear H_
  refine wpL_reads (is := [(0, ?v1_0), (1, ?v1_1), (2, ?v1_2), (3, ?v1_3), (4, ?v1_4), (5, ?v1_5), (6, ?v1_6), (7, ?v1_7), (8, ?v1_8), (9, ?v1_9)]) (by kernel_rfl) (Nat.le_of_ble_eq_true rfl) (by intro _ _ d_ _ _ h_; cases d_ <;> exact h_) (by kernel_rfl) hR_ (fun w_ hw_ => ?h1_) ?_
  case h1_ =>
    have ho_ := hw_.old0.1; have hz_ := hw_.old0.2; have hr_ := hw_.rules; clear hw_; simp only [Rules, and_true] at hr_; go_split_ands
    (repeat (first | with_reducible exact RdOps.nil | (refine RdOps.run rfl (by rfl) ?_ ?_; (focus (first | (go_simp; done) | (go_simp; with_reducible rfl))); simp only [List.getElem_toArray, List.getElem_cons_zero, List.getElem_cons_succ, Act.put, List.setIfInBounds_toArray, List.set_cons_zero, List.set_cons_succ]) | (refine RdOps.skip rfl (by rfl) ?_; simp only [List.getElem_toArray, List.getElem_cons_zero, List.getElem_cons_succ, Act.put, List.setIfInBounds_toArray, List.set_cons_zero, List.set_cons_succ])))
  simp only [rdMark, rdAct, List.map_cons, List.map_nil, List.length_cons, List.length_nil, Nat.reduceAdd, Nat.reduceSub, Nat.zero_add, List.getElem?_toArray, List.getElem?_cons_zero, List.getElem?_cons_succ, Option.bind_some, Act.put, List.setIfInBounds_toArray, List.set_cons_zero, List.set_cons_succ]
  refine wpL_do (i := 10) rfl (by kernel_rfl) (by rfl) (fun K_ hK_ => ?_)
  go_simp
  have hp1 := (HR.out.ext0 H.ext).pre4 (i := f) hfl
  rw [← List.map_take] at hp1
  have htl : f = (row.take f).length := by simp; omega
  refine (rowsN (xs := row.take f) (ys := row.take f) (H.rd (by (repeat (first | with_reducible exact Pick.head | with_reducible apply Pick.tail)))) hp1 htl htl).mono ?_
  clear hp1 htl
  rintro e w_ ⟨q, rfl, hq, hx⟩
  obtain rfl : q = true := hq.2 (rfl)
  replace H := H.call hx
  clear hx hq
  refine hK_ _ _ (fun _ => H.sub (by simp)) (fun hR_ => ?_)
  replace hR_ := hR_ (by decide)
  refine wpL_reads (is := [(11, ?v2_0), (12, ?v2_1), (13, ?v2_2), (14, ?v2_3), (15, ?v2_4), (16, ?v2_5), (17, ?v2_6), (18, ?v2_7)]) (by kernel_rfl) (Nat.le_of_ble_eq_true rfl) (by intro _ _ d_ _ _ h_; cases d_ <;> exact h_) (by kernel_rfl) hR_ (fun w_ hw_ => ?h2_) ?_
  case h2_ =>
    have ho_ := hw_.old0.1; have hz_ := hw_.old0.2; have hr_ := hw_.rules; clear hw_; simp only [Rules, and_true] at hr_; go_split_ands
    (repeat (first | with_reducible exact RdOps.nil | (refine RdOps.run rfl (by rfl) ?_ ?_; (focus (first | (go_simp; done) | (go_simp; with_reducible rfl))); simp only [List.getElem_toArray, List.getElem_cons_zero, List.getElem_cons_succ, Act.put, List.setIfInBounds_toArray, List.set_cons_zero, List.set_cons_succ]) | (refine RdOps.skip rfl (by rfl) ?_; simp only [List.getElem_toArray, List.getElem_cons_zero, List.getElem_cons_succ, Act.put, List.setIfInBounds_toArray, List.set_cons_zero, List.set_cons_succ])))
  simp only [rdMark, rdAct, List.map_cons, List.map_nil, List.length_cons, List.length_nil, Nat.reduceAdd, Nat.reduceSub, Nat.zero_add, List.getElem?_toArray, List.getElem?_cons_zero, List.getElem?_cons_succ, Option.bind_some, Act.put, List.setIfInBounds_toArray, List.set_cons_zero, List.set_cons_succ]
  refine wpL_do (i := 19) rfl (by kernel_rfl) (by rfl) (fun K_ hK_ => ?_)
  go_simp
  have hp1 := (HR.out.ext0 H.ext).suf_ (i := f) hfl
  rw [← List.map_drop] at hp1
  refine (pis_calls (ts := row.drop f) (b := t) (HT.out.ext H.ext) hp1 (by simp) ⟨_, _, _, _, rfl, HV.out.ext0 H.ext⟩).mono ?_
  clear hp1
  rintro e w_ ⟨v, rfl, hto, hx⟩
  obtain ⟨Q1, Qc, Q2, Qk, rfl, H_⟩ := H.resTm hx hto
  clear H hx hto
  have H := H_
  clear H_
  rw [← HU.out] at H ⊢
  refine hK_ _ _ (fun _ => H.sub (by simp)) (fun hR_ => ?_)
  replace hR_ := hR_ (by decide)
  refine wpL_do (i := 20) rfl (by kernel_rfl) (by rfl) (fun K_ hK_ => ?_)
  go_simp
  refine (same04_calls (x := U) (y := U) ⟨_, _, _, _, rfl, H.rd (by (repeat (first | with_reducible exact Pick.head | with_reducible apply Pick.tail)))⟩ ⟨_, _, _, _, rfl, H.rd (by (repeat (first | with_reducible exact Pick.head | with_reducible apply Pick.tail)))⟩).mono ?_
  rintro e w_ ⟨q, rfl, hq, hx⟩
  obtain rfl : q = true := hq.2 (rfl)
  replace H := H.call hx
  clear hx hq
  refine hK_ _ _ (fun _ => H.sub (by simp)) (fun hR_ => ?_)
  replace hR_ := hR_ (by decide)
  refine wpL_reads (is := [(21, ?v3_0), (22, ?v3_1)]) (by kernel_rfl) (Nat.le_of_ble_eq_true rfl) (by intro _ _ d_ _ _ h_; cases d_ <;> exact h_) (by kernel_rfl) hR_ (fun w_ hw_ => ?h3_) ?_
  case h3_ =>
    have ho_ := hw_.old0.1; have hz_ := hw_.old0.2; have hr_ := hw_.rules; clear hw_; simp only [Rules, and_true] at hr_; go_split_ands
    (repeat (first | with_reducible exact RdOps.nil | (refine RdOps.run rfl (by rfl) ?_ ?_; (focus (first | (go_simp; done) | (go_simp; with_reducible rfl))); simp only [List.getElem_toArray, List.getElem_cons_zero, List.getElem_cons_succ, Act.put, List.setIfInBounds_toArray, List.set_cons_zero, List.set_cons_succ]) | (refine RdOps.skip rfl (by rfl) ?_; simp only [List.getElem_toArray, List.getElem_cons_zero, List.getElem_cons_succ, Act.put, List.setIfInBounds_toArray, List.set_cons_zero, List.set_cons_succ])))
  simp only [rdMark, rdAct, List.map_cons, List.map_nil, List.length_cons, List.length_nil, Nat.reduceAdd, Nat.reduceSub, Nat.zero_add, List.getElem?_toArray, List.getElem?_cons_zero, List.getElem?_cons_succ, Option.bind_some, Act.put, List.setIfInBounds_toArray, List.set_cons_zero, List.set_cons_succ]
  refine wpL_done (by kernel_rfl) ?_ _
  clear hpre hsuf hR_ H0_ hK_
  iterate 6 go_step
  exact tail18 I (H.arr (by (repeat (first | with_reducible exact Arr.nil | refine Arr.cons (by (repeat (first | with_reducible exact Pick.head | with_reducible apply Pick.tail))) ?_)) <;> exact Arr.of_subl (by (repeat (first | with_reducible exact Subl.refl _ | with_reducible apply Subl.drop)))))
end Go.Proofs.YteelplgdojjakaaDoor
