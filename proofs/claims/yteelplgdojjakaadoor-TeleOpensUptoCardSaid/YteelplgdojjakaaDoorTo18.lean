/- law 04: TeleOpens, from its region 18 on. No statement of the seat is proved here. -/
import Derived.Test.YteelplgdojjakaaDoorTeleOpens0
namespace Go.Proofs.YteelplgdojjakaaDoor
set_option linter.unusedSimpArgs false
set_option linter.unusedVariables false
open Go.RowKit

set_option maxRecDepth 100000 in
set_option maxHeartbeats 0 in
theorem tail18 {w W : World} {row by_ : List Tm} {t T : Tm} {n : Int} {f : Nat} {A B A0 K0 P1 P2 : Option Addr} {c cb ca ck Pc Pk g9 gt : Nat}  {x1 x4 x6 x7 x8 x10 x11 x12 x13 x14 x15 x16 x17 x18 x19 x20 x21 x22 x23 x24 x25 x26 x27 x28 x29 x30 x31 x32 x33 x34 x35 x36 x37 x38 x39 x40 x41 x42 x43 x44 x45 x46 x47 x48 x49 x50 x51 x52 x53 x54 x55 x56 x57 x58 x59 x60 x61 x62 x63 x64 x65 x66 x67 x68 x69 x70 x71 x72 x73 x74 x75 x76 x77 x78 x79 x80 x81 x82 x83 x84 x85 x86 x87 x88 x89 x90 x91 x92 x93 x94 x95 x96 x97 x98 x99 x100 x101 x102 x103 x104 x105 x106 x107 x108 x109 x110 x111 x112 x113 x114 x115 x116 x117 x118 x119 x120 x121 x122 x123 x124 x125 x126 x127 x128 x129 x130 x131 x132 x133 x134 x135 x136 x137 x138 x139 x140 x141 x142 x143 x144 x145 x146 x147 x148 x149 x150 x151 x152 x153 x154 x155 x156 x157 x158 x159 x160 x161 x162 x163 x164 x165 x166 x167 x168 x169 x170 x171 x172 x173 x174 x175 x176 x177 x178 x179 x180 x181 x182 x183 x184 x185 x186 x187 x188 x189 x190 x191 x192 x193 x194 x195 x196 x197 x198 x199 x200 x201 x202 x203 x204 x205 x206 x207 x208 x209 x210 x211 x212 x213 x214 x215 x216 x217 x218 x219 x220 x221 x222 x223 x224 x225 x226 x227 x228 x229 x230 x231 x232 x233 x234 : Value} (I : TIn w row by_ t T n f A B A0 K0 c cb ca ck)
    (H : Hp no w W [.box g9 30 [.int .i64 T.k, .int .i64 T.n, .int .i64 T.a, .slice P1 T.ls.length Pc, .slice P2 T.ks.length Pk], .dat T.d [.int .i64 T.k, .int .i64 T.n, .int .i64 T.a, .slice P1 T.ls.length Pc, .slice P2 T.ks.length Pk], .box gt 30 [.int .i64 t.k, .int .i64 t.n, .int .i64 t.a, .slice A0 t.ls.length ca, .slice K0 t.ks.length ck]]) :
    (fromR 18 (Tryd.f5.body.getD .skip)).wp Tryd.prog (bodyPost Tryd.prog Tryd.f5 (PV w (.bool true))) { tmps := #[.slice A row.length c, x1, .slice B by_.length cb, .int .i64 n, x4, .pointer (some ⟨gt, 0, none⟩), x6, x7, x8, .pointer (some ⟨g9, 0, none⟩), x10, x11, x12, x13, x14, x15, x16, x17, x18, x19, x20, x21, x22, x23, x24, x25, x26, x27, x28, x29, x30, x31, x32, x33, x34, x35, x36, x37, x38, x39, x40, x41, x42, x43, x44, x45, x46, x47, x48, x49, x50, x51, x52, x53, x54, x55, x56, x57, x58, x59, x60, x61, x62, x63, x64, x65, x66, x67, x68, x69, x70, x71, x72, x73, x74, x75, x76, x77, x78, x79, x80, x81, x82, x83, x84, x85, x86, x87, x88, x89, x90, x91, x92, x93, x94, x95, x96, x97, x98, x99, x100, x101, x102, x103, x104, x105, x106, x107, x108, x109, x110, x111, x112, x113, x114, x115, x116, x117, x118, x119, x120, x121, x122, x123, x124, x125, x126, x127, x128, x129, x130, x131, x132, x133, x134, x135, x136, x137, x138, x139, x140, x141, x142, x143, x144, x145, x146, x147, x148, x149, x150, x151, x152, x153, x154, x155, x156, x157, x158, x159, x160, x161, x162, x163, x164, x165, x166, x167, x168, x169, x170, x171, x172, x173, x174, x175, x176, x177, x178, x179, x180, x181, x182, x183, x184, x185, x186, x187, x188, x189, x190, x191, x192, x193, x194, x195, x196, x197, x198, x199, x200, x201, x202, x203, x204, x205, x206, x207, x208, x209, x210, x211, x212, x213, x214, x215, x216, x217, x218, x219, x220, x221, x222, x223, x224, x225, x226, x227, x228, x229, x230, x231, x232, x233, x234], defers := [] } W := by
  have hrl := I.hrl
  have hbl := I.hbl
  have hcT := I.hcT
  have hsT := I.hsT
  have hsR := I.hsR
  have hrc' := I.hrc
  have hfl := I.hfl
  have HF := Lib.hid I.hf
  have HT := Lib.hid I.tab
  have HR := Lib.hid I.hrow
  have HV := Lib.hid I.ht
  have HB := Lib.hid I.hby
  have HDT := Lib.hid I.hDT
  have HDR := Lib.hid I.hDR
  have HTT := Lib.hid I.hTT
  conv => arg 2; whnf
  go_wp2_with fail
  refine callsH (by (repeat (first | with_reducible exact H | with_reducible exact H0_ | with_reducible apply Hp.alloc | with_reducible apply Hp.allocMap | with_reducible apply Hp.drew | with_reducible apply Hp.drewN | with_reducible apply Hp.set)); (try any_goals (repeat (first | with_reducible exact Upd.head | with_reducible apply Upd.tail)))) ?_
  clear H; intro w12 H; (try simp only [size_drew_, size_drewN_, World.size_alloc, World.size_setCell, List.set_cons_zero, List.set_cons_succ] at H)
  have hDA : depthsT row + row.length ≤ 4000000 := by have := HDR.out; omega
  refine (telePuts (ts := row) (by_ := by_) (HT.out.ext H.ext) (HR.out.ext0 H.ext) rfl (HB.out.ext0 H.ext) rfl (by omega)).mono ?_
  rintro e w_ ⟨G1, Gc, rfl, hacc, hx⟩
  replace H := H.resSl hx hacc
  clear hx hacc
  simp only [List.length_map, walkA_len] at H ⊢
  have hr_ := H.rules; simp only [Rules, and_true] at hr_; have hd_ := H.dif; simp only [Dif, Neq, and_true] at hd_; obtain ⟨ho_, hz_⟩ := H.old0
  go_wp2_with fail
  clear hr_ hd_ ho_ hz_
  have hcall := teleLifts (w := w_) (ts := row) (HT.out.ext H.ext) (HR.out.ext0 H.ext) rfl 3 0
  rw [lifts_walk (oks HR.out) (by omega)] at hcall
  refine hcall.mono ?_
  clear hcall
  rintro e w_ ⟨L1, Lc, rfl, hacc, hx⟩
  replace H := H.resSl hx hacc
  clear hx hacc
  simp only [List.length_map, walkA_len] at H ⊢
  have hr_ := H.rules; simp only [Rules, and_true] at hr_; have hd_ := H.dif; simp only [Dif, Neq, and_true] at hd_; obtain ⟨ho_, hz_⟩ := H.old0
  go_wp2_with fail
  clear hr_ hd_ ho_ hz_
  have hdT : depthT T ≤ 4000000 := by rw [HTT.out]; have h1 := depthT_above 4 row t; have h2 := HDT.out; have h3 := HDR.out; omega
  refine (put_calls (t := T) (by_ := by_) (HT.out.ext H.ext) ⟨_, _, _, _, rfl, H.rd (by (repeat (first | with_reducible exact Pick.head | with_reducible apply Pick.tail)))⟩ (HB.out.ext0 H.ext) rfl (by omega)).mono ?_
  rintro e w_ ⟨v, rfl, hto, hx⟩
  obtain ⟨Q1, Qc, Q2, Qk, rfl, H_⟩ := H.resTm hx hto
  clear H hx hto
  have H := H_
  clear H_
  obtain ⟨TP, hTP⟩ : ∃ TP, TP = putT T by_ := ⟨_, rfl⟩
  rw [← hTP] at H ⊢
  have HTP := Lib.hid hTP
  clear hTP hdT
  go_wp2_with fail
  obtain ⟨R1, hR1⟩ : ∃ R1, R1 = walkT (putF by_) (walkE 0 row.length) t := ⟨_, rfl⟩
  have HR1 := Lib.hid hR1
  clear hR1
  refine (openS (t := TP) (r := R1) (ls := walkA (putF by_) 0 row) (HT.out.ext H.ext) ⟨_, _, _, _, rfl, H.rd (by (repeat (first | with_reducible exact Pick.head | with_reducible apply Pick.tail)))⟩ row.length (.inr (by omega)) (by unfold inI; omega) (by rw [HTP.out, HTT.out, HR1.out]; exact openN_put row t by_)).mono ?_
  rintro e w_ ⟨E1, E1c, E2, E2c, E3, E3c, rfl, H2⟩
  replace H := H.res2 H2
  clear H2
  simp only [walkA_len] at H ⊢
  have hr_ := H.rules; simp only [Rules, and_true] at hr_; have hd_ := H.dif; simp only [Dif, Neq, and_true] at hd_; obtain ⟨ho_, hz_⟩ := H.old0
  go_wp2_with ((with_reducible refine atStore (t := 30) ?_); go_must (refine wpList_storeH (t := 30) rfl rfl (by go_simp <;> first | rfl | exact ⟨rfl, rfl⟩) (by go_simp <;> first | rfl | exact ⟨rfl, rfl⟩) (by exact Hp.norm (by (repeat (first | with_reducible exact H | with_reducible exact H0_ | with_reducible apply Hp.alloc | with_reducible apply Hp.allocMap | with_reducible apply Hp.drew | with_reducible apply Hp.drewN | with_reducible apply Hp.set)); (try any_goals (repeat (first | with_reducible exact Upd.head | with_reducible apply Upd.tail)))) (by ((try simp only [size_drew_, size_drewN_, World.size_alloc, World.size_setCell, List.set_cons_zero, List.set_cons_succ, List.nil_append, List.cons_append]) <;> rfl))) (by (repeat (first | with_reducible exact Upd.head | with_reducible apply Upd.tail))) (by exact aggTerm) (by rfl) (by simp [Value.oneCell']) ?_; clear H; intro w7 H; (try simp only [size_drew_, size_drewN_, World.size_alloc, World.size_setCell, List.set_cons_zero, List.set_cons_succ] at H); (try clear hr_ hd_ ho_ hz_); have hr_ := H.rules; simp only [Rules, and_true] at hr_; have hd_ := H.dif; simp only [Dif, Neq, and_true] at hd_; obtain ⟨ho_, hz_⟩ := H.old0))
  (try clear hr_ hd_ ho_ hz_)
  refine callsH (by (repeat (first | with_reducible exact H | with_reducible exact H0_ | with_reducible apply Hp.alloc | with_reducible apply Hp.allocMap | with_reducible apply Hp.drew | with_reducible apply Hp.drewN | with_reducible apply Hp.set)); (try any_goals (repeat (first | with_reducible exact Upd.head | with_reducible apply Upd.tail)))) ?_
  clear H; intro w13 H; (try simp only [size_drew_, size_drewN_, World.size_alloc, World.size_setCell, List.set_cons_zero, List.set_cons_succ] at H)
  refine (lift_calls (t := T) (HT.out.ext H.ext) 3 0 ⟨_, _, _, _, rfl, H.rd (by (repeat (first | with_reducible exact Pick.head | with_reducible apply Pick.tail)))⟩).mono ?_
  rintro e w_ ⟨v, rfl, hto, hx⟩
  obtain ⟨V1, Vc, V2, Vk, rfl, H_⟩ := H.resTm hx hto
  clear H hx hto
  have H := H_
  clear H_
  obtain ⟨TL, hTL⟩ : ∃ TL, TL = liftT T 3 0 := ⟨_, rfl⟩
  rw [← hTL] at H ⊢
  have HTL := Lib.hid hTL
  clear hTL
  go_wp2_with fail
  obtain ⟨R2, hR2⟩ : ∃ R2, R2 = walkT (liftF 3 0) (walkE 0 row.length) t := ⟨_, rfl⟩
  have HR2 := Lib.hid hR2
  clear hR2
  refine (openS (t := TL) (r := R2) (ls := walkA (liftF 3 0) 0 row) (HT.out.ext H.ext) ⟨_, _, _, _, rfl, H.rd (by (repeat (first | with_reducible exact Pick.head | with_reducible apply Pick.tail)))⟩ row.length (.inr (by omega)) (by unfold inI; omega) (by rw [HTL.out, HTT.out, HR2.out]; exact openN_lift row t 3 0)).mono ?_
  rintro e w_ ⟨J1, J1c, J2, J2c, J3, J3c, rfl, H2⟩
  replace H := H.res2 H2
  clear H2
  simp only [walkA_len] at H ⊢
  have hr_ := H.rules; simp only [Rules, and_true] at hr_; have hd_ := H.dif; simp only [Dif, Neq, and_true] at hd_; obtain ⟨ho_, hz_⟩ := H.old0
  go_wp2_with ((with_reducible refine atStore (t := 30) ?_); go_must (refine wpList_storeH (t := 30) rfl rfl (by go_simp <;> first | rfl | exact ⟨rfl, rfl⟩) (by go_simp <;> first | rfl | exact ⟨rfl, rfl⟩) (by exact Hp.norm (by (repeat (first | with_reducible exact H | with_reducible exact H0_ | with_reducible apply Hp.alloc | with_reducible apply Hp.allocMap | with_reducible apply Hp.drew | with_reducible apply Hp.drewN | with_reducible apply Hp.set)); (try any_goals (repeat (first | with_reducible exact Upd.head | with_reducible apply Upd.tail)))) (by ((try simp only [size_drew_, size_drewN_, World.size_alloc, World.size_setCell, List.set_cons_zero, List.set_cons_succ, List.nil_append, List.cons_append]) <;> rfl))) (by (repeat (first | with_reducible exact Upd.head | with_reducible apply Upd.tail))) (by exact aggTerm) (by rfl) (by simp [Value.oneCell']) ?_; clear H; intro w7 H; (try simp only [size_drew_, size_drewN_, World.size_alloc, World.size_setCell, List.set_cons_zero, List.set_cons_succ] at H); (try clear hr_ hd_ ho_ hz_); have hr_ := H.rules; simp only [Rules, and_true] at hr_; have hd_ := H.dif; simp only [Dif, Neq, and_true] at hd_; obtain ⟨ho_, hz_⟩ := H.old0))
  (try clear hr_ hd_ ho_ hz_)
  refine callsH (by (repeat (first | with_reducible exact H | with_reducible exact H0_ | with_reducible apply Hp.alloc | with_reducible apply Hp.allocMap | with_reducible apply Hp.drew | with_reducible apply Hp.drewN | with_reducible apply Hp.set)); (try any_goals (repeat (first | with_reducible exact Upd.head | with_reducible apply Upd.tail)))) ?_
  clear H; intro w14 H; (try simp only [size_drew_, size_drewN_, World.size_alloc, World.size_setCell, List.set_cons_zero, List.set_cons_succ] at H)
  refine (rowsN (xs := walkA (putF by_) 0 row) (ys := walkA (putF by_) 0 row) (H.rd (by (repeat (first | with_reducible exact Pick.head | with_reducible apply Pick.tail)))) (H.rd (by (repeat (first | with_reducible exact Pick.head | with_reducible apply Pick.tail)))) (walkA_len _ _ _).symm (walkA_len _ _ _).symm).mono ?_
  rintro e w_ ⟨q, rfl, hq, hx⟩
  obtain rfl : q = true := hq.2 (rfl)
  replace H := H.call hx
  clear hx hq
  go_wp2_with fail
  refine (rowsN (xs := walkA (liftF 3 0) 0 row) (ys := walkA (liftF 3 0) 0 row) (H.rd (by (repeat (first | with_reducible exact Pick.head | with_reducible apply Pick.tail)))) (H.rd (by (repeat (first | with_reducible exact Pick.head | with_reducible apply Pick.tail)))) (walkA_len _ _ _).symm (walkA_len _ _ _).symm).mono ?_
  rintro e w_ ⟨q, rfl, hq, hx⟩
  obtain rfl : q = true := hq.2 (rfl)
  replace H := H.call hx
  clear hx hq
  go_wp2_with fail
  go_ret
  exact ⟨rfl, H.ext⟩
end Go.Proofs.YteelplgdojjakaaDoor
