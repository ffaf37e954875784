/- SourceGrows: more declarations, lifted. No statement of the seat is proved here. -/
import Derived.Test.YtgbokmphbimihaaDoorGrows1
import Derived.Test.YtgbokmphbimihaaDoorMgSelf
namespace Go.Proofs.YtgbokmphbimihaaDoor
set_option linter.unusedSimpArgs false
set_option linter.unusedVariables false
open Go.RowKit

section
variable {X : Nat → Prop} {w0 w w1 : World} {l l' l1 l2 l3 : List Ch}
theorem RC.oldPG {w w' : World} {S : Nat → Prop} {d : D} {cs : List Value} (h : RC w S d cs) (hx : Ext no w w') : RC w' (fun k => k < w.heap.size ∧ ¬ no k) d cs :=
  RC.frame hx.size (fun k _ hS => ⟨hS.2, no_not⟩) (fun k hk _ => hx.block k hk no_not) _ _ h.bd
/-- An empty box as a row of none. -/
theorem Hp.boxRow0 {g e z : Nat} (H : Hp no w0 w l) (p : Pick l (.box g e []) l') : Hp no w0 w (.row e z [] (.slice (some ⟨g, 0, none⟩) 0 0) :: l') := by
  have H1 := H.boxraw (z := z) (n := 0) p (by simp) (by unfold maxLen; omega)
  refine Hp.turn1 (ds' := [_]) H1 .head fun L hL => ?_
  obtain ⟨rfl, hown⟩ := hL
  simp only [Chs]
  exact ⟨_, [], by simp, ⟨rfl, by unfold M; simp, by simp, [], hown, by unfold RCs; rfl⟩, rfl⟩
theorem Hp.rowRdG {e z : Nat} {ds : List D} {v : Value} (H : Hp X w0 w l) (p : Pick l (.row e z ds v) l') : RC w (fun k => (k < w0.heap.size ∧ ¬ X k) ∨ w0.heap.size ≤ k) (.l e z ds) [v] := by
  obtain ⟨L, hL, _⟩ := (H.pick p).own
  simp only [Chs] at hL
  obtain ⟨L1, _, rfl, ⟨rfl, h1⟩, _⟩ := hL
  exact h1.rc
end
set_option maxRecDepth 100000 in
set_option maxHeartbeats 8000000 in
/-- From more declarations on. -/
theorem growsB {w W : World} {S S1 S2 S3 : Nat → Prop} {ds es : List Dc} {t a : Tm} {n sc sf more : Int} {A Ae A1 K1 A2 K2 : Option Addr} {c ce c1 k1 c2 k2 g13 g14 : Nat} {x5 x6 x8 x9 x10 x11 x12 x15 x16 x17 x18 x19 x20 x21 x22 x23 x24 x25 x26 x27 x28 x29 x30 x31 x32 x33 x34 x35 x36 x37 x38 x39 x40 x41 x42 x43 x44 x45 x46 x47 x48 x49 x50 x51 x52 x53 x54 x55 x56 x57 x58 x59 x60 x61 x62 x63 x64 x65 x66 x67 x68 x69 x70 x71 x72 x73 x74 x75 x76 x77 x78 x79 x80 x81 x82 x83 x84 x85 x86 x87 x88 x89 x90 x91 x92 x93 x94 x95 x96 x97 x98 x99 x100 x101 x102 x103 x104 x105 x106 x107 x108 x109 x110 x111 x112 x113 x114 x115 x116 x117 x118 x119 x120 x121 x122 x123 x124 x125 x126 x127 x128 x129 x130 x131 x132 x133 x134 : Value} (hT : Tab W) (hx : Ext no w W) (h : RC W S (.l 37 16 (ds.map Dc.d)) [.slice A ds.length c]) (he : RC W S3 (.l 37 16 (es.map Dc.d)) [.slice Ae es.length ce])
    (hM : ds.length + es.length ≤ 4000000000) (in1 : inI n) (in2 : inI sf)
    (ht : RC W S1 t.d (tcL t A1 K1 c1 k1)) (ha : RC W S2 a.d (tcL a A2 K2 c2 k2)) (b13 : Blk W g13 26 (tcL t A1 K1 c1 k1).toArray) (b14 : Blk W g14 26 (tcL a A2 K2 c2 k2).toArray) (h0 : 0 ≤ sc) (h1 : sc ≤ 100) (hn : n ≤ 1000) (hs : sf ≤ 1000) (m0 : 0 ≤ more) (m1 : more ≤ 100) (hq : srcQ ds n sc sf t = true) :
    (fromF 5 (Tryd.f5.body.getD .skip)).wp Tryd.prog (bodyPost Tryd.prog Tryd.f5 (PV w (.bool true))) { tmps := #[.slice A ds.length c, .slice Ae es.length ce, .int .i64 n, .int .i64 sc, .int .i64 sf, x5, x6, .int .i64 more, x8, x9, x10, x11, x12, .pointer (some ⟨g13, 0, none⟩), .pointer (some ⟨g14, 0, none⟩), x15, x16, x17, x18, x19, x20, x21, x22, x23, x24, x25, x26, x27, x28, x29, x30, x31, x32, x33, x34, x35, x36, x37, x38, x39, x40, x41, x42, x43, x44, x45, x46, x47, x48, x49, x50, x51, x52, x53, x54, x55, x56, x57, x58, x59, x60, x61, x62, x63, x64, x65, x66, x67, x68, x69, x70, x71, x72, x73, x74, x75, x76, x77, x78, x79, x80, x81, x82, x83, x84, x85, x86, x87, x88, x89, x90, x91, x92, x93, x94, x95, x96, x97, x98, x99, x100, x101, x102, x103, x104, x105, x106, x107, x108, x109, x110, x111, x112, x113, x114, x115, x116, x117, x118, x119, x120, x121, x122, x123, x124, x125, x126, x127, x128, x129, x130, x131, x132, x133, x134], defers := [] } W := by
  have HT := Lib.hid hT
  have HX := Lib.hid hx
  have HH := Lib.hid h
  have HE := Lib.hid he
  have HTM := Lib.hid ht
  have HA := Lib.hid ha
  have HQ := Lib.hid hq
  have HB13 := Lib.hid b13
  have HB14 := Lib.hid b14
  have HBD := Lib.hid (show 0 ≤ sc ∧ sc ≤ 100 ∧ n ≤ 1000 ∧ sf ≤ 1000 ∧ 0 ≤ more ∧ more ≤ 100 from ⟨h0, h1, hn, hs, m0, m1⟩)
  have hw1 : IntKind.i64.wrap (n + more) = n + more := by unfold inI at in1; rw [IntKind.wrap_i64]; omega
  have hw2 : IntKind.i64.wrap (sc + more) = sc + more := by rw [IntKind.wrap_i64]; omega
  have hw3 : IntKind.i64.wrap (sf + more) = sf + more := by unfold inI at in2; rw [IntKind.wrap_i64]; omega
  have HW := Lib.hid (And.intro hw1 (And.intro hw2 hw3))
  have p0 : W.cell? ⟨g13, 0, none⟩ = some (.int .i64 t.k) := b13.cells 0
  have p1 : W.cell? ⟨g13, 1, none⟩ = some (.int .i64 t.n) := b13.cells 1
  have p2 : W.cell? ⟨g13, 2, none⟩ = some (.int .i64 t.a) := b13.cells 2
  have p3 : W.cell? ⟨g13, 3, none⟩ = some (.slice A1 t.ls.length c1) := b13.cells 3
  have p4 : W.cell? ⟨g13, 4, none⟩ = some (.slice K1 t.ks.length k1) := b13.cells 4
  have l13 := b13.lt
  clear hT hx h he ht ha b13 b14 hq h0 h1 hn hs m0 m1 in1 in2 hw1 hw2 hw3
  conv => arg 2; whnf
  have H := Hp.start no W
  have hw1 := HW.out.1
  have hw2 := HW.out.2.1
  have hw3 := HW.out.2.2
  go_wp2_with (at_builtin; go_must (first | (refine listH (by (repeat (first | with_reducible exact H | with_reducible exact H0_ | with_reducible apply Hp.alloc | with_reducible apply Hp.allocMap | with_reducible apply Hp.drew | with_reducible apply Hp.drewN | with_reducible apply Hp.set)); (try any_goals (repeat (first | with_reducible exact Upd.head | with_reducible apply Upd.tail)))) ?_; clear H; intro w2 H; (try simp only [size_drew_, size_drewN_, World.size_alloc, World.size_setCell, List.set_cons_zero, List.set_cons_succ] at H); replace H := H.boxRow0 (z := 16) .head; refine wpList_pushRs rfl (.tmp 63) (.tmp 64) 44 rfl stDcs rfl rfl H .head (HH.out.oldPG H.ext) ?_ ?_; (focus (simp [M]; omega)); clear H; intro v1 w5 H) | (refine wpList_pushRs rfl (.tmp 65) (.tmp 66) 44 rfl stDcs rfl rfl H .head (HE.out.oldPG H.ext) ?_ ?_; (focus (simp [M]; omega)); clear H; intro v2 w6 H; obtain ⟨A', c', rfl, _, _, _⟩ := (H.rowRdG .head).slice; obtain ⟨ho_, hz_⟩ := H.old0)))
  (try clear hr_ hd_ ho_ hz_)
  clear hw1 hw2 hw3
  refine callsH (by (repeat (first | with_reducible exact H | with_reducible exact H0_ | with_reducible apply Hp.alloc | with_reducible apply Hp.allocMap | with_reducible apply Hp.drew | with_reducible apply Hp.drewN | with_reducible apply Hp.set)); (try any_goals (repeat (first | with_reducible exact Upd.head | with_reducible apply Upd.tail)))) ?_
  clear H; intro w7 H; (try simp only [size_drew_, size_drewN_, World.size_alloc, World.size_setCell, List.set_cons_zero, List.set_cons_succ] at H)
  have hrow := H.rowRdG (e := 37) (z := 16) .head
  rw [List.nil_append, ← List.map_append] at hrow
  rw [show ((ds ++ es).map Dc.d).length = ds.length + es.length by simp] at hrow
  have hcall := srcRight_calls (n := n + more) (sc := sc + more) (sf := sf + more) (ds := ds ++ es) (t := t) (HT.out.ext H.ext) hrow (by simp) ⟨_, _, _, _, rfl, HTM.out.ext0 H.ext⟩
  rw [src_more HBD.out.1 HBD.out.2.1 HBD.out.2.2.1 HBD.out.2.2.2.1 HBD.out.2.2.2.2.1 HBD.out.2.2.2.2.2 HQ.out] at hcall
  refine (hcall).mono ?_
  rintro e w_ ⟨rfl, hx⟩
  replace H := H.call hx
  clear hx
  clear hcall hrow
  have hw2 := HW.out.2.1
  have hr_ := H.rules; simp only [Rules, and_true] at hr_; have hd_ := H.dif; simp only [Dif, Neq, and_true] at hd_; obtain ⟨ho_, hz_⟩ := H.old0
  go_wp2_with fail
  (try clear hr_ hd_ ho_ hz_)
  clear hw2
  refine callsH (by (repeat (first | with_reducible exact H | with_reducible exact H0_ | with_reducible apply Hp.alloc | with_reducible apply Hp.allocMap | with_reducible apply Hp.drew | with_reducible apply Hp.drewN | with_reducible apply Hp.set)); (try any_goals (repeat (first | with_reducible exact Upd.head | with_reducible apply Upd.tail)))) ?_
  clear H; intro w8 H; (try simp only [size_drew_, size_drewN_, World.size_alloc, World.size_setCell, List.set_cons_zero, List.set_cons_succ] at H)
  refine (lift_calls (HT.out.ext H.ext) more 0 ⟨_, _, _, _, rfl, HTM.out.ext0 H.ext⟩).mono ?_
  rintro e w_ ⟨v, rfl, hto, hx⟩
  obtain ⟨E1, Ec, E2, Ek, rfl, H_⟩ := H.resTm hx hto
  clear H hx hto
  have H := H_
  clear H_
  have hr_ := H.rules; simp only [Rules, and_true] at hr_; have hd_ := H.dif; simp only [Dif, Neq, and_true] at hd_; obtain ⟨ho_, hz_⟩ := H.old0
  go_wp2_with fail
  (try clear hr_ hd_ ho_ hz_)
  refine callsH (by (repeat (first | with_reducible exact H | with_reducible exact H0_ | with_reducible apply Hp.alloc | with_reducible apply Hp.allocMap | with_reducible apply Hp.drew | with_reducible apply Hp.drewN | with_reducible apply Hp.set)); (try any_goals (repeat (first | with_reducible exact Upd.head | with_reducible apply Upd.tail)))) ?_
  clear H; intro w9 H; (try simp only [size_drew_, size_drewN_, World.size_alloc, World.size_setCell, List.set_cons_zero, List.set_cons_succ] at H)
  have hcall := srcRight_calls (n := n) (sc := sc + more) (sf := sf) (ds := ds) (t := liftT t more 0) (HT.out.ext H.ext) (HH.out.ext0 H.ext) rfl ⟨_, _, _, _, rfl, H.rd (by (repeat (first | with_reducible exact Pick.head | with_reducible apply Pick.tail)))⟩
  rw [src_lift HBD.out.1 HBD.out.2.1 HBD.out.2.2.2.2.1 HBD.out.2.2.2.2.2 HQ.out] at hcall
  refine (hcall).mono ?_
  rintro e w_ ⟨rfl, hx⟩
  replace H := H.call hx
  clear hx
  clear hcall
  have hr_ := H.rules; simp only [Rules, and_true] at hr_; have hd_ := H.dif; simp only [Dif, Neq, and_true] at hd_; obtain ⟨ho_, hz_⟩ := H.old0
  go_wp2_with fail
  (try clear hr_ hd_ ho_ hz_)
  refine callsH (by (repeat (first | with_reducible exact H | with_reducible exact H0_ | with_reducible apply Hp.alloc | with_reducible apply Hp.allocMap | with_reducible apply Hp.drew | with_reducible apply Hp.drewN | with_reducible apply Hp.set)); (try any_goals (repeat (first | with_reducible exact Upd.head | with_reducible apply Upd.tail)))) ?_
  clear H; intro w10 H; (try simp only [size_drew_, size_drewN_, World.size_alloc, World.size_setCell, List.set_cons_zero, List.set_cons_succ] at H)
  have hcall := tmRight_calls (t := t) (HT.out.ext H.ext) ⟨_, _, _, _, rfl, HTM.out.ext0 H.ext⟩
  rw [src_right HQ.out] at hcall
  refine (hcall).mono ?_
  rintro e w_ ⟨rfl, hx⟩
  replace H := H.call hx
  clear hx
  clear hcall
  dsimp only
  repeat ((fail_if_success (with_reducible (first | show Code.wp _ (Code.seq (Code.region 8 _ _) _) _ _ _ | show Code.wp _ (Code.seq (Code.seq (Code.region 8 _ _) _) _) _ _ _))); go_step)
  exact growsC (HT.out.ext H.ext) (HX.out.seq H.ext) (HH.out.ext0 H.ext) (HTM.out.ext0 H.ext) (HA.out.ext0 H.ext) (HB13.out.ext0 H.ext) (HB14.out.ext0 H.ext) HBD.out.1 HBD.out.2.1 HQ.out
end Go.Proofs.YtgbokmphbimihaaDoor
