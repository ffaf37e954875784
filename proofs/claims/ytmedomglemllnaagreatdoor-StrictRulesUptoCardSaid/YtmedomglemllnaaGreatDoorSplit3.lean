/- split: a constructor's arguments held against each other: contract. No statement of the seat is proved here. -/
import Derived.Test.YtmedomglemllnaaGreatDoorSplit2
namespace Go.Proofs.YtmedomglemllnaaGreatDoor
set_option linter.unusedSimpArgs false
set_option linter.unusedVariables false
open Go.RowKit

def okFrom (k : Nat) : List Ar → Bool
  | [] => true
  | b :: bs => !mentT b k && okFrom (k + 1) bs
def linQ (e : Ar) : List Ar → Bool
  | [] => true
  | a :: xs => (!a.rc || okFrom 0 (xs ++ [e])) && linQ e xs
theorem okFrom_drop0 {bs : List Ar} {j : Nat} (h : j < bs.length) : okFrom j (bs.drop j) = (!mentT bs[j] j && okFrom (j + 1) (bs.drop (j + 1))) := by
  rw [List.drop_eq_getElem_cons h, okFrom]
theorem linQ_drop {xs : List Ar} {e : Ar} {j : Nat} (h : j < xs.length) : linQ e (xs.drop j) = ((!xs[j].rc || okFrom 0 (xs.drop (j + 1) ++ [e])) && linQ e (xs.drop (j + 1))) := by
  rw [List.drop_eq_getElem_cons h, linQ]
set_option maxHeartbeats 400000 in
theorem cloneArgs {A : Option Addr} {n c : Nat} {w : World} {S : Nat → Prop} {ds : List D} (h : RC w S (.l 145 9 ds) [.slice A n c]) :
    Calls Tryz.prog 195 #[.slice A n c] w (PG w S 145 9 ds) := by
  have hq := fun w => Lib.run_eql_slice_nil (P := Tryz.prog) w 141 _ A n c 0 0 Tryz.underlying141
  have hM := h.lenM
  cases A with
  | none =>
    obtain ⟨rfl, rfl⟩ := h.nilrow
    go_enter Tryz.func195, Tryz.ntmps195
    go_wp2_with fail
    go_ret
    exact PG.of RG.nil (Ext.refl _ _)
  | some ad =>
    obtain ⟨es, h1, h2, rfl, h4⟩ := h.row
    go_enter Tryz.func195, Tryz.ntmps195
    go_wp2_with (at_builtin; go_must (refine wpList_pushC (v := .slice (some ⟨w.heap.size, 0, none⟩) 0 0) (ad := ad) (m := ds.length) (c := c) (B := w.heap.size) (S := S) (ds := []) (cs := es) rfl (.tmp 5) (.tmp 6) 141 rfl stArs rfl rfl (RG.lit (Nat.le_refl _)) (RCs.frame (by simp) (fun k hk hS => ⟨hS, by simp [Value.ownBlock]; omega⟩) (fun k hk _ => Below.heap_alloc _ _ _ hk) _ _ h1) h4 rfl (fun j u hu => ((Ext.refl no w).alloc _).keep (h2 j u hu)) (by simp [M]; omega) (by simp) ?_); intro v' w' hg hgr hat)
    go_ret
    exact PG.of hg (((Ext.refl _ _).alloc _).grown hgr (by simp [Value.ownBlock]))

def sufB (A : Option Addr) (c i z : Nat) : Option Addr := if c = i then A else A.map (·.add (i * z))
theorem RCs.sufb_ {w : World} {S : Nat → Prop} {z : Nat} {ds : List D} {es : List Value} (h : RCs w S ds es) (hz : ∀ d ∈ ds, d.size = z) (i : Nat) : RCs w S (ds.drop i) (es.drop (i * z)) := by
  induction ds generalizing i es with
  | nil =>
    unfold RCs at h
    subst h
    simp
    unfold RCs; rfl
  | cons d ds ih =>
    cases i with
    | zero => simpa using h
    | succ i =>
      unfold RCs at h
      obtain ⟨c1, c2, rfl, g1, g2⟩ := h
      have hc : c1.length = z := (RC.len _ _ g1).trans (hz d (by simp))
      have := ih g2 (fun d hd => hz d (by simp [hd])) i
      rw [List.drop_succ_cons, show (i + 1) * z = c1.length + i * z by rw [hc, Nat.succ_mul]; omega, List.drop_length_add_append]
      exact this
theorem RC.sufb_ {w : World} {S : Nat → Prop} {e z n c i : Nat} {ds : List D} {A : Option Addr} (h : RC w S (.l e z ds) [.slice A n c]) (hi : i ≤ n) : RC w S (.l e z (ds.drop i)) [.slice (sufB A c i z) (n - i) (c - i)] := by
  unfold RC at h ⊢
  obtain ⟨A', c', h1, h2, h3, h4, h5, h6⟩ := h
  simp only [List.cons.injEq, Value.slice.injEq, and_true] at h1
  obtain ⟨rfl, rfl, rfl⟩ := h1
  have hl : (ds.drop i).length = ds.length - i := by simp
  refine ⟨sufB A c i z, c - i, by rw [hl], by omega, by omega, by omega, fun d hd => h5 d (List.mem_of_mem_drop hd), ?_⟩
  rcases h6 with rfl | ⟨b, o, es, rfl, hb, h8, h9, h10⟩
  · exact .inl (by simp)
  · by_cases h0 : ds.drop i = []
    · exact .inl h0
    have hc : ¬ c = i := fun e => h0 (List.drop_eq_nil_of_le (by omega))
    refine .inr ⟨b, o + i * z, es.drop (i * z), ?_, hb, h8, h9.sufb_ h5 i, fun j u hu => ?_⟩
    · rw [sufB, if_neg hc]; simp [Addr.add_lit]
    · rw [List.getElem?_drop] at hu
      rw [Nat.add_assoc]
      exact h10 _ u hu
theorem sizeAr (w : World) : (Go.sizeOf (Tryz.prog.elem 141)).run Tryz.prog w = .ok 9 w := by kernel_rfl
theorem elemAr : Tryz.prog.underlying 141 = some (.slice (Tryz.prog.elem 141)) := by kernel_rfl
theorem runSufAr (A : Option Addr) {n c i : Nat} (hi : i ≤ n) (hn : n ≤ c) (w : World) : (Instr.sliceAt 141 (.slice A n c) (some (.int .i64 (i : Int))) none none).run Tryz.prog w = .ok (.slice (sufB A c i 9) (n - i) (c - i)) w := by
  rw [run_sliceAt_slice w 141 _ _ _ _ elemAr, run_slice_l w 141 _ _ _ elemAr .i64 _ (by omega) (by omega), sizeAr]
  simp [Result.andThen, sliced, sufB]
section
variable {X : Nat → Prop} {w0 w w1 : World} {l l' : List Ch}
theorem Hp.resRow {e z : Nat} {ds : List D} {v : Value} (H : Hp no w0 w l) (hx : Ext no w w1) (hg : RG w1 w.heap.size (fun k => k < w0.heap.size) e z ds v) : Hp no w0 w1 (.row e z ds v :: l) := by
  obtain ⟨L', h', hn'⟩ := H.own
  have hB := H.ext.size
  obtain ⟨g1, g2, es, ⟨g3, g4⟩, g5⟩ := hg
  have hlt : ∀ k, v.ownBlock = some k → w.heap.size ≤ k ∧ k < w1.heap.size := World.ownsRow.lt (w := w1) (base := w.heap.size) (e := e) (size := z) (n := ds.length) (xs := es) ⟨g3, g4⟩
  refine ⟨(H.call hx).ext, v.ownBlock.toList ++ L', ?_, ?_⟩
  · unfold Chs
    refine ⟨_, L', rfl, ⟨rfl, g1, g2, es, ⟨g3, ?_⟩, RCs.frame (Nat.le_refl _) (fun k _ hS => ⟨⟨hS.1, no_not⟩, hS.2⟩) (fun _ _ _ => rfl) _ _ g5⟩, h'.frame H.ext.size hx.size (fun k hk _ => hx.block k (Nat.lt_of_lt_of_le hk H.ext.size) no_not) (fun k hk => hx.block k (h'.lt k hk).2 no_not)⟩
    rcases g4 with h | ⟨g, cap, cur, q1, q2, q3⟩
    · exact .inl h
    · exact .inr ⟨g, cap, cur, q1, Nat.le_trans hB q2, q3⟩
  · refine List.nodup_append.2 ⟨by cases v.ownBlock <;> simp, hn', fun x hx y hy e => ?_⟩
    subst e
    have := (hlt x (by simpa using hx)).1
    have := (h'.lt x hy).2
    omega
theorem Hp.res1 {d : D} {cs : List Value} (H : Hp X w0 w l) (H2 : Hp no w w1 [.dat d cs]) : Hp X w0 w1 (.dat d cs :: l) := by
  obtain ⟨K, hr, hk⟩ := H2.got
  exact H.res H2.ext hr hk
end
theorem RC.oldS {w w' : World} {S : Nat → Prop} {d : D} {cs : List Value} (h : RC w S d cs) (hx : Ext no w w') : RC w' (fun k => k < w.heap.size) d cs :=
  RC.frame hx.size (fun k hk _ => hk) (fun k hk _ => hx.block k hk no_not) _ _ h

set_option maxRecDepth 100000 in
set_option maxHeartbeats 8000000 in
theorem read14 {W : World} {S S1 : Nat → Prop} {xs : List Ar} {e : Ar} {A Ae1 Ae2 Ae3 Ae4 : Option Addr} {c gw ge ce1 ce2 ce3 ce4 : Nat} {x1 x2 x3 x4 x5 x6 x7 x8 x9 x10 x11 x13 x14 x15 x16 x17 x18 x19 x20 x21 x22 x23 x24 x25 x26 x27 x28 x29 x30 x31 x32 x33 x34 x35 x36 x37 x38 x39 x40 x41 x42 x43 x44 x45 x46 x47 x48 x49 x50 x51 x52 x53 x54 x55 x56 x57 x58 x59 x60 x61 x62 x63 x64 x65 x66 x67 x68 x69 x70 x71 x72 x73 x74 x75 x76 x77 x78 x79 x80 x81 x82 x83 x84 x85 x86 x87 x88 x89 x90 x91 x92 x93 x94 x95 x96 x97 x98 x99 x100 x101 x102 x103 x104 x105 x106 x107 x108 x109 x110 x111 x112 x113 x114 x115 x116 x117 x118 x119 x120 x121 x122 x123 x124 x125 x126 x127 x128 x129 x130 x131 x132 x133 x134 x135 x136 x137 x138 x139 x140 x141 x142 : Value} (hT : Tab W) (h : RC W S (.l 145 9 (xs.map Ar.d)) [.slice A xs.length c]) (hc : W.cell? ⟨gw, 1, none⟩ = some (.slice A xs.length c))
    (he : RC W S1 e.d [.bool e.rc, .int .i64 e.ty.k, .int .i64 e.ty.n, .int .i64 e.ty.a, .slice Ae1 e.ty.ls.length ce1, .slice Ae2 e.ty.ks.length ce2, .slice Ae3 e.tele.length ce3, .int .i64 e.member, .slice Ae4 e.index.length ce4])
    (hb : Blk W ge 145 #[.bool e.rc, .int .i64 e.ty.k, .int .i64 e.ty.n, .int .i64 e.ty.a, .slice Ae1 e.ty.ls.length ce1, .slice Ae2 e.ty.ks.length ce2, .slice Ae3 e.tele.length ce3, .int .i64 e.member, .slice Ae4 e.index.length ce4])
    (hn : xs.length ≤ 10) (hl : ∀ a ∈ xs ++ [e], a.tele.length ≤ 1000000000) {R : Bool} (hR : R = linQ e xs) :
    (fromF 14 (Tryz.f116.body.getD .skip)).wp Tryz.prog (bodyPost Tryz.prog Tryz.f116 (PErr W 16 R)) { tmps := #[.pointer (some ⟨gw, 0, none⟩), x1, x2, x3, x4, x5, x6, x7, x8, x9, x10, x11, .pointer (some ⟨ge, 0, none⟩), x13, x14, x15, x16, x17, x18, x19, x20, x21, x22, x23, x24, x25, x26, x27, x28, x29, x30, x31, x32, x33, x34, x35, x36, x37, x38, x39, x40, x41, x42, x43, x44, x45, x46, x47, x48, x49, x50, x51, x52, x53, x54, x55, x56, x57, x58, x59, x60, x61, x62, x63, x64, x65, x66, x67, x68, x69, x70, x71, x72, x73, x74, x75, x76, x77, x78, x79, x80, x81, x82, x83, x84, x85, x86, x87, x88, x89, x90, x91, x92, x93, x94, x95, x96, x97, x98, x99, x100, x101, x102, x103, x104, x105, x106, x107, x108, x109, x110, x111, x112, x113, x114, x115, x116, x117, x118, x119, x120, x121, x122, x123, x124, x125, x126, x127, x128, x129, x130, x131, x132, x133, x134, x135, x136, x137, x138, x139, x140, x141, x142], defers := [] } W := by
  have lc := cell_lt hc
  have lb := hb.lt
  have hcell := hb.cells
  have e0 := hcell 0
  have e1 := hcell 1
  have e2 := hcell 2
  have e3 := hcell 3
  have e4 := hcell 4
  have e5 := hcell 5
  have e6 := hcell 6
  have e7 := hcell 7
  have e8 := hcell 8
  simp only [List.getElem?_toArray, List.getElem?_cons_zero, List.getElem?_cons_succ] at e0 e1 e2 e3 e4 e5 e6 e7 e8
  have HT := Lib.hid hT
  have HH := Lib.hid h
  have HE := Lib.hid he
  have HL := Lib.hid hl
  have HR := Lib.hid hR
  have hM := h.lenM
  clear hT h he hl hR hcell hb
  have H := Hp.start no W
  conv => arg 2; whnf
  go_wp2_with fail
  go_loopw [107] (fun i wr => ∃ j : Nat, j ≤ xs.length ∧ i = .int .i64 j ∧ Hid (linQ e (xs.drop j) = linQ e xs) ∧ Hp no W wr []) (fun i _ => xs.length - (intOf i).toNat)
  case atStart => exact ⟨0, Nat.zero_le _, rfl, Lib.hid (by simp), H⟩
  case round =>
    clear H
    obtain ⟨j, hj, rfl, HS, H⟩ := hrel
    by_cases hlt : j < xs.length
    · obtain ⟨b_, o, B1, d1, B2, d2, B3, d3, B4, d4, rfl, hb_, hS, hd, p0, p1, p2, p3, p4, p5, p6, p7, p8⟩ := HH.out.atAr hlt
      have HD := Lib.hid hd
      have HLD := Lib.hid (linQ_drop (e := e) hlt)
      have HMEM := Lib.hid (List.getElem_mem hlt)
      clear hd
      generalize xs[j] = a at p0 p1 p2 p3 p4 p5 p6 p7 p8 HD HLD HMEM
      have HSF := Lib.hid (HH.out.sufb_ (i := j + 1) (by omega))
      obtain ⟨A', hA'⟩ : ∃ A', A' = sufB (some ⟨b_, o, none⟩) c (j + 1) 9 := ⟨_, rfl⟩
      have hsf := HSF.out
      rw [← hA', ← List.map_drop] at hsf
      have hrun : ∀ w : World, (Instr.sliceAt 141 (.slice (some ⟨b_, o, none⟩) xs.length c) (some (.int .i64 ((j : Int) + 1))) none none).run Tryz.prog w = .ok (.slice A' (xs.length - (j + 1)) (c - (j + 1))) w := fun w => by
        have := runSufAr (some ⟨b_, o, none⟩) (n := xs.length) (c := c) (i := j + 1) (by omega) (by omega) w
        rw [hA']
        push_cast at this
        exact this
      clear HSF hA'
      have HSF := Lib.hid hsf
      clear hsf
      have hr_ := H.rules; simp only [Rules, and_true] at hr_; have hd_ := H.dif; simp only [Dif, Neq, and_true] at hd_; obtain ⟨ho_, hz_⟩ := H.old0
      go_wp2_with ((with_reducible refine atStore (t := 145) ?_); go_must (refine wpList_storeH (t := 145) rfl rfl (by go_simp <;> first | rfl | exact ⟨rfl, rfl⟩) (by go_simp <;> first | rfl | exact ⟨rfl, rfl⟩) (by exact Hp.norm (by (repeat (first | with_reducible exact H | with_reducible exact H0_ | with_reducible apply Hp.alloc | with_reducible apply Hp.allocMap | with_reducible apply Hp.drew | with_reducible apply Hp.drewN | with_reducible apply Hp.set)); (try any_goals (repeat (first | with_reducible exact Upd.head | with_reducible apply Upd.tail)))) (by ((try simp only [size_drew_, size_drewN_, World.size_alloc, World.size_setCell, List.set_cons_zero, List.set_cons_succ, List.nil_append, List.cons_append]) <;> rfl))) (by (repeat (first | with_reducible exact Upd.head | with_reducible apply Upd.tail))) (by exact aggArg) (by rfl) (by simp [Value.oneCell']) ?_; clear H; intro w7 H; (try simp only [size_drew_, size_drewN_, World.size_alloc, World.size_setCell, List.set_cons_zero, List.set_cons_succ] at H); (try clear hr_ hd_ ho_ hz_); have hr_ := H.rules; simp only [Rules, and_true] at hr_; have hd_ := H.dif; simp only [Dif, Neq, and_true] at hd_; obtain ⟨ho_, hz_⟩ := H.old0))
      (try clear hr_ hd_ ho_ hz_)
      have HLT := Lib.hid hlt
      have hw1 : IntKind.i64.wrap ((j : Int) + 1) = (j : Int) + 1 := by rw [IntKind.wrap_i64]; omega
      clear hlt
      refine regionH (by (repeat (first | with_reducible exact H | with_reducible exact H0_ | with_reducible apply Hp.alloc | with_reducible apply Hp.allocMap | with_reducible apply Hp.drew | with_reducible apply Hp.drewN | with_reducible apply Hp.set)); (try any_goals (repeat (first | with_reducible exact Upd.head | with_reducible apply Upd.tail)))) ?_
      clear H; intro w8 H; (try simp only [size_drew_, size_drewN_, World.size_alloc, World.size_setCell, List.set_cons_zero, List.set_cons_succ] at H)
      refine wp_region_H 14 [false, false, false, false, false, false, false, false, false, false, false, false, false, false] [] H .nil (by kernel_rfl) rfl rfl (fun H_ hR_ => ?_)
      (try clear H0_); have H0_ := H; clear H; have H := H_; clear H_
      refine wpL_reads (is := [(0, ?v1_0), (1, ?v1_1), (2, ?v1_2), (3, ?v1_3), (4, ?v1_4), (5, ?v1_5), (6, ?v1_6), (7, ?v1_7), (9, ?v1_8), (13, ?v1_9)]) (by kernel_rfl) (Nat.le_of_ble_eq_true rfl) (by intro _ _ d_ _ _ h_; cases d_ <;> exact h_) (by kernel_rfl) hR_ (fun w_ hw_ => ?h1_) ?_
      case h1_ =>
        have ho_ := hw_.old0.1; have hz_ := hw_.old0.2; have hr_ := hw_.rules; clear hw_; simp only [Rules, and_true] at hr_; go_split_ands
        (repeat (first | with_reducible exact RdOps.nil | (refine RdOps.run rfl (by rfl) ?_ ?_; (focus (first | (go_simp; done) | (go_simp; with_reducible rfl))); simp only [List.getElem_toArray, List.getElem_cons_zero, List.getElem_cons_succ, Act.put, List.setIfInBounds_toArray, List.set_cons_zero, List.set_cons_succ]) | (refine RdOps.skip rfl (by rfl) ?_ ?_; (focus (with_reducible rfl)); simp only [List.getElem_toArray, List.getElem_cons_zero, List.getElem_cons_succ, Act.put, List.setIfInBounds_toArray, List.set_cons_zero, List.set_cons_succ])))
      simp only [rdMark, rdAct, List.map_cons, List.map_nil, List.length_cons, List.length_nil, Nat.reduceAdd, Nat.reduceSub, Nat.zero_add, List.getElem?_toArray, List.getElem?_cons_zero, List.getElem?_cons_succ, Option.bind_some, Act.put, List.setIfInBounds_toArray, List.set_cons_zero, List.set_cons_succ]
      refine wpL_many (is := [8, 10]) (by kernel_rfl) (by simp) ?_
      simp only [List.forall_mem_cons]
      refine ⟨?_, ?_, fun _ h => by cases h⟩
      · refine wpOp_do (i := 8) rfl (by rfl) (fun K_ hK_ => ?_)
        go_simp
        refine (cloneArgs (A := _) (n := xs.length - (j + 1)) (c := c - (j + 1)) (HSF.out.oldS H.ext)).mono ?_
        rintro e_ w5_ ⟨A2, c2, rfl, hg, hx⟩
        simp only [List.length_map, List.length_drop] at hg ⊢
        replace H := H.resRow hx hg
        clear hx hg
        refine hK_ _ _ (fun _ => H.sub (by simp)) (fun hR_ => ?_)
        replace hR_ := hR_ (by decide)
        refine wpL_do (i := 10) rfl (by kernel_rfl) (by rfl) (fun K_ hK_ => ?_)
        go_simp
        refine kontH (by (repeat (first | with_reducible exact H | with_reducible exact H0_ | with_reducible apply Hp.alloc | with_reducible apply Hp.allocMap | with_reducible apply Hp.drew | with_reducible apply Hp.drewN | with_reducible apply Hp.set)); (try any_goals (repeat (first | with_reducible exact Upd.head | with_reducible apply Upd.tail)))) ?_
        clear H; intro wb_ H; (try simp only [size_drew_, size_drewN_, World.size_alloc, World.size_setCell, List.set_cons_zero, List.set_cons_succ] at H)
        refine hK_ _ _ (fun _ => H.sub (by simp)) (fun hR_ => ?_)
        replace hR_ := hR_ (by decide)
        refine wpL_do (i := 11) rfl (by kernel_rfl) (by rfl) (fun K_ hK_ => ?_)
        refine wp_pushR (.tmp 120) (.tmp 122) 141 rfl stArs (by go_simp <;> first | rfl | exact ⟨rfl, rfl⟩) (by go_simp <;> first | rfl | exact ⟨rfl, rfl⟩) H (by (repeat (first | with_reducible exact Pick.head | with_reducible apply Pick.tail))) (by (repeat (first | with_reducible exact Pick.head | with_reducible apply Pick.tail))) (HE.out.oldP H.ext) (Ar.size_d _) ?_ ?_
        focus (simp [M]; omega)
        clear H; intro v2 w6 H
        have e2 : (xs.drop (j + 1)).map Ar.d ++ [e.d] = (xs.drop (j + 1) ++ [e]).map Ar.d := by simp
        rw [e2] at H
        clear e2
        obtain ⟨bs, hbs⟩ : ∃ bs, bs = xs.drop (j + 1) ++ [e] := ⟨_, rfl⟩
        rw [← hbs] at H
        have HBS := Lib.hid hbs
        have hbl : bs.length ≤ 11 := by rw [hbs, List.length_append, List.length_drop]; simp; omega
        have htl : ∀ b ∈ bs, b.tele.length ≤ 1000000000 := fun b hb => HL.out b (by rw [hbs] at hb; rcases List.mem_append.1 hb with h | h <;> simp [h]; exact .inl (List.mem_of_mem_drop h))
        have HTL := Lib.hid htl
        clear hbs htl
        obtain ⟨A3, c3, rfl, _, _, _⟩ := (H.rowRd (by (repeat (first | with_reducible exact Pick.head | with_reducible apply Pick.tail)))).slice
        rw [List.length_map] at H ⊢
        refine hK_ _ _ (fun _ => H.sub (by simp)) (fun hR_ => ?_)
        replace hR_ := hR_ (by decide)
        simp only [List.getElem_toArray, List.getElem_cons_zero, List.getElem_cons_succ, Act.put, List.setIfInBounds_toArray, List.set_cons_zero, List.set_cons_succ]
        refine wpL_reads (is := [(12, ?v2_0)]) (by kernel_rfl) (Nat.le_of_ble_eq_true rfl) (by intro _ _ d_ _ _ h_; cases d_ <;> exact h_) (by kernel_rfl) hR_ (fun w_ hw_ => ?h2_) ?_
        case h2_ =>
          have ho_ := hw_.old0.1; have hz_ := hw_.old0.2; have hr_ := hw_.rules; clear hw_; simp only [Rules, and_true] at hr_; go_split_ands
          (repeat (first | with_reducible exact RdOps.nil | (refine RdOps.run rfl (by rfl) ?_ ?_; (focus (first | (go_simp; done) | (go_simp; with_reducible rfl))); simp only [List.getElem_toArray, List.getElem_cons_zero, List.getElem_cons_succ, Act.put, List.setIfInBounds_toArray, List.set_cons_zero, List.set_cons_succ]) | (refine RdOps.skip rfl (by rfl) ?_ ?_; (focus (with_reducible rfl)); simp only [List.getElem_toArray, List.getElem_cons_zero, List.getElem_cons_succ, Act.put, List.setIfInBounds_toArray, List.set_cons_zero, List.set_cons_succ])))
        simp only [rdMark, rdAct, List.map_cons, List.map_nil, List.length_cons, List.length_nil, Nat.reduceAdd, Nat.reduceSub, Nat.zero_add, List.getElem?_toArray, List.getElem?_cons_zero, List.getElem?_cons_succ, Option.bind_some, Act.put, List.setIfInBounds_toArray, List.set_cons_zero, List.set_cons_succ]
        refine wpL_done (by kernel_rfl) ?_ _
        clear hR_ H0_ hK_
        generalize wr.heap.size = G at H ⊢
        cases hrc : a.rc
        · rw [hrc] at H
          have HRC := Lib.hid hrc
          clear hrc
          go_wp2_with fail
          go_loopw [125] (fun i wr => ∃ k : Nat, k ≤ bs.length ∧ i = .int .i64 k ∧ Hid (false = true → okFrom k (bs.drop k) = okFrom 0 bs) ∧ Hp no W wr [.row 145 9 (bs.map Ar.d) (.slice A3 bs.length c3), .box G 145 [.bool false, .int .i64 a.ty.k, .int .i64 a.ty.n, .int .i64 a.ty.a, .slice B1 a.ty.ls.length d1, .slice B2 a.ty.ks.length d2, .slice B3 a.tele.length d3, .int .i64 a.member, .slice B4 a.index.length d4]]) (fun i _ => bs.length - (intOf i).toNat)
          case atStart => exact ⟨0, Nat.zero_le _, rfl, Lib.hid (fun _ => by simp), (H.arr (by (repeat (first | with_reducible exact Arr.nil | refine Arr.cons (by (repeat (first | with_reducible exact Pick.head | with_reducible apply Pick.tail))) ?_)) <;> exact Arr.of_subl (by (repeat (first | with_reducible exact Subl.refl _ | with_reducible apply Subl.drop)))))⟩
          case round =>
            clear H
            obtain ⟨k, hk, rfl, HK, H⟩ := hrel
            by_cases hlk : k < bs.length
            · obtain ⟨gq, cq, cs, he, hcap, hcm, hgq, hgl, hx0, hcs, hcell⟩ := H.rowAt (i := k) (d := bs[k].d) (by (repeat (first | with_reducible exact Pick.head | with_reducible apply Pick.tail))) (by simp [hlk])
              simp only [Value.slice.injEq, List.length_map] at he
              obtain ⟨rfl, _, rfl⟩ := he
              obtain ⟨C1, f1, C2, f2, C3, f3, C4, f4, rfl, -⟩ := RC.ar.1 hx0
              have q0 := hcell 0 _ rfl
              have q1 := hcell 1 _ rfl
              have q2 := hcell 2 _ rfl
              have q3 := hcell 3 _ rfl
              have q4 := hcell 4 _ rfl
              have q5 := hcell 5 _ rfl
              have q6 := hcell 6 _ rfl
              have q7 := hcell 7 _ rfl
              have q8 := hcell 8 _ rfl
              simp only [Nat.add_zero] at q0
              have HX := Lib.hid hx0
              have HOK := Lib.hid (okFrom_drop0 hlk)
              have HTK := Lib.hid (HTL.out _ (List.getElem_mem hlk))
              clear hx0 hcs hcell hcap hcm
              generalize bs[k] = bk at q0 q1 q2 q3 q4 q5 q6 q7 q8 HX HOK HTK
              have hr_ := H.rules; simp only [Rules, and_true] at hr_; have hd_ := H.dif; simp only [Dif, Neq, and_true] at hd_; obtain ⟨ho_, hz_⟩ := H.old0
              go_wp2_with ((with_reducible refine atStore (t := 145) ?_); go_must (refine wpList_storeH (t := 145) rfl rfl (by go_simp <;> first | rfl | exact ⟨rfl, rfl⟩) (by go_simp <;> first | rfl | exact ⟨rfl, rfl⟩) (by exact Hp.norm (by (repeat (first | with_reducible exact H | with_reducible exact H0_ | with_reducible apply Hp.alloc | with_reducible apply Hp.allocMap | with_reducible apply Hp.drew | with_reducible apply Hp.drewN | with_reducible apply Hp.set)); (try any_goals (repeat (first | with_reducible exact Upd.head | with_reducible apply Upd.tail)))) (by ((try simp only [size_drew_, size_drewN_, World.size_alloc, World.size_setCell, List.set_cons_zero, List.set_cons_succ, List.nil_append, List.cons_append]) <;> rfl))) (by (repeat (first | with_reducible exact Upd.head | with_reducible apply Upd.tail))) (by exact aggArg) (by rfl) (by simp [Value.oneCell']) ?_; clear H; intro w9 H; (try simp only [size_drew_, size_drewN_, World.size_alloc, World.size_setCell, List.set_cons_zero, List.set_cons_succ] at H); (try clear hr_ hd_ ho_ hz_); have hr_ := H.rules; simp only [Rules, and_true] at hr_; have hd_ := H.dif; simp only [Dif, Neq, and_true] at hd_; obtain ⟨ho_, hz_⟩ := H.old0))
              (try clear hr_ hd_ ho_ hz_)
              refine callsH (by (repeat (first | with_reducible exact H | with_reducible exact H0_ | with_reducible apply Hp.alloc | with_reducible apply Hp.allocMap | with_reducible apply Hp.drew | with_reducible apply Hp.drewN | with_reducible apply Hp.set)); (try any_goals (repeat (first | with_reducible exact Upd.head | with_reducible apply Upd.tail)))) ?_
              clear H; intro w10 H; (try simp only [size_drew_, size_drewN_, World.size_alloc, World.size_setCell, List.set_cons_zero, List.set_cons_succ] at H)
              refine (xmust1 16 H (by (repeat (first | with_reducible exact Pick.head | with_reducible apply Pick.tail)))).mono ?_
              rintro e_ w4_ hm
              have hx := hm.2
              have HM := Lib.hid hm
              clear hm
              replace H := H.call hx
              clear hx
              obtain rfl := HM.out.yes rfl
              go_wp2_with fail
              go_roundw
              case rel => exact ⟨k + 1, by omega, by first | go_num | rfl | simp, Lib.hid (fun h => by cases h), (H.arr (by (repeat (first | with_reducible exact Arr.nil | refine Arr.cons (by (repeat (first | with_reducible exact Pick.head | with_reducible apply Pick.tail))) ?_)) <;> exact Arr.of_subl (by (repeat (first | with_reducible exact Subl.refl _ | with_reducible apply Subl.drop)))))⟩
              case measure => simp [intOf]; omega
            · go_wp2_with fail
              go_roundw
              case rel => exact ⟨j + 1, by have := HLT.out; omega, by first | go_num | rfl | simp, Lib.hid (by rw [← HS.out, HLD.out, HRC.out]; rfl), (H.arr (by (repeat (first | with_reducible exact Arr.nil | refine Arr.cons (by (repeat (first | with_reducible exact Pick.head | with_reducible apply Pick.tail))) ?_)) <;> exact Arr.of_subl (by (repeat (first | with_reducible exact Subl.refl _ | with_reducible apply Subl.drop)))))⟩
              case measure => simp [intOf]; have := HLT.out; omega
        · rw [hrc] at H
          have HRC := Lib.hid hrc
          clear hrc
          go_wp2_with fail
          go_loopw [125] (fun i wr => ∃ k : Nat, k ≤ bs.length ∧ i = .int .i64 k ∧ Hid (true = true → okFrom k (bs.drop k) = okFrom 0 bs) ∧ Hp no W wr [.row 145 9 (bs.map Ar.d) (.slice A3 bs.length c3), .box G 145 [.bool true, .int .i64 a.ty.k, .int .i64 a.ty.n, .int .i64 a.ty.a, .slice B1 a.ty.ls.length d1, .slice B2 a.ty.ks.length d2, .slice B3 a.tele.length d3, .int .i64 a.member, .slice B4 a.index.length d4]]) (fun i _ => bs.length - (intOf i).toNat)
          case atStart => exact ⟨0, Nat.zero_le _, rfl, Lib.hid (fun _ => by simp), (H.arr (by (repeat (first | with_reducible exact Arr.nil | refine Arr.cons (by (repeat (first | with_reducible exact Pick.head | with_reducible apply Pick.tail))) ?_)) <;> exact Arr.of_subl (by (repeat (first | with_reducible exact Subl.refl _ | with_reducible apply Subl.drop)))))⟩
          case round =>
            clear H
            obtain ⟨k, hk, rfl, HK, H⟩ := hrel
            by_cases hlk : k < bs.length
            · obtain ⟨gq, cq, cs, he, hcap, hcm, hgq, hgl, hx0, hcs, hcell⟩ := H.rowAt (i := k) (d := bs[k].d) (by (repeat (first | with_reducible exact Pick.head | with_reducible apply Pick.tail))) (by simp [hlk])
              simp only [Value.slice.injEq, List.length_map] at he
              obtain ⟨rfl, _, rfl⟩ := he
              obtain ⟨C1, f1, C2, f2, C3, f3, C4, f4, rfl, -⟩ := RC.ar.1 hx0
              have q0 := hcell 0 _ rfl
              have q1 := hcell 1 _ rfl
              have q2 := hcell 2 _ rfl
              have q3 := hcell 3 _ rfl
              have q4 := hcell 4 _ rfl
              have q5 := hcell 5 _ rfl
              have q6 := hcell 6 _ rfl
              have q7 := hcell 7 _ rfl
              have q8 := hcell 8 _ rfl
              simp only [Nat.add_zero] at q0
              have HX := Lib.hid hx0
              have HOK := Lib.hid (okFrom_drop0 hlk)
              have HTK := Lib.hid (HTL.out _ (List.getElem_mem hlk))
              clear hx0 hcs hcell hcap hcm
              generalize bs[k] = bk at q0 q1 q2 q3 q4 q5 q6 q7 q8 HX HOK HTK
              have hr_ := H.rules; simp only [Rules, and_true] at hr_; have hd_ := H.dif; simp only [Dif, Neq, and_true] at hd_; obtain ⟨ho_, hz_⟩ := H.old0
              go_wp2_with ((with_reducible refine atStore (t := 145) ?_); go_must (refine wpList_storeH (t := 145) rfl rfl (by go_simp <;> first | rfl | exact ⟨rfl, rfl⟩) (by go_simp <;> first | rfl | exact ⟨rfl, rfl⟩) (by exact Hp.norm (by (repeat (first | with_reducible exact H | with_reducible exact H0_ | with_reducible apply Hp.alloc | with_reducible apply Hp.allocMap | with_reducible apply Hp.drew | with_reducible apply Hp.drewN | with_reducible apply Hp.set)); (try any_goals (repeat (first | with_reducible exact Upd.head | with_reducible apply Upd.tail)))) (by ((try simp only [size_drew_, size_drewN_, World.size_alloc, World.size_setCell, List.set_cons_zero, List.set_cons_succ, List.nil_append, List.cons_append]) <;> rfl))) (by (repeat (first | with_reducible exact Upd.head | with_reducible apply Upd.tail))) (by exact aggArg) (by rfl) (by simp [Value.oneCell']) ?_; clear H; intro w9 H; (try simp only [size_drew_, size_drewN_, World.size_alloc, World.size_setCell, List.set_cons_zero, List.set_cons_succ] at H); (try clear hr_ hd_ ho_ hz_); have hr_ := H.rules; simp only [Rules, and_true] at hr_; have hd_ := H.dif; simp only [Dif, Neq, and_true] at hd_; obtain ⟨ho_, hz_⟩ := H.old0))
              (try clear hr_ hd_ ho_ hz_)
              refine callsH (by (repeat (first | with_reducible exact H | with_reducible exact H0_ | with_reducible apply Hp.alloc | with_reducible apply Hp.allocMap | with_reducible apply Hp.drew | with_reducible apply Hp.drewN | with_reducible apply Hp.set)); (try any_goals (repeat (first | with_reducible exact Upd.head | with_reducible apply Upd.tail)))) ?_
              clear H; intro w10 H; (try simp only [size_drew_, size_drewN_, World.size_alloc, World.size_setCell, List.set_cons_zero, List.set_cons_succ] at H)
              obtain ⟨q, hq⟩ : ∃ q, q = mentT bk k := ⟨_, rfl⟩
              have hcall := mentions_calls (a := bk) (f := k) (HT.out.ext H.ext) (HX.out.ext0 H.ext) (by omega) HTK.out
              rw [← hq] at hcall
              have HQ := Lib.hid hq
              clear hq
              refine (hcall).mono ?_
              rintro e w_ ⟨rfl, hx⟩
              replace H := H.call hx
              clear hx
              clear hcall
              go_wp2_with fail
              refine callsH (by (repeat (first | with_reducible exact H | with_reducible exact H0_ | with_reducible apply Hp.alloc | with_reducible apply Hp.allocMap | with_reducible apply Hp.drew | with_reducible apply Hp.drewN | with_reducible apply Hp.set)); (try any_goals (repeat (first | with_reducible exact Upd.head | with_reducible apply Upd.tail)))) ?_
              clear H; intro w11 H; (try simp only [size_drew_, size_drewN_, World.size_alloc, World.size_setCell, List.set_cons_zero, List.set_cons_succ] at H)
              refine (xmust1 16 H (by (repeat (first | with_reducible exact Pick.head | with_reducible apply Pick.tail)))).mono ?_
              rintro e_ w4_ hm
              have hx := hm.2
              have HM := Lib.hid hm
              clear hm
              replace H := H.call hx
              clear hx
              have hk1 := HK.out (by first | exact trivial | exact rfl)
              rw [HOK.out, ← HQ.out] at hk1
              cases q
              · obtain rfl := HM.out.yes rfl
                have HK1 := Lib.hid hk1
                clear hk1
                go_wp2_with fail
                go_roundw
                case rel => exact ⟨k + 1, by omega, by first | go_num | rfl | simp, Lib.hid (fun _ => by have := HK1.out; simpa using this), (H.arr (by (repeat (first | with_reducible exact Arr.nil | refine Arr.cons (by (repeat (first | with_reducible exact Pick.head | with_reducible apply Pick.tail))) ?_)) <;> exact Arr.of_subl (by (repeat (first | with_reducible exact Subl.refl _ | with_reducible apply Subl.drop)))))⟩
                case measure => simp [intOf]; omega
              · obtain rfl := HM.out.no rfl
                have hz : R = false := by rw [HR.out, ← HS.out, HLD.out, HRC.out, ← HBS.out, ← hk1]; rfl
                exact ⟨rfl, by rw [hz]; rfl, H.ext⟩
            · go_wp2_with fail
              go_roundw
              case rel => exact ⟨j + 1, by have := HLT.out; omega, by first | go_num | rfl | simp, Lib.hid (by have e0 : bs.drop k = [] := List.drop_eq_nil_of_le (by omega); rw [← HS.out, HLD.out, HRC.out, ← HBS.out, ← HK.out (by first | exact trivial | exact rfl), e0]; rfl), (H.arr (by (repeat (first | with_reducible exact Arr.nil | refine Arr.cons (by (repeat (first | with_reducible exact Pick.head | with_reducible apply Pick.tail))) ?_)) <;> exact Arr.of_subl (by (repeat (first | with_reducible exact Subl.refl _ | with_reducible apply Subl.drop)))))⟩
              case measure => simp [intOf]; have := HLT.out; omega
      · refine wpOp_do (i := 10) rfl (by rfl) (fun K_ hK_ => ?_)
        go_simp
        refine kontH (by (repeat (first | with_reducible exact H | with_reducible exact H0_ | with_reducible apply Hp.alloc | with_reducible apply Hp.allocMap | with_reducible apply Hp.drew | with_reducible apply Hp.drewN | with_reducible apply Hp.set)); (try any_goals (repeat (first | with_reducible exact Upd.head | with_reducible apply Upd.tail)))) ?_
        clear H; intro wb_ H; (try simp only [size_drew_, size_drewN_, World.size_alloc, World.size_setCell, List.set_cons_zero, List.set_cons_succ] at H)
        refine hK_ _ _ (fun _ => H.sub (by simp)) (fun hR_ => ?_)
        replace hR_ := hR_ (by decide)
        refine wpL_do (i := 8) rfl (by kernel_rfl) (by rfl) (fun K_ hK_ => ?_)
        go_simp
        refine (cloneArgs (A := _) (n := xs.length - (j + 1)) (c := c - (j + 1)) (HSF.out.oldS H.ext)).mono ?_
        rintro e_ w5_ ⟨A2, c2, rfl, hg, hx⟩
        simp only [List.length_map, List.length_drop] at hg ⊢
        replace H := H.resRow hx hg
        clear hx hg
        refine hK_ _ _ (fun _ => H.sub (by simp)) (fun hR_ => ?_)
        replace hR_ := hR_ (by decide)
        refine wpL_do (i := 11) rfl (by kernel_rfl) (by rfl) (fun K_ hK_ => ?_)
        refine wp_pushR (.tmp 120) (.tmp 122) 141 rfl stArs (by go_simp <;> first | rfl | exact ⟨rfl, rfl⟩) (by go_simp <;> first | rfl | exact ⟨rfl, rfl⟩) H (by (repeat (first | with_reducible exact Pick.head | with_reducible apply Pick.tail))) (by (repeat (first | with_reducible exact Pick.head | with_reducible apply Pick.tail))) (HE.out.oldP H.ext) (Ar.size_d _) ?_ ?_
        focus (simp [M]; omega)
        clear H; intro v2 w6 H
        have e2 : (xs.drop (j + 1)).map Ar.d ++ [e.d] = (xs.drop (j + 1) ++ [e]).map Ar.d := by simp
        rw [e2] at H
        clear e2
        obtain ⟨bs, hbs⟩ : ∃ bs, bs = xs.drop (j + 1) ++ [e] := ⟨_, rfl⟩
        rw [← hbs] at H
        have HBS := Lib.hid hbs
        have hbl : bs.length ≤ 11 := by rw [hbs, List.length_append, List.length_drop]; simp; omega
        have htl : ∀ b ∈ bs, b.tele.length ≤ 1000000000 := fun b hb => HL.out b (by rw [hbs] at hb; rcases List.mem_append.1 hb with h | h <;> simp [h]; exact .inl (List.mem_of_mem_drop h))
        have HTL := Lib.hid htl
        clear hbs htl
        obtain ⟨A3, c3, rfl, _, _, _⟩ := (H.rowRd (by (repeat (first | with_reducible exact Pick.head | with_reducible apply Pick.tail)))).slice
        rw [List.length_map] at H ⊢
        refine hK_ _ _ (fun _ => H.sub (by simp)) (fun hR_ => ?_)
        replace hR_ := hR_ (by decide)
        simp only [List.getElem_toArray, List.getElem_cons_zero, List.getElem_cons_succ, Act.put, List.setIfInBounds_toArray, List.set_cons_zero, List.set_cons_succ]
        refine wpL_reads (is := [(12, ?v3_0)]) (by kernel_rfl) (Nat.le_of_ble_eq_true rfl) (by intro _ _ d_ _ _ h_; cases d_ <;> exact h_) (by kernel_rfl) hR_ (fun w_ hw_ => ?h3_) ?_
        case h3_ =>
          have ho_ := hw_.old0.1; have hz_ := hw_.old0.2; have hr_ := hw_.rules; clear hw_; simp only [Rules, and_true] at hr_; go_split_ands
          (repeat (first | with_reducible exact RdOps.nil | (refine RdOps.run rfl (by rfl) ?_ ?_; (focus (first | (go_simp; done) | (go_simp; with_reducible rfl))); simp only [List.getElem_toArray, List.getElem_cons_zero, List.getElem_cons_succ, Act.put, List.setIfInBounds_toArray, List.set_cons_zero, List.set_cons_succ]) | (refine RdOps.skip rfl (by rfl) ?_ ?_; (focus (with_reducible rfl)); simp only [List.getElem_toArray, List.getElem_cons_zero, List.getElem_cons_succ, Act.put, List.setIfInBounds_toArray, List.set_cons_zero, List.set_cons_succ])))
        simp only [rdMark, rdAct, List.map_cons, List.map_nil, List.length_cons, List.length_nil, Nat.reduceAdd, Nat.reduceSub, Nat.zero_add, List.getElem?_toArray, List.getElem?_cons_zero, List.getElem?_cons_succ, Option.bind_some, Act.put, List.setIfInBounds_toArray, List.set_cons_zero, List.set_cons_succ]
        refine wpL_done (by kernel_rfl) ?_ _
        clear hR_ H0_ hK_
        generalize wr.heap.size = G at H ⊢
        cases hrc : a.rc
        · rw [hrc] at H
          have HRC := Lib.hid hrc
          clear hrc
          go_wp2_with fail
          go_loopw [125] (fun i wr => ∃ k : Nat, k ≤ bs.length ∧ i = .int .i64 k ∧ Hid (false = true → okFrom k (bs.drop k) = okFrom 0 bs) ∧ Hp no W wr [.row 145 9 (bs.map Ar.d) (.slice A3 bs.length c3), .box G 145 [.bool false, .int .i64 a.ty.k, .int .i64 a.ty.n, .int .i64 a.ty.a, .slice B1 a.ty.ls.length d1, .slice B2 a.ty.ks.length d2, .slice B3 a.tele.length d3, .int .i64 a.member, .slice B4 a.index.length d4]]) (fun i _ => bs.length - (intOf i).toNat)
          case atStart => exact ⟨0, Nat.zero_le _, rfl, Lib.hid (fun _ => by simp), (H.arr (by (repeat (first | with_reducible exact Arr.nil | refine Arr.cons (by (repeat (first | with_reducible exact Pick.head | with_reducible apply Pick.tail))) ?_)) <;> exact Arr.of_subl (by (repeat (first | with_reducible exact Subl.refl _ | with_reducible apply Subl.drop)))))⟩
          case round =>
            clear H
            obtain ⟨k, hk, rfl, HK, H⟩ := hrel
            by_cases hlk : k < bs.length
            · obtain ⟨gq, cq, cs, he, hcap, hcm, hgq, hgl, hx0, hcs, hcell⟩ := H.rowAt (i := k) (d := bs[k].d) (by (repeat (first | with_reducible exact Pick.head | with_reducible apply Pick.tail))) (by simp [hlk])
              simp only [Value.slice.injEq, List.length_map] at he
              obtain ⟨rfl, _, rfl⟩ := he
              obtain ⟨C1, f1, C2, f2, C3, f3, C4, f4, rfl, -⟩ := RC.ar.1 hx0
              have q0 := hcell 0 _ rfl
              have q1 := hcell 1 _ rfl
              have q2 := hcell 2 _ rfl
              have q3 := hcell 3 _ rfl
              have q4 := hcell 4 _ rfl
              have q5 := hcell 5 _ rfl
              have q6 := hcell 6 _ rfl
              have q7 := hcell 7 _ rfl
              have q8 := hcell 8 _ rfl
              simp only [Nat.add_zero] at q0
              have HX := Lib.hid hx0
              have HOK := Lib.hid (okFrom_drop0 hlk)
              have HTK := Lib.hid (HTL.out _ (List.getElem_mem hlk))
              clear hx0 hcs hcell hcap hcm
              generalize bs[k] = bk at q0 q1 q2 q3 q4 q5 q6 q7 q8 HX HOK HTK
              have hr_ := H.rules; simp only [Rules, and_true] at hr_; have hd_ := H.dif; simp only [Dif, Neq, and_true] at hd_; obtain ⟨ho_, hz_⟩ := H.old0
              go_wp2_with ((with_reducible refine atStore (t := 145) ?_); go_must (refine wpList_storeH (t := 145) rfl rfl (by go_simp <;> first | rfl | exact ⟨rfl, rfl⟩) (by go_simp <;> first | rfl | exact ⟨rfl, rfl⟩) (by exact Hp.norm (by (repeat (first | with_reducible exact H | with_reducible exact H0_ | with_reducible apply Hp.alloc | with_reducible apply Hp.allocMap | with_reducible apply Hp.drew | with_reducible apply Hp.drewN | with_reducible apply Hp.set)); (try any_goals (repeat (first | with_reducible exact Upd.head | with_reducible apply Upd.tail)))) (by ((try simp only [size_drew_, size_drewN_, World.size_alloc, World.size_setCell, List.set_cons_zero, List.set_cons_succ, List.nil_append, List.cons_append]) <;> rfl))) (by (repeat (first | with_reducible exact Upd.head | with_reducible apply Upd.tail))) (by exact aggArg) (by rfl) (by simp [Value.oneCell']) ?_; clear H; intro w9 H; (try simp only [size_drew_, size_drewN_, World.size_alloc, World.size_setCell, List.set_cons_zero, List.set_cons_succ] at H); (try clear hr_ hd_ ho_ hz_); have hr_ := H.rules; simp only [Rules, and_true] at hr_; have hd_ := H.dif; simp only [Dif, Neq, and_true] at hd_; obtain ⟨ho_, hz_⟩ := H.old0))
              (try clear hr_ hd_ ho_ hz_)
              refine callsH (by (repeat (first | with_reducible exact H | with_reducible exact H0_ | with_reducible apply Hp.alloc | with_reducible apply Hp.allocMap | with_reducible apply Hp.drew | with_reducible apply Hp.drewN | with_reducible apply Hp.set)); (try any_goals (repeat (first | with_reducible exact Upd.head | with_reducible apply Upd.tail)))) ?_
              clear H; intro w10 H; (try simp only [size_drew_, size_drewN_, World.size_alloc, World.size_setCell, List.set_cons_zero, List.set_cons_succ] at H)
              refine (xmust1 16 H (by (repeat (first | with_reducible exact Pick.head | with_reducible apply Pick.tail)))).mono ?_
              rintro e_ w4_ hm
              have hx := hm.2
              have HM := Lib.hid hm
              clear hm
              replace H := H.call hx
              clear hx
              obtain rfl := HM.out.yes rfl
              go_wp2_with fail
              go_roundw
              case rel => exact ⟨k + 1, by omega, by first | go_num | rfl | simp, Lib.hid (fun h => by cases h), (H.arr (by (repeat (first | with_reducible exact Arr.nil | refine Arr.cons (by (repeat (first | with_reducible exact Pick.head | with_reducible apply Pick.tail))) ?_)) <;> exact Arr.of_subl (by (repeat (first | with_reducible exact Subl.refl _ | with_reducible apply Subl.drop)))))⟩
              case measure => simp [intOf]; omega
            · go_wp2_with fail
              go_roundw
              case rel => exact ⟨j + 1, by have := HLT.out; omega, by first | go_num | rfl | simp, Lib.hid (by rw [← HS.out, HLD.out, HRC.out]; rfl), (H.arr (by (repeat (first | with_reducible exact Arr.nil | refine Arr.cons (by (repeat (first | with_reducible exact Pick.head | with_reducible apply Pick.tail))) ?_)) <;> exact Arr.of_subl (by (repeat (first | with_reducible exact Subl.refl _ | with_reducible apply Subl.drop)))))⟩
              case measure => simp [intOf]; have := HLT.out; omega
        · rw [hrc] at H
          have HRC := Lib.hid hrc
          clear hrc
          go_wp2_with fail
          go_loopw [125] (fun i wr => ∃ k : Nat, k ≤ bs.length ∧ i = .int .i64 k ∧ Hid (true = true → okFrom k (bs.drop k) = okFrom 0 bs) ∧ Hp no W wr [.row 145 9 (bs.map Ar.d) (.slice A3 bs.length c3), .box G 145 [.bool true, .int .i64 a.ty.k, .int .i64 a.ty.n, .int .i64 a.ty.a, .slice B1 a.ty.ls.length d1, .slice B2 a.ty.ks.length d2, .slice B3 a.tele.length d3, .int .i64 a.member, .slice B4 a.index.length d4]]) (fun i _ => bs.length - (intOf i).toNat)
          case atStart => exact ⟨0, Nat.zero_le _, rfl, Lib.hid (fun _ => by simp), (H.arr (by (repeat (first | with_reducible exact Arr.nil | refine Arr.cons (by (repeat (first | with_reducible exact Pick.head | with_reducible apply Pick.tail))) ?_)) <;> exact Arr.of_subl (by (repeat (first | with_reducible exact Subl.refl _ | with_reducible apply Subl.drop)))))⟩
          case round =>
            clear H
            obtain ⟨k, hk, rfl, HK, H⟩ := hrel
            by_cases hlk : k < bs.length
            · obtain ⟨gq, cq, cs, he, hcap, hcm, hgq, hgl, hx0, hcs, hcell⟩ := H.rowAt (i := k) (d := bs[k].d) (by (repeat (first | with_reducible exact Pick.head | with_reducible apply Pick.tail))) (by simp [hlk])
              simp only [Value.slice.injEq, List.length_map] at he
              obtain ⟨rfl, _, rfl⟩ := he
              obtain ⟨C1, f1, C2, f2, C3, f3, C4, f4, rfl, -⟩ := RC.ar.1 hx0
              have q0 := hcell 0 _ rfl
              have q1 := hcell 1 _ rfl
              have q2 := hcell 2 _ rfl
              have q3 := hcell 3 _ rfl
              have q4 := hcell 4 _ rfl
              have q5 := hcell 5 _ rfl
              have q6 := hcell 6 _ rfl
              have q7 := hcell 7 _ rfl
              have q8 := hcell 8 _ rfl
              simp only [Nat.add_zero] at q0
              have HX := Lib.hid hx0
              have HOK := Lib.hid (okFrom_drop0 hlk)
              have HTK := Lib.hid (HTL.out _ (List.getElem_mem hlk))
              clear hx0 hcs hcell hcap hcm
              generalize bs[k] = bk at q0 q1 q2 q3 q4 q5 q6 q7 q8 HX HOK HTK
              have hr_ := H.rules; simp only [Rules, and_true] at hr_; have hd_ := H.dif; simp only [Dif, Neq, and_true] at hd_; obtain ⟨ho_, hz_⟩ := H.old0
              go_wp2_with ((with_reducible refine atStore (t := 145) ?_); go_must (refine wpList_storeH (t := 145) rfl rfl (by go_simp <;> first | rfl | exact ⟨rfl, rfl⟩) (by go_simp <;> first | rfl | exact ⟨rfl, rfl⟩) (by exact Hp.norm (by (repeat (first | with_reducible exact H | with_reducible exact H0_ | with_reducible apply Hp.alloc | with_reducible apply Hp.allocMap | with_reducible apply Hp.drew | with_reducible apply Hp.drewN | with_reducible apply Hp.set)); (try any_goals (repeat (first | with_reducible exact Upd.head | with_reducible apply Upd.tail)))) (by ((try simp only [size_drew_, size_drewN_, World.size_alloc, World.size_setCell, List.set_cons_zero, List.set_cons_succ, List.nil_append, List.cons_append]) <;> rfl))) (by (repeat (first | with_reducible exact Upd.head | with_reducible apply Upd.tail))) (by exact aggArg) (by rfl) (by simp [Value.oneCell']) ?_; clear H; intro w9 H; (try simp only [size_drew_, size_drewN_, World.size_alloc, World.size_setCell, List.set_cons_zero, List.set_cons_succ] at H); (try clear hr_ hd_ ho_ hz_); have hr_ := H.rules; simp only [Rules, and_true] at hr_; have hd_ := H.dif; simp only [Dif, Neq, and_true] at hd_; obtain ⟨ho_, hz_⟩ := H.old0))
              (try clear hr_ hd_ ho_ hz_)
              refine callsH (by (repeat (first | with_reducible exact H | with_reducible exact H0_ | with_reducible apply Hp.alloc | with_reducible apply Hp.allocMap | with_reducible apply Hp.drew | with_reducible apply Hp.drewN | with_reducible apply Hp.set)); (try any_goals (repeat (first | with_reducible exact Upd.head | with_reducible apply Upd.tail)))) ?_
              clear H; intro w10 H; (try simp only [size_drew_, size_drewN_, World.size_alloc, World.size_setCell, List.set_cons_zero, List.set_cons_succ] at H)
              obtain ⟨q, hq⟩ : ∃ q, q = mentT bk k := ⟨_, rfl⟩
              have hcall := mentions_calls (a := bk) (f := k) (HT.out.ext H.ext) (HX.out.ext0 H.ext) (by omega) HTK.out
              rw [← hq] at hcall
              have HQ := Lib.hid hq
              clear hq
              refine (hcall).mono ?_
              rintro e w_ ⟨rfl, hx⟩
              replace H := H.call hx
              clear hx
              clear hcall
              go_wp2_with fail
              refine callsH (by (repeat (first | with_reducible exact H | with_reducible exact H0_ | with_reducible apply Hp.alloc | with_reducible apply Hp.allocMap | with_reducible apply Hp.drew | with_reducible apply Hp.drewN | with_reducible apply Hp.set)); (try any_goals (repeat (first | with_reducible exact Upd.head | with_reducible apply Upd.tail)))) ?_
              clear H; intro w11 H; (try simp only [size_drew_, size_drewN_, World.size_alloc, World.size_setCell, List.set_cons_zero, List.set_cons_succ] at H)
              refine (xmust1 16 H (by (repeat (first | with_reducible exact Pick.head | with_reducible apply Pick.tail)))).mono ?_
              rintro e_ w4_ hm
              have hx := hm.2
              have HM := Lib.hid hm
              clear hm
              replace H := H.call hx
              clear hx
              have hk1 := HK.out (by first | exact trivial | exact rfl)
              rw [HOK.out, ← HQ.out] at hk1
              cases q
              · obtain rfl := HM.out.yes rfl
                have HK1 := Lib.hid hk1
                clear hk1
                go_wp2_with fail
                go_roundw
                case rel => exact ⟨k + 1, by omega, by first | go_num | rfl | simp, Lib.hid (fun _ => by have := HK1.out; simpa using this), (H.arr (by (repeat (first | with_reducible exact Arr.nil | refine Arr.cons (by (repeat (first | with_reducible exact Pick.head | with_reducible apply Pick.tail))) ?_)) <;> exact Arr.of_subl (by (repeat (first | with_reducible exact Subl.refl _ | with_reducible apply Subl.drop)))))⟩
                case measure => simp [intOf]; omega
              · obtain rfl := HM.out.no rfl
                have hz : R = false := by rw [HR.out, ← HS.out, HLD.out, HRC.out, ← HBS.out, ← hk1]; rfl
                exact ⟨rfl, by rw [hz]; rfl, H.ext⟩
            · go_wp2_with fail
              go_roundw
              case rel => exact ⟨j + 1, by have := HLT.out; omega, by first | go_num | rfl | simp, Lib.hid (by have e0 : bs.drop k = [] := List.drop_eq_nil_of_le (by omega); rw [← HS.out, HLD.out, HRC.out, ← HBS.out, ← HK.out (by first | exact trivial | exact rfl), e0]; rfl), (H.arr (by (repeat (first | with_reducible exact Arr.nil | refine Arr.cons (by (repeat (first | with_reducible exact Pick.head | with_reducible apply Pick.tail))) ?_)) <;> exact Arr.of_subl (by (repeat (first | with_reducible exact Subl.refl _ | with_reducible apply Subl.drop)))))⟩
              case measure => simp [intOf]; have := HLT.out; omega
    · go_wp2_with fail
      go_end0
      have : R = true := by rw [HR.out, ← HS.out, List.drop_eq_nil_of_le (by omega), linQ]
      exact ⟨by rw [this]; rfl, H.ext⟩
end Go.Proofs.YtmedomglemllnaaGreatDoor
