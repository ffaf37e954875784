/- law 12: SplitOne: the walk. No statement of the seat is proved here. -/
import Derived.Test.YteelplgdojjakaaDoorMgSame12
import Derived.Test.YteelplgdojjakaaDoorMgCountD
namespace Go.Proofs.YteelplgdojjakaaDoor
set_option linter.unusedSimpArgs false
set_option linter.unusedVariables false
open Go.RowKit

theorem ctorsQ_get {ms : List Mb} : ∀ {cs : List Ct} {us : List Ru}, ctorsQ ms cs = .ok us → us.length = cs.length ∧ ∀ (j : Nat) (h : j < cs.length) (h' : j < us.length), readQ ms cs[j] = .ok us[j]
  | [], us, h => by cases h; simp
  | c :: cs, us, h => by
    rw [ctorsQ] at h
    cases hc : readQ ms c with
    | error k => rw [hc] at h; cases h
    | ok u =>
      rw [hc] at h
      cases hr : ctorsQ ms cs with
      | error k => rw [hr] at h; cases h
      | ok r =>
        rw [hr] at h
        cases h
        obtain ⟨h1, h2⟩ := ctorsQ_get hr
        refine ⟨by simp [h1], fun j h3 h4 => ?_⟩
        cases j with
        | zero => simpa using hc
        | succ j => simpa using h2 j (by simpa using h3) (by simpa using h4)
def oneDc (d : Dc) (c : Ct) : Dc := { d with ctors := [c] }
theorem rules_one {d : Dc} {c : Ct} (h : d.kind = 3) : rulesQ (oneDc d c) = match readQ d.members c with | .error k => .error k | .ok u => .ok [u] := by
  unfold rulesQ oneDc
  rw [if_pos h]
  simp only [ctorsQ]
  cases readQ d.members c <;> rfl
theorem RC.oneRow {w : World} {S : Nat → Prop} {e z n c i b o : Nat} {ds : List D} {d : D} (h : RC w S (.l e z ds) [.slice (some ⟨b, o, none⟩) n c]) (hd : ds[i]? = some d) : RC w S (.l e z [d]) [.slice (some ⟨b, o + i * z, none⟩) 1 (c - i)] := by
  obtain ⟨b', o', cs, he, hb, hS, hr, hl, hc⟩ := h.el hd
  simp only [Option.some.injEq, Addr.mk.injEq, and_true] at he
  obtain ⟨rfl, rfl⟩ := he
  have hlt := (List.getElem?_eq_some_iff.1 hd).1
  unfold RC at h ⊢
  obtain ⟨A', c', h1, h2, h3, h4, h5, h6⟩ := h
  simp only [List.cons.injEq, Value.slice.injEq, and_true] at h1
  obtain ⟨rfl, rfl, rfl⟩ := h1
  refine ⟨some ⟨b, o + i * z, none⟩, c - i, rfl, by simp; omega, by omega, by simp [M], fun x hx => h5 x ?_, .inr ⟨b, o + i * z, cs, rfl, hb, hS, RCs.single hr, hc⟩⟩
  obtain rfl := List.mem_singleton.1 hx
  exact List.mem_of_getElem? hd
set_option maxRecDepth 100000 in
set_option maxHeartbeats 8000000 in
theorem so6e {w W : World} {S : Nat → Prop} {d : Dc} {Aty Kty Abody Kbody Aparams Asort Amembers Actors : Option Addr} {cty kty cbody kbody cparams csort cmembers cctors : Nat} {k : Int} {x0 x2 x5 x6 x7 x8 x9 x10 x11 x12 x13 x14 x15 x16 x17 x18 x19 x20 x21 x22 x23 x24 x25 x26 x27 x28 x29 x30 x31 x32 x33 x34 x35 x36 x37 x38 x39 x40 x41 x42 x43 x44 x45 x46 x47 x48 x49 x50 x51 x52 x53 x54 x55 x56 x57 x58 x59 x60 x61 x62 x63 x64 x65 x66 x67 x68 x69 x70 x71 x72 x73 : Value} (hT : Tab w) (hparts : inI d.kind ∧ inI d.levels ∧ RC w S d.ty.d [.int .i64 d.ty.k, .int .i64 d.ty.n, .int .i64 d.ty.a, .slice Aty d.ty.ls.length cty, .slice Kty d.ty.ks.length kty] ∧ RC w S d.body.d [.int .i64 d.body.k, .int .i64 d.body.n, .int .i64 d.body.a, .slice Abody d.body.ls.length cbody, .slice Kbody d.body.ks.length kbody] ∧ RC w S (.l 30 5 (d.params.map Tm.d)) [.slice Aparams d.params.length cparams] ∧ RC w S (.l 68 2 (d.sort.map ptD)) [.slice Asort d.sort.length csort] ∧ RC w S (.l 64 1 (d.members.map Mb.d)) [.slice Amembers d.members.length cmembers] ∧ RC w S (.l 70 6 (d.ctors.map Ct.d)) [.slice Actors d.ctors.length cctors]) (hb : CtsOK d.ctors) (h3 : d.kind = 3)
    (hR : .error k = ctorsQ d.members d.ctors) (hk0 : k ≠ 0) (H : Hp no w W [.box w.heap.size 42 [.int .i64 d.kind, .int .i64 d.levels, .int .i64 d.ty.k, .int .i64 d.ty.n, .int .i64 d.ty.a, .slice Aty d.ty.ls.length cty, .slice Kty d.ty.ks.length kty, .int .i64 d.body.k, .int .i64 d.body.n, .int .i64 d.body.a, .slice Abody d.body.ls.length cbody, .slice Kbody d.body.ks.length kbody, .slice Aparams d.params.length cparams, .slice Asort d.sort.length csort, .slice Amembers d.members.length cmembers, .slice Actors d.ctors.length cctors]]) :
    (fromF 6 (Tryd.f8.body.getD .skip)).wp Tryd.prog (bodyPost Tryd.prog Tryd.f8 (PV w (.bool true))) { tmps := #[x0, .pointer (some ⟨w.heap.size, 0, none⟩), x2, .slice none 0 0, .int .i64 k, x5, x6, x7, x8, x9, x10, x11, x12, x13, x14, x15, x16, x17, x18, x19, x20, x21, x22, x23, x24, x25, x26, x27, x28, x29, x30, x31, x32, x33, x34, x35, x36, x37, x38, x39, x40, x41, x42, x43, x44, x45, x46, x47, x48, x49, x50, x51, x52, x53, x54, x55, x56, x57, x58, x59, x60, x61, x62, x63, x64, x65, x66, x67, x68, x69, x70, x71, x72, x73], defers := [] } W := by
  have HPARTS := Lib.hid hparts
  have hct := hparts.2.2.2.2.2.2.2
  have hM := hct.lenM
  have HT := Lib.hid hT
  have HB := Lib.hid hb
  have H3 := Lib.hid h3
  have h32 : (d.kind == 3) = true := by simpa using h3
  clear hT hb hparts h3
  conv => arg 2; whnf
  have HR := Lib.hid hR
  have hk1 : (k == 0) = false := by simpa using hk0
  clear hR
  go_wp2_with fail
  go_loopw [5] (fun i wr => ∃ j : Nat, j ≤ d.ctors.length ∧ i = .int .i64 j ∧ Hid (ctorsQ d.members (d.ctors.drop j) = .error k) ∧ Hp no w wr [.box w.heap.size 42 [.int .i64 d.kind, .int .i64 d.levels, .int .i64 d.ty.k, .int .i64 d.ty.n, .int .i64 d.ty.a, .slice Aty d.ty.ls.length cty, .slice Kty d.ty.ks.length kty, .int .i64 d.body.k, .int .i64 d.body.n, .int .i64 d.body.a, .slice Abody d.body.ls.length cbody, .slice Kbody d.body.ks.length kbody, .slice Aparams d.params.length cparams, .slice Asort d.sort.length csort, .slice Amembers d.members.length cmembers, .slice Actors d.ctors.length cctors]]) (fun i _ => d.ctors.length - (intOf i).toNat)
  case atStart => exact ⟨0, Nat.zero_le _, rfl, Lib.hid (by rw [List.drop_zero]; exact HR.out.symm), (H.arr (by (repeat (first | with_reducible exact Arr.nil | refine Arr.cons (by (repeat (first | with_reducible exact Pick.head | with_reducible apply Pick.tail))) ?_)) <;> exact Arr.of_subl (by (repeat (first | with_reducible exact Subl.refl _ | with_reducible apply Subl.drop)))))⟩
  case round =>
    clear H
    obtain ⟨j, hj, rfl, HS, H⟩ := hrel
    by_cases hlt : j < d.ctors.length
    · have HAD := Lib.hid (ctorsQ_drop (ms := d.members) hlt)
      obtain ⟨b_, o, A1, ca1, K1, ck1, rfl, hb1, hS, hcd, p0, p1, p2, p3, p4, p5⟩ := hct.atCt hlt
      have HONE := Lib.hid (hct.oneRow (i := j) (d := d.ctors[j].d) (by simp [hlt]))
      have HSZ := Lib.hid (HB.out _ (List.getElem_mem hlt))
      have hne : ¬ cctors = j := by omega
      clear hcd p0 p1 p2 p3 p4 p5
      have hr_ := H.rules; simp only [Rules, and_true] at hr_; have hd_ := H.dif; simp only [Dif, Neq, and_true] at hd_; obtain ⟨ho_, hz_⟩ := H.old0
      go_wp2_with ((with_reducible refine atStore (t := 42) ?_); go_must (refine wpList_storeH (t := 42) rfl rfl (by go_simp <;> first | rfl | exact ⟨rfl, rfl⟩) (by go_simp <;> first | rfl | exact ⟨rfl, rfl⟩) (by exact Hp.norm (by (repeat (first | with_reducible exact H | with_reducible exact H0_ | with_reducible apply Hp.alloc | with_reducible apply Hp.allocMap | with_reducible apply Hp.drew | with_reducible apply Hp.drewN | with_reducible apply Hp.set)); (try any_goals (repeat (first | with_reducible exact Upd.head | with_reducible apply Upd.tail)))) (by ((try simp only [size_drew_, size_drewN_, World.size_alloc, World.size_setCell, List.set_cons_zero, List.set_cons_succ, List.nil_append, List.cons_append]) <;> rfl))) (by (repeat (first | with_reducible exact Upd.head | with_reducible apply Upd.tail))) (by exact aggDecl) (by rfl) (by simp [Value.oneCell']) ?_; clear H; intro w9 H; (try simp only [size_drew_, size_drewN_, World.size_alloc, World.size_setCell, List.set_cons_zero, List.set_cons_succ] at H); (try clear hr_ hd_ ho_ hz_); have hr_ := H.rules; simp only [Rules, and_true] at hr_; have hd_ := H.dif; simp only [Dif, Neq, and_true] at hd_; obtain ⟨ho_, hz_⟩ := H.old0))
      (try clear hr_ hd_ ho_ hz_)
      refine callsH (by (repeat (first | with_reducible exact H | with_reducible exact H0_ | with_reducible apply Hp.alloc | with_reducible apply Hp.allocMap | with_reducible apply Hp.drew | with_reducible apply Hp.drewN | with_reducible apply Hp.set)); (try any_goals (repeat (first | with_reducible exact Upd.head | with_reducible apply Upd.tail)))) ?_
      clear H; intro w10 H; (try simp only [size_drew_, size_drewN_, World.size_alloc, World.size_setCell, List.set_cons_zero, List.set_cons_succ] at H)
      obtain ⟨rr, hrr⟩ : ∃ rr, rr = readQ d.members d.ctors[j] := ⟨_, rfl⟩
      have hcall := rules_calls (d := oneDc d d.ctors[j]) (HT.out.ext H.ext) (RC.ext0 (RC.dc.2 ⟨Aty, cty, Kty, kty, Abody, cbody, Kbody, kbody, Aparams, cparams, Asort, csort, Amembers, cmembers, some ⟨b_, o + j * 6, none⟩, cctors - j, rfl, HPARTS.out.1, HPARTS.out.2.1, HPARTS.out.2.2.1, HPARTS.out.2.2.2.1, HPARTS.out.2.2.2.2.1, HPARTS.out.2.2.2.2.2.1, HPARTS.out.2.2.2.2.2.2.1, HONE.out⟩) H.ext) (fun c hc => by obtain rfl := List.mem_singleton.1 hc; exact HSZ.out)
      rw [rules_one H3.out, ← hrr] at hcall
      have HRR := Lib.hid hrr
      clear hrr
      refine hcall.mono ?_
      clear hcall
      cases rr with
      | error k2 =>
        rintro e w5 ⟨rfl, hx, -⟩
        have hkk : k2 = k := by
          have := HAD.out
          rw [HS.out, ← HRR.out] at this
          exact (Except.error.inj this).symm
        subst hkk
        replace H := H.call hx
        clear hx
        go_wp2_with fail
        go_ret
        exact ⟨rfl, H.ext⟩
      | ok u =>
        rintro e w5 ⟨A7, c7, rfl, H2⟩
        replace H := H.res1 H2
        clear H2
        go_wp2_with fail
        refine regionH (by (repeat (first | with_reducible exact H | with_reducible exact H0_ | with_reducible apply Hp.alloc | with_reducible apply Hp.allocMap | with_reducible apply Hp.drew | with_reducible apply Hp.drewN | with_reducible apply Hp.set)); (try any_goals (repeat (first | with_reducible exact Upd.head | with_reducible apply Upd.tail)))) ?_
        clear H; intro w6 H; (try simp only [size_drew_, size_drewN_, World.size_alloc, World.size_setCell, List.set_cons_zero, List.set_cons_succ] at H)
        refine wp_region_H 18 [false, false, false, false, false, false, false, false, false, false, false, false, false, false, false, false, false, false] [] H .nil (by kernel_rfl) rfl rfl (fun H_ hR_ => ?_)
        (try clear H0_); have H0_ := H; clear H; have H := H_; clear H_
        refine wpL_reads (is := [(0, ?v1_0), (1, ?v1_1), (2, ?v1_2), (3, ?v1_3), (4, ?v1_4), (5, ?v1_5), (6, ?v1_6), (7, ?v1_7), (8, ?v1_8), (9, ?v1_9), (10, ?v1_10), (11, ?v1_11), (12, ?v1_12), (13, ?v1_13), (14, ?v1_14), (15, ?v1_15), (16, ?v1_16), (17, ?v1_17)]) (by kernel_rfl) (Nat.le_of_ble_eq_true rfl) (by intro _ _ d_ _ _ h_; cases d_ <;> exact h_) (by kernel_rfl) hR_ (fun w_ hw_ => ?h1_) ?_
        case h1_ =>
          have ho_ := hw_.old0.1; have hz_ := hw_.old0.2; have hr_ := hw_.rules; clear hw_; simp only [Rules, and_true] at hr_; go_split_ands
          (repeat (first | with_reducible exact RdOps.nil | (refine RdOps.run rfl (by rfl) ?_ ?_; (focus (first | (go_simp; done) | (go_simp; with_reducible rfl))); simp only [List.getElem_toArray, List.getElem_cons_zero, List.getElem_cons_succ, Act.put, List.setIfInBounds_toArray, List.set_cons_zero, List.set_cons_succ]) | (refine RdOps.skip rfl (by rfl) ?_ ?_; (focus (with_reducible rfl)); simp only [List.getElem_toArray, List.getElem_cons_zero, List.getElem_cons_succ, Act.put, List.setIfInBounds_toArray, List.set_cons_zero, List.set_cons_succ])))
        simp only [rdMark, rdAct, List.map_cons, List.map_nil, List.length_cons, List.length_nil, Nat.reduceAdd, Nat.reduceSub, Nat.zero_add, List.getElem?_toArray, List.getElem?_cons_zero, List.getElem?_cons_succ, Option.bind_some, Act.put, List.setIfInBounds_toArray, List.set_cons_zero, List.set_cons_succ]
        refine wpL_done (by kernel_rfl) ?_ _
        have HS2 : Hid (ctorsQ d.members (d.ctors.drop (j + 1)) = .error k) := by
          unfold Hid
          have := HAD.out
          rw [HS.out, ← HRR.out] at this
          cases hq : ctorsQ d.members (d.ctors.drop (j + 1)) with
          | error k3 => rw [hq] at this; exact this.symm
          | ok r => rw [hq] at this; cases this
        go_wp2_with fail
        go_roundw
        case rel => exact ⟨j + 1, by omega, by first | go_num | rfl | simp, HS2, (H.arr (by (repeat (first | with_reducible exact Arr.nil | refine Arr.cons (by (repeat (first | with_reducible exact Pick.head | with_reducible apply Pick.tail))) ?_)) <;> exact Arr.of_subl (by (repeat (first | with_reducible exact Subl.refl _ | with_reducible apply Subl.drop)))))⟩
        case measure => simp [intOf]; omega
    · have := HS.out
      rw [List.drop_eq_nil_of_le (by omega), ctorsQ] at this
      cases this
set_option maxRecDepth 100000 in
set_option maxHeartbeats 8000000 in
theorem so6o {w W : World} {S : Nat → Prop} {d : Dc} {Aty Kty Abody Kbody Aparams Asort Amembers Actors : Option Addr} {cty kty cbody kbody cparams csort cmembers cctors : Nat} {us : List Ru} {A : Option Addr} {c : Nat} {x0 x2 x5 x6 x7 x8 x9 x10 x11 x12 x13 x14 x15 x16 x17 x18 x19 x20 x21 x22 x23 x24 x25 x26 x27 x28 x29 x30 x31 x32 x33 x34 x35 x36 x37 x38 x39 x40 x41 x42 x43 x44 x45 x46 x47 x48 x49 x50 x51 x52 x53 x54 x55 x56 x57 x58 x59 x60 x61 x62 x63 x64 x65 x66 x67 x68 x69 x70 x71 x72 x73 : Value} (hT : Tab w) (hparts : inI d.kind ∧ inI d.levels ∧ RC w S d.ty.d [.int .i64 d.ty.k, .int .i64 d.ty.n, .int .i64 d.ty.a, .slice Aty d.ty.ls.length cty, .slice Kty d.ty.ks.length kty] ∧ RC w S d.body.d [.int .i64 d.body.k, .int .i64 d.body.n, .int .i64 d.body.a, .slice Abody d.body.ls.length cbody, .slice Kbody d.body.ks.length kbody] ∧ RC w S (.l 30 5 (d.params.map Tm.d)) [.slice Aparams d.params.length cparams] ∧ RC w S (.l 68 2 (d.sort.map ptD)) [.slice Asort d.sort.length csort] ∧ RC w S (.l 64 1 (d.members.map Mb.d)) [.slice Amembers d.members.length cmembers] ∧ RC w S (.l 70 6 (d.ctors.map Ct.d)) [.slice Actors d.ctors.length cctors]) (hb : CtsOK d.ctors) (h3 : d.kind = 3)
    (hR : .ok us = ctorsQ d.members d.ctors) (H : Hp no w W [.dat (.l 83 3 (us.map Ru.d)) [.slice A us.length c], .box w.heap.size 42 [.int .i64 d.kind, .int .i64 d.levels, .int .i64 d.ty.k, .int .i64 d.ty.n, .int .i64 d.ty.a, .slice Aty d.ty.ls.length cty, .slice Kty d.ty.ks.length kty, .int .i64 d.body.k, .int .i64 d.body.n, .int .i64 d.body.a, .slice Abody d.body.ls.length cbody, .slice Kbody d.body.ks.length kbody, .slice Aparams d.params.length cparams, .slice Asort d.sort.length csort, .slice Amembers d.members.length cmembers, .slice Actors d.ctors.length cctors]]) :
    (fromF 6 (Tryd.f8.body.getD .skip)).wp Tryd.prog (bodyPost Tryd.prog Tryd.f8 (PV w (.bool true))) { tmps := #[x0, .pointer (some ⟨w.heap.size, 0, none⟩), x2, .slice A us.length c, .int .i64 0, x5, x6, x7, x8, x9, x10, x11, x12, x13, x14, x15, x16, x17, x18, x19, x20, x21, x22, x23, x24, x25, x26, x27, x28, x29, x30, x31, x32, x33, x34, x35, x36, x37, x38, x39, x40, x41, x42, x43, x44, x45, x46, x47, x48, x49, x50, x51, x52, x53, x54, x55, x56, x57, x58, x59, x60, x61, x62, x63, x64, x65, x66, x67, x68, x69, x70, x71, x72, x73], defers := [] } W := by
  have HPARTS := Lib.hid hparts
  have hct := hparts.2.2.2.2.2.2.2
  have hM := hct.lenM
  have HT := Lib.hid hT
  have HB := Lib.hid hb
  have H3 := Lib.hid h3
  have h32 : (d.kind == 3) = true := by simpa using h3
  clear hT hb hparts h3
  conv => arg 2; whnf
  have hus := ctorsQ_get hR.symm
  have hul := hus.1
  have HUS := Lib.hid hus.2
  clear hus hR
  go_wp2_with fail
  go_loopw [5] (fun i wr => ∃ j : Nat, j ≤ d.ctors.length ∧ i = .int .i64 j ∧ Hp no w wr [.dat (.l 83 3 (us.map Ru.d)) [.slice A us.length c], .box w.heap.size 42 [.int .i64 d.kind, .int .i64 d.levels, .int .i64 d.ty.k, .int .i64 d.ty.n, .int .i64 d.ty.a, .slice Aty d.ty.ls.length cty, .slice Kty d.ty.ks.length kty, .int .i64 d.body.k, .int .i64 d.body.n, .int .i64 d.body.a, .slice Abody d.body.ls.length cbody, .slice Kbody d.body.ks.length kbody, .slice Aparams d.params.length cparams, .slice Asort d.sort.length csort, .slice Amembers d.members.length cmembers, .slice Actors d.ctors.length cctors]]) (fun i _ => d.ctors.length - (intOf i).toNat)
  case atStart => exact ⟨0, Nat.zero_le _, rfl, (H.arr (by (repeat (first | with_reducible exact Arr.nil | refine Arr.cons (by (repeat (first | with_reducible exact Pick.head | with_reducible apply Pick.tail))) ?_)) <;> exact Arr.of_subl (by (repeat (first | with_reducible exact Subl.refl _ | with_reducible apply Subl.drop)))))⟩
  case round =>
    clear H
    obtain ⟨j, hj, rfl, H⟩ := hrel
    by_cases hlt : j < d.ctors.length
    · have hlu : j < us.length := by omega
      have HJ := Lib.hid (HUS.out j hlt hlu)
      obtain ⟨b_, o, A1, ca1, K1, ck1, rfl, hb1, hS, hcd, p0, p1, p2, p3, p4, p5⟩ := hct.atCt hlt
      have HONE := Lib.hid (hct.oneRow (i := j) (d := d.ctors[j].d) (by simp [hlt]))
      have HSZ := Lib.hid (HB.out _ (List.getElem_mem hlt))
      have hne : ¬ cctors = j := by omega
      clear hcd p0 p1 p2 p3 p4 p5
      have hr_ := H.rules; simp only [Rules, and_true] at hr_; have hd_ := H.dif; simp only [Dif, Neq, and_true] at hd_; obtain ⟨ho_, hz_⟩ := H.old0
      go_wp2_with ((with_reducible refine atStore (t := 42) ?_); go_must (refine wpList_storeH (t := 42) rfl rfl (by go_simp <;> first | rfl | exact ⟨rfl, rfl⟩) (by go_simp <;> first | rfl | exact ⟨rfl, rfl⟩) (by exact Hp.norm (by (repeat (first | with_reducible exact H | with_reducible exact H0_ | with_reducible apply Hp.alloc | with_reducible apply Hp.allocMap | with_reducible apply Hp.drew | with_reducible apply Hp.drewN | with_reducible apply Hp.set)); (try any_goals (repeat (first | with_reducible exact Upd.head | with_reducible apply Upd.tail)))) (by ((try simp only [size_drew_, size_drewN_, World.size_alloc, World.size_setCell, List.set_cons_zero, List.set_cons_succ, List.nil_append, List.cons_append]) <;> rfl))) (by (repeat (first | with_reducible exact Upd.head | with_reducible apply Upd.tail))) (by exact aggDecl) (by rfl) (by simp [Value.oneCell']) ?_; clear H; intro w9 H; (try simp only [size_drew_, size_drewN_, World.size_alloc, World.size_setCell, List.set_cons_zero, List.set_cons_succ] at H); (try clear hr_ hd_ ho_ hz_); have hr_ := H.rules; simp only [Rules, and_true] at hr_; have hd_ := H.dif; simp only [Dif, Neq, and_true] at hd_; obtain ⟨ho_, hz_⟩ := H.old0))
      (try clear hr_ hd_ ho_ hz_)
      refine callsH (by (repeat (first | with_reducible exact H | with_reducible exact H0_ | with_reducible apply Hp.alloc | with_reducible apply Hp.allocMap | with_reducible apply Hp.drew | with_reducible apply Hp.drewN | with_reducible apply Hp.set)); (try any_goals (repeat (first | with_reducible exact Upd.head | with_reducible apply Upd.tail)))) ?_
      clear H; intro w10 H; (try simp only [size_drew_, size_drewN_, World.size_alloc, World.size_setCell, List.set_cons_zero, List.set_cons_succ] at H)
      obtain ⟨rr, hrr⟩ : ∃ rr, rr = readQ d.members d.ctors[j] := ⟨_, rfl⟩
      have hcall := rules_calls (d := oneDc d d.ctors[j]) (HT.out.ext H.ext) (RC.ext0 (RC.dc.2 ⟨Aty, cty, Kty, kty, Abody, cbody, Kbody, kbody, Aparams, cparams, Asort, csort, Amembers, cmembers, some ⟨b_, o + j * 6, none⟩, cctors - j, rfl, HPARTS.out.1, HPARTS.out.2.1, HPARTS.out.2.2.1, HPARTS.out.2.2.2.1, HPARTS.out.2.2.2.2.1, HPARTS.out.2.2.2.2.2.1, HPARTS.out.2.2.2.2.2.2.1, HONE.out⟩) H.ext) (fun c hc => by obtain rfl := List.mem_singleton.1 hc; exact HSZ.out)
      rw [rules_one H3.out, ← hrr] at hcall
      have HRR := Lib.hid hrr
      clear hrr
      refine hcall.mono ?_
      clear hcall
      rw [HJ.out] at HRR
      obtain rfl := HRR.out
      dsimp only
      rintro e w5 ⟨A7, c7, rfl, H2⟩
      rw [show [us[j]].length = 1 from rfl] at H2 ⊢
      replace H := H.res1 H2
      clear H2
      go_wp2_with fail
      refine regionH (by (repeat (first | with_reducible exact H | with_reducible exact H0_ | with_reducible apply Hp.alloc | with_reducible apply Hp.allocMap | with_reducible apply Hp.drew | with_reducible apply Hp.drewN | with_reducible apply Hp.set)); (try any_goals (repeat (first | with_reducible exact Upd.head | with_reducible apply Upd.tail)))) ?_
      clear H; intro w6 H; (try simp only [size_drew_, size_drewN_, World.size_alloc, World.size_setCell, List.set_cons_zero, List.set_cons_succ] at H)
      have ha := H.rd (d := .l 83 3 ([us[j]].map Ru.d)) (cs := [.slice A7 1 c7]) (by (repeat (first | with_reducible exact Pick.head | with_reducible apply Pick.tail)))
      have hb := H.rd (d := .l 83 3 (us.map Ru.d)) (cs := [.slice A us.length c]) (by (repeat (first | with_reducible exact Pick.head | with_reducible apply Pick.tail)))
      obtain ⟨b1, o1, C1, d1, C2, d2, rfl, hb1, hS1, hr1, q0, q1, q2⟩ := ha.atRu (k := 0) (by simp)
      obtain ⟨b2, o2, E1, f1, E2, f2, rfl, hb2, hS2, hr2, r0, r1, r2⟩ := hb.atRu (k := j) hlu
      simp only [List.getElem_cons_zero, Nat.zero_mul, Nat.add_zero] at q0 q1 q2 hr1
      have HR1 := Lib.hid hr1
      have HR2 := Lib.hid hr2
      clear ha hb hr1 hr2
      have H9 := Hp.start no w6
      refine wp_region_H 18 [false, false, false, false, false, false, false, false, false, false, false, false, false, false, false, false, false, false] [] H9 .nil (by kernel_rfl) rfl rfl (fun H9_ hR_ => ?_)
      (try clear H0_); have H0_ := H9; clear H9; have H9 := H9_; clear H9_
      refine wpL_reads (is := [(0, ?v2_0), (1, ?v2_1), (2, ?v2_2), (3, ?v2_3), (4, ?v2_4), (5, ?v2_5), (6, ?v2_6), (7, ?v2_7), (8, ?v2_8), (9, ?v2_9), (10, ?v2_10), (11, ?v2_11), (12, ?v2_12), (13, ?v2_13)]) (by kernel_rfl) (Nat.le_of_ble_eq_true rfl) (by intro _ _ d_ _ _ h_; cases d_ <;> exact h_) (by kernel_rfl) hR_ (fun w_ hw_ => ?h2_) ?_
      case h2_ =>
        have ho_ := hw_.old0.1; have hz_ := hw_.old0.2; have hr_ := hw_.rules; clear hw_; simp only [Rules, and_true] at hr_; go_split_ands
        (repeat (first | with_reducible exact RdOps.nil | (refine RdOps.run rfl (by rfl) ?_ ?_; (focus (first | (go_simp; done) | (go_simp; with_reducible rfl))); simp only [List.getElem_toArray, List.getElem_cons_zero, List.getElem_cons_succ, Act.put, List.setIfInBounds_toArray, List.set_cons_zero, List.set_cons_succ]) | (refine RdOps.skip rfl (by rfl) ?_ ?_; (focus (with_reducible rfl)); simp only [List.getElem_toArray, List.getElem_cons_zero, List.getElem_cons_succ, Act.put, List.setIfInBounds_toArray, List.set_cons_zero, List.set_cons_succ])))
      simp only [rdMark, rdAct, List.map_cons, List.map_nil, List.length_cons, List.length_nil, Nat.reduceAdd, Nat.reduceSub, Nat.zero_add, List.getElem?_toArray, List.getElem?_cons_zero, List.getElem?_cons_succ, Option.bind_some, Act.put, List.setIfInBounds_toArray, List.set_cons_zero, List.set_cons_succ]
      refine wpL_do (i := 14) rfl (by kernel_rfl) (by rfl) (fun K_ hK_ => ?_)
      go_simp
      refine (sameRuS us[j] _ _ _ _ _ (HR1.out.ext0 H9.ext) (HR2.out.ext0 H9.ext)).mono ?_
      rintro e w_ ⟨rfl, hx⟩
      replace H9 := H9.call hx
      clear hx
      refine hK_ _ _ (fun _ => H9.sub (by simp)) (fun hR_ => ?_)
      replace hR_ := hR_ (by decide)
      refine wpL_reads (is := [(15, ?v3_0), (16, ?v3_1), (17, ?v3_2)]) (by kernel_rfl) (Nat.le_of_ble_eq_true rfl) (by intro _ _ d_ _ _ h_; cases d_ <;> exact h_) (by kernel_rfl) hR_ (fun w_ hw_ => ?h3_) ?_
      case h3_ =>
        have ho_ := hw_.old0.1; have hz_ := hw_.old0.2; have hr_ := hw_.rules; clear hw_; simp only [Rules, and_true] at hr_; go_split_ands
        (repeat (first | with_reducible exact RdOps.nil | (refine RdOps.run rfl (by rfl) ?_ ?_; (focus (first | (go_simp; done) | (go_simp; with_reducible rfl))); simp only [List.getElem_toArray, List.getElem_cons_zero, List.getElem_cons_succ, Act.put, List.setIfInBounds_toArray, List.set_cons_zero, List.set_cons_succ]) | (refine RdOps.skip rfl (by rfl) ?_ ?_; (focus (with_reducible rfl)); simp only [List.getElem_toArray, List.getElem_cons_zero, List.getElem_cons_succ, Act.put, List.setIfInBounds_toArray, List.set_cons_zero, List.set_cons_succ])))
      simp only [rdMark, rdAct, List.map_cons, List.map_nil, List.length_cons, List.length_nil, Nat.reduceAdd, Nat.reduceSub, Nat.zero_add, List.getElem?_toArray, List.getElem?_cons_zero, List.getElem?_cons_succ, Option.bind_some, Act.put, List.setIfInBounds_toArray, List.set_cons_zero, List.set_cons_succ]
      refine wpL_done (by kernel_rfl) ?_ _
      replace H := H.call H9.ext
      go_wp2_with fail
      go_roundw
      case rel => exact ⟨j + 1, by omega, by first | go_num | rfl | simp, (H.arr (by (repeat (first | with_reducible exact Arr.nil | refine Arr.cons (by (repeat (first | with_reducible exact Pick.head | with_reducible apply Pick.tail))) ?_)) <;> exact Arr.of_subl (by (repeat (first | with_reducible exact Subl.refl _ | with_reducible apply Subl.drop)))))⟩
      case measure => simp [intOf]; omega
    · have hje : j = d.ctors.length := by omega
      subst hje
      have hr_ := H.rules; simp only [Rules, and_true] at hr_; have hd_ := H.dif; simp only [Dif, Neq, and_true] at hd_; obtain ⟨ho_, hz_⟩ := H.old0
      go_wp2_with fail
      go_ret
      exact ⟨rfl, H.ext⟩
set_option maxRecDepth 100000 in
set_option maxHeartbeats 8000000 in
theorem splitOne_calls {w : World} {S : Nat → Prop} {d : Dc} {cs : List Value} (hT : Tab w) (hd : RC w S d.d cs) (hb : CtsOK d.ctors) :
    Calls Tryd.prog 8 #[.agg cs.toArray] w (PV w (.bool true)) := by
  have HD := Lib.hid hd
  obtain ⟨Aty, cty, Kty, kty, Abody, cbody, Kbody, kbody, Aparams, cparams, Asort, csort, Amembers, cmembers, Actors, cctors, rfl, hparts⟩ := RC.dc.1 hd
  have HPARTS := Lib.hid hparts
  have hct := hparts.2.2.2.2.2.2.2
  have hM := hct.lenM
  have HT := Lib.hid hT
  have HB := Lib.hid hb
  clear hT hd hb hparts
  go_enter Tryd.func8, Tryd.ntmps8
  have H := Hp.start no w
  go_wp2_with fail
  refine callsH (by (repeat (first | with_reducible exact H | with_reducible exact H0_ | with_reducible apply Hp.alloc | with_reducible apply Hp.allocMap | with_reducible apply Hp.drew | with_reducible apply Hp.drewN | with_reducible apply Hp.set)); (try any_goals (repeat (first | with_reducible exact Upd.head | with_reducible apply Upd.tail)))) ?_
  clear H; intro w1 H; (try simp only [size_drew_, size_drewN_, World.size_alloc, World.size_setCell, List.set_cons_zero, List.set_cons_succ] at H)
  refine (awake12_calls (HT.out.ext H.ext)).mono ?_
  rintro e w_ ⟨rfl, hx⟩
  replace H := H.call hx
  clear hx
  have hr_ := H.rules; simp only [Rules, and_true] at hr_; have hd_ := H.dif; simp only [Dif, Neq, and_true] at hd_; obtain ⟨ho_, hz_⟩ := H.old0
  go_wp2_with fail
  clear hr_ hd_ ho_ hz_
  obtain ⟨m, hm⟩ : ∃ m, m = declOfS 1500 d := ⟨_, rfl⟩
  have hcall := declOf_calls (HD.out.ext0 H.ext) 1500
  rw [← hm] at hcall
  clear hm
  refine (hcall).mono ?_
  rintro e w_ ⟨rfl, hx⟩
  replace H := H.call hx
  clear hx
  clear hcall
  by_cases h15 : 1500 < m
  · have hr_ := H.rules; simp only [Rules, and_true] at hr_; have hd_ := H.dif; simp only [Dif, Neq, and_true] at hd_; obtain ⟨ho_, hz_⟩ := H.old0
    go_wp2_with fail
    go_ret
    exact ⟨rfl, H.ext⟩
  by_cases h3 : d.kind = 3
  · have h32 : (d.kind == 3) = true := by simpa using h3
    have h33 : (d.kind != 3) = false := by simp [h3]
    have H3 := Lib.hid h3
    obtain ⟨R, hR⟩ : ∃ R, R = ctorsQ d.members d.ctors := ⟨_, rfl⟩
    have hrq : rulesQ d = R := by rw [rulesQ, if_pos h3, hR]
    have HR := Lib.hid hR
    have HRQ := Lib.hid hrq
    clear h3 hR hrq
    have hr_ := H.rules; simp only [Rules, and_true] at hr_; have hd_ := H.dif; simp only [Dif, Neq, and_true] at hd_; obtain ⟨ho_, hz_⟩ := H.old0
    go_wp2_with fail
    clear hr_ hd_ ho_ hz_
    refine callsH (by (repeat (first | with_reducible exact H | with_reducible exact H0_ | with_reducible apply Hp.alloc | with_reducible apply Hp.allocMap | with_reducible apply Hp.drew | with_reducible apply Hp.drewN | with_reducible apply Hp.set)); (try any_goals (repeat (first | with_reducible exact Upd.head | with_reducible apply Upd.tail)))) ?_
    clear H; intro w2 H; (try simp only [size_drew_, size_drewN_, World.size_alloc, World.size_setCell, List.set_cons_zero, List.set_cons_succ] at H)
    have hcall := rules_calls (HT.out.ext H.ext) (HD.out.ext0 H.ext) HB.out
    rw [HRQ.out] at hcall
    refine hcall.mono ?_
    clear hcall
    cases R with
    | error k =>
      rintro e w3 ⟨rfl, hx, hk0⟩
      replace H := H.call hx
      clear hx
      dsimp only
      repeat ((fail_if_success (with_reducible (show Code.wp _ (Code.seq (Code.seq (Code.region 6 _ _) _) _) _ _ _))); go_step)
      exact so6e HT.out HPARTS.out HB.out H3.out HR.out hk0 (H.arr (by (repeat (first | with_reducible exact Arr.nil | refine Arr.cons (by (repeat (first | with_reducible exact Pick.head | with_reducible apply Pick.tail))) ?_)) <;> exact Arr.of_subl (by (repeat (first | with_reducible exact Subl.refl _ | with_reducible apply Subl.drop)))))
    | ok us =>
      rintro e w3 ⟨A, c, rfl, H2⟩
      replace H := H.res1 H2
      clear H2
      dsimp only
      repeat ((fail_if_success (with_reducible (show Code.wp _ (Code.seq (Code.seq (Code.region 6 _ _) _) _) _ _ _))); go_step)
      exact so6o HT.out HPARTS.out HB.out H3.out HR.out (H.arr (by (repeat (first | with_reducible exact Arr.nil | refine Arr.cons (by (repeat (first | with_reducible exact Pick.head | with_reducible apply Pick.tail))) ?_)) <;> exact Arr.of_subl (by (repeat (first | with_reducible exact Subl.refl _ | with_reducible apply Subl.drop)))))
  · have h32 : (d.kind == 3) = false := by simpa using h3
    have h33 : (d.kind != 3) = true := by simp [h3]
    have H3 := Lib.hid h3
    clear h3
    have hr_ := H.rules; simp only [Rules, and_true] at hr_; have hd_ := H.dif; simp only [Dif, Neq, and_true] at hd_; obtain ⟨ho_, hz_⟩ := H.old0
    go_wp2_with fail
    go_ret
    exact ⟨rfl, H.ext⟩
end Go.Proofs.YteelplgdojjakaaDoor
