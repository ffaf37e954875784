/- source: Decl: contract. No statement of the seat is proved here. -/
import Derived.Test.YtmedomglemllnaaGreatDoorSrcBlock2
namespace Go.Proofs.YtmedomglemllnaaGreatDoor
set_option linter.unusedSimpArgs false
set_option linter.unusedVariables false
open Go.RowKit

set_option maxRecDepth 100000 in
set_option maxHeartbeats 8000000 in
theorem srcDecl1_calls {w : World} {S S1 : Nat → Prop} {ds : List Dc} {d : Dc} {cs : List Value} {A : Option Addr} {c g0 g1 : Nat} (hT : Tab w) (h : RC w S (.l 51 16 (ds.map Dc.d)) [.slice A ds.length c]) (hd : RC w S1 d.d cs)
    (c0 : Blk w g0 51 cs.toArray) (c1 : Blk w g1 43 #[.slice A ds.length c]) : Calls Tryz.prog 91 #[.pointer (some ⟨g0, 0, none⟩), .pointer (some ⟨g1, 0, none⟩)] w (PWr w (declQ ds d)) := by
  have HD := Lib.hid hd
  obtain ⟨Aty, cty, Kty, kty, Abody, cbody, Kbody, kbody, Aparams, cparams, Asort, csort, Amembers, cmembers, Actors, cctors, rfl, i1, i2, r1, r2, r3, r4, r5, r6⟩ := RC.dc.1 hd
  have hM3 := r3.lenM.1
  have hM4 := r4.lenM.1
  have hM5 := r5.lenM.1
  have hM6 := r6.lenM.1
  obtain ⟨s1, hs1⟩ : ∃ s1 : Int, s1 = (d.params.length : Int) + d.sort.length := ⟨_, rfl⟩
  obtain ⟨s2, hs2⟩ : ∃ s2 : Int, s2 = s1 + d.members.length := ⟨_, rfl⟩
  obtain ⟨s3, hs3⟩ : ∃ s3 : Int, s3 = s2 + d.ctors.length := ⟨_, rfl⟩
  have hw1 : IntKind.i64.wrap ((d.params.length : Int) + d.sort.length) = s1 := by rw [IntKind.wrap_i64]; omega
  have hw2 : IntKind.i64.wrap (s1 + d.members.length) = s2 := by rw [IntKind.wrap_i64]; omega
  have hw3 : IntKind.i64.wrap (s2 + d.ctors.length) = s3 := by rw [IntKind.wrap_i64]; omega
  have HS : Hid (noneQ d = (s3 == 0)) := by
    unfold Hid noneQ
    rw [Bool.eq_iff_iff]
    simp only [decide_eq_true_eq, beq_iff_eq]
    omega
  have HT := Lib.hid hT
  have HH := Lib.hid h
  have R1 := Lib.hid r1
  have R2 := Lib.hid r2
  have d0 := c0.cells
  have d1 := c1.cells
  have l0 := c0.lt
  have l1 := c1.lt
  clear hT h hd r1 r2 r3 r4 r5 r6 i1 i2 hs1 hs2 hs3 c0 c1 hM3 hM4 hM5 hM6
  go_enter Tryz.func91, Tryz.ntmps91
  have H := Hp.start no w
  go_wp2_with fail
  refine callsH (by (repeat (first | with_reducible exact H | with_reducible exact H0_ | with_reducible apply Hp.alloc | with_reducible apply Hp.allocMap | with_reducible apply Hp.drew | with_reducible apply Hp.drewN | with_reducible apply Hp.set)); (try any_goals (repeat (first | with_reducible exact Upd.head | with_reducible apply Upd.tail)))) ?_
  clear H; intro w1 H; (try simp only [size_drew_, size_drewN_, World.size_alloc, World.size_setCell, List.set_cons_zero, List.set_cons_succ] at H)
  refine (smust2 H).mono ?_
  rintro e w2 hm
  have hx := hm.2
  have HM := Lib.hid hm
  clear hm
  replace H := H.call hx
  clear hx
  by_cases q1 : 0 ≤ d.levels ∧ d.levels < 8
  case neg =>
    have hno : (decide (0 ≤ d.levels) && decide (d.levels < 8)) = false := by
      rw [Bool.eq_false_iff]
      intro h
      simp only [Bool.and_eq_true, decide_eq_true_eq] at h
      exact q1 h
    obtain rfl := HM.out.no hno
    exact ⟨rfl, by unfold declQ; rw [decide_eq_false q1]; rfl, H.ext⟩
  obtain rfl := HM.out.yes (by simp [q1.1, q1.2])
  have Q1 := Lib.hid q1
  clear q1 HM
  by_cases k3 : d.kind = 3
  · have hE : declQ ds d = blockQ ds d.levels d := by unfold declQ; rw [decide_eq_true Q1.out, if_pos k3]; rfl
    have HE := Lib.hid hE
    have gk : (d.kind == 3) = true := by simpa using k3
    have HK := Lib.hid k3
    clear hE k3
    have hr_ := H.rules; simp only [Rules, and_true] at hr_; have hd_ := H.dif; simp only [Dif, Neq, and_true] at hd_; obtain ⟨ho_, hz_⟩ := H.old0
    go_wp2_with ((with_reducible refine atStore (t := 128) ?_); go_must (refine wpList_storeH (t := 128) rfl rfl (by go_simp <;> first | rfl | exact ⟨rfl, rfl⟩) (by go_simp <;> first | rfl | exact ⟨rfl, rfl⟩) (by exact Hp.norm (by (repeat (first | with_reducible exact H | with_reducible exact H0_ | with_reducible apply Hp.alloc | with_reducible apply Hp.allocMap | with_reducible apply Hp.drew | with_reducible apply Hp.drewN | with_reducible apply Hp.set)); (try any_goals (repeat (first | with_reducible exact Upd.head | with_reducible apply Upd.tail)))) (by ((try simp only [size_drew_, size_drewN_, World.size_alloc, World.size_setCell, List.set_cons_zero, List.set_cons_succ, List.nil_append, List.cons_append]) <;> rfl))) (by (repeat (first | with_reducible exact Upd.head | with_reducible apply Upd.tail))) (by exact aggOver) (by rfl) (by simp [Value.oneCell']) ?_; clear H; intro w7 H; (try simp only [size_drew_, size_drewN_, World.size_alloc, World.size_setCell, List.set_cons_zero, List.set_cons_succ] at H); (try clear hr_ hd_ ho_ hz_); have hr_ := H.rules; simp only [Rules, and_true] at hr_; have hd_ := H.dif; simp only [Dif, Neq, and_true] at hd_; obtain ⟨ho_, hz_⟩ := H.old0))
    (try clear hr_ hd_ ho_ hz_)
    refine callsH (by (repeat (first | with_reducible exact H | with_reducible exact H0_ | with_reducible apply Hp.alloc | with_reducible apply Hp.allocMap | with_reducible apply Hp.drew | with_reducible apply Hp.drewN | with_reducible apply Hp.set)); (try any_goals (repeat (first | with_reducible exact Upd.head | with_reducible apply Upd.tail)))) ?_
    clear H; intro w8 H; (try simp only [size_drew_, size_drewN_, World.size_alloc, World.size_setCell, List.set_cons_zero, List.set_cons_succ] at H)
    refine (block11_calls (n := d.levels) (HT.out.ext H.ext) (HH.out.ext0 H.ext) (HD.out.ext0 H.ext) rfl).mono ?_
    rintro e w2 hm
    have hx := hm.2
    have HM := Lib.hid hm
    clear hm
    replace H := H.call hx
    clear hx
    cases hq : blockQ ds d.levels d
    · obtain rfl := HM.out.no hq
      exact ⟨rfl, by rw [HE.out, hq]; rfl, H.ext⟩
    · obtain rfl := HM.out.yes hq
      have HQ := Lib.hid hq
      clear hq
      go_wp2_with fail
      go_end0
      exact ⟨by rw [HE.out, HQ.out]; rfl, H.ext⟩
  · have gk : (d.kind == 3) = false := by simpa using k3
    have HK := Lib.hid k3
    clear k3
    have hr_ := H.rules; simp only [Rules, and_true] at hr_; have hd_ := H.dif; simp only [Dif, Neq, and_true] at hd_; obtain ⟨ho_, hz_⟩ := H.old0
    go_wp2_with ((with_reducible refine atStore (t := 128) ?_); go_must (refine wpList_storeH (t := 128) rfl rfl (by go_simp <;> first | rfl | exact ⟨rfl, rfl⟩) (by go_simp <;> first | rfl | exact ⟨rfl, rfl⟩) (by exact Hp.norm (by (repeat (first | with_reducible exact H | with_reducible exact H0_ | with_reducible apply Hp.alloc | with_reducible apply Hp.allocMap | with_reducible apply Hp.drew | with_reducible apply Hp.drewN | with_reducible apply Hp.set)); (try any_goals (repeat (first | with_reducible exact Upd.head | with_reducible apply Upd.tail)))) (by ((try simp only [size_drew_, size_drewN_, World.size_alloc, World.size_setCell, List.set_cons_zero, List.set_cons_succ, List.nil_append, List.cons_append]) <;> rfl))) (by (repeat (first | with_reducible exact Upd.head | with_reducible apply Upd.tail))) (by exact aggOver) (by rfl) (by simp [Value.oneCell']) ?_; clear H; intro w7 H; (try simp only [size_drew_, size_drewN_, World.size_alloc, World.size_setCell, List.set_cons_zero, List.set_cons_succ] at H); (try clear hr_ hd_ ho_ hz_); have hr_ := H.rules; simp only [Rules, and_true] at hr_; have hd_ := H.dif; simp only [Dif, Neq, and_true] at hd_; obtain ⟨ho_, hz_⟩ := H.old0))
    (try clear hr_ hd_ ho_ hz_)
    refine callsH (by (repeat (first | with_reducible exact H | with_reducible exact H0_ | with_reducible apply Hp.alloc | with_reducible apply Hp.allocMap | with_reducible apply Hp.drew | with_reducible apply Hp.drewN | with_reducible apply Hp.set)); (try any_goals (repeat (first | with_reducible exact Upd.head | with_reducible apply Upd.tail)))) ?_
    clear H; intro w8 H; (try simp only [size_drew_, size_drewN_, World.size_alloc, World.size_setCell, List.set_cons_zero, List.set_cons_succ] at H)
    refine (smust1 H).mono ?_
    rintro e w2 hm
    have hx := hm.2
    have HM := Lib.hid hm
    clear hm
    replace H := H.call hx
    clear hx
    cases hs : s3 == 0
    · obtain rfl := HM.out.no hs
      exact ⟨rfl, by unfold declQ; rw [decide_eq_true Q1.out, if_neg HK.out, HS.out, hs]; rfl, H.ext⟩
    obtain rfl := HM.out.yes hs
    have HS2 := Lib.hid (HS.out.trans hs)
    clear hs HS
    have hr_ := H.rules; simp only [Rules, and_true] at hr_; have hd_ := H.dif; simp only [Dif, Neq, and_true] at hd_; obtain ⟨ho_, hz_⟩ := H.old0
    go_wp2_with fail
    (try clear hr_ hd_ ho_ hz_)
    refine callsH (by (repeat (first | with_reducible exact H | with_reducible exact H0_ | with_reducible apply Hp.alloc | with_reducible apply Hp.allocMap | with_reducible apply Hp.drew | with_reducible apply Hp.drewN | with_reducible apply Hp.set)); (try any_goals (repeat (first | with_reducible exact Upd.head | with_reducible apply Upd.tail)))) ?_
    clear H; intro w5 H; (try simp only [size_drew_, size_drewN_, World.size_alloc, World.size_setCell, List.set_cons_zero, List.set_cons_succ] at H)
    refine (asks_calls (t := d.ty) (HT.out.ext H.ext) (HH.out.ext0 H.ext) ⟨_, _, _, _, rfl, R1.out.ext0 H.ext⟩).mono ?_
    (try clear HM)
    rintro e w2 hm
    have hx := hm.2
    have HM := Lib.hid hm
    clear hm
    replace H := H.call hx
    clear hx
    cases hq : srcQ ds d.levels 0 0 d.ty
    · obtain rfl := HM.out.no hq
      exact ⟨rfl, by unfold declQ; rw [decide_eq_true Q1.out, if_neg HK.out, HS2.out, hq]; rfl, H.ext⟩
    obtain rfl := HM.out.yes hq
    have HQ := Lib.hid hq
    clear hq HM
    by_cases k1 : d.kind = 1
    · have hE : declQ ds d = bareQ d.body := by unfold declQ; rw [decide_eq_true Q1.out, if_neg HK.out, HS2.out, HQ.out, if_pos k1]; rfl
      have HE := Lib.hid hE
      have gk1 : (d.kind == 1) = true := by simpa using k1
      clear hE k1
      have hr_ := H.rules; simp only [Rules, and_true] at hr_; have hd_ := H.dif; simp only [Dif, Neq, and_true] at hd_; obtain ⟨ho_, hz_⟩ := H.old0
      go_wp2_with fail
      (try clear hr_ hd_ ho_ hz_)
      refine (bare_calls (t := d.body) ⟨_, _, _, _, rfl, R2.out.ext0 H.ext⟩).mono ?_
      rintro e w_ ⟨rfl, hx⟩
      replace H := H.call hx
      clear hx
      have hr_ := H.rules; simp only [Rules, and_true] at hr_; have hd_ := H.dif; simp only [Dif, Neq, and_true] at hd_; obtain ⟨ho_, hz_⟩ := H.old0
      go_wp2_with fail
      (try clear hr_ hd_ ho_ hz_)
      refine callsH (by (repeat (first | with_reducible exact H | with_reducible exact H0_ | with_reducible apply Hp.alloc | with_reducible apply Hp.allocMap | with_reducible apply Hp.drew | with_reducible apply Hp.drewN | with_reducible apply Hp.set)); (try any_goals (repeat (first | with_reducible exact Upd.head | with_reducible apply Upd.tail)))) ?_
      clear H; intro w9 H; (try simp only [size_drew_, size_drewN_, World.size_alloc, World.size_setCell, List.set_cons_zero, List.set_cons_succ] at H)
      refine (smust1 H).mono ?_
      rintro e w2 hm
      have hx := hm.2
      have HM := Lib.hid hm
      clear hm
      replace H := H.call hx
      clear hx
      cases hq : bareQ d.body
      · obtain rfl := HM.out.no hq
        exact ⟨rfl, by rw [HE.out, hq]; rfl, H.ext⟩
      · obtain rfl := HM.out.yes hq
        have HQ2 := Lib.hid hq
        clear hq
        go_wp2_with fail
        go_end0
        exact ⟨by rw [HE.out, HQ2.out]; rfl, H.ext⟩
    · have hE : declQ ds d = (decide (d.kind = 2) && srcQ ds d.levels 0 0 d.body) := by unfold declQ; rw [decide_eq_true Q1.out, if_neg HK.out, HS2.out, HQ.out, if_neg k1]; rfl
      have HE := Lib.hid hE
      have gk1 : (d.kind == 1) = false := by simpa using k1
      clear hE k1
      have hr_ := H.rules; simp only [Rules, and_true] at hr_; have hd_ := H.dif; simp only [Dif, Neq, and_true] at hd_; obtain ⟨ho_, hz_⟩ := H.old0
      go_wp2_with fail
      (try clear hr_ hd_ ho_ hz_)
      refine callsH (by (repeat (first | with_reducible exact H | with_reducible exact H0_ | with_reducible apply Hp.alloc | with_reducible apply Hp.allocMap | with_reducible apply Hp.drew | with_reducible apply Hp.drewN | with_reducible apply Hp.set)); (try any_goals (repeat (first | with_reducible exact Upd.head | with_reducible apply Upd.tail)))) ?_
      clear H; intro w9 H; (try simp only [size_drew_, size_drewN_, World.size_alloc, World.size_setCell, List.set_cons_zero, List.set_cons_succ] at H)
      refine (smust1 H).mono ?_
      rintro e w2 hm
      have hx := hm.2
      have HM := Lib.hid hm
      clear hm
      replace H := H.call hx
      clear hx
      by_cases k2 : d.kind = 2
      case neg =>
        obtain rfl := HM.out.no (by simpa using k2)
        exact ⟨rfl, by rw [HE.out, decide_eq_false k2]; rfl, H.ext⟩
      obtain rfl := HM.out.yes (by simpa using k2)
      have HK2 := Lib.hid k2
      clear k2 HM
      have hr_ := H.rules; simp only [Rules, and_true] at hr_; have hd_ := H.dif; simp only [Dif, Neq, and_true] at hd_; obtain ⟨ho_, hz_⟩ := H.old0
      go_wp2_with fail
      (try clear hr_ hd_ ho_ hz_)
      refine callsH (by (repeat (first | with_reducible exact H | with_reducible exact H0_ | with_reducible apply Hp.alloc | with_reducible apply Hp.allocMap | with_reducible apply Hp.drew | with_reducible apply Hp.drewN | with_reducible apply Hp.set)); (try any_goals (repeat (first | with_reducible exact Upd.head | with_reducible apply Upd.tail)))) ?_
      clear H; intro w5 H; (try simp only [size_drew_, size_drewN_, World.size_alloc, World.size_setCell, List.set_cons_zero, List.set_cons_succ] at H)
      refine (asks_calls (t := d.body) (HT.out.ext H.ext) (HH.out.ext0 H.ext) ⟨_, _, _, _, rfl, R2.out.ext0 H.ext⟩).mono ?_
      (try clear HM)
      rintro e w2 hm
      have hx := hm.2
      have HM := Lib.hid hm
      clear hm
      replace H := H.call hx
      clear hx
      cases hq : srcQ ds d.levels 0 0 d.body
      · obtain rfl := HM.out.no hq
        exact ⟨rfl, by rw [HE.out, hq]; simp, H.ext⟩
      · obtain rfl := HM.out.yes hq
        have HQ2 := Lib.hid hq
        clear hq
        go_wp2_with fail
        go_end0
        exact ⟨by rw [HE.out, HQ2.out, decide_eq_true HK2.out]; rfl, H.ext⟩
set_option maxRecDepth 100000 in
set_option maxHeartbeats 4000000 in
theorem srcDecl_calls {w : World} {S S1 : Nat → Prop} {ds : List Dc} {d : Dc} {cs : List Value} {A : Option Addr} {k c : Nat} (hT : Tab w) (h : RC w S (.l 51 16 (ds.map Dc.d)) [.slice A k c]) (hk : k = ds.length) (hd : RC w S1 d.d cs) :
    Calls Tryz.prog 27 #[.slice A k c, .agg cs.toArray] w (PV w (.bool (declQ ds d))) := by
  subst hk
  have HD := Lib.hid hd
  obtain ⟨Aty, cty, Kty, kty, Abody, cbody, Kbody, kbody, Aparams, cparams, Asort, csort, Amembers, cmembers, Actors, cctors, rfl, _⟩ := RC.dc.1 hd
  have HT := Lib.hid hT
  have HH := Lib.hid h
  have hmf : ∀ (fn : Fn) (first cap : Array Value) (w : World), (Instr.makeFunc fn first cap).run Tryz.prog w = .ok (.func fn first cap) w := fun _ _ _ _ => rfl
  clear hd hT h
  go_enter Tryz.func27, Tryz.ntmps27
  go_wp2_with fail
  have H := Hp.start no w
  refine callsH (by (repeat (first | with_reducible exact H | with_reducible exact H0_ | with_reducible apply Hp.alloc | with_reducible apply Hp.allocMap | with_reducible apply Hp.drew | with_reducible apply Hp.drewN | with_reducible apply Hp.set)); (try any_goals (repeat (first | with_reducible exact Upd.head | with_reducible apply Upd.tail)))) ?_
  clear H; intro w1 H; (try simp only [size_drew_, size_drewN_, World.size_alloc, World.size_setCell, List.set_cons_zero, List.set_cons_succ] at H)
  refine (held_calls (q := declQ ds d) (enters_of Tryz.func91 (by kernel_rfl) rfl) (fun w' hx => srcDecl1_calls (HT.out.ext (H.ext.seq hx)) (HH.out.ext0 (H.ext.seq hx)) (HD.out.ext0 (H.ext.seq hx)) (((H.call hx).blk (by (repeat (first | with_reducible exact Pick.head | with_reducible apply Pick.tail))))) (((H.call hx).blk (by (repeat (first | with_reducible exact Pick.head | with_reducible apply Pick.tail))))))).mono ?_
  rintro e w_ ⟨rfl, hx⟩
  replace H := H.call hx
  clear hx
  obtain ⟨q, hq⟩ : ∃ q, q = declQ ds d := ⟨_, rfl⟩
  rw [← hq]
  have HQQ := Lib.hid hq
  clear hq
  go_wp2_with fail
  go_ret
  exact ⟨by rw [← HQQ.out]; rfl, H.ext⟩
end Go.Proofs.YtmedomglemllnaaGreatDoor
