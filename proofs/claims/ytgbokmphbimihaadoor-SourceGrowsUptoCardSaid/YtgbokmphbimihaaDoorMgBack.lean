/- source: Decl: contract. No statement of the seat is proved here. -/
import Derived.Test.YtgbokmphbimihaaDoorSrcBlock2
import Derived.Test.YtgbokmphbimihaaDoorMgRow
import Derived.RangeFuncRecord
import Derived.OrdersIn
import Derived.RangeFuncSeq
import Derived.RangeFuncBound
import Derived.RangeFuncCalls
import Derived.OwnWalkIn
import Derived.TacticsInMore
import Derived.LoopNIn
import Derived.LoopIn
import Derived.Shelf.Abstract
import Derived.Shelf.RegionOpen
namespace Go.Proofs.YtgbokmphbimihaaDoor
set_option linter.unusedSimpArgs false
set_option linter.unusedVariables false
open Go.RowKit

set_option maxRecDepth 100000 in
set_option maxHeartbeats 8000000 in
theorem srcDecl1_calls {w : World} {S S1 : Nat → Prop} {ds : List Dc} {d : Dc} {cs : List Value} {A : Option Addr} {c g0 g1 : Nat} (hT : Tab w) (h : RC w S (.l 37 16 (ds.map Dc.d)) [.slice A ds.length c]) (hd : RC w S1 d.d cs)
    (c0 : Blk w g0 37 cs.toArray) (c1 : Blk w g1 44 #[.slice A ds.length c]) : Calls Tryd.prog 73 #[.pointer (some ⟨g0, 0, none⟩), .pointer (some ⟨g1, 0, none⟩)] w (PWr w (declQ ds d)) := by
  have HD := Lib.hid hd
  obtain ⟨Aty, cty, Kty, kty, Abody, cbody, Kbody, kbody, Aparams, cparams, Asort, csort, Amembers, cmembers, Actors, cctors, rfl, i1, i2, r1, r2, r3, r4, r5, r6⟩ := RC.dc.1 hd
  have hM3 := r3.lenM.1
  have hM4 := r4.lenM.1
  have hM5 := r5.lenM.1
  have hM6 := r6.lenM.1
  obtain ⟨s1, hs1⟩ : ∃ s1 : Int, s1 = (d.params.length : Int) + d.sort.length := ⟨_, rfl⟩
  obtain ⟨s2, hs2⟩ : ∃ s2 : Int, s2 = s1 + d.members.length := ⟨_, rfl⟩
  obtain ⟨s3, hs3⟩ : ∃ s3 : Int, s3 = s2 + d.ctors.length := ⟨_, rfl⟩
  have hw1 : IntKind.i64.wrap ((d.params.length : Int) + d.sort.length) = s1 := by rw [IntKind.wrap_i64]; omega
  have hw2 : IntKind.i64.wrap (s1 + d.members.length) = s2 := by rw [IntKind.wrap_i64]; omega
  have hw3 : IntKind.i64.wrap (s2 + d.ctors.length) = s3 := by rw [IntKind.wrap_i64]; omega
  have HS : Hid (noneQ d = (s3 == 0)) := by
    unfold Hid noneQ
    rw [Bool.eq_iff_iff]
    simp only [decide_eq_true_eq, beq_iff_eq]
    omega
  have HT := Lib.hid hT
  have HH := Lib.hid h
  have R1 := Lib.hid r1
  have R2 := Lib.hid r2
  have d0 := c0.cells
  have d1 := c1.cells
  have l0 := c0.lt
  have l1 := c1.lt
  clear hT h hd r1 r2 r3 r4 r5 r6 i1 i2 hs1 hs2 hs3 c0 c1 hM3 hM4 hM5 hM6
  go_enter Tryd.func73, Tryd.ntmps73
  have H := Hp.start no w
  go_wp2_with fail
  refine callsH (by (repeat (first | with_reducible exact H | with_reducible exact H0_ | with_reducible apply Hp.alloc | with_reducible apply Hp.allocMap | with_reducible apply Hp.drew | with_reducible apply Hp.drewN | with_reducible apply Hp.set)); (try any_goals (repeat (first | with_reducible exact Upd.head | with_reducible apply Upd.tail)))) ?_
  clear H; intro w1 H; (try simp only [size_drew_, size_drewN_, World.size_alloc, World.size_setCell, List.set_cons_zero, List.set_cons_succ] at H)
  refine (smust2 H).mono ?_
  rintro e w2 hm
  have hx := hm.2
  have HM := Lib.hid hm
  clear hm
  replace H := H.call hx
  clear hx
  by_cases q1 : 0 ≤ d.levels ∧ d.levels < 8
  case neg =>
    have hno : (decide (0 ≤ d.levels) && decide (d.levels < 8)) = false := by
      rw [Bool.eq_false_iff]
      intro h
      simp only [Bool.and_eq_true, decide_eq_true_eq] at h
      exact q1 h
    obtain rfl := HM.out.no hno
    exact ⟨rfl, by unfold declQ; rw [decide_eq_false q1]; rfl, H.ext⟩
  obtain rfl := HM.out.yes (by simp [q1.1, q1.2])
  have Q1 := Lib.hid q1
  clear q1 HM
  by_cases k3 : d.kind = 3
  · have hE : declQ ds d = blockQ ds d.levels d := by unfold declQ; rw [decide_eq_true Q1.out, if_pos k3]; rfl
    have HE := Lib.hid hE
    have gk : (d.kind == 3) = true := by simpa using k3
    have HK := Lib.hid k3
    clear hE k3
    have hr_ := H.rules; simp only [Rules, and_true] at hr_; have hd_ := H.dif; simp only [Dif, Neq, and_true] at hd_; obtain ⟨ho_, hz_⟩ := H.old0
    go_wp2_with ((with_reducible refine atStore (t := 100) ?_); go_must (refine wpList_storeH (t := 100) rfl rfl (by go_simp <;> first | rfl | exact ⟨rfl, rfl⟩) (by go_simp <;> first | rfl | exact ⟨rfl, rfl⟩) (by exact Hp.norm (by (repeat (first | with_reducible exact H | with_reducible exact H0_ | with_reducible apply Hp.alloc | with_reducible apply Hp.allocMap | with_reducible apply Hp.drew | with_reducible apply Hp.drewN | with_reducible apply Hp.set)); (try any_goals (repeat (first | with_reducible exact Upd.head | with_reducible apply Upd.tail)))) (by ((try simp only [size_drew_, size_drewN_, World.size_alloc, World.size_setCell, List.set_cons_zero, List.set_cons_succ, List.nil_append, List.cons_append]) <;> rfl))) (by (repeat (first | with_reducible exact Upd.head | with_reducible apply Upd.tail))) (by exact aggOver) (by rfl) (by simp [Value.oneCell']) ?_; clear H; intro w7 H; (try simp only [size_drew_, size_drewN_, World.size_alloc, World.size_setCell, List.set_cons_zero, List.set_cons_succ] at H); (try clear hr_ hd_ ho_ hz_); have hr_ := H.rules; simp only [Rules, and_true] at hr_; have hd_ := H.dif; simp only [Dif, Neq, and_true] at hd_; obtain ⟨ho_, hz_⟩ := H.old0))
    (try clear hr_ hd_ ho_ hz_)
    refine callsH (by (repeat (first | with_reducible exact H | with_reducible exact H0_ | with_reducible apply Hp.alloc | with_reducible apply Hp.allocMap | with_reducible apply Hp.drew | with_reducible apply Hp.drewN | with_reducible apply Hp.set)); (try any_goals (repeat (first | with_reducible exact Upd.head | with_reducible apply Upd.tail)))) ?_
    clear H; intro w8 H; (try simp only [size_drew_, size_drewN_, World.size_alloc, World.size_setCell, List.set_cons_zero, List.set_cons_succ] at H)
    refine (block11_calls (n := d.levels) (HT.out.ext H.ext) (HH.out.ext0 H.ext) (HD.out.ext0 H.ext) rfl).mono ?_
    rintro e w2 hm
    have hx := hm.2
    have HM := Lib.hid hm
    clear hm
    replace H := H.call hx
    clear hx
    cases hq : blockQ ds d.levels d
    · obtain rfl := HM.out.no hq
      exact ⟨rfl, by rw [HE.out, hq]; rfl, H.ext⟩
    · obtain rfl := HM.out.yes hq
      have HQ := Lib.hid hq
      clear hq
      go_wp2_with fail
      go_end0
      exact ⟨by rw [HE.out, HQ.out]; rfl, H.ext⟩
  · have gk : (d.kind == 3) = false := by simpa using k3
    have HK := Lib.hid k3
    clear k3
    have hr_ := H.rules; simp only [Rules, and_true] at hr_; have hd_ := H.dif; simp only [Dif, Neq, and_true] at hd_; obtain ⟨ho_, hz_⟩ := H.old0
    go_wp2_with ((with_reducible refine atStore (t := 100) ?_); go_must (refine wpList_storeH (t := 100) rfl rfl (by go_simp <;> first | rfl | exact ⟨rfl, rfl⟩) (by go_simp <;> first | rfl | exact ⟨rfl, rfl⟩) (by exact Hp.norm (by (repeat (first | with_reducible exact H | with_reducible exact H0_ | with_reducible apply Hp.alloc | with_reducible apply Hp.allocMap | with_reducible apply Hp.drew | with_reducible apply Hp.drewN | with_reducible apply Hp.set)); (try any_goals (repeat (first | with_reducible exact Upd.head | with_reducible apply Upd.tail)))) (by ((try simp only [size_drew_, size_drewN_, World.size_alloc, World.size_setCell, List.set_cons_zero, List.set_cons_succ, List.nil_append, List.cons_append]) <;> rfl))) (by (repeat (first | with_reducible exact Upd.head | with_reducible apply Upd.tail))) (by exact aggOver) (by rfl) (by simp [Value.oneCell']) ?_; clear H; intro w7 H; (try simp only [size_drew_, size_drewN_, World.size_alloc, World.size_setCell, List.set_cons_zero, List.set_cons_succ] at H); (try clear hr_ hd_ ho_ hz_); have hr_ := H.rules; simp only [Rules, and_true] at hr_; have hd_ := H.dif; simp only [Dif, Neq, and_true] at hd_; obtain ⟨ho_, hz_⟩ := H.old0))
    (try clear hr_ hd_ ho_ hz_)
    refine callsH (by (repeat (first | with_reducible exact H | with_reducible exact H0_ | with_reducible apply Hp.alloc | with_reducible apply Hp.allocMap | with_reducible apply Hp.drew | with_reducible apply Hp.drewN | with_reducible apply Hp.set)); (try any_goals (repeat (first | with_reducible exact Upd.head | with_reducible apply Upd.tail)))) ?_
    clear H; intro w8 H; (try simp only [size_drew_, size_drewN_, World.size_alloc, World.size_setCell, List.set_cons_zero, List.set_cons_succ] at H)
    refine (smust1 H).mono ?_
    rintro e w2 hm
    have hx := hm.2
    have HM := Lib.hid hm
    clear hm
    replace H := H.call hx
    clear hx
    cases hs : s3 == 0
    · obtain rfl := HM.out.no hs
      exact ⟨rfl, by unfold declQ; rw [decide_eq_true Q1.out, if_neg HK.out, HS.out, hs]; rfl, H.ext⟩
    obtain rfl := HM.out.yes hs
    have HS2 := Lib.hid (HS.out.trans hs)
    clear hs HS
    have hr_ := H.rules; simp only [Rules, and_true] at hr_; have hd_ := H.dif; simp only [Dif, Neq, and_true] at hd_; obtain ⟨ho_, hz_⟩ := H.old0
    go_wp2_with fail
    (try clear hr_ hd_ ho_ hz_)
    refine callsH (by (repeat (first | with_reducible exact H | with_reducible exact H0_ | with_reducible apply Hp.alloc | with_reducible apply Hp.allocMap | with_reducible apply Hp.drew | with_reducible apply Hp.drewN | with_reducible apply Hp.set)); (try any_goals (repeat (first | with_reducible exact Upd.head | with_reducible apply Upd.tail)))) ?_
    clear H; intro w5 H; (try simp only [size_drew_, size_drewN_, World.size_alloc, World.size_setCell, List.set_cons_zero, List.set_cons_succ] at H)
    refine (asks_calls (t := d.ty) (HT.out.ext H.ext) (HH.out.ext0 H.ext) ⟨_, _, _, _, rfl, R1.out.ext0 H.ext⟩).mono ?_
    (try clear HM)
    rintro e w2 hm
    have hx := hm.2
    have HM := Lib.hid hm
    clear hm
    replace H := H.call hx
    clear hx
    cases hq : srcQ ds d.levels 0 0 d.ty
    · obtain rfl := HM.out.no hq
      exact ⟨rfl, by unfold declQ; rw [decide_eq_true Q1.out, if_neg HK.out, HS2.out, hq]; rfl, H.ext⟩
    obtain rfl := HM.out.yes hq
    have HQ := Lib.hid hq
    clear hq HM
    by_cases k1 : d.kind = 1
    · have hE : declQ ds d = bareQ d.body := by unfold declQ; rw [decide_eq_true Q1.out, if_neg HK.out, HS2.out, HQ.out, if_pos k1]; rfl
      have HE := Lib.hid hE
      have gk1 : (d.kind == 1) = true := by simpa using k1
      clear hE k1
      have hr_ := H.rules; simp only [Rules, and_true] at hr_; have hd_ := H.dif; simp only [Dif, Neq, and_true] at hd_; obtain ⟨ho_, hz_⟩ := H.old0
      go_wp2_with fail
      (try clear hr_ hd_ ho_ hz_)
      refine (bare_calls (t := d.body) ⟨_, _, _, _, rfl, R2.out.ext0 H.ext⟩).mono ?_
      rintro e w_ ⟨rfl, hx⟩
      replace H := H.call hx
      clear hx
      have hr_ := H.rules; simp only [Rules, and_true] at hr_; have hd_ := H.dif; simp only [Dif, Neq, and_true] at hd_; obtain ⟨ho_, hz_⟩ := H.old0
      go_wp2_with fail
      (try clear hr_ hd_ ho_ hz_)
      refine callsH (by (repeat (first | with_reducible exact H | with_reducible exact H0_ | with_reducible apply Hp.alloc | with_reducible apply Hp.allocMap | with_reducible apply Hp.drew | with_reducible apply Hp.drewN | with_reducible apply Hp.set)); (try any_goals (repeat (first | with_reducible exact Upd.head | with_reducible apply Upd.tail)))) ?_
      clear H; intro w9 H; (try simp only [size_drew_, size_drewN_, World.size_alloc, World.size_setCell, List.set_cons_zero, List.set_cons_succ] at H)
      refine (smust1 H).mono ?_
      rintro e w2 hm
      have hx := hm.2
      have HM := Lib.hid hm
      clear hm
      replace H := H.call hx
      clear hx
      cases hq : bareQ d.body
      · obtain rfl := HM.out.no hq
        exact ⟨rfl, by rw [HE.out, hq]; rfl, H.ext⟩
      · obtain rfl := HM.out.yes hq
        have HQ2 := Lib.hid hq
        clear hq
        go_wp2_with fail
        go_end0
        exact ⟨by rw [HE.out, HQ2.out]; rfl, H.ext⟩
    · have hE : declQ ds d = (decide (d.kind = 2) && srcQ ds d.levels 0 0 d.body) := by unfold declQ; rw [decide_eq_true Q1.out, if_neg HK.out, HS2.out, HQ.out, if_neg k1]; rfl
      have HE := Lib.hid hE
      have gk1 : (d.kind == 1) = false := by simpa using k1
      clear hE k1
      have hr_ := H.rules; simp only [Rules, and_true] at hr_; have hd_ := H.dif; simp only [Dif, Neq, and_true] at hd_; obtain ⟨ho_, hz_⟩ := H.old0
      go_wp2_with fail
      (try clear hr_ hd_ ho_ hz_)
      refine callsH (by (repeat (first | with_reducible exact H | with_reducible exact H0_ | with_reducible apply Hp.alloc | with_reducible apply Hp.allocMap | with_reducible apply Hp.drew | with_reducible apply Hp.drewN | with_reducible apply Hp.set)); (try any_goals (repeat (first | with_reducible exact Upd.head | with_reducible apply Upd.tail)))) ?_
      clear H; intro w9 H; (try simp only [size_drew_, size_drewN_, World.size_alloc, World.size_setCell, List.set_cons_zero, List.set_cons_succ] at H)
      refine (smust1 H).mono ?_
      rintro e w2 hm
      have hx := hm.2
      have HM := Lib.hid hm
      clear hm
      replace H := H.call hx
      clear hx
      by_cases k2 : d.kind = 2
      case neg =>
        obtain rfl := HM.out.no (by simpa using k2)
        exact ⟨rfl, by rw [HE.out, decide_eq_false k2]; rfl, H.ext⟩
      obtain rfl := HM.out.yes (by simpa using k2)
      have HK2 := Lib.hid k2
      clear k2 HM
      have hr_ := H.rules; simp only [Rules, and_true] at hr_; have hd_ := H.dif; simp only [Dif, Neq, and_true] at hd_; obtain ⟨ho_, hz_⟩ := H.old0
      go_wp2_with fail
      (try clear hr_ hd_ ho_ hz_)
      refine callsH (by (repeat (first | with_reducible exact H | with_reducible exact H0_ | with_reducible apply Hp.alloc | with_reducible apply Hp.allocMap | with_reducible apply Hp.drew | with_reducible apply Hp.drewN | with_reducible apply Hp.set)); (try any_goals (repeat (first | with_reducible exact Upd.head | with_reducible apply Upd.tail)))) ?_
      clear H; intro w5 H; (try simp only [size_drew_, size_drewN_, World.size_alloc, World.size_setCell, List.set_cons_zero, List.set_cons_succ] at H)
      refine (asks_calls (t := d.body) (HT.out.ext H.ext) (HH.out.ext0 H.ext) ⟨_, _, _, _, rfl, R2.out.ext0 H.ext⟩).mono ?_
      (try clear HM)
      rintro e w2 hm
      have hx := hm.2
      have HM := Lib.hid hm
      clear hm
      replace H := H.call hx
      clear hx
      cases hq : srcQ ds d.levels 0 0 d.body
      · obtain rfl := HM.out.no hq
        exact ⟨rfl, by rw [HE.out, hq]; simp, H.ext⟩
      · obtain rfl := HM.out.yes hq
        have HQ2 := Lib.hid hq
        clear hq
        go_wp2_with fail
        go_end0
        exact ⟨by rw [HE.out, HQ2.out, decide_eq_true HK2.out]; rfl, H.ext⟩
set_option maxRecDepth 100000 in
set_option maxHeartbeats 4000000 in
theorem srcDecl_calls {w : World} {S S1 : Nat → Prop} {ds : List Dc} {d : Dc} {cs : List Value} {A : Option Addr} {k c : Nat} (hT : Tab w) (h : RC w S (.l 37 16 (ds.map Dc.d)) [.slice A k c]) (hk : k = ds.length) (hd : RC w S1 d.d cs) :
    Calls Tryd.prog 30 #[.slice A k c, .agg cs.toArray] w (PV w (.bool (declQ ds d))) := by
  subst hk
  have HD := Lib.hid hd
  obtain ⟨Aty, cty, Kty, kty, Abody, cbody, Kbody, kbody, Aparams, cparams, Asort, csort, Amembers, cmembers, Actors, cctors, rfl, _⟩ := RC.dc.1 hd
  have HT := Lib.hid hT
  have HH := Lib.hid h
  have hmf : ∀ (fn : Fn) (first cap : Array Value) (w : World), (Instr.makeFunc fn first cap).run Tryd.prog w = .ok (.func fn first cap) w := fun _ _ _ _ => rfl
  clear hd hT h
  go_enter Tryd.func30, Tryd.ntmps30
  go_wp2_with fail
  have H := Hp.start no w
  refine callsH (by (repeat (first | with_reducible exact H | with_reducible exact H0_ | with_reducible apply Hp.alloc | with_reducible apply Hp.allocMap | with_reducible apply Hp.drew | with_reducible apply Hp.drewN | with_reducible apply Hp.set)); (try any_goals (repeat (first | with_reducible exact Upd.head | with_reducible apply Upd.tail)))) ?_
  clear H; intro w1 H; (try simp only [size_drew_, size_drewN_, World.size_alloc, World.size_setCell, List.set_cons_zero, List.set_cons_succ] at H)
  refine (held_calls (q := declQ ds d) (enters_of Tryd.func73 (by kernel_rfl) rfl) (fun w' hx => srcDecl1_calls (HT.out.ext (H.ext.seq hx)) (HH.out.ext0 (H.ext.seq hx)) (HD.out.ext0 (H.ext.seq hx)) (((H.call hx).blk (by (repeat (first | with_reducible exact Pick.head | with_reducible apply Pick.tail))))) (((H.call hx).blk (by (repeat (first | with_reducible exact Pick.head | with_reducible apply Pick.tail))))))).mono ?_
  rintro e w_ ⟨rfl, hx⟩
  replace H := H.call hx
  clear hx
  obtain ⟨q, hq⟩ : ∃ q, q = declQ ds d := ⟨_, rfl⟩
  rw [← hq]
  have HQQ := Lib.hid hq
  clear hq
  go_wp2_with fail
  go_ret
  exact ⟨by rw [← HQQ.out]; rfl, H.ext⟩
end Go.Proofs.YtgbokmphbimihaaDoor
/- A range over a function, in the terms of the state of a call at work: the statement, a round, the end of a function that holds one; what is walked outside a round holds within. No statement of the seat is proved here. -/
namespace Go.Proofs.YtgbokmphbimihaaDoor
set_option linter.unusedSimpArgs false
set_option linter.unusedVariables false
open Go.RowKit

section
variable {P : Program} {ops : Array Oper} {Q : Exit → Act → World → Prop} {n l : Nat}
/-- The fence of a round. -/
abbrev Rn (l : Nat) : Fence := Fence.wide.inRound l
theorem callsRn {f : FuncId} {args : Array Value} {w : World} {R : Ending → World → Prop} (h : Calls P f args w R) : CallsIn (Rn l) n P f args w R := by
  have h1 : CallsIn Fence.wide n P f args w R := callsIn_wide.2 h
  refine ⟨trivial, fun cs hr => ?_⟩
  obtain ⟨e, w', fr, r, s, x⟩ := h1.2 cs (room_wide _)
  exact ⟨e, w', fr, r, s, x⟩
theorem rowsRn {row : String} {args : Array Value} {w : World} {R : Value → World → Prop} (h : Rows P row args w R) : RowsIn (Rn l) n P row args w R := by
  intro c cs _
  obtain ⟨v, w', r, s⟩ := h c cs
  exact ⟨v, w', r, stepsIn_wide.2 s⟩
def noDefer (o : Oper) : Bool := match o.op with | .defer _ => false | _ => true
theorem noDefer_spec {o : Oper} (h : noDefer o = true) : ∀ c, o.op ≠ .defer c := fun c e => by simp [noDefer, e] at h
theorem uponRn {o : Oper} {a : Act} {K : Act → World → Prop} {r : Result Next} (h : o.upon P a K Q r) : o.uponIn (Rn l) n P a K Q r := by
  cases r with
  | ok x w' =>
    cases x <;> simp only [Oper.upon, Oper.uponIn] at h ⊢ <;> first
      | exact h
      | exact ⟨fun e => (by cases e), callsRn h⟩
      | exact ⟨fun e => (by cases e), rowsRn h⟩
      | exact h.elim
  | halt x w' => cases x <;> simp only [Oper.upon, Oper.uponIn] at h ⊢ <;> exact h
theorem wpOpRn {i : Nat} {K : Act → World → Prop} {a : Act} {w : World} (hd : ops.all noDefer = true) (hL : ¬ LetsOut Q) (h : wpOp P ops Q i K a w) : wpOpIn (Rn l) n P ops Q i K a w := by
  unfold wpOp at h
  unfold wpOpIn
  cases ho : ops[i]? with
  | none => simp only [ho] at h ⊢; exact h
  | some o =>
    simp only [ho] at h ⊢
    have hnd := noDefer_spec (Array.all_eq_true_iff_forall_mem.1 hd o (Array.mem_of_getElem? ho))
    split
    · rename_i hw
      simp only [hw, if_true] at h
      rcases h with h | h
      · refine ⟨fun _ _ => trivial, ?_⟩
        rw [Oper.semAt_eq _ _ _ hnd]
        exact uponRn h
      · exact absurd h.2 hL
    · rename_i hw
      simp only [hw] at h
      exact ⟨fun _ _ => trivial, h⟩
theorem wpAnyRn {md : Region.Mode} (hd : ops.all noDefer = true) (hL : ¬ LetsOut Q) : ∀ (fuel : Nat) (listed : Array Bool) (a : Act) (w : World), wpAny P md ops Q fuel listed a w → wpAnyIn (Rn l) n P md ops Q fuel listed a w
  | 0, _, _, _, h => h
  | fuel + 1, listed, a, w, h => ⟨h.1, fun i hi => wpOpIn_mono (fun a w h => wpAnyRn hd hL fuel _ a w h) (wpOpRn hd hL (h.2 i hi))⟩
theorem wpOpsRn (hd : ops.all noDefer = true) (hL : ¬ LetsOut Q) : ∀ (is : List Nat) (a : Act) (w : World), wpOps P ops Q is a w → wpOpsIn (Rn l) n P ops Q is a w
  | [], _, _, h => h
  | i :: is, a, w, h => by
    rw [wpOps_cons] at h
    rw [wpOpsIn_cons]
    exact wpOpIn_mono (fun a w h => wpOpsRn hd hL is a w h) (wpOpRn hd hL h)
/-- A region in a round, walked as outside. -/
theorem regionRn {id : Nat} {a : Act} {w : World} (hd : ops.all noDefer = true) (hL : ¬ LetsOut Q) (h : wpList P ops Q ops.toList a w) : (Code.region id ops false).wpIn (Rn l) n P Q a w := by
  refine wpIn_region (wpOpsRn hd hL _ a w ?_)
  have := wpOps_eq_wpList (P := P) (ops := ops) (Q := Q) ops.toList 0 (fun j => by simp)
  rw [List.range_eq_range']
  simpa using (congrFun (congrFun this a) w).mpr h
theorem regionRnD {id : Nat} {a : Act} {w : World} {S : World → Prop} (late : List Nat) (hd : ops.all noDefer = true) (hL : ¬ LetsOut Q) (hm : P.follows .mixedOrders = true)
    (h : wpL P .any ops Q S late ops.size (Array.replicate ops.size false) a w.drew) : (Code.region id ops true).wpIn (Rn l) n P Q a w :=
  wpIn_region_any hm (wpAnyRn hd hL _ _ _ _ (wpL.any _ _ _ _ h))
end

/-- A loop's record. -/
def recL (fn : FuncId) (tmps : Array Value) (ps : Array Tmp) (assign body : Code) (D : Nat) (st : LoopState) (pe : Option Code) : Loop := { state := st, pending := pe, fn, tmps, params := ps, assign, body, defers := D }
section
variable {P : Program} {X : Nat → Prop} {w0 w : World} {l l' : List Ch}
/-- 'for .. := range g': the record is laid, g is called; what a round has left pending is taken up. -/
theorem wp_rangeH {g : Operand} {ps : Array Tmp} {assign body : Code} {Q : Exit → Act → World → Prop} {a : Act} {gf : Nat} {lb : Array Value} (H : Hp X w0 w l) (hg : a.eval g = .func (.func gf) #[] lb) (eg : ∀ args w, (callFunc gf args).run P w = .ok (.enter gf args) w)
    (h : ∀ fn D L rc w1, D ≠ L → rc = recL fn a.tmps ps assign body D → Hp X w0 w1 (.obj L (.loop (rc .ready none)) :: .obj D (.deferred (some [])) :: l) →
      CallsIn Fence.wide 0 P gf (#[.func (.yield L) #[] #[]] ++ lb) w1 fun e w3 => ∃ v, e = .returned v ∧ ∃ st pe l', st ≠ .busy ∧ Hp X w0 w3 (.obj L (.loop (rc st pe)) :: l') ∧
        ∀ w4, Hp X w0 w4 l' → match pe with
          | none => Q .normal { a with defers := { target := .collected D, args := #[] } :: a.defers } w4
          | some c => c.wp P Q { a with defers := { target := .collected D, args := #[] } :: a.defers } w4) :
    (Code.rangeFunc g ps assign body).wp P Q a w := by
  refine (wpIn_wide (n := 0)).1 (wpIn_rangeFunc ?_)
  intro fn _
  have H1 := (H.allocObj (.deferred (some []))).allocObj (.loop (recL fn a.tmps ps assign body w.heap.size .ready none))
  rw [World.size_alloc] at H1
  obtain ⟨W1, hW1⟩ : ∃ W1, (w.alloc (.deferred (some []))).alloc (.loop (recL fn a.tmps ps assign body w.heap.size .ready none)) = W1 := ⟨_, rfl⟩
  rw [hW1] at H1
  refine ⟨w.heap.size + 1, [{ target := .collected w.heap.size, args := #[] }], W1, { target := .fn (.func gf) lb, args := #[.func (.yield (w.heap.size + 1)) #[] #[]] }, W1, gf,
    #[.func (.yield (w.heap.size + 1)) #[] #[]] ++ lb, W1, ?_, ?_, fun _ _ => trivial, ?_, fun e => (by cases e), ?_⟩
  · rw [← hW1]; exact run_enterLoop_outer _ _ _ _ _
  · simp only [resolve, hg]
    simp [go_sem]
  · simp [invoke, go_sem, eg]
  · refine (h fn w.heap.size (w.heap.size + 1) _ _ (by omega) rfl H1).mono ?_
    rintro e w3 ⟨v, rfl, st, pe, l', hst, H3, hQ⟩
    have ho := H3.objAt .head
    refine ⟨pe, _, run_endLoop ho hst, ?_⟩
    have H4 := (H3.putObj (w1 := w3.putObj (w.heap.size + 1) (.loop { recL fn a.tmps ps assign body w.heap.size st pe with state := .exhausted })) .head rfl rfl rfl rfl).tl
    have := hQ _ H4
    cases pe with
    | none => exact this
    | some c => exact wpIn_wide.2 this
/-- A round. -/
theorem roundH {fn L D : Nat} {tmps : Array Value} {ps : Array Tmp} {assign body : Code} {xs : Array Value} {R : Ending → World → Prop} {rc : LoopState → Option Code → Loop} (hrc : rc = recL fn tmps ps assign body D) (H : Hp X w0 w (.obj L (.loop (rc .ready none)) :: l)) (hs : xs.size = ps.size)
    (h : assign.wpIn (Rn L) 0 P (Exit.then (fun a1 w1 => ∃ l1, Hp X w0 w1 (.obj L (.loop (rc .ready none)) :: l1) ∧ ∀ w2, Hp X w0 w2 (.obj L (.loop (rc .busy none)) :: l1) → body.wpIn (Rn L) 0 P (roundPost P L R) a1 w2) (fun _ _ _ => False))
      { tmps := (ps.zip xs).foldl (fun t (p, v) => t.setIfInBounds p v) tmps, defers := [] } w) : YieldAt Fence.wide 0 P L xs w R := by
  subst hrc
  have hy := run_yield (P := P) (args := xs) (H.objAt .head) hs
  refine ⟨fn, _, assign, body, hy, roundIn_of_wpIn trivial (wpIn_mono h ?_)⟩
  rintro e a1 w1 hq
  cases e with
  | normal =>
    obtain ⟨l1, H1, hb⟩ := hq
    exact ⟨_, run_beginRound (H1.objAt .head) rfl, hb _ (H1.putObj .head rfl rfl rfl rfl)⟩
  | _ => exact hq
theorem roundEnd {fn L D : Nat} {tmps : Array Value} {ps : Array Tmp} {assign body : Code} {R : Ending → World → Prop} {l1 : List Ch} {rc : LoopState → Option Code → Loop} (hrc : rc = recL fn tmps ps assign body D) (jump : Option Code) (H : Hp X w0 w l1) (p : Pick l1 (.obj L (.loop (rc .busy none))) l)
    (h : ∀ w', Hp X w0 w' (.obj L (.loop (rc (if jump.isNone then .ready else .done) jump)) :: l) → R (.returned (.bool jump.isNone)) w') : ∃ v w', (Instr.endRound L jump).run P w = .ok v w' ∧ R (.returned v) w' := by
  subst hrc
  exact ⟨_, _, run_endRound jump ((H.pick p).objAt .head), h _ ((H.pick p).putObj .head rfl rfl rfl rfl)⟩
theorem roundNext {fn L D : Nat} {tmps : Array Value} {ps : Array Tmp} {assign body : Code} {R : Ending → World → Prop} {l1 : List Ch} {a : Act} {rc : LoopState → Option Code → Loop} (hrc : rc = recL fn tmps ps assign body D) (H : Hp X w0 w l1) (p : Pick l1 (.obj L (.loop (rc .busy none))) l)
    (h : ∀ w', Hp X w0 w' (.obj L (.loop (rc .ready none)) :: l) → R (.returned (.bool true)) w') : roundPost P L R .normal a w := roundEnd hrc none H p h
theorem roundRet {fn L D : Nat} {tmps : Array Value} {ps : Array Tmp} {assign body : Code} {R : Ending → World → Prop} {l1 : List Ch} {a : Act} {rc : LoopState → Option Code → Loop} (hrc : rc = recL fn tmps ps assign body D) (H : Hp X w0 w l1) (p : Pick l1 (.obj L (.loop (rc .busy none))) l)
    (h : ∀ w', Hp X w0 w' (.obj L (.loop (rc .done (some .ret))) :: l) → R (.returned (.bool false)) w') : roundPost P L R .ret a w := roundEnd hrc (some .ret) H p h
theorem no_lets {L : Nat} {R : Ending → World → Prop} : ¬ LetsOut (roundPost P L R) := fun ⟨_, _, h⟩ => h
theorem no_letsThen {K : Act → World → Prop} {Q : Exit → Act → World → Prop} (h : ¬ LetsOut Q) : ¬ LetsOut (Exit.then K Q) := fun ⟨a, w, hq⟩ => h ⟨a, w, hq⟩
/-- A function that holds a range over a function: entered. -/
theorem enterM {f : FuncId} {fn : Func} {c : Code} {args : Array Value} {R : Ending → World → Prop} (hf : P.funcs[f]? = some fn) (hb : fn.body = some c)
    (h : c.wp P (bodyPostM Fence.wide 0 P fn R) { tmps := args ++ Array.replicate (fn.ntmps - args.size) undef, defers := [] } w) : Calls P f args w R :=
  callsIn_wide.1 (callsIn_of_wp_marks hf hb trivial (wpIn_wide.2 h))
/-- .. left. -/
theorem leaveM {fn : Func} {tmps : Array Value} {D : Nat} {R : Ending → World → Prop} {v : Value} (H : Hp X w0 w l) (p : Pick l (.obj D (.deferred (some []))) l')
    (h : ∀ w', Hp X w0 w' l' → (results fn tmps).run P w' = .ok v w' ∧ R (.returned v) w') : bodyPostM Fence.wide 0 P fn R .ret { tmps, defers := [{ target := .collected D, args := #[] }] } w :=
  ⟨by simp, .inl ⟨D, _, rfl, run_takeDeferred ((H.pick p).objAt .head), ⟨v, h _ (Hp.putObj (o' := .deferred none) (w1 := w.putObj D (.deferred none)) (H.pick p) .head rfl rfl rfl rfl).tl⟩⟩⟩
end
end Go.Proofs.YtgbokmphbimihaaDoor
/- slices.Backward over terms: its closure, whatever the loop's body keeps. No statement of the seat is proved here. -/
namespace Go.Proofs.YtgbokmphbimihaaDoor
set_option linter.unusedSimpArgs false
set_option linter.unusedVariables false
open Go.RowKit
attribute [local go_sem] Oper.semAt_some

set_option maxRecDepth 100000 in
set_option maxHeartbeats 2000000 in
theorem backward1 {L bs n c : Nat} {A : Option Addr} {k0 k1 k2 : Nat → Int} {v3 v4 : Nat → Value} (hn : n ≤ 4294967296) (J : Nat → World → Prop)
    (hrd : ∀ k W, J k W → W.cell? ⟨bs, 0, none⟩ = some (.slice A n c) ∧ ∀ j, j < n → ∃ b o, A = some ⟨b, o, none⟩ ∧ W.cell? ⟨b, o + j * 5, none⟩ = some (.int .i64 (k0 j)) ∧ W.cell? ⟨b, o + j * 5 + 1, none⟩ = some (.int .i64 (k1 j)) ∧ W.cell? ⟨b, o + j * 5 + 2, none⟩ = some (.int .i64 (k2 j)) ∧ W.cell? ⟨b, o + j * 5 + 3, none⟩ = some (v3 j) ∧ W.cell? ⟨b, o + j * 5 + 4, none⟩ = some (v4 j))
    (hY : ∀ j W, j < n → J (j + 1) W → YieldAt Fence.wide 0 Tryd.prog L #[.int .i64 j, .agg #[.int .i64 (k0 j), .int .i64 (k1 j), .int .i64 (k2 j), v3 j, v4 j]] W fun e W' => e = .returned (.bool true) ∧ J j W')
    {W : World} (h0 : J n W) : CallsIn Fence.wide 0 Tryd.prog 184 #[.func (.yield L) #[] #[], .pointer (some ⟨bs, 0, none⟩)] W fun e W' => (∃ v, e = .returned v) ∧ J 0 W' := by
  have hb0 := (hrd _ _ h0).1
  refine callsIn_of_wp Tryd.func184 rfl trivial ?_
  simp only [Tryd.ntmps184, List.size_toArray, List.length_cons, List.length_nil, Nat.reduceAdd, Nat.reduceSub, Array.replicate_succ, Array.replicate_zero, List.push_toArray, List.append_toArray, List.nil_append, List.cons_append]
  gi_wp2
  gi_loopw [3] (fun i wr => ∃ k : Nat, k ≤ n ∧ i = .int .i64 ((k : Int) - 1) ∧ J k wr) (fun i _ => (intOf i + 1).toNat)
  case atStart => exact ⟨n, Nat.le_refl _, rfl, h0⟩
  case round =>
    clear h0 hb0
    obtain ⟨k, hk, rfl, hJ⟩ := hrel
    rcases k with _ | k
    · gi_wp2
      go_end0
      exact ⟨⟨_, rfl⟩, hJ⟩
    · obtain ⟨hb, hc⟩ := hrd _ _ hJ
      obtain ⟨b, o, rfl, p0, p1, p2, p3, p4⟩ := hc k (by omega)
      obtain ⟨fn, tmps, assign, body, hy, hR⟩ := hY k wr (by omega) hJ
      clear hrd hY hc
      have e : ((k + 1 : Nat) : Int) - 1 = (k : Int) := by omega
      rw [e]
      clear e
      gi_wp2
      refine ⟨rfl, hR.mono ?_⟩
      rintro e W3 ⟨rfl, hJ3⟩
      gi_wp2
      go_roundw
      case rel => exact ⟨k, by omega, rfl, hJ3⟩
      case measure => simp [intOf]
/-- A call hands back a term of its own, and leaves the rest. -/
def PTmH (X : Nat → Prop) (w0 : World) (l : List Ch) (t : Tm) (e : Ending) (w' : World) : Prop := ∃ A c K k, e = .returned (.agg #[.int .i64 t.k, .int .i64 t.n, .int .i64 t.a, .slice A t.ls.length c, .slice K t.ks.length k]) ∧
  Hp X w0 w' (.dat t.d [.int .i64 t.k, .int .i64 t.n, .int .i64 t.a, .slice A t.ls.length c, .slice K t.ks.length k] :: l)
set_option maxRecDepth 100000 in
set_option maxHeartbeats 1000000 in
theorem backward_calls {X : Nat → Prop} {w0 w : World} {l : List Ch} {A : Option Addr} {n c : Nat} (H : Hp X w0 w l) :
    Calls Tryd.prog 137 #[.slice A n c] w fun e w' => ∃ g, e = .returned (.func (.func 184) #[] #[.pointer (some ⟨g, 0, none⟩)]) ∧ Hp X w0 w' (.box g 24 [.slice A n c] :: l) := by
  have hmf : ∀ (fn : Fn) (first cap : Array Value) (w : World), (Instr.makeFunc fn first cap).run Tryd.prog w = .ok (.func fn first cap) w := fun _ _ _ _ => rfl
  go_enter Tryd.func137, Tryd.ntmps137
  go_wp2_with fail
  go_ret
  exact ⟨_, rfl, H.alloc [.slice A n c] _⟩
/-- A row laid above a term, below nodes of a kind. -/
def aboveT (k : Int) : List Tm → Tm → Tm
  | [], b => b
  | a :: r, b => .mk k 0 0 [] [a, aboveT k r b]
theorem aboveT_drop {k : Int} {ts : List Tm} {b : Tm} {j : Nat} (h : j < ts.length) : aboveT k (ts.drop j) b = .mk k 0 0 [] [ts[j], aboveT k (ts.drop (j + 1)) b] := by
  rw [List.drop_eq_getElem_cons h, aboveT]
/-- The cells of a row of terms. -/
theorem RCs.tms {w : World} {S : Nat → Prop} {ts : List Tm} {es : List Value} (h : RCs w S (ts.map Tm.d) es) : ∃ (A3 A4 : Nat → Option Addr) (c3 c4 : Nat → Nat), ∀ j (hj : j < ts.length), es[j * 5]? = some (.int .i64 ts[j].k) ∧ es[j * 5 + 1]? = some (.int .i64 ts[j].n) ∧ es[j * 5 + 2]? = some (.int .i64 ts[j].a) ∧ es[j * 5 + 3]? = some (.slice (A3 j) ts[j].ls.length (c3 j)) ∧ es[j * 5 + 4]? = some (.slice (A4 j) ts[j].ks.length (c4 j)) := by
  have key : ∀ j, ∃ (A3 A4 : Option Addr) (c3 c4 : Nat), ∀ hj : j < ts.length, es[j * 5]? = some (.int .i64 ts[j].k) ∧ es[j * 5 + 1]? = some (.int .i64 ts[j].n) ∧ es[j * 5 + 2]? = some (.int .i64 ts[j].a) ∧ es[j * 5 + 3]? = some (.slice A3 ts[j].ls.length c3) ∧ es[j * 5 + 4]? = some (.slice A4 ts[j].ks.length c4) := by
    intro j
    by_cases hj : j < ts.length
    · obtain ⟨cs, g1, g2, g3⟩ := h.get (z := 5) (fun d hd => by obtain ⟨t, _, rfl⟩ := List.mem_map.1 hd; exact Tm.size_d t) (i := j) (d := ts[j].d) (by simp [hj])
      obtain ⟨A1, c1, K1, k1, rfl, _⟩ := RC.tm.1 g1
      exact ⟨A1, K1, c1, k1, fun _ => ⟨g3 0 _ rfl, g3 1 _ rfl, g3 2 _ rfl, g3 3 _ rfl, g3 4 _ rfl⟩⟩
    · exact ⟨none, none, 0, 0, fun h => absurd h hj⟩
  exact ⟨fun j => (key j).choose, fun j => (key j).choose_spec.choose, fun j => (key j).choose_spec.choose_spec.choose, fun j => (key j).choose_spec.choose_spec.choose_spec.choose, fun j => (key j).choose_spec.choose_spec.choose_spec.choose_spec⟩
theorem take5 {es c1 c2 : List Value} {j : Nat} {u0 u1 u2 u3 u4 : Value} (h : es.take ((j + 1) * 5) = c1 ++ c2) (h1 : c1.length = j * 5) (h2 : c2.length = 5) (q : es[j * 5]? = some u0 ∧ es[j * 5 + 1]? = some u1 ∧ es[j * 5 + 2]? = some u2 ∧ es[j * 5 + 3]? = some u3 ∧ es[j * 5 + 4]? = some u4) : c1 = es.take (j * 5) ∧ c2 = [u0, u1, u2, u3, u4] := by
  have e1 : c1 = es.take (j * 5) := by
    have := congrArg (List.take (j * 5)) h
    rw [List.take_take, List.take_append_of_le_length (by omega), ← h1, List.take_length] at this
    rw [← this, h1]
    congr 1
    omega
  refine ⟨e1, ?_⟩
  have g : ∀ i, i < 5 → c2[i]? = es[j * 5 + i]? := fun i hi => by
    have := congrArg (fun l => l[j * 5 + i]?) h
    simp only [List.getElem?_take] at this
    rw [if_pos (by omega), List.getElem?_append_right (by omega)] at this
    rw [this]
    congr 1
    omega
  match c2, h2 with
  | [a0, a1, a2, a3, a4], _ =>
    have g0 := g 0 (by omega); have g1 := g 1 (by omega); have g2 := g 2 (by omega); have g3 := g 3 (by omega); have g4 := g 4 (by omega)
    rw [Nat.add_zero, q.1] at g0
    rw [q.2.1] at g1; rw [q.2.2.1] at g2; rw [q.2.2.2.1] at g3; rw [q.2.2.2.2] at g4
    simp only [List.getElem?_cons_zero, List.getElem?_cons_succ, Option.some.injEq] at g0 g1 g2 g3 g4
    rw [g0, g1, g2, g3, g4]
theorem sizes_tms (ts : List Tm) : D.sizes (ts.map Tm.d) = ts.length * 5 := by
  rw [D.sizes_eq (z := 5) (fun d hd => by obtain ⟨t, _, rfl⟩ := List.mem_map.1 hd; exact Tm.size_d t), List.length_map]
section
variable {X : Nat → Prop} {w0 w : World} {l l1 l2 : List Ch}
/-- The last of some terms, taken away. -/
theorem Hp.lastTm {ts : List Tm} {es : List Value} {j : Nat} {u0 u1 u2 u3 u4 : Value} (H : Hp X w0 w l) (p : Pick l (.dat (.s ((ts.take (j + 1)).map Tm.d)) (es.take ((j + 1) * 5))) l1) (hj : j < ts.length)
    (q : es[j * 5]? = some u0 ∧ es[j * 5 + 1]? = some u1 ∧ es[j * 5 + 2]? = some u2 ∧ es[j * 5 + 3]? = some u3 ∧ es[j * 5 + 4]? = some u4) :
    Hp X w0 w (.dat (.s ((ts.take j).map Tm.d)) (es.take (j * 5)) :: .dat ts[j].d [u0, u1, u2, u3, u4] :: l1) := by
  have H1 := H.pick p
  rw [take_map Tm.d hj] at H1
  obtain ⟨c1, c2, he, hl1, hl2, H2⟩ := H1.cut .head
  rw [sizes_tms, List.length_take] at hl1
  obtain ⟨rfl, rfl⟩ := take5 he (by rw [hl1]; congr 1; omega) (by rw [hl2]; simp [D.sizes, Tm.size_d]) q
  exact (H2.unone (.tail .head)).swap
/-- A node of two kids, out of a box. -/
theorem Hp.node2 {k : Int} {a b : Tm} {g : Nat} {a0 a1 a2 a3 a4 b0 b1 b2 b3 b4 : Value} {l3 : List Ch} (H : Hp no w0 w l) (p0 : Pick l (.box g 26 [a0, a1, a2, a3, a4, b0, b1, b2, b3, b4]) l1) (pa : Pick l1 (.dat a.d [a0, a1, a2, a3, a4]) l2) (pb : Pick l2 (.dat b.d [b0, b1, b2, b3, b4]) l3) (hk : inI k) :
    Hp no w0 w (.dat (Tm.mk k 0 0 [] [a, b]).d [.int .i64 k, .int .i64 0, .int .i64 0, .slice none 0 0, .slice (some ⟨g, 0, none⟩) 2 2] :: l3) := by
  have H1 := (((H.pick p0).pick (.tail pa)).one1 .head)
  have H2 := (H1.pick (.tail (.tail pb))).one1 .head
  have H3 := H2.join (.tail .head) .head
  have H4 := H3.boxrow (n := 2) (z := 5) (.tail .head) .head rfl (by simp [Tm.size_d]) (by unfold M; omega)
  have H5 := H4.nil 33 1
  exact Hp.tm (ls := []) (ks := [a, b]) H5 .head .head hk (by unfold inI; omega) (by unfold inI; omega)
end
end Go.Proofs.YtgbokmphbimihaaDoor
