/- split: tried: what is thrown is caught: contract. No statement of the seat is proved here. -/
import Derived.Test.YtgbokmphbimihaaDoorSplit4
import Derived.Recover
import Derived.Test.YtgbokmphbimihaaDoorMgAbove
import Derived.Test.YtgbokmphbimihaaDoorMgWalkG
namespace Go.Proofs.YtgbokmphbimihaaDoor
set_option linter.unusedSimpArgs false
set_option linter.unusedVariables false
open Go.RowKit

set_option maxRecDepth 100000 in
set_option maxHeartbeats 2000000 in
theorem tried1_panicking {w0 w : World} {l : List Ch} {bo : Nat} {k : Int} (H : Hp no w0 w (.box bo 62 [.int .i64 0] :: l)) :
    CallsD Tryd.prog 139 #[.pointer (some ⟨bo, 0, none⟩)] (.panicking (errP k)) w fun e u' w' =>
      e = .returned (.tuple #[]) ∧ u' = .panicking [{ v := .iface 62 (.int .i64 k), recovered := true }] ∧ Hp no w0 w' (.box bo 62 [.int .i64 k] :: l) := by
  refine callsD_of_wpS Tryd.func139 rfl fun c₀ cs hu => ?_
  have hta : ∀ w, (Instr.typeAssert (.iface 62 (.int .i64 k)) 20 62 true).run Tryd.prog w = .ok (.tuple #[.int .i64 k, .bool true]) w := fun w => run_assert_same Tryd.underlying62 rfl w
  simp only [Tryd.ntmps139, List.size_toArray, List.length_cons, List.length_nil, Nat.reduceAdd, Nat.reduceSub, Array.replicate_succ, Array.replicate_zero, List.push_toArray, List.append_toArray, List.nil_append, List.cons_append]
  apply wpS_seq
  apply wpS_region
  simp [wpOpsS, go_sem, recoverD, hu, errP, Exit.thenS]
  refine wpS_of_wp ?_
  have hr_ := H.rules; simp only [Rules, and_true] at hr_; have hd_ := H.dif; simp only [Dif, Neq, and_true] at hd_; obtain ⟨ho_, hz_⟩ := H.old0
  go_wp2_with fail
  (try clear hr_ hd_ ho_ hz_)
  have H := H.set (g := bo) (t := 62) (i := 0) (cs := [.int .i64 0]) (v := .int .i64 k) .head
  simp only [List.set_cons_zero] at H
  have HH := Lib.hid H
  clear H hta
  cases c₀
  simp_all [bodyPostS, results, Tryd.results139]
  exact HH.out
set_option maxRecDepth 100000 in
set_option maxHeartbeats 1000000 in
theorem tried1_idle {bo : Nat} {w : World} :
    CallsD Tryd.prog 139 #[.pointer (some ⟨bo, 0, none⟩)] .returning w fun e u' w' => e = .returned (.tuple #[]) ∧ u' = .returning ∧ w' = w := by
  refine callsD_of_wpS Tryd.func139 rfl fun c₀ cs hu => ?_
  simp only [Tryd.ntmps139, List.size_toArray, List.length_cons, List.length_nil, Nat.reduceAdd, Nat.reduceSub, Array.replicate_succ, Array.replicate_zero, List.push_toArray, List.append_toArray, List.nil_append, List.cons_append]
  apply wpS_seq
  apply wpS_region
  simp [wpOpsS, go_sem, recoverD, hu, Exit.thenS]
  refine wpS_of_wp ?_
  go_wp2_with fail
  cases c₀
  simp_all [bodyPostS, results, Tryd.results139]
set_option maxRecDepth 100000 in
set_option maxHeartbeats 2000000 in
/-- tried: the error with which something ends. -/
theorem tried_calls {w0 w : World} {l : List Ch} {F : FuncId} {caps : Array Value} {r : Option Int} {J : List Ch → Prop} (eg : ∀ args w, (callFunc F args).run Tryd.prog w = .ok (.enter F args) w) (H : Hp no w0 w l)
    (hf : ∀ b w', Hp no w0 w' (.box b 62 [.int .i64 0] :: l) → Calls Tryd.prog F caps w' fun e w2 => e = (match r with | none => .returned (.tuple #[]) | some k => .panicked (errP k)) ∧ ∃ l2, J l2 ∧ Hp no w0 w2 (.box b 62 [.int .i64 0] :: l2)) :
    Calls Tryd.prog 85 #[.func (.func F) #[] caps] w fun e w2 => e = .returned (.int .i64 (r.getD 0)) ∧ ∃ l2, J l2 ∧ Hp no w0 w2 l2 := by
  have HF := Lib.hid hf
  clear hf
  have hmf : ∀ (fn : Fn) (first cap : Array Value) (w : World), (Instr.makeFunc fn first cap).run Tryd.prog w = .ok (.func fn first cap) w := fun _ _ _ _ => rfl
  go_enter_defers Tryd.func85, Tryd.ntmps85
  go_wp2_with fail
  refine callsH (by (repeat (first | with_reducible exact H | with_reducible exact H0_ | with_reducible apply Hp.alloc | with_reducible apply Hp.allocMap | with_reducible apply Hp.drew | with_reducible apply Hp.drewN | with_reducible apply Hp.set)); (try any_goals (repeat (first | with_reducible exact Upd.head | with_reducible apply Upd.tail)))) ?_
  clear H; intro w1 H; (try simp only [size_drew_, size_drewN_, World.size_alloc, World.size_setCell, List.set_cons_zero, List.set_cons_succ] at H)
  refine (HF.out w.heap.size w1 H).mono ?_
  rintro e w2 ⟨he, l2, hJ, H2⟩
  clear H
  have H := H2
  clear H2
  cases r with
  | some k =>
    dsimp only at he
    obtain rfl := he
    refine leaves_cons (f := 139) (args := #[.pointer (some ⟨w.heap.size, 0, none⟩)]) (by simp) (by simp [go_sem]) ?_
    refine (tried1_panicking H).mono ?_
    rintro e u' w'' ⟨rfl, rfl, H3⟩
    clear H
    have H := H3
    clear H3
    have hr_ := H.rules
    simp only [Rules, and_true] at hr_
    have HH := Lib.hid H
    clear H
    simp [Leaves, settle, results, Tryd.results85, go_sem, hr_]
    exact ⟨l2, hJ, HH.out.tl⟩
  | none =>
    dsimp only at he
    obtain rfl := he
    have HJ := Lib.hid hJ
    clear hJ
    have hr_ := H.rules; simp only [Rules, and_true] at hr_; have hd_ := H.dif; simp only [Dif, Neq, and_true] at hd_; obtain ⟨ho_, hz_⟩ := H.old0
    go_wp2_with fail
    clear hr_ hd_ ho_ hz_
    have H := H.set (g := w.heap.size) (t := 62) (i := 0) (cs := [.int .i64 0]) (v := .int .i64 0) .head
    simp only [List.set_cons_zero] at H
    refine leaves_cons (f := 139) (args := #[.pointer (some ⟨w.heap.size, 0, none⟩)]) (by simp) (by simp [go_sem]) ?_
    refine tried1_idle.mono ?_
    rintro e u' w'' ⟨rfl, rfl, rfl⟩
    have hr_ := H.rules
    simp only [Rules, and_true] at hr_
    have HH := Lib.hid H
    clear H
    simp [Leaves, settle, results, Tryd.results85, go_sem, hr_]
    exact ⟨l2, HJ.out, HH.out.tl⟩
end Go.Proofs.YtgbokmphbimihaaDoor
/- split: Rules: contract. No statement of the seat is proved here. -/
namespace Go.Proofs.YtgbokmphbimihaaDoor
set_option linter.unusedSimpArgs false
set_option linter.unusedVariables false
open Go.RowKit

/-- Constructors read, the first error. -/
def ctorsQ (ms : List Mb) : List Ct → Except Int (List Ru)
  | [] => .ok []
  | t :: ts => match readQ ms t with
    | .error c => .error c
    | .ok a => (ctorsQ ms ts).map (a :: ·)
/-- What Rules tells. -/
def rulesQ (d : Dc) : Except Int (List Ru) := if d.kind = 3 then ctorsQ d.members d.ctors else .error 2
theorem ctorsQ_drop {ms : List Mb} {ts : List Ct} {j : Nat} (h : j < ts.length) : ctorsQ ms (ts.drop j) = match readQ ms ts[j] with
    | .error c => .error c
    | .ok a => (ctorsQ ms (ts.drop (j + 1))).map (a :: ·) := by
  rw [List.drop_eq_getElem_cons h, ctorsQ]
theorem mapR_step {r : Except Int (List Ru)} {got : List Ru} {a : Ru} : (r.map (a :: ·)).map (got ++ ·) = r.map ((got ++ [a]) ++ ·) := by
  cases r <;> simp [Except.map]
theorem mapR_none (r : Except Int (List Ru)) : r = r.map ([] ++ ·) := by
  cases r <;> simp [Except.map]
/-- A declaration's constructors are no greater than so many nodes. -/
def CtsOK (cs : List Ct) : Prop := ∀ c ∈ cs, sizeT c.ty ≤ 4000000
theorem aggCt2 : AggT Tryd.prog 40 6 := ⟨_, Tryd.underlying40, rfl, by kernel_rfl⟩
theorem RC.ct6 {w : World} {S : Nat → Prop} {x : Ct} {A1 K1 : Option Addr} {c1 k1 : Nat} (h : RC w S x.d [.int .i64 x.member, .int .i64 x.ty.k, .int .i64 x.ty.n, .int .i64 x.ty.a, .slice A1 x.ty.ls.length c1, .slice K1 x.ty.ks.length k1]) : True := trivial
/-- What the closure of Rules does. -/
def PRules1 (w0 : World) (l : List Ch) (gr : Nat) (r : Except Int (List Ru)) (e : Ending) (w' : World) : Prop := match r with
  | .ok us => e = .returned (.tuple #[]) ∧ ∃ A c, Hp no w0 w' (.box gr 61 [.slice A us.length c] :: .dat (.l 68 3 (us.map Ru.d)) [.slice A us.length c] :: l)
  | .error k => e = .panicked (errP k) ∧ ∃ A n c, Hp no w0 w' (.box gr 61 [.slice A n c] :: l)
set_option maxRecDepth 100000 in
set_option maxHeartbeats 8000000 in
theorem rules1_calls {S : Nat → Prop} {d : Dc} {w0 w : World} {l : List Ch} {cs : List Value} {gd gr : Nat} (hT : Tab w0) (hd : RC w0 S d.d cs) (hb : CtsOK d.ctors)
    (H : Hp no w0 w (.box gr 61 [.slice none 0 0] :: .box gd 37 cs :: l)) :
    Calls Tryd.prog 86 #[.pointer (some ⟨gd, 0, none⟩), .pointer (some ⟨gr, 0, none⟩)] w (PRules1 w0 (.box gd 37 cs :: l) gr (ctorsQ d.members d.ctors)) := by
  have HD0 := Lib.hid hd
  obtain ⟨Aty, cty, Kty, kty, Abody, cbody, Kbody, kbody, Aparams, cparams, Asort, csort, Amembers, cmembers, Actors, cctors, rfl, _, _, _, _, _, _, hmem, hct⟩ := RC.dc.1 hd
  have hM := hct.lenM
  have hM2 := hmem.lenM
  have HT := Lib.hid hT
  have HMS := Lib.hid hmem
  have HB := Lib.hid hb
  obtain ⟨R, hR⟩ : ∃ R, R = ctorsQ d.members d.ctors := ⟨_, rfl⟩
  rw [← hR]
  have HR := Lib.hid hR
  clear hT hmem hb hR hd
  go_enter Tryd.func86, Tryd.ntmps86
  have hr_ := H.rules; simp only [Rules, and_true] at hr_; have hd_ := H.dif; simp only [Dif, Neq, and_true] at hd_; obtain ⟨ho_, hz_⟩ := H.old0
  go_wp2_with fail
  clear hr_ hd_ ho_ hz_
  have H := H.nil 68 3
  rw [show ([] : List D) = ([] : List Ru).map Ru.d from rfl] at H
  go_loopw [8] (fun i wr => ∃ (j : Nat) (got : List Ru) (A : Option Addr) (c : Nat), j ≤ d.ctors.length ∧ i = .int .i64 j ∧ Hid (ctorsQ d.members d.ctors = (ctorsQ d.members (d.ctors.drop j)).map (got ++ ·)) ∧ got.length = j ∧ Hp no w0 wr (.box gr 61 [.slice A j c] :: .dat (.l 68 3 (got.map Ru.d)) [.slice A j c] :: .box gd 37 [.int .i64 d.kind, .int .i64 d.levels, .int .i64 d.ty.k, .int .i64 d.ty.n, .int .i64 d.ty.a, .slice Aty d.ty.ls.length cty, .slice Kty d.ty.ks.length kty, .int .i64 d.body.k, .int .i64 d.body.n, .int .i64 d.body.a, .slice Abody d.body.ls.length cbody, .slice Kbody d.body.ks.length kbody, .slice Aparams d.params.length cparams, .slice Asort d.sort.length csort, .slice Amembers d.members.length cmembers, .slice Actors d.ctors.length cctors] :: l)) (fun i _ => d.ctors.length - (intOf i).toNat)
  case atStart => exact ⟨0, [], none, 0, Nat.zero_le _, rfl, Lib.hid (mapR_none _), rfl, (H.arr (by (repeat (first | with_reducible exact Arr.nil | refine Arr.cons (by (repeat (first | with_reducible exact Pick.head | with_reducible apply Pick.tail))) ?_)) <;> exact Arr.of_subl (by (repeat (first | with_reducible exact Subl.refl _ | with_reducible apply Subl.drop)))))⟩
  case round =>
    clear H
    obtain ⟨j, got, A, c, hj, rfl, HS, hgl, H⟩ := hrel
    by_cases hlt : j < d.ctors.length
    · obtain ⟨b_, o, A1, ca1, K1, ck1, rfl, hb1, hS, hcd, p0, p1, p2, p3, p4, p5⟩ := hct.atCt hlt
      have HCD := Lib.hid hcd
      have HAD := Lib.hid (ctorsQ_drop (ms := d.members) hlt)
      have HSZ := Lib.hid (HB.out _ (List.getElem_mem hlt))
      clear hcd
      generalize d.ctors[j] = ct at p0 p1 p2 p3 p4 p5 HCD HAD HSZ
      have hr_ := H.rules; simp only [Rules, and_true] at hr_; have hd_ := H.dif; simp only [Dif, Neq, and_true] at hd_; obtain ⟨ho_, hz_⟩ := H.old0
      go_wp2_with ((with_reducible refine atStore (t := 40) ?_); go_must (refine wpList_storeH (t := 40) rfl rfl (by go_simp <;> first | rfl | exact ⟨rfl, rfl⟩) (by go_simp <;> first | rfl | exact ⟨rfl, rfl⟩) (by exact Hp.norm (by (repeat (first | with_reducible exact H | with_reducible exact H0_ | with_reducible apply Hp.alloc | with_reducible apply Hp.allocMap | with_reducible apply Hp.drew | with_reducible apply Hp.drewN | with_reducible apply Hp.set)); (try any_goals (repeat (first | with_reducible exact Upd.head | with_reducible apply Upd.tail)))) (by ((try simp only [size_drew_, size_drewN_, World.size_alloc, World.size_setCell, List.set_cons_zero, List.set_cons_succ, List.nil_append, List.cons_append]) <;> rfl))) (by (repeat (first | with_reducible exact Upd.head | with_reducible apply Upd.tail))) (by exact aggCt2) (by rfl) (by simp [Value.oneCell']) ?_; clear H; intro w7 H; (try simp only [size_drew_, size_drewN_, World.size_alloc, World.size_setCell, List.set_cons_zero, List.set_cons_succ] at H); (try clear hr_ hd_ ho_ hz_); have hr_ := H.rules; simp only [Rules, and_true] at hr_; have hd_ := H.dif; simp only [Dif, Neq, and_true] at hd_; obtain ⟨ho_, hz_⟩ := H.old0))
      (try clear hr_ hd_ ho_ hz_)
      refine callsH (by (repeat (first | with_reducible exact H | with_reducible exact H0_ | with_reducible apply Hp.alloc | with_reducible apply Hp.allocMap | with_reducible apply Hp.drew | with_reducible apply Hp.drewN | with_reducible apply Hp.set)); (try any_goals (repeat (first | with_reducible exact Upd.head | with_reducible apply Upd.tail)))) ?_
      clear H; intro w8 H; (try simp only [size_drew_, size_drewN_, World.size_alloc, World.size_setCell, List.set_cons_zero, List.set_cons_succ] at H)
      obtain ⟨rr, hrr⟩ : ∃ rr, rr = readQ d.members ct := ⟨_, rfl⟩
      have hcall := read_calls (gw := w7.heap.size) HT.out HMS.out HCD.out HSZ.out H
      rw [← hrr] at hcall
      have HRR := Lib.hid hrr
      clear hrr
      refine hcall.mono ?_
      clear hcall
      cases rr with
      | error k =>
        rintro e_ w_ ⟨rfl, H2⟩
        have hz : R = .error k := by rw [HR.out, HS.out, HAD.out, ← HRR.out]; rfl
        exact ⟨rfl, by rw [hz]; exact ⟨rfl, _, _, _, (H2.arr (by (repeat (first | with_reducible exact Arr.nil | refine Arr.cons (by (repeat (first | with_reducible exact Pick.head | with_reducible apply Pick.tail))) ?_)) <;> exact Arr.of_subl (by (repeat (first | with_reducible exact Subl.refl _ | with_reducible apply Subl.drop)))))⟩⟩
      | ok u =>
        rintro e_ w_ ⟨rfl, v1, v2, H2⟩
        obtain ⟨B1, d1, B2, d2, he, -⟩ := RC.ru.1 (H2.rd (d := u.d) (cs := [.int .i64 u.member, v1, v2]) (.tail .head))
        simp only [List.cons.injEq, and_true, true_and] at he
        obtain ⟨rfl, rfl⟩ := he
        clear H
        have H := H2
        clear H2
        dsimp only
        have hr_ := H.rules; simp only [Rules, and_true] at hr_; have hd_ := H.dif; simp only [Dif, Neq, and_true] at hd_; obtain ⟨ho_, hz_⟩ := H.old0
        go_wp2_with fail
        (try clear hr_ hd_ ho_ hz_)
        refine regionH (by (repeat (first | with_reducible exact H | with_reducible exact H0_ | with_reducible apply Hp.alloc | with_reducible apply Hp.allocMap | with_reducible apply Hp.drew | with_reducible apply Hp.drewN | with_reducible apply Hp.set)); (try any_goals (repeat (first | with_reducible exact Upd.head | with_reducible apply Upd.tail)))) ?_
        clear H; intro w9 H; (try simp only [size_drew_, size_drewN_, World.size_alloc, World.size_setCell, List.set_cons_zero, List.set_cons_succ] at H)
        refine wp_region_H 8 [false, false, false, false, false, false, false, false] [7] H (.cons (i := 0) rfl (.cons (i := 3) rfl .nil)) (by kernel_rfl) rfl rfl (fun H_ hR_ => ?_)
        (try clear H0_); have H0_ := H; clear H; have H := H_; clear H_
        refine wpL_reads (is := [(0, ?v1_0), (1, ?v1_1), (2, ?v1_2), (3, ?v1_3), (4, ?v1_4)]) (by kernel_rfl) (Nat.le_of_ble_eq_true rfl) (by intro _ _ d_ _ _ h_; cases d_ <;> exact h_) (by kernel_rfl) hR_ (fun w_ hw_ => ?h1_) ?_
        case h1_ =>
          have ho_ := hw_.old0.1; have hz_ := hw_.old0.2; have hr_ := hw_.rules; clear hw_; simp only [Rules, and_true] at hr_; go_split_ands
          (repeat (first | with_reducible exact RdOps.nil | (refine RdOps.run rfl (by rfl) ?_ ?_; (focus (first | (go_simp; done) | (go_simp; with_reducible rfl))); simp only [List.getElem_toArray, List.getElem_cons_zero, List.getElem_cons_succ, Act.put, List.setIfInBounds_toArray, List.set_cons_zero, List.set_cons_succ]) | (refine RdOps.skip rfl (by rfl) ?_ ?_; (focus (with_reducible rfl)); simp only [List.getElem_toArray, List.getElem_cons_zero, List.getElem_cons_succ, Act.put, List.setIfInBounds_toArray, List.set_cons_zero, List.set_cons_succ])))
        simp only [rdMark, rdAct, List.map_cons, List.map_nil, List.length_cons, List.length_nil, Nat.reduceAdd, Nat.reduceSub, Nat.zero_add, List.getElem?_toArray, List.getElem?_cons_zero, List.getElem?_cons_succ, Option.bind_some, Act.put, List.setIfInBounds_toArray, List.set_cons_zero, List.set_cons_succ]
        refine wpL_do (i := 5) rfl (by kernel_rfl) (by rfl) (fun K_ hK_ => ?_)
        go_simp
        refine kontH (by (repeat (first | with_reducible exact H | with_reducible exact H0_ | with_reducible apply Hp.alloc | with_reducible apply Hp.allocMap | with_reducible apply Hp.drew | with_reducible apply Hp.drewN | with_reducible apply Hp.set)); (try any_goals (repeat (first | with_reducible exact Upd.head | with_reducible apply Upd.tail)))) ?_
        clear H; intro wb_ H; (try simp only [size_drew_, size_drewN_, World.size_alloc, World.size_setCell, List.set_cons_zero, List.set_cons_succ] at H)
        refine hK_ _ _ (fun _ => H.sub (by simp)) (fun hR_ => ?_)
        replace hR_ := hR_ (by decide)
        refine wpL_do (i := 6) rfl (by kernel_rfl) (by rfl) (fun K_ hK_ => ?_)
        refine wp_pushH (.tmp 19) (.tmp 24) 61 rfl stRus (by go_simp <;> first | rfl | exact ⟨rfl, rfl⟩) (by go_simp <;> first | rfl | exact ⟨rfl, rfl⟩) H (by (repeat (first | with_reducible exact Pick.head | with_reducible apply Pick.tail))) (by (repeat (first | with_reducible exact Pick.head | with_reducible apply Pick.tail))) (by (repeat (first | with_reducible exact Pick.head | with_reducible apply Pick.tail))) (Ru.size_d _) ?_ ?_
        focus (simp [M]; omega)
        clear H; intro v3 w11 H
        obtain ⟨A5, c6, rfl, _, _, _⟩ := H.slice (e := 68) (z := 3) (v := v3) (by (repeat (first | with_reducible exact Pick.head | with_reducible apply Pick.tail)))
        rw [show (got.map Ru.d ++ [u.d]).length = j + 1 by simp [hgl]] at H ⊢
        refine hK_ _ _ (fun _ => H.sub (by simp)) (fun hR_ => ?_)
        replace hR_ := hR_ (by decide)
        simp only [List.getElem_toArray, List.getElem_cons_zero, List.getElem_cons_succ, Act.put, List.setIfInBounds_toArray, List.set_cons_zero, List.set_cons_succ]
        refine wpL_do (i := 7) rfl (by kernel_rfl) (by rfl) (fun K_ hK_ => ?_)
        have hrs_ := H.rules
        simp only [Rules, and_true] at hrs_
        go_simp
        clear hrs_
        refine kontH (by (repeat (first | with_reducible exact H | with_reducible exact H0_ | with_reducible apply Hp.alloc | with_reducible apply Hp.allocMap | with_reducible apply Hp.drew | with_reducible apply Hp.drewN | with_reducible apply Hp.set)); (try any_goals (repeat (first | with_reducible exact Upd.head | with_reducible apply Upd.tail)))) ?_
        clear H; intro w12 H; (try simp only [size_drew_, size_drewN_, World.size_alloc, World.size_setCell, List.set_cons_zero, List.set_cons_succ] at H)
        refine hK_ _ _ (fun h => absurd (by decide) h) (fun _ => ?_)
        refine wpL_done (by kernel_rfl) ?_ _
        have HS2 : Hid (ctorsQ d.members d.ctors = (ctorsQ d.members (d.ctors.drop (j + 1))).map ((got ++ [u]) ++ ·)) := by
          unfold Hid
          rw [HS.out, HAD.out, ← HRR.out]
          exact mapR_step
        rw [show got.map Ru.d ++ [u.d] = (got ++ [u]).map Ru.d by simp] at H
        go_wp2_with fail
        go_roundw
        case rel => exact ⟨j + 1, got ++ [u], _, _, by omega, by first | go_num | rfl | simp, HS2, by simp [hgl], (H.arr (by (repeat (first | with_reducible exact Arr.nil | refine Arr.cons (by (repeat (first | with_reducible exact Pick.head | with_reducible apply Pick.tail))) ?_)) <;> exact Arr.of_subl (by (repeat (first | with_reducible exact Subl.refl _ | with_reducible apply Subl.drop)))))⟩
        case measure => simp [intOf]; omega
    · go_wp2_with fail
      go_end0
      have hz : R = .ok got := by rw [HR.out, HS.out, List.drop_eq_nil_of_le (by omega), ctorsQ]; simp [Except.map]
      rw [hz]
      subst hgl
      exact ⟨rfl, _, _, H⟩
/-- What Rules tells. -/
def PRules (w : World) (r : Except Int (List Ru)) (e : Ending) (w' : World) : Prop := match r with
  | .ok us => ∃ A c, e = .returned (.tuple #[.slice A us.length c, .int .i64 0]) ∧ Hp no w w' [.dat (.l 68 3 (us.map Ru.d)) [.slice A us.length c]]
  | .error k => e = .returned (.tuple #[.slice none 0 0, .int .i64 k]) ∧ Ext no w w' ∧ k ≠ 0
theorem argQ_err {ms : List Mb} {t : Tm} {k : Int} (h : argQ ms t = .error k) : k = 3 ∨ k = 16 ∨ k = 17 := by
  unfold argQ at h
  repeat' (split at h)
  all_goals (cases h <;> simp)
theorem argsQ_err {ms : List Mb} : ∀ {ts : List Tm} {k : Int}, argsQ ms ts = .error k → k = 3 ∨ k = 16 ∨ k = 17
  | [], k, h => by cases h
  | t :: ts, k, h => by
    rw [argsQ] at h
    cases ha : argQ ms t with
    | error c => rw [ha] at h; cases h; exact argQ_err ha
    | ok a =>
      rw [ha] at h
      cases hr : argsQ ms ts with
      | error c => rw [hr] at h; cases h; exact argsQ_err hr
      | ok r => rw [hr] at h; cases h
theorem readQ_err {ms : List Mb} {c : Ct} {k : Int} (h : readQ ms c = .error k) : k = 3 ∨ k = 16 ∨ k = 17 := by
  unfold readQ at h
  split at h
  · split at h
    · rename_i k' ha
      cases h
      exact argsQ_err ha
    · repeat' (split at h)
      all_goals (cases h <;> simp)
  · cases h; simp
theorem ctorsQ_err {ms : List Mb} : ∀ {ts : List Ct} {k : Int}, ctorsQ ms ts = .error k → k = 3 ∨ k = 16 ∨ k = 17
  | [], k, h => by cases h
  | t :: ts, k, h => by
    rw [ctorsQ] at h
    cases ha : readQ ms t with
    | error c => rw [ha] at h; cases h; exact readQ_err ha
    | ok a =>
      rw [ha] at h
      cases hr : ctorsQ ms ts with
      | error c => rw [hr] at h; cases h; exact ctorsQ_err hr
      | ok r => rw [hr] at h; cases h
set_option maxRecDepth 100000 in
set_option maxHeartbeats 8000000 in
theorem rules_calls {S : Nat → Prop} {d : Dc} {w : World} {cs : List Value} (hT : Tab w) (hd : RC w S d.d cs) (hb : CtsOK d.ctors) :
    Calls Tryd.prog 35 #[.agg cs.toArray] w (PRules w (rulesQ d)) := by
  have HD := Lib.hid hd
  obtain ⟨Aty, cty, Kty, kty, Abody, cbody, Kbody, kbody, Aparams, cparams, Asort, csort, Amembers, cmembers, Actors, cctors, rfl, _⟩ := RC.dc.1 hd
  have HT := Lib.hid hT
  have HB := Lib.hid hb
  have hmf : ∀ (fn : Fn) (first cap : Array Value) (w : World), (Instr.makeFunc fn first cap).run Tryd.prog w = .ok (.func fn first cap) w := fun _ _ _ _ => rfl
  obtain ⟨R, hR⟩ : ∃ R, R = rulesQ d := ⟨_, rfl⟩
  rw [← hR]
  have HR := Lib.hid hR
  clear hT hb hR hd
  by_cases h3 : d.kind = 3
  · have hR2 : R = ctorsQ d.members d.ctors := by rw [HR.out, rulesQ, if_pos h3]
    have HR2 := Lib.hid hR2
    have h32 : (d.kind == 3) = true := by simpa using h3
    clear hR2 h3
    go_enter Tryd.func35, Tryd.ntmps35
    have H := Hp.start no w
    go_wp2_with fail
    refine callsH (by (repeat (first | with_reducible exact H | with_reducible exact H0_ | with_reducible apply Hp.alloc | with_reducible apply Hp.allocMap | with_reducible apply Hp.drew | with_reducible apply Hp.drewN | with_reducible apply Hp.set)); (try any_goals (repeat (first | with_reducible exact Upd.head | with_reducible apply Upd.tail)))) ?_
    clear H; intro w1 H; (try simp only [size_drew_, size_drewN_, World.size_alloc, World.size_setCell, List.set_cons_zero, List.set_cons_succ] at H)
    have hone : ∀ b w', Hp no w w' [.box b 62 [.int .i64 0], .box (w.heap.size + 1) 61 [.slice none 0 0], .box w.heap.size 37 [.int .i64 d.kind, .int .i64 d.levels, .int .i64 d.ty.k, .int .i64 d.ty.n, .int .i64 d.ty.a, .slice Aty d.ty.ls.length cty, .slice Kty d.ty.ks.length kty, .int .i64 d.body.k, .int .i64 d.body.n, .int .i64 d.body.a, .slice Abody d.body.ls.length cbody, .slice Kbody d.body.ks.length kbody, .slice Aparams d.params.length cparams, .slice Asort d.sort.length csort, .slice Amembers d.members.length cmembers, .slice Actors d.ctors.length cctors]] → Calls Tryd.prog 86 #[.pointer (some ⟨w.heap.size, 0, none⟩), .pointer (some ⟨w.heap.size + 1, 0, none⟩)] w' (PRules1 w [.box w.heap.size 37 [.int .i64 d.kind, .int .i64 d.levels, .int .i64 d.ty.k, .int .i64 d.ty.n, .int .i64 d.ty.a, .slice Aty d.ty.ls.length cty, .slice Kty d.ty.ks.length kty, .int .i64 d.body.k, .int .i64 d.body.n, .int .i64 d.body.a, .slice Abody d.body.ls.length cbody, .slice Kbody d.body.ks.length kbody, .slice Aparams d.params.length cparams, .slice Asort d.sort.length csort, .slice Amembers d.members.length cmembers, .slice Actors d.ctors.length cctors], .box b 62 [.int .i64 0]] (w.heap.size + 1) R) := fun b w' Hb => by
      rw [HR2.out]
      exact rules1_calls HT.out HD.out HB.out (Hb.arr (by (repeat (first | with_reducible exact Arr.nil | refine Arr.cons (by (repeat (first | with_reducible exact Pick.head | with_reducible apply Pick.tail))) ?_)) <;> exact Arr.of_subl (by (repeat (first | with_reducible exact Subl.refl _ | with_reducible apply Subl.drop)))))
    cases R with
    | ok us =>
      refine (tried_calls (r := none) (J := fun l2 => ∃ A c, l2 = [.box (w.heap.size + 1) 61 [.slice A us.length c], .dat (.l 68 3 (us.map Ru.d)) [.slice A us.length c], .box w.heap.size 37 [.int .i64 d.kind, .int .i64 d.levels, .int .i64 d.ty.k, .int .i64 d.ty.n, .int .i64 d.ty.a, .slice Aty d.ty.ls.length cty, .slice Kty d.ty.ks.length kty, .int .i64 d.body.k, .int .i64 d.body.n, .int .i64 d.body.a, .slice Abody d.body.ls.length cbody, .slice Kbody d.body.ks.length kbody, .slice Aparams d.params.length cparams, .slice Asort d.sort.length csort, .slice Amembers d.members.length cmembers, .slice Actors d.ctors.length cctors]]) (enters_of Tryd.func86 (by kernel_rfl) rfl) H (fun b w' Hb => (hone b w' Hb).mono (fun e w2 h => ?_))).mono ?_
      · obtain ⟨he, A, c, H2⟩ := h
        exact ⟨he, _, ⟨A, c, rfl⟩, (H2.arr (by (repeat (first | with_reducible exact Arr.nil | refine Arr.cons (by (repeat (first | with_reducible exact Pick.head | with_reducible apply Pick.tail))) ?_)) <;> exact Arr.of_subl (by (repeat (first | with_reducible exact Subl.refl _ | with_reducible apply Subl.drop)))))⟩
      · rintro e w2 ⟨rfl, l2, ⟨A, c, rfl⟩, H2⟩
        clear H hone
        have H := H2
        clear H2
        dsimp only [Option.getD_none]
        have hr_ := H.rules; simp only [Rules, and_true] at hr_; have hd_ := H.dif; simp only [Dif, Neq, and_true] at hd_; obtain ⟨ho_, hz_⟩ := H.old0
        go_wp2_with fail
        clear hr_ hd_ ho_ hz_
        refine endH (by (repeat (first | with_reducible exact H | with_reducible exact H0_ | with_reducible apply Hp.alloc | with_reducible apply Hp.allocMap | with_reducible apply Hp.drew | with_reducible apply Hp.drewN | with_reducible apply Hp.set)); (try any_goals (repeat (first | with_reducible exact Upd.head | with_reducible apply Upd.tail)))) ?_
        clear H; intro w3 H; (try simp only [size_drew_, size_drewN_, World.size_alloc, World.size_setCell, List.set_cons_zero, List.set_cons_succ] at H)
        have hr_ := H.rules
        simp only [Rules, and_true] at hr_
        exact bodyPost_ret (v := .tuple #[.slice A us.length c, .int .i64 0]) (by simp [results, Tryd.results35, go_sem, hr_]) rfl ⟨_, _, rfl, (H.arr (by (repeat (first | with_reducible exact Arr.nil | refine Arr.cons (by (repeat (first | with_reducible exact Pick.head | with_reducible apply Pick.tail))) ?_)) <;> exact Arr.of_subl (by (repeat (first | with_reducible exact Subl.refl _ | with_reducible apply Subl.drop)))))⟩
    | error k =>
      have hk := ctorsQ_err HR2.out.symm
      have hk0 : k ≠ 0 := by omega
      have hk1 : (k == 0) = false := by simpa using hk0
      have HK := Lib.hid hk0
      clear hk hk0
      refine (tried_calls (r := some k) (J := fun l2 => ∃ A n c, l2 = [.box (w.heap.size + 1) 61 [.slice A n c], .box w.heap.size 37 [.int .i64 d.kind, .int .i64 d.levels, .int .i64 d.ty.k, .int .i64 d.ty.n, .int .i64 d.ty.a, .slice Aty d.ty.ls.length cty, .slice Kty d.ty.ks.length kty, .int .i64 d.body.k, .int .i64 d.body.n, .int .i64 d.body.a, .slice Abody d.body.ls.length cbody, .slice Kbody d.body.ks.length kbody, .slice Aparams d.params.length cparams, .slice Asort d.sort.length csort, .slice Amembers d.members.length cmembers, .slice Actors d.ctors.length cctors]]) (enters_of Tryd.func86 (by kernel_rfl) rfl) H (fun b w' Hb => (hone b w' Hb).mono (fun e w2 h => ?_))).mono ?_
      · obtain ⟨he, A, n, c, H2⟩ := h
        exact ⟨he, _, ⟨A, n, c, rfl⟩, (H2.arr (by (repeat (first | with_reducible exact Arr.nil | refine Arr.cons (by (repeat (first | with_reducible exact Pick.head | with_reducible apply Pick.tail))) ?_)) <;> exact Arr.of_subl (by (repeat (first | with_reducible exact Subl.refl _ | with_reducible apply Subl.drop)))))⟩
      · rintro e w2 ⟨rfl, l2, ⟨A, n, c, rfl⟩, H2⟩
        clear H hone
        have H := H2
        clear H2
        dsimp only [Option.getD_some]
        have hr_ := H.rules; simp only [Rules, and_true] at hr_; have hd_ := H.dif; simp only [Dif, Neq, and_true] at hd_; obtain ⟨ho_, hz_⟩ := H.old0
        go_wp2_with fail
        clear hr_ hd_ ho_ hz_
        refine endH (by (repeat (first | with_reducible exact H | with_reducible exact H0_ | with_reducible apply Hp.alloc | with_reducible apply Hp.allocMap | with_reducible apply Hp.drew | with_reducible apply Hp.drewN | with_reducible apply Hp.set)); (try any_goals (repeat (first | with_reducible exact Upd.head | with_reducible apply Upd.tail)))) ?_
        clear H; intro w3 H; (try simp only [size_drew_, size_drewN_, World.size_alloc, World.size_setCell, List.set_cons_zero, List.set_cons_succ] at H)
        have hr_ := H.rules
        simp only [Rules, and_true] at hr_
        exact bodyPost_ret (v := .tuple #[.slice none 0 0, .int .i64 k]) (by simp [results, Tryd.results35, go_sem, hr_]) rfl ⟨rfl, H.ext, HK.out⟩
  · have hz : R = .error 2 := by rw [HR.out, rulesQ, if_neg h3]
    have HZ := Lib.hid hz
    have h32 : (d.kind == 3) = false := by simpa using h3
    clear hz h3
    go_enter Tryd.func35, Tryd.ntmps35
    have H := Hp.start no w
    go_wp2_with fail
    refine endH (by (repeat (first | with_reducible exact H | with_reducible exact H0_ | with_reducible apply Hp.alloc | with_reducible apply Hp.allocMap | with_reducible apply Hp.drew | with_reducible apply Hp.drewN | with_reducible apply Hp.set)); (try any_goals (repeat (first | with_reducible exact Upd.head | with_reducible apply Upd.tail)))) ?_
    clear H; intro w1 H; (try simp only [size_drew_, size_drewN_, World.size_alloc, World.size_setCell, List.set_cons_zero, List.set_cons_succ] at H)
    have hr_ := H.rules
    simp only [Rules, and_true] at hr_
    rw [HZ.out]
    exact bodyPost_ret (v := .tuple #[.slice none 0 0, .int .i64 2]) (by simp [results, Tryd.results35, go_sem, hr_]) rfl ⟨rfl, H.ext, by decide⟩
end Go.Proofs.YtgbokmphbimihaaDoor
/- tele: a row of old memory laid above an old term: contract. No statement of the seat is proved here. -/
namespace Go.Proofs.YtgbokmphbimihaaDoor
set_option linter.unusedSimpArgs false
set_option linter.unusedVariables false
open Go.RowKit
attribute [local go_sem] Oper.semAt_some

/-- Anywhere. -/
def anyW : Nat → Prop := fun _ => True
/-- A box as a row. -/
theorem RC.blkRow {w : World} {S : Nat → Prop} {e z g t n : Nat} {ds : List D} {cs : List Value} (hb : Blk w g t cs.toArray) (hS : S g) (h : RCs w S ds cs) (hz : ∀ d ∈ ds, d.size = z) (hn : n = ds.length) (hM : ds.length ≤ M) : RC w S (.l e z ds) [.slice (some ⟨g, 0, none⟩) n n] := by
  subst hn
  unfold RC
  refine ⟨_, _, rfl, Nat.le_refl _, by unfold M at hM; unfold maxLen; omega, hM, hz, .inr ⟨g, 0, cs, rfl, hb.lt, hS, h, fun j u hu => ?_⟩⟩
  rw [Nat.zero_add, hb.cells j]
  simpa using hu
theorem RCs.two {w : World} {S : Nat → Prop} {d d' : D} {c1 c2 : List Value} (h : RC w S d c1) (h' : RC w S d' c2) : RCs w S [d, d'] (c1 ++ c2) := by
  unfold RCs
  refine ⟨c1, c2, rfl, h, ?_⟩
  unfold RCs
  exact ⟨c2, [], by simp, h', by unfold RCs; rfl⟩
theorem RC.any {w : World} {S : Nat → Prop} {d : D} {cs : List Value} (h : RC w S d cs) : RC w anyW d cs := RC.frame (Nat.le_refl _) (fun _ _ _ => trivial) (fun _ _ _ => rfl) _ _ h
/-- The cells of a row of terms, by its place. -/
theorem RC.tmsAt {w : World} {S : Nat → Prop} {ts : List Tm} {A : Option Addr} {c : Nat} (h : RC w S (.l 26 5 (ts.map Tm.d)) [.slice A ts.length c]) : ∃ (A3 A4 : Nat → Option Addr) (c3 c4 : Nat → Nat), ∀ j (hj : j < ts.length), ∃ b o, A = some ⟨b, o, none⟩ ∧ b < w.heap.size ∧ RC w S ts[j].d [.int .i64 ts[j].k, .int .i64 ts[j].n, .int .i64 ts[j].a, .slice (A3 j) ts[j].ls.length (c3 j), .slice (A4 j) ts[j].ks.length (c4 j)] ∧ w.cell? ⟨b, o + j * 5, none⟩ = some (.int .i64 ts[j].k) ∧ w.cell? ⟨b, o + j * 5 + 1, none⟩ = some (.int .i64 ts[j].n) ∧ w.cell? ⟨b, o + j * 5 + 2, none⟩ = some (.int .i64 ts[j].a) ∧ w.cell? ⟨b, o + j * 5 + 3, none⟩ = some (.slice (A3 j) ts[j].ls.length (c3 j)) ∧ w.cell? ⟨b, o + j * 5 + 4, none⟩ = some (.slice (A4 j) ts[j].ks.length (c4 j)) := by
  have key : ∀ j, ∃ (A3 A4 : Option Addr) (c3 c4 : Nat), ∀ hj : j < ts.length, ∃ b o, A = some ⟨b, o, none⟩ ∧ b < w.heap.size ∧ RC w S ts[j].d [.int .i64 ts[j].k, .int .i64 ts[j].n, .int .i64 ts[j].a, .slice A3 ts[j].ls.length c3, .slice A4 ts[j].ks.length c4] ∧ w.cell? ⟨b, o + j * 5, none⟩ = some (.int .i64 ts[j].k) ∧ w.cell? ⟨b, o + j * 5 + 1, none⟩ = some (.int .i64 ts[j].n) ∧ w.cell? ⟨b, o + j * 5 + 2, none⟩ = some (.int .i64 ts[j].a) ∧ w.cell? ⟨b, o + j * 5 + 3, none⟩ = some (.slice A3 ts[j].ls.length c3) ∧ w.cell? ⟨b, o + j * 5 + 4, none⟩ = some (.slice A4 ts[j].ks.length c4) := by
    intro j
    by_cases hj : j < ts.length
    · obtain ⟨b, o, A1, ca1, K1, ck1, rfl, hb, hS, hd, p0, p1, p2, p3, p4⟩ := h.atTm hj
      exact ⟨A1, K1, ca1, ck1, fun _ => ⟨b, o, rfl, hb, hd, p0, p1, p2, p3, p4⟩⟩
    · exact ⟨none, none, 0, 0, fun h => absurd h hj⟩
  exact ⟨fun j => (key j).choose, fun j => (key j).choose_spec.choose, fun j => (key j).choose_spec.choose_spec.choose, fun j => (key j).choose_spec.choose_spec.choose_spec.choose, fun j => (key j).choose_spec.choose_spec.choose_spec.choose_spec⟩
/-- A node of two kids in a box. -/
theorem Hp.nodeO {w0 w : World} {l : List Ch} {k : Int} {a b : Tm} {g : Nat} {ca cb : List Value} (H : Hp no w0 w (.box g 26 (ca ++ cb) :: l)) (ha : RC w anyW a.d ca) (hb : RC w anyW b.d cb) (hk : inI k) :
    RC w anyW (Tm.mk k 0 0 [] [a, b]).d [.int .i64 k, .int .i64 0, .int .i64 0, .slice none 0 0, .slice (some ⟨g, 0, none⟩) 2 2] :=
  RC.tm.2 ⟨none, 0, some ⟨g, 0, none⟩, 2, rfl, hk, by simp only [Tm.n_mk]; unfold inI; omega, by simp only [Tm.a_mk]; unfold inI; omega, RC.nil, RC.blkRow (ds := [a.d, b.d]) (H.blk .head) trivial (RCs.two ha hb) (by simp [Tm.size_d]) rfl (by unfold M; simp)⟩
set_option maxRecDepth 100000 in
set_option maxHeartbeats 4000000 in
theorem aboveOld_calls {S : Nat → Prop} {w : World} {ts : List Tm} {b : Tm} {A B K : Option Addr} {c n cb kb : Nat} {k : Int} (h : RC w S (.l 26 5 (ts.map Tm.d)) [.slice A n c]) (hn : n = ts.length) (hb : RC w S b.d [.int .i64 b.k, .int .i64 b.n, .int .i64 b.a, .slice B b.ls.length cb, .slice K b.ks.length kb]) (hk : inI k) :
    Calls Tryd.prog 78 #[.agg #[.slice A n c], .int .i64 k, .agg #[.int .i64 b.k, .int .i64 b.n, .int .i64 b.a, .slice B b.ls.length cb, .slice K b.ks.length kb]] w (fun e w' => ∃ v, e = .returned v ∧ TV w' anyW (aboveT k ts b) v ∧ Ext no w w') := by
  subst hn
  have hM := h.lenM
  have HRC := Lib.hid h
  have HB := Lib.hid hb
  clear h hb
  have H := Hp.start no w
  refine enterM Tryd.func78 rfl ?_
  simp only [Tryd.ntmps78, List.size_toArray, List.length_cons, List.length_nil, Nat.reduceAdd, Nat.reduceSub, Array.replicate_succ, Array.replicate_zero, List.push_toArray, List.append_toArray, List.nil_append, List.cons_append]
  go_wp2_with fail
  refine callsH (by (repeat (first | with_reducible exact H | with_reducible exact H0_ | with_reducible apply Hp.alloc | with_reducible apply Hp.allocMap | with_reducible apply Hp.drew | with_reducible apply Hp.drewN | with_reducible apply Hp.set)); (try any_goals (repeat (first | with_reducible exact Upd.head | with_reducible apply Upd.tail)))) ?_
  clear H; intro w1 H; (try simp only [size_drew_, size_drewN_, World.size_alloc, World.size_setCell, List.set_cons_zero, List.set_cons_succ] at H)
  refine (backward_calls H).mono ?_
  rintro e w2 ⟨bs, rfl, H2⟩
  clear H
  have H := H2
  clear H2
  go_wp2_with fail
  obtain ⟨A3, A4, c3, c4, hv⟩ := HRC.out.tmsAt
  refine wp_rangeH H rfl (enters_of Tryd.func184 (by kernel_rfl) rfl) ?_
  intro fn D L rc w3 hDL hrc H3
  clear H
  have HV := Lib.hid hv
  clear hv
  refine (backward1 (n := ts.length) (c := c) (A := A) (bs := bs) (k0 := fun j => (ts[j]?.getD b).k) (k1 := fun j => (ts[j]?.getD b).n) (k2 := fun j => (ts[j]?.getD b).a) (v3 := fun j => .slice (A3 j) (ts[j]?.getD b).ls.length (c3 j)) (v4 := fun j => .slice (A4 j) (ts[j]?.getD b).ks.length (c4 j)) hM.1
    (fun j W => ∃ r B K cb kb bl, Tm.k r = Tm.k r ∧ r = aboveT k (ts.drop j) b ∧ j ≤ ts.length ∧ Hid (∀ W, Hp no w W bl → RC W anyW r.d [.int .i64 r.k, .int .i64 r.n, .int .i64 r.a, .slice B r.ls.length cb, .slice K r.ks.length kb]) ∧ Hp no w W (.obj L (.loop (rc .ready none)) :: .obj D (.deferred (some [])) :: .box bs 24 [.slice A ts.length c] :: .box (w.heap.size + 1 + 1 + 1) 26 [.int .i64 0, .int .i64 0, .int .i64 0, .slice none 0 0, .slice none 0 0] ::
      .box (w.heap.size + 1 + 1) 26 [.int .i64 r.k, .int .i64 r.n, .int .i64 r.a, .slice B r.ls.length cb, .slice K r.ks.length kb] :: .box (w.heap.size + 1) 22 [.int .i64 k] :: .box w.heap.size 110 [.slice A ts.length c] :: bl)) ?rd ?round ?start).mono ?_
  case rd =>
    rintro j W ⟨r, B, K, cb, kb, bl, _, hr, hj, hf, H⟩
    have hb := (H.blk (g := bs) (by (repeat (first | with_reducible exact Pick.head | with_reducible apply Pick.tail)))).cells 0
    refine ⟨hb, fun i hi => ?_⟩
    obtain ⟨b0, o, he, hlt, _, q0, q1, q2, q3, q4⟩ := HV.out i hi
    simp only [List.getElem?_eq_getElem hi, Option.getD_some]
    have ho := H.old0.1
    exact ⟨b0, o, he, (ho _ _ hlt).trans q0, (ho _ _ hlt).trans q1, (ho _ _ hlt).trans q2, (ho _ _ hlt).trans q3, (ho _ _ hlt).trans q4⟩
  case start =>
    refine ⟨b, B, K, cb, kb, [], rfl, by rw [List.drop_length]; rfl, Nat.le_refl _, Lib.hid (fun W HW => (HB.out.ext0 HW.ext).any), ?_⟩
    exact H3
  case round =>
    rintro j W hj ⟨r, B, K, cb, kb, bl, _, hr, _, HF, H⟩
    clear H3
    have HRR := Lib.hid hrc
    refine roundH hrc H rfl ?_
    clear hrc
    simp only [List.getElem?_eq_getElem hj, Option.getD_some]
    refine regionRn (by kernel_rfl) (no_letsThen fun ⟨_, _, h⟩ => h) ?_
    have hr_ := H.rules; simp only [Rules, and_true] at hr_; have hd_ := H.dif; simp only [Dif, Neq, and_true] at hd_; obtain ⟨ho_, hz_⟩ := H.old0
    go_wp2_with fail
    clear hr_ hd_ ho_ hz_
    refine ⟨_, (H.alloc [_, _, _, _, _] 26).swap, fun w5 H5 => ?_⟩
    clear H
    have H := H5
    clear H5
    refine wpIn_block ?_
    refine regionRn (by kernel_rfl) (fun ⟨_, _, h⟩ => h) ?_
    have hr_ := H.rules; simp only [Rules, and_true] at hr_; have hd_ := H.dif; simp only [Dif, Neq, and_true] at hd_; obtain ⟨ho_, hz_⟩ := H.old0
    go_wp2_with fail
    clear hr_ hd_ ho_ hz_
    refine endH (by (repeat (first | with_reducible exact H | with_reducible exact H0_ | with_reducible apply Hp.alloc | with_reducible apply Hp.allocMap | with_reducible apply Hp.drew | with_reducible apply Hp.drewN | with_reducible apply Hp.set)); (try any_goals (repeat (first | with_reducible exact Upd.head | with_reducible apply Upd.tail)))) ?_
    clear H; intro w6 H; (try simp only [size_drew_, size_drewN_, World.size_alloc, World.size_setCell, List.set_cons_zero, List.set_cons_succ] at H)
    refine roundNext HRR.out H (by (repeat (first | with_reducible exact Pick.head | with_reducible apply Pick.tail))) (fun w7 H7 => ⟨rfl, by omega, ?_⟩)
    clear H
    subst hr
    rw [aboveT_drop hj]
    obtain ⟨b0, o, _, _, hd, _⟩ := HV.out j hj
    have HD := Lib.hid hd
    clear hd
    have H := H7
    clear H7
    refine ⟨none, some ⟨w5.heap.size, 0, none⟩, 0, 2, .box w5.heap.size 26 ([.int .i64 ts[j].k, .int .i64 ts[j].n, .int .i64 ts[j].a, .slice (A3 j) ts[j].ls.length (c3 j), .slice (A4 j) ts[j].ks.length (c4 j)] ++ [.int .i64 (aboveT k (ts.drop (j + 1)) b).k, .int .i64 (aboveT k (ts.drop (j + 1)) b).n, .int .i64 (aboveT k (ts.drop (j + 1)) b).a, .slice B (aboveT k (ts.drop (j + 1)) b).ls.length cb, .slice K (aboveT k (ts.drop (j + 1)) b).ks.length kb]) :: bl, Lib.hid (fun W HW => HW.nodeO (HD.out.ext0 HW.ext).any (HF.out W HW.tl) hk), ?_⟩
    simp only [Tm.k_mk, Tm.n_mk, Tm.a_mk, Tm.ls_mk, Tm.ks_mk, List.length_nil, List.length_cons, Nat.reduceAdd, Nat.zero_add, List.cons_append, List.nil_append]
    exact (H.arr (by (repeat (first | with_reducible exact Arr.nil | refine Arr.cons (by (repeat (first | with_reducible exact Pick.head | with_reducible apply Pick.tail))) ?_)) <;> exact Arr.of_subl (by (repeat (first | with_reducible exact Subl.refl _ | with_reducible apply Subl.drop)))))
  · rintro e w8 ⟨⟨v, rfl⟩, r, B, K, cb, kb, bl, _, hr, _, HF, H⟩
    refine ⟨v, rfl, .ready, none, _, by decide, H, fun w9 H => ?_⟩
    simp only [List.drop_zero] at hr
    subst hr
    clear HV hrc H3
    dsimp only
    have hr_ := H.rules; simp only [Rules, and_true] at hr_; have hd_ := H.dif; simp only [Dif, Neq, and_true] at hd_; obtain ⟨ho_, hz_⟩ := H.old0
    go_wp2_with fail
    clear hr_ hd_ ho_ hz_
    refine endH (by (repeat (first | with_reducible exact H | with_reducible exact H0_ | with_reducible apply Hp.alloc | with_reducible apply Hp.allocMap | with_reducible apply Hp.drew | with_reducible apply Hp.drewN | with_reducible apply Hp.set)); (try any_goals (repeat (first | with_reducible exact Upd.head | with_reducible apply Upd.tail)))) ?_
    clear H; intro w10 H; (try simp only [size_drew_, size_drewN_, World.size_alloc, World.size_setCell, List.set_cons_zero, List.set_cons_succ] at H)
    refine leaveM (v := .agg #[_, _, _, _, _]) H (by (repeat (first | with_reducible exact Pick.head | with_reducible apply Pick.tail))) (fun w11 H => ⟨Res.one Tryd.results78 (H.resBox (by (repeat (first | with_reducible exact Pick.head | with_reducible apply Pick.tail))) aggTerm rfl rfl), _, rfl, ⟨_, _, _, _, rfl, HF.out _ (H.only (by (repeat (first | with_reducible exact Subl.refl _ | with_reducible apply Subl.drop))))⟩, H.ext⟩)
end Go.Proofs.YtgbokmphbimihaaDoor
