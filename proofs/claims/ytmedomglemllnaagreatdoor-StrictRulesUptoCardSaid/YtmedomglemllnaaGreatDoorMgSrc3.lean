/- split: tried: what is thrown is caught: contract. No statement of the seat is proved here. -/
import Derived.Test.YtmedomglemllnaaGreatDoorSplit4
import Derived.Recover
import Derived.Test.YtmedomglemllnaaGreatDoorMgSplitSpec
namespace Go.Proofs.YtmedomglemllnaaGreatDoor
set_option linter.unusedSimpArgs false
set_option linter.unusedVariables false
open Go.RowKit

set_option maxRecDepth 100000 in
set_option maxHeartbeats 2000000 in
theorem tried1_panicking {w0 w : World} {l : List Ch} {bo : Nat} {k : Int} (H : Hp no w0 w (.box bo 60 [.int .i64 0] :: l)) :
    CallsD Tryz.prog 190 #[.pointer (some ⟨bo, 0, none⟩)] (.panicking (errP k)) w fun e u' w' =>
      e = .returned (.tuple #[]) ∧ u' = .panicking [{ v := .iface 60 (.int .i64 k), recovered := true }] ∧ Hp no w0 w' (.box bo 60 [.int .i64 k] :: l) := by
  refine callsD_of_wpS Tryz.func190 rfl fun c₀ cs hu => ?_
  have hta : ∀ w, (Instr.typeAssert (.iface 60 (.int .i64 k)) 20 60 true).run Tryz.prog w = .ok (.tuple #[.int .i64 k, .bool true]) w := fun w => run_assert_same Tryz.underlying60 rfl w
  simp only [Tryz.ntmps190, List.size_toArray, List.length_cons, List.length_nil, Nat.reduceAdd, Nat.reduceSub, Array.replicate_succ, Array.replicate_zero, List.push_toArray, List.append_toArray, List.nil_append, List.cons_append]
  apply wpS_seq
  apply wpS_region
  simp [wpOpsS, go_sem, recoverD, hu, errP, Exit.thenS]
  refine wpS_of_wp ?_
  have hr_ := H.rules; simp only [Rules, and_true] at hr_; have hd_ := H.dif; simp only [Dif, Neq, and_true] at hd_; obtain ⟨ho_, hz_⟩ := H.old0
  go_wp2_with fail
  (try clear hr_ hd_ ho_ hz_)
  have H := H.set (g := bo) (t := 60) (i := 0) (cs := [.int .i64 0]) (v := .int .i64 k) .head
  simp only [List.set_cons_zero] at H
  have HH := Lib.hid H
  clear H hta
  cases c₀
  simp_all [bodyPostS, results, Tryz.results190]
  exact HH.out
set_option maxRecDepth 100000 in
set_option maxHeartbeats 1000000 in
theorem tried1_idle {bo : Nat} {w : World} :
    CallsD Tryz.prog 190 #[.pointer (some ⟨bo, 0, none⟩)] .returning w fun e u' w' => e = .returned (.tuple #[]) ∧ u' = .returning ∧ w' = w := by
  refine callsD_of_wpS Tryz.func190 rfl fun c₀ cs hu => ?_
  simp only [Tryz.ntmps190, List.size_toArray, List.length_cons, List.length_nil, Nat.reduceAdd, Nat.reduceSub, Array.replicate_succ, Array.replicate_zero, List.push_toArray, List.append_toArray, List.nil_append, List.cons_append]
  apply wpS_seq
  apply wpS_region
  simp [wpOpsS, go_sem, recoverD, hu, Exit.thenS]
  refine wpS_of_wp ?_
  go_wp2_with fail
  cases c₀
  simp_all [bodyPostS, results, Tryz.results190]
set_option maxRecDepth 100000 in
set_option maxHeartbeats 2000000 in
theorem tried_calls {w0 w : World} {l : List Ch} {F : FuncId} {caps : Array Value} {r : Option Int} {J : List Ch → Prop} (eg : ∀ args w, (callFunc F args).run Tryz.prog w = .ok (.enter F args) w) (H : Hp no w0 w l)
    (hf : ∀ b w', Hp no w0 w' (.box b 60 [.int .i64 0] :: l) → Calls Tryz.prog F caps w' fun e w2 => e = (match r with | none => .returned (.tuple #[]) | some k => .panicked (errP k)) ∧ ∃ l2, J l2 ∧ Hp no w0 w2 (.box b 60 [.int .i64 0] :: l2)) :
    Calls Tryz.prog 114 #[.func (.func F) #[] caps] w fun e w2 => e = .returned (.int .i64 (r.getD 0)) ∧ ∃ l2, J l2 ∧ Hp no w0 w2 l2 := by
  have HF := Lib.hid hf
  clear hf
  have hmf : ∀ (fn : Fn) (first cap : Array Value) (w : World), (Instr.makeFunc fn first cap).run Tryz.prog w = .ok (.func fn first cap) w := fun _ _ _ _ => rfl
  go_enter_defers Tryz.func114, Tryz.ntmps114
  go_wp2_with fail
  refine callsH (by (repeat (first | with_reducible exact H | with_reducible exact H0_ | with_reducible apply Hp.alloc | with_reducible apply Hp.allocMap | with_reducible apply Hp.drew | with_reducible apply Hp.drewN | with_reducible apply Hp.set)); (try any_goals (repeat (first | with_reducible exact Upd.head | with_reducible apply Upd.tail)))) ?_
  clear H; intro w1 H; (try simp only [size_drew_, size_drewN_, World.size_alloc, World.size_setCell, List.set_cons_zero, List.set_cons_succ] at H)
  refine (HF.out w.heap.size w1 H).mono ?_
  rintro e w2 ⟨he, l2, hJ, H2⟩
  clear H
  have H := H2
  clear H2
  cases r with
  | some k =>
    dsimp only at he
    obtain rfl := he
    refine leaves_cons (f := 190) (args := #[.pointer (some ⟨w.heap.size, 0, none⟩)]) (by simp) (by simp [go_sem]) ?_
    refine (tried1_panicking H).mono ?_
    rintro e u' w'' ⟨rfl, rfl, H3⟩
    clear H
    have H := H3
    clear H3
    have hr_ := H.rules
    simp only [Rules, and_true] at hr_
    have HH := Lib.hid H
    clear H
    simp [Leaves, settle, results, Tryz.results114, go_sem, hr_]
    exact ⟨l2, hJ, HH.out.tl⟩
  | none =>
    dsimp only at he
    obtain rfl := he
    have HJ := Lib.hid hJ
    clear hJ
    have hr_ := H.rules; simp only [Rules, and_true] at hr_; have hd_ := H.dif; simp only [Dif, Neq, and_true] at hd_; obtain ⟨ho_, hz_⟩ := H.old0
    go_wp2_with fail
    clear hr_ hd_ ho_ hz_
    have H := H.set (g := w.heap.size) (t := 60) (i := 0) (cs := [.int .i64 0]) (v := .int .i64 0) .head
    simp only [List.set_cons_zero] at H
    refine leaves_cons (f := 190) (args := #[.pointer (some ⟨w.heap.size, 0, none⟩)]) (by simp) (by simp [go_sem]) ?_
    refine tried1_idle.mono ?_
    rintro e u' w'' ⟨rfl, rfl, rfl⟩
    have hr_ := H.rules
    simp only [Rules, and_true] at hr_
    have HH := Lib.hid H
    clear H
    simp [Leaves, settle, results, Tryz.results114, go_sem, hr_]
    exact ⟨l2, HJ.out, HH.out.tl⟩
end Go.Proofs.YtmedomglemllnaaGreatDoor
/- split: Rules: contract. No statement of the seat is proved here. -/
namespace Go.Proofs.YtmedomglemllnaaGreatDoor
set_option linter.unusedSimpArgs false
set_option linter.unusedVariables false
open Go.RowKit

def ctorsQ (ms : List Mb) : List Ct → Except Int (List Ru)
  | [] => .ok []
  | t :: ts => match readQ ms t with
    | .error c => .error c
    | .ok a => (ctorsQ ms ts).map (a :: ·)
def rulesQ (d : Dc) : Except Int (List Ru) := if d.kind = 3 then ctorsQ d.members d.ctors else .error 2
theorem ctorsQ_drop {ms : List Mb} {ts : List Ct} {j : Nat} (h : j < ts.length) : ctorsQ ms (ts.drop j) = match readQ ms ts[j] with
    | .error c => .error c
    | .ok a => (ctorsQ ms (ts.drop (j + 1))).map (a :: ·) := by
  rw [List.drop_eq_getElem_cons h, ctorsQ]
theorem mapR_step {r : Except Int (List Ru)} {got : List Ru} {a : Ru} : (r.map (a :: ·)).map (got ++ ·) = r.map ((got ++ [a]) ++ ·) := by
  cases r <;> simp [Except.map]
theorem mapR_none (r : Except Int (List Ru)) : r = r.map ([] ++ ·) := by
  cases r <;> simp [Except.map]
def CtsOK (cs : List Ct) : Prop := ∀ c ∈ cs, sizeT c.ty ≤ 4000000
theorem aggCt2 : AggT Tryz.prog 148 6 := ⟨_, Tryz.underlying148, rfl, by kernel_rfl⟩
def PRules1 (w0 : World) (l : List Ch) (gr : Nat) (r : Except Int (List Ru)) (e : Ending) (w' : World) : Prop := match r with
  | .ok us => e = .returned (.tuple #[]) ∧ ∃ A c, Hp no w0 w' (.box gr 59 [.slice A us.length c] :: .dat (.l 143 3 (us.map Ru.d)) [.slice A us.length c] :: l)
  | .error k => e = .panicked (errP k) ∧ ∃ A n c, Hp no w0 w' (.box gr 59 [.slice A n c] :: l)
set_option maxRecDepth 100000 in
set_option maxHeartbeats 8000000 in
theorem rules1_calls {S : Nat → Prop} {d : Dc} {w0 w : World} {l : List Ch} {cs : List Value} {gd gr : Nat} (hT : Tab w0) (hd : RC w0 S d.d cs) (hb : CtsOK d.ctors)
    (H : Hp no w0 w (.box gr 59 [.slice none 0 0] :: .box gd 51 cs :: l)) :
    Calls Tryz.prog 115 #[.pointer (some ⟨gd, 0, none⟩), .pointer (some ⟨gr, 0, none⟩)] w (PRules1 w0 (.box gd 51 cs :: l) gr (ctorsQ d.members d.ctors)) := by
  have HD0 := Lib.hid hd
  obtain ⟨Aty, cty, Kty, kty, Abody, cbody, Kbody, kbody, Aparams, cparams, Asort, csort, Amembers, cmembers, Actors, cctors, rfl, _, _, _, _, _, _, hmem, hct⟩ := RC.dc.1 hd
  have hM := hct.lenM
  have hM2 := hmem.lenM
  have HT := Lib.hid hT
  have HMS := Lib.hid hmem
  have HB := Lib.hid hb
  obtain ⟨R, hR⟩ : ∃ R, R = ctorsQ d.members d.ctors := ⟨_, rfl⟩
  rw [← hR]
  have HR := Lib.hid hR
  clear hT hmem hb hR hd
  go_enter Tryz.func115, Tryz.ntmps115
  have hr_ := H.rules; simp only [Rules, and_true] at hr_; have hd_ := H.dif; simp only [Dif, Neq, and_true] at hd_; obtain ⟨ho_, hz_⟩ := H.old0
  go_wp2_with fail
  clear hr_ hd_ ho_ hz_
  have H := H.nil 143 3
  rw [show ([] : List D) = ([] : List Ru).map Ru.d from rfl] at H
  go_loopw [8] (fun i wr => ∃ (j : Nat) (got : List Ru) (A : Option Addr) (c : Nat), j ≤ d.ctors.length ∧ i = .int .i64 j ∧ Hid (ctorsQ d.members d.ctors = (ctorsQ d.members (d.ctors.drop j)).map (got ++ ·)) ∧ got.length = j ∧ Hp no w0 wr (.box gr 59 [.slice A j c] :: .dat (.l 143 3 (got.map Ru.d)) [.slice A j c] :: .box gd 51 [.int .i64 d.kind, .int .i64 d.levels, .int .i64 d.ty.k, .int .i64 d.ty.n, .int .i64 d.ty.a, .slice Aty d.ty.ls.length cty, .slice Kty d.ty.ks.length kty, .int .i64 d.body.k, .int .i64 d.body.n, .int .i64 d.body.a, .slice Abody d.body.ls.length cbody, .slice Kbody d.body.ks.length kbody, .slice Aparams d.params.length cparams, .slice Asort d.sort.length csort, .slice Amembers d.members.length cmembers, .slice Actors d.ctors.length cctors] :: l)) (fun i _ => d.ctors.length - (intOf i).toNat)
  case atStart => exact ⟨0, [], none, 0, Nat.zero_le _, rfl, Lib.hid (mapR_none _), rfl, (H.arr (by (repeat (first | with_reducible exact Arr.nil | refine Arr.cons (by (repeat (first | with_reducible exact Pick.head | with_reducible apply Pick.tail))) ?_)) <;> exact Arr.of_subl (by (repeat (first | with_reducible exact Subl.refl _ | with_reducible apply Subl.drop)))))⟩
  case round =>
    clear H
    obtain ⟨j, got, A, c, hj, rfl, HS, hgl, H⟩ := hrel
    by_cases hlt : j < d.ctors.length
    · obtain ⟨b_, o, A1, ca1, K1, ck1, rfl, hb1, hS, hcd, p0, p1, p2, p3, p4, p5⟩ := hct.atCt hlt
      have HCD := Lib.hid hcd
      have HAD := Lib.hid (ctorsQ_drop (ms := d.members) hlt)
      have HSZ := Lib.hid (HB.out _ (List.getElem_mem hlt))
      clear hcd
      generalize d.ctors[j] = ct at p0 p1 p2 p3 p4 p5 HCD HAD HSZ
      have hr_ := H.rules; simp only [Rules, and_true] at hr_; have hd_ := H.dif; simp only [Dif, Neq, and_true] at hd_; obtain ⟨ho_, hz_⟩ := H.old0
      go_wp2_with ((with_reducible refine atStore (t := 148) ?_); go_must (refine wpList_storeH (t := 148) rfl rfl (by go_simp <;> first | rfl | exact ⟨rfl, rfl⟩) (by go_simp <;> first | rfl | exact ⟨rfl, rfl⟩) (by exact Hp.norm (by (repeat (first | with_reducible exact H | with_reducible exact H0_ | with_reducible apply Hp.alloc | with_reducible apply Hp.allocMap | with_reducible apply Hp.drew | with_reducible apply Hp.drewN | with_reducible apply Hp.set)); (try any_goals (repeat (first | with_reducible exact Upd.head | with_reducible apply Upd.tail)))) (by ((try simp only [size_drew_, size_drewN_, World.size_alloc, World.size_setCell, List.set_cons_zero, List.set_cons_succ, List.nil_append, List.cons_append]) <;> rfl))) (by (repeat (first | with_reducible exact Upd.head | with_reducible apply Upd.tail))) (by exact aggCt2) (by rfl) (by simp [Value.oneCell']) ?_; clear H; intro w7 H; (try simp only [size_drew_, size_drewN_, World.size_alloc, World.size_setCell, List.set_cons_zero, List.set_cons_succ] at H); (try clear hr_ hd_ ho_ hz_); have hr_ := H.rules; simp only [Rules, and_true] at hr_; have hd_ := H.dif; simp only [Dif, Neq, and_true] at hd_; obtain ⟨ho_, hz_⟩ := H.old0))
      (try clear hr_ hd_ ho_ hz_)
      refine callsH (by (repeat (first | with_reducible exact H | with_reducible exact H0_ | with_reducible apply Hp.alloc | with_reducible apply Hp.allocMap | with_reducible apply Hp.drew | with_reducible apply Hp.drewN | with_reducible apply Hp.set)); (try any_goals (repeat (first | with_reducible exact Upd.head | with_reducible apply Upd.tail)))) ?_
      clear H; intro w8 H; (try simp only [size_drew_, size_drewN_, World.size_alloc, World.size_setCell, List.set_cons_zero, List.set_cons_succ] at H)
      obtain ⟨rr, hrr⟩ : ∃ rr, rr = readQ d.members ct := ⟨_, rfl⟩
      have hcall := read_calls (gw := w7.heap.size) HT.out HMS.out HCD.out HSZ.out H
      rw [← hrr] at hcall
      have HRR := Lib.hid hrr
      clear hrr
      refine hcall.mono ?_
      clear hcall
      cases rr with
      | error k =>
        rintro e_ w_ ⟨rfl, H2⟩
        have hz : R = .error k := by rw [HR.out, HS.out, HAD.out, ← HRR.out]; rfl
        exact ⟨rfl, by rw [hz]; exact ⟨rfl, _, _, _, (H2.arr (by (repeat (first | with_reducible exact Arr.nil | refine Arr.cons (by (repeat (first | with_reducible exact Pick.head | with_reducible apply Pick.tail))) ?_)) <;> exact Arr.of_subl (by (repeat (first | with_reducible exact Subl.refl _ | with_reducible apply Subl.drop)))))⟩⟩
      | ok u =>
        rintro e_ w_ ⟨rfl, v1, v2, H2⟩
        obtain ⟨B1, d1, B2, d2, he, -⟩ := RC.ru.1 (H2.rd (d := u.d) (cs := [.int .i64 u.member, v1, v2]) (.tail .head))
        simp only [List.cons.injEq, and_true, true_and] at he
        obtain ⟨rfl, rfl⟩ := he
        clear H
        have H := H2
        clear H2
        dsimp only
        have hr_ := H.rules; simp only [Rules, and_true] at hr_; have hd_ := H.dif; simp only [Dif, Neq, and_true] at hd_; obtain ⟨ho_, hz_⟩ := H.old0
        go_wp2_with fail
        (try clear hr_ hd_ ho_ hz_)
        refine regionH (by (repeat (first | with_reducible exact H | with_reducible exact H0_ | with_reducible apply Hp.alloc | with_reducible apply Hp.allocMap | with_reducible apply Hp.drew | with_reducible apply Hp.drewN | with_reducible apply Hp.set)); (try any_goals (repeat (first | with_reducible exact Upd.head | with_reducible apply Upd.tail)))) ?_
        clear H; intro w9 H; (try simp only [size_drew_, size_drewN_, World.size_alloc, World.size_setCell, List.set_cons_zero, List.set_cons_succ] at H)
        refine wp_region_H 8 [false, false, false, false, false, false, false, false] [7] H (.cons (i := 0) rfl (.cons (i := 3) rfl .nil)) (by kernel_rfl) rfl rfl (fun H_ hR_ => ?_)
        (try clear H0_); have H0_ := H; clear H; have H := H_; clear H_
        refine wpL_reads (is := [(0, ?v1_0), (1, ?v1_1), (2, ?v1_2), (3, ?v1_3), (4, ?v1_4)]) (by kernel_rfl) (Nat.le_of_ble_eq_true rfl) (by intro _ _ d_ _ _ h_; cases d_ <;> exact h_) (by kernel_rfl) hR_ (fun w_ hw_ => ?h1_) ?_
        case h1_ =>
          have ho_ := hw_.old0.1; have hz_ := hw_.old0.2; have hr_ := hw_.rules; clear hw_; simp only [Rules, and_true] at hr_; go_split_ands
          (repeat (first | with_reducible exact RdOps.nil | (refine RdOps.run rfl (by rfl) ?_ ?_; (focus (first | (go_simp; done) | (go_simp; with_reducible rfl))); simp only [List.getElem_toArray, List.getElem_cons_zero, List.getElem_cons_succ, Act.put, List.setIfInBounds_toArray, List.set_cons_zero, List.set_cons_succ]) | (refine RdOps.skip rfl (by rfl) ?_ ?_; (focus (with_reducible rfl)); simp only [List.getElem_toArray, List.getElem_cons_zero, List.getElem_cons_succ, Act.put, List.setIfInBounds_toArray, List.set_cons_zero, List.set_cons_succ])))
        simp only [rdMark, rdAct, List.map_cons, List.map_nil, List.length_cons, List.length_nil, Nat.reduceAdd, Nat.reduceSub, Nat.zero_add, List.getElem?_toArray, List.getElem?_cons_zero, List.getElem?_cons_succ, Option.bind_some, Act.put, List.setIfInBounds_toArray, List.set_cons_zero, List.set_cons_succ]
        refine wpL_do (i := 5) rfl (by kernel_rfl) (by rfl) (fun K_ hK_ => ?_)
        go_simp
        refine kontH (by (repeat (first | with_reducible exact H | with_reducible exact H0_ | with_reducible apply Hp.alloc | with_reducible apply Hp.allocMap | with_reducible apply Hp.drew | with_reducible apply Hp.drewN | with_reducible apply Hp.set)); (try any_goals (repeat (first | with_reducible exact Upd.head | with_reducible apply Upd.tail)))) ?_
        clear H; intro wb_ H; (try simp only [size_drew_, size_drewN_, World.size_alloc, World.size_setCell, List.set_cons_zero, List.set_cons_succ] at H)
        refine hK_ _ _ (fun _ => H.sub (by simp)) (fun hR_ => ?_)
        replace hR_ := hR_ (by decide)
        refine wpL_do (i := 6) rfl (by kernel_rfl) (by rfl) (fun K_ hK_ => ?_)
        refine wp_pushH (.tmp 19) (.tmp 24) 59 rfl stRus (by go_simp <;> first | rfl | exact ⟨rfl, rfl⟩) (by go_simp <;> first | rfl | exact ⟨rfl, rfl⟩) H (by (repeat (first | with_reducible exact Pick.head | with_reducible apply Pick.tail))) (by (repeat (first | with_reducible exact Pick.head | with_reducible apply Pick.tail))) (by (repeat (first | with_reducible exact Pick.head | with_reducible apply Pick.tail))) (Ru.size_d _) ?_ ?_
        focus (simp [M]; omega)
        clear H; intro v3 w11 H
        obtain ⟨A5, c6, rfl, _, _, _⟩ := H.slice (e := 143) (z := 3) (v := v3) (by (repeat (first | with_reducible exact Pick.head | with_reducible apply Pick.tail)))
        rw [show (got.map Ru.d ++ [u.d]).length = j + 1 by simp [hgl]] at H ⊢
        refine hK_ _ _ (fun _ => H.sub (by simp)) (fun hR_ => ?_)
        replace hR_ := hR_ (by decide)
        simp only [List.getElem_toArray, List.getElem_cons_zero, List.getElem_cons_succ, Act.put, List.setIfInBounds_toArray, List.set_cons_zero, List.set_cons_succ]
        refine wpL_do (i := 7) rfl (by kernel_rfl) (by rfl) (fun K_ hK_ => ?_)
        have hrs_ := H.rules
        simp only [Rules, and_true] at hrs_
        go_simp
        clear hrs_
        refine kontH (by (repeat (first | with_reducible exact H | with_reducible exact H0_ | with_reducible apply Hp.alloc | with_reducible apply Hp.allocMap | with_reducible apply Hp.drew | with_reducible apply Hp.drewN | with_reducible apply Hp.set)); (try any_goals (repeat (first | with_reducible exact Upd.head | with_reducible apply Upd.tail)))) ?_
        clear H; intro w12 H; (try simp only [size_drew_, size_drewN_, World.size_alloc, World.size_setCell, List.set_cons_zero, List.set_cons_succ] at H)
        refine hK_ _ _ (fun h => absurd (by decide) h) (fun _ => ?_)
        refine wpL_done (by kernel_rfl) ?_ _
        have HS2 : Hid (ctorsQ d.members d.ctors = (ctorsQ d.members (d.ctors.drop (j + 1))).map ((got ++ [u]) ++ ·)) := by
          unfold Hid
          rw [HS.out, HAD.out, ← HRR.out]
          exact mapR_step
        rw [show got.map Ru.d ++ [u.d] = (got ++ [u]).map Ru.d by simp] at H
        go_wp2_with fail
        go_roundw
        case rel => exact ⟨j + 1, got ++ [u], _, _, by omega, by first | go_num | rfl | simp, HS2, by simp [hgl], (H.arr (by (repeat (first | with_reducible exact Arr.nil | refine Arr.cons (by (repeat (first | with_reducible exact Pick.head | with_reducible apply Pick.tail))) ?_)) <;> exact Arr.of_subl (by (repeat (first | with_reducible exact Subl.refl _ | with_reducible apply Subl.drop)))))⟩
        case measure => simp [intOf]; omega
    · go_wp2_with fail
      go_end0
      have hz : R = .ok got := by rw [HR.out, HS.out, List.drop_eq_nil_of_le (by omega), ctorsQ]; simp [Except.map]
      rw [hz]
      subst hgl
      exact ⟨rfl, _, _, H⟩
def PRules (w : World) (r : Except Int (List Ru)) (e : Ending) (w' : World) : Prop := match r with
  | .ok us => ∃ A c, e = .returned (.tuple #[.slice A us.length c, .int .i64 0]) ∧ Hp no w w' [.dat (.l 143 3 (us.map Ru.d)) [.slice A us.length c]]
  | .error k => e = .returned (.tuple #[.slice none 0 0, .int .i64 k]) ∧ Ext no w w' ∧ k ≠ 0
theorem argQ_err {ms : List Mb} {t : Tm} {k : Int} (h : argQ ms t = .error k) : k = 3 ∨ k = 16 ∨ k = 17 := by
  unfold argQ at h
  repeat' (split at h)
  all_goals (cases h <;> simp)
theorem argsQ_err {ms : List Mb} : ∀ {ts : List Tm} {k : Int}, argsQ ms ts = .error k → k = 3 ∨ k = 16 ∨ k = 17
  | [], k, h => by cases h
  | t :: ts, k, h => by
    rw [argsQ] at h
    cases ha : argQ ms t with
    | error c => rw [ha] at h; cases h; exact argQ_err ha
    | ok a =>
      rw [ha] at h
      cases hr : argsQ ms ts with
      | error c => rw [hr] at h; cases h; exact argsQ_err hr
      | ok r => rw [hr] at h; cases h
theorem readQ_err {ms : List Mb} {c : Ct} {k : Int} (h : readQ ms c = .error k) : k = 3 ∨ k = 16 ∨ k = 17 := by
  unfold readQ at h
  split at h
  · split at h
    · rename_i k' ha
      cases h
      exact argsQ_err ha
    · repeat' (split at h)
      all_goals (cases h <;> simp)
  · cases h; simp
theorem ctorsQ_err {ms : List Mb} : ∀ {ts : List Ct} {k : Int}, ctorsQ ms ts = .error k → k = 3 ∨ k = 16 ∨ k = 17
  | [], k, h => by cases h
  | t :: ts, k, h => by
    rw [ctorsQ] at h
    cases ha : readQ ms t with
    | error c => rw [ha] at h; cases h; exact readQ_err ha
    | ok a =>
      rw [ha] at h
      cases hr : ctorsQ ms ts with
      | error c => rw [hr] at h; cases h; exact ctorsQ_err hr
      | ok r => rw [hr] at h; cases h
set_option maxRecDepth 100000 in
set_option maxHeartbeats 8000000 in
theorem rules_calls {S : Nat → Prop} {d : Dc} {w : World} {cs : List Value} (hT : Tab w) (hd : RC w S d.d cs) (hb : CtsOK d.ctors) :
    Calls Tryz.prog 34 #[.agg cs.toArray] w (PRules w (rulesQ d)) := by
  have HD := Lib.hid hd
  obtain ⟨Aty, cty, Kty, kty, Abody, cbody, Kbody, kbody, Aparams, cparams, Asort, csort, Amembers, cmembers, Actors, cctors, rfl, _⟩ := RC.dc.1 hd
  have HT := Lib.hid hT
  have HB := Lib.hid hb
  have hmf : ∀ (fn : Fn) (first cap : Array Value) (w : World), (Instr.makeFunc fn first cap).run Tryz.prog w = .ok (.func fn first cap) w := fun _ _ _ _ => rfl
  obtain ⟨R, hR⟩ : ∃ R, R = rulesQ d := ⟨_, rfl⟩
  rw [← hR]
  have HR := Lib.hid hR
  clear hT hb hR hd
  by_cases h3 : d.kind = 3
  · have hR2 : R = ctorsQ d.members d.ctors := by rw [HR.out, rulesQ, if_pos h3]
    have HR2 := Lib.hid hR2
    have h32 : (d.kind == 3) = true := by simpa using h3
    clear hR2 h3
    go_enter Tryz.func34, Tryz.ntmps34
    have H := Hp.start no w
    go_wp2_with fail
    refine callsH (by (repeat (first | with_reducible exact H | with_reducible exact H0_ | with_reducible apply Hp.alloc | with_reducible apply Hp.allocMap | with_reducible apply Hp.drew | with_reducible apply Hp.drewN | with_reducible apply Hp.set)); (try any_goals (repeat (first | with_reducible exact Upd.head | with_reducible apply Upd.tail)))) ?_
    clear H; intro w1 H; (try simp only [size_drew_, size_drewN_, World.size_alloc, World.size_setCell, List.set_cons_zero, List.set_cons_succ] at H)
    have hone : ∀ b w', Hp no w w' [.box b 60 [.int .i64 0], .box (w.heap.size + 1) 59 [.slice none 0 0], .box w.heap.size 51 [.int .i64 d.kind, .int .i64 d.levels, .int .i64 d.ty.k, .int .i64 d.ty.n, .int .i64 d.ty.a, .slice Aty d.ty.ls.length cty, .slice Kty d.ty.ks.length kty, .int .i64 d.body.k, .int .i64 d.body.n, .int .i64 d.body.a, .slice Abody d.body.ls.length cbody, .slice Kbody d.body.ks.length kbody, .slice Aparams d.params.length cparams, .slice Asort d.sort.length csort, .slice Amembers d.members.length cmembers, .slice Actors d.ctors.length cctors]] → Calls Tryz.prog 115 #[.pointer (some ⟨w.heap.size, 0, none⟩), .pointer (some ⟨w.heap.size + 1, 0, none⟩)] w' (PRules1 w [.box w.heap.size 51 [.int .i64 d.kind, .int .i64 d.levels, .int .i64 d.ty.k, .int .i64 d.ty.n, .int .i64 d.ty.a, .slice Aty d.ty.ls.length cty, .slice Kty d.ty.ks.length kty, .int .i64 d.body.k, .int .i64 d.body.n, .int .i64 d.body.a, .slice Abody d.body.ls.length cbody, .slice Kbody d.body.ks.length kbody, .slice Aparams d.params.length cparams, .slice Asort d.sort.length csort, .slice Amembers d.members.length cmembers, .slice Actors d.ctors.length cctors], .box b 60 [.int .i64 0]] (w.heap.size + 1) R) := fun b w' Hb => by
      rw [HR2.out]
      exact rules1_calls HT.out HD.out HB.out (Hb.arr (by (repeat (first | with_reducible exact Arr.nil | refine Arr.cons (by (repeat (first | with_reducible exact Pick.head | with_reducible apply Pick.tail))) ?_)) <;> exact Arr.of_subl (by (repeat (first | with_reducible exact Subl.refl _ | with_reducible apply Subl.drop)))))
    cases R with
    | ok us =>
      refine (tried_calls (r := none) (J := fun l2 => ∃ A c, l2 = [.box (w.heap.size + 1) 59 [.slice A us.length c], .dat (.l 143 3 (us.map Ru.d)) [.slice A us.length c], .box w.heap.size 51 [.int .i64 d.kind, .int .i64 d.levels, .int .i64 d.ty.k, .int .i64 d.ty.n, .int .i64 d.ty.a, .slice Aty d.ty.ls.length cty, .slice Kty d.ty.ks.length kty, .int .i64 d.body.k, .int .i64 d.body.n, .int .i64 d.body.a, .slice Abody d.body.ls.length cbody, .slice Kbody d.body.ks.length kbody, .slice Aparams d.params.length cparams, .slice Asort d.sort.length csort, .slice Amembers d.members.length cmembers, .slice Actors d.ctors.length cctors]]) (enters_of Tryz.func115 (by kernel_rfl) rfl) H (fun b w' Hb => (hone b w' Hb).mono (fun e w2 h => ?_))).mono ?_
      · obtain ⟨he, A, c, H2⟩ := h
        exact ⟨he, _, ⟨A, c, rfl⟩, (H2.arr (by (repeat (first | with_reducible exact Arr.nil | refine Arr.cons (by (repeat (first | with_reducible exact Pick.head | with_reducible apply Pick.tail))) ?_)) <;> exact Arr.of_subl (by (repeat (first | with_reducible exact Subl.refl _ | with_reducible apply Subl.drop)))))⟩
      · rintro e w2 ⟨rfl, l2, ⟨A, c, rfl⟩, H2⟩
        clear H hone
        have H := H2
        clear H2
        dsimp only [Option.getD_none]
        have hr_ := H.rules; simp only [Rules, and_true] at hr_; have hd_ := H.dif; simp only [Dif, Neq, and_true] at hd_; obtain ⟨ho_, hz_⟩ := H.old0
        go_wp2_with fail
        clear hr_ hd_ ho_ hz_
        refine endH (by (repeat (first | with_reducible exact H | with_reducible exact H0_ | with_reducible apply Hp.alloc | with_reducible apply Hp.allocMap | with_reducible apply Hp.drew | with_reducible apply Hp.drewN | with_reducible apply Hp.set)); (try any_goals (repeat (first | with_reducible exact Upd.head | with_reducible apply Upd.tail)))) ?_
        clear H; intro w3 H; (try simp only [size_drew_, size_drewN_, World.size_alloc, World.size_setCell, List.set_cons_zero, List.set_cons_succ] at H)
        have hr_ := H.rules
        simp only [Rules, and_true] at hr_
        exact bodyPost_ret (v := .tuple #[.slice A us.length c, .int .i64 0]) (by simp [results, Tryz.results34, go_sem, hr_]) rfl ⟨_, _, rfl, (H.arr (by (repeat (first | with_reducible exact Arr.nil | refine Arr.cons (by (repeat (first | with_reducible exact Pick.head | with_reducible apply Pick.tail))) ?_)) <;> exact Arr.of_subl (by (repeat (first | with_reducible exact Subl.refl _ | with_reducible apply Subl.drop)))))⟩
    | error k =>
      have hk := ctorsQ_err HR2.out.symm
      have hk0 : k ≠ 0 := by omega
      have hk1 : (k == 0) = false := by simpa using hk0
      have HK := Lib.hid hk0
      clear hk hk0
      refine (tried_calls (r := some k) (J := fun l2 => ∃ A n c, l2 = [.box (w.heap.size + 1) 59 [.slice A n c], .box w.heap.size 51 [.int .i64 d.kind, .int .i64 d.levels, .int .i64 d.ty.k, .int .i64 d.ty.n, .int .i64 d.ty.a, .slice Aty d.ty.ls.length cty, .slice Kty d.ty.ks.length kty, .int .i64 d.body.k, .int .i64 d.body.n, .int .i64 d.body.a, .slice Abody d.body.ls.length cbody, .slice Kbody d.body.ks.length kbody, .slice Aparams d.params.length cparams, .slice Asort d.sort.length csort, .slice Amembers d.members.length cmembers, .slice Actors d.ctors.length cctors]]) (enters_of Tryz.func115 (by kernel_rfl) rfl) H (fun b w' Hb => (hone b w' Hb).mono (fun e w2 h => ?_))).mono ?_
      · obtain ⟨he, A, n, c, H2⟩ := h
        exact ⟨he, _, ⟨A, n, c, rfl⟩, (H2.arr (by (repeat (first | with_reducible exact Arr.nil | refine Arr.cons (by (repeat (first | with_reducible exact Pick.head | with_reducible apply Pick.tail))) ?_)) <;> exact Arr.of_subl (by (repeat (first | with_reducible exact Subl.refl _ | with_reducible apply Subl.drop)))))⟩
      · rintro e w2 ⟨rfl, l2, ⟨A, n, c, rfl⟩, H2⟩
        clear H hone
        have H := H2
        clear H2
        dsimp only [Option.getD_some]
        have hr_ := H.rules; simp only [Rules, and_true] at hr_; have hd_ := H.dif; simp only [Dif, Neq, and_true] at hd_; obtain ⟨ho_, hz_⟩ := H.old0
        go_wp2_with fail
        clear hr_ hd_ ho_ hz_
        refine endH (by (repeat (first | with_reducible exact H | with_reducible exact H0_ | with_reducible apply Hp.alloc | with_reducible apply Hp.allocMap | with_reducible apply Hp.drew | with_reducible apply Hp.drewN | with_reducible apply Hp.set)); (try any_goals (repeat (first | with_reducible exact Upd.head | with_reducible apply Upd.tail)))) ?_
        clear H; intro w3 H; (try simp only [size_drew_, size_drewN_, World.size_alloc, World.size_setCell, List.set_cons_zero, List.set_cons_succ] at H)
        have hr_ := H.rules
        simp only [Rules, and_true] at hr_
        exact bodyPost_ret (v := .tuple #[.slice none 0 0, .int .i64 k]) (by simp [results, Tryz.results34, go_sem, hr_]) rfl ⟨rfl, H.ext, HK.out⟩
  · have hz : R = .error 2 := by rw [HR.out, rulesQ, if_neg h3]
    have HZ := Lib.hid hz
    have h32 : (d.kind == 3) = false := by simpa using h3
    clear hz h3
    go_enter Tryz.func34, Tryz.ntmps34
    have H := Hp.start no w
    go_wp2_with fail
    refine endH (by (repeat (first | with_reducible exact H | with_reducible exact H0_ | with_reducible apply Hp.alloc | with_reducible apply Hp.allocMap | with_reducible apply Hp.drew | with_reducible apply Hp.drewN | with_reducible apply Hp.set)); (try any_goals (repeat (first | with_reducible exact Upd.head | with_reducible apply Upd.tail)))) ?_
    clear H; intro w1 H; (try simp only [size_drew_, size_drewN_, World.size_alloc, World.size_setCell, List.set_cons_zero, List.set_cons_succ] at H)
    have hr_ := H.rules
    simp only [Rules, and_true] at hr_
    rw [HZ.out]
    exact bodyPost_ret (v := .tuple #[.slice none 0 0, .int .i64 2]) (by simp [results, Tryz.results34, go_sem, hr_]) rfl ⟨rfl, H.ext, by decide⟩
end Go.Proofs.YtmedomglemllnaaGreatDoor
/- source: must, and what asks a node: contracts. No statement of the seat is proved here. -/
namespace Go.Proofs.YtmedomglemllnaaGreatDoor
set_option linter.unusedSimpArgs false
set_option linter.unusedVariables false
open Go.RowKit

def wrongP : List PanicEntry := [{ v := .iface 201 (.agg #[]), recovered := false }]
def PWr (w : World) (q : Bool) (e : Ending) (w' : World) : Prop := e = (if q then .returned (.tuple #[]) else .panicked wrongP) ∧ Ext no w w'
theorem smust_calls {w : World} {S : Nat → Prop} {bs : List Bool} {A : Option Addr} {n c : Nat} (h : RC w S (.l 4 1 (bs.map D.b)) [.slice A n c]) (hn : n = bs.length) :
    Calls Tryz.prog 92 #[.slice A n c] w (PWr w (bs.all id)) := by
  subst hn
  go_enter Tryz.func92, Tryz.ntmps92
  go_wp2_with fail
  refine (contains_false h rfl).mono ?_
  rintro e w1 ⟨rfl, hx1⟩
  cases hq : bs.all id
  · have HQ := Lib.hid hq
    clear hq
    go_wp2_with fail
    exact ⟨rfl, by rw [HQ.out]; rfl, hx1⟩
  · have HQ := Lib.hid hq
    clear hq
    go_wp2_with fail
    go_end0
    exact ⟨by rw [HQ.out]; rfl, hx1⟩
theorem smust1 {w0 w : World} {l : List Ch} {g e : Nat} {a : Bool} (H : Hp no w0 w (.box g e [.bool a] :: l)) : Calls Tryz.prog 92 #[.slice (some ⟨g, 0, none⟩) 1 1] w (PWr w a) := by
  have h := smust_calls (bs := [a]) (Blk.truths1 (H.blk .head)) rfl
  simpa using h
theorem smust2 {w0 w : World} {l : List Ch} {g e : Nat} {a b : Bool} (H : Hp no w0 w (.box g e [.bool a, .bool b] :: l)) : Calls Tryz.prog 92 #[.slice (some ⟨g, 0, none⟩) 2 2] w (PWr w (a && b)) := by
  have h := smust_calls (bs := [a, b]) (Blk.truths (bs := [a, b]) (H.blk .head) rfl (by simp)) rfl
  simpa using h
theorem PWr.yes {w w' : World} {q : Bool} {e : Ending} (h : PWr w q e w') (hq : q = true) : e = .returned (.tuple #[]) := by rw [h.1, hq]; rfl
theorem PWr.no {w w' : World} {q : Bool} {e : Ending} (h : PWr w q e w') (hq : q = false) : e = .panicked wrongP := by rw [h.1, hq]; rfl
abbrev wkV (A : Option Addr) (nd c : Nat) (n sf sc : Int) : Value := .agg #[.slice A nd c, .int .i64 n, .int .i64 sf, .int .i64 sc]
set_option maxRecDepth 100000 in
set_option maxHeartbeats 1000000 in
theorem variable_calls {w : World} {S : Nat → Prop} {t : Tm} {v : Value} {A : Option Addr} {nd c : Nat} {n sf sc : Int} (h : TV w S t v) : Calls Tryz.prog 239 #[wkV A nd c n sf sc, v] w (PWr w (decide (t.n < sc))) := by
  obtain ⟨A0, ca, K0, ck, rfl, hrc⟩ := h
  clear hrc
  go_enter Tryz.func239, Tryz.ntmps239
  go_wp2_with fail
  have H := Hp.start no w
  refine callsH (by (repeat (first | with_reducible exact H | with_reducible exact H0_ | with_reducible apply Hp.alloc | with_reducible apply Hp.allocMap | with_reducible apply Hp.drew | with_reducible apply Hp.drewN | with_reducible apply Hp.set)); (try any_goals (repeat (first | with_reducible exact Upd.head | with_reducible apply Upd.tail)))) ?_
  clear H; intro w1 H; (try simp only [size_drew_, size_drewN_, World.size_alloc, World.size_setCell, List.set_cons_zero, List.set_cons_succ] at H)
  refine (smust1 H).mono ?_
  rintro e w2 hm
  have hx := hm.2
  have HM := Lib.hid hm
  clear hm
  replace H := H.call hx
  clear hx
  by_cases hq : t.n < sc
  · obtain rfl := HM.out.yes (by simp [hq])
    have HQ := Lib.hid hq
    clear hq
    go_wp2_with fail
    go_end0
    exact ⟨by simp [HQ.out], H.ext⟩
  · obtain rfl := HM.out.no (by simp [hq])
    have HQ := Lib.hid hq
    clear hq
    go_wp2_with fail
    exact ⟨rfl, by simp [HQ.out], H.ext⟩
set_option maxRecDepth 100000 in
set_option maxHeartbeats 1000000 in
theorem own11_calls {w : World} {S : Nat → Prop} {t : Tm} {v : Value} {A : Option Addr} {nd c : Nat} {n sf sc : Int} (h : TV w S t v) : Calls Tryz.prog 244 #[wkV A nd c n sf sc, v] w (PWr w (decide (t.a < sf))) := by
  obtain ⟨A0, ca, K0, ck, rfl, hrc⟩ := h
  clear hrc
  go_enter Tryz.func244, Tryz.ntmps244
  go_wp2_with fail
  have H := Hp.start no w
  refine callsH (by (repeat (first | with_reducible exact H | with_reducible exact H0_ | with_reducible apply Hp.alloc | with_reducible apply Hp.allocMap | with_reducible apply Hp.drew | with_reducible apply Hp.drewN | with_reducible apply Hp.set)); (try any_goals (repeat (first | with_reducible exact Upd.head | with_reducible apply Upd.tail)))) ?_
  clear H; intro w1 H; (try simp only [size_drew_, size_drewN_, World.size_alloc, World.size_setCell, List.set_cons_zero, List.set_cons_succ] at H)
  refine (smust1 H).mono ?_
  rintro e w2 hm
  have hx := hm.2
  have HM := Lib.hid hm
  clear hm
  replace H := H.call hx
  clear hx
  by_cases hq : t.a < sf
  · obtain rfl := HM.out.yes (by simp [hq])
    have HQ := Lib.hid hq
    clear hq
    go_wp2_with fail
    go_end0
    exact ⟨by simp [HQ.out], H.ext⟩
  · obtain rfl := HM.out.no (by simp [hq])
    have HQ := Lib.hid hq
    clear hq
    go_wp2_with fail
    exact ⟨rfl, by simp [HQ.out], H.ext⟩
end Go.Proofs.YtmedomglemllnaaGreatDoor
/- source: the declaration of a node: contract. No statement of the seat is proved here. -/
namespace Go.Proofs.YtmedomglemllnaaGreatDoor
set_option linter.unusedSimpArgs false
set_option linter.unusedVariables false
open Go.RowKit

theorem RC.dcL {w : World} {S : Nat → Prop} {d : Dc} {cs : List Value} (h : RC w S d.d cs) : cs[1]? = some (.int .i64 d.levels) := by
  obtain ⟨Aty, cty, Kty, kty, Abody, cbody, Kbody, kbody, Aparams, cparams, Asort, csort, Amembers, cmembers, Actors, cctors, rfl, hr⟩ := RC.dc.1 h
  rfl
def declAt (ds : List Dc) (m : Int) (nl : Nat) (more : Int) : Option Dc := if h : m.toNat < ds.length then (if (nl : Int) = wrap64 (ds[m.toNat].levels + more) then some ds[m.toNat] else none) else none
def PDcl (w : World) (S : Nat → Prop) (o : Option Dc) (e : Ending) (w' : World) : Prop := Ext no w w' ∧ match o with
  | none => e = .panicked wrongP
  | some d => ∃ cs : List Value, e = .returned (.agg cs.toArray) ∧ RC w S d.d cs
set_option maxRecDepth 100000 in
set_option maxHeartbeats 4000000 in
theorem decl11_calls {w : World} {S S1 : Nat → Prop} {ds : List Dc} {t : Tm} {v : Value} {A : Option Addr} {nd c : Nat} {n sf sc more : Int} (h : RC w S (.l 51 16 (ds.map Dc.d)) [.slice A nd c]) (hn : nd = ds.length) (ht : TV w S1 t v) (h0 : 0 ≤ t.n) :
    Calls Tryz.prog 273 #[wkV A nd c n sf sc, v, .int .i64 more] w (PDcl w S (declAt ds t.n t.ls.length more)) := by
  subst hn
  obtain ⟨A0, ca, K0, ck, rfl, hrc⟩ := ht
  have hM := h.lenM
  clear hrc
  obtain ⟨j, hj⟩ : ∃ j : Nat, t.n = (j : Int) := ⟨t.n.toNat, by omega⟩
  rw [hj]
  clear h0 hj
  go_enter Tryz.func273, Tryz.ntmps273
  go_wp2_with fail
  have H := Hp.start no w
  refine callsH (by (repeat (first | with_reducible exact H | with_reducible exact H0_ | with_reducible apply Hp.alloc | with_reducible apply Hp.allocMap | with_reducible apply Hp.drew | with_reducible apply Hp.drewN | with_reducible apply Hp.set)); (try any_goals (repeat (first | with_reducible exact Upd.head | with_reducible apply Upd.tail)))) ?_
  clear H; intro w1 H; (try simp only [size_drew_, size_drewN_, World.size_alloc, World.size_setCell, List.set_cons_zero, List.set_cons_succ] at H)
  refine (smust1 H).mono ?_
  rintro e w2 hm
  have hx := hm.2
  have HM := Lib.hid hm
  clear hm
  replace H := H.call hx
  clear hx
  by_cases hlt : j < ds.length
  · obtain rfl := HM.out.yes (by simpa using hlt)
    obtain ⟨b, o, cs, rfl, hb, hS, hd, hl, hcell⟩ := h.el (i := j) (d := ds[j].d) (by simp [hlt])
    have g1 := hd.dcL
    have HI := Lib.hid hcell
    have HL := Lib.hid hl
    have HD := Lib.hid hd
    have one := Lib.hid (RC.one _ _ hd)
    clear hcell hl hd
    have hr_ := H.rules; simp only [Rules, and_true] at hr_; have hd_ := H.dif; simp only [Dif, Neq, and_true] at hd_; obtain ⟨ho_, hz_⟩ := H.old0
    go_wp2_with (first | ((with_reducible refine atLoad (t := 51) ?_); (refine wpList_run (v := .agg (cs).toArray) rfl (run_loadL aggDecl rfl ?_ HL.out (H.lies hb no_not HI.out)) ?_); (focus (go_simp; done))) | ((with_reducible refine atStore (t := 51) ?_); go_must (refine wpList_storeH (t := 51) (cs' := cs) rfl rfl (by go_simp <;> first | rfl | exact ⟨rfl, rfl⟩) (by go_simp <;> first | rfl | exact ⟨rfl, rfl⟩) (by exact Hp.norm (by (repeat (first | with_reducible exact H | with_reducible exact H0_ | with_reducible apply Hp.alloc | with_reducible apply Hp.allocMap | with_reducible apply Hp.drew | with_reducible apply Hp.drewN | with_reducible apply Hp.set)); (try any_goals (repeat (first | with_reducible exact Upd.head | with_reducible apply Upd.tail)))) (by ((try simp only [size_drew_, size_drewN_, World.size_alloc, World.size_setCell, List.set_cons_zero, List.set_cons_succ, List.nil_append, List.cons_append]) <;> rfl))) (by (repeat (first | with_reducible exact Upd.head | with_reducible apply Upd.tail))) (by rw [HL.out]; exact aggDecl) (by rw [HL.out]; rfl) one.out ?_; clear H; intro w3 H; (try simp only [size_drew_, size_drewN_, World.size_alloc, World.size_setCell, List.set_cons_zero, List.set_cons_succ] at H); have hr2_ := H.rules; simp only [Rules, and_true] at hr2_; have hs2_ := H.ext.size)))
    clear hr2_ hs2_
    refine callsH (by (repeat (first | with_reducible exact H | with_reducible exact H0_ | with_reducible apply Hp.alloc | with_reducible apply Hp.allocMap | with_reducible apply Hp.drew | with_reducible apply Hp.drewN | with_reducible apply Hp.set)); (try any_goals (repeat (first | with_reducible exact Upd.head | with_reducible apply Upd.tail)))) ?_
    clear H; intro w4 H; (try simp only [size_drew_, size_drewN_, World.size_alloc, World.size_setCell, List.set_cons_zero, List.set_cons_succ] at H)
    refine (smust1 H).mono ?_
    rintro e w5 hm
    have hx := hm.2
    have HM := Lib.hid hm
    clear hm
    replace H := H.call hx
    clear hx
    by_cases hq : (t.ls.length : Int) = wrap64 (ds[j].levels + more)
    · obtain rfl := HM.out.yes (by simpa using hq)
      have HQ := Lib.hid hq
      clear hq
      have hr_ := H.rules; simp only [Rules, and_true] at hr_; have hd_ := H.dif; simp only [Dif, Neq, and_true] at hd_; obtain ⟨ho_, hz_⟩ := H.old0
      go_wp2_with (first | ((with_reducible refine atLoad (t := 51) ?_); (refine wpList_run (v := .agg (cs).toArray) rfl (run_loadL aggDecl rfl ?_ HL.out (Hp.boxlies H (by (repeat (first | with_reducible exact Pick.head | with_reducible apply Pick.tail))))) ?_); (focus (go_simp; done))) | ((with_reducible refine atStore (t := 51) ?_); go_must (refine wpList_storeH (t := 51) (cs' := cs) rfl rfl (by go_simp <;> first | rfl | exact ⟨rfl, rfl⟩) (by go_simp <;> first | rfl | exact ⟨rfl, rfl⟩) (by exact Hp.norm (by (repeat (first | with_reducible exact H | with_reducible exact H0_ | with_reducible apply Hp.alloc | with_reducible apply Hp.allocMap | with_reducible apply Hp.drew | with_reducible apply Hp.drewN | with_reducible apply Hp.set)); (try any_goals (repeat (first | with_reducible exact Upd.head | with_reducible apply Upd.tail)))) (by ((try simp only [size_drew_, size_drewN_, World.size_alloc, World.size_setCell, List.set_cons_zero, List.set_cons_succ, List.nil_append, List.cons_append]) <;> rfl))) (by (repeat (first | with_reducible exact Upd.head | with_reducible apply Upd.tail))) (by rw [HL.out]; exact aggDecl) (by rw [HL.out]; rfl) one.out ?_; clear H; intro w6 H; (try simp only [size_drew_, size_drewN_, World.size_alloc, World.size_setCell, List.set_cons_zero, List.set_cons_succ] at H); have hr2_ := H.rules; simp only [Rules, and_true] at hr2_; have hs2_ := H.ext.size)))
      have e : declAt ds (j : Int) t.ls.length more = some ds[j] := by
        unfold declAt
        rw [dif_pos (by simpa using hlt)]
        simpa using HQ.out
      rw [e]
      refine bodyPost_ret (v := .agg cs.toArray) (Res.one Tryz.results273 (H.resBox (by (repeat (first | with_reducible exact Pick.head | with_reducible apply Pick.tail))) aggDecl HL.out rfl)) rfl ⟨H.ext, cs, rfl, HD.out⟩
    · obtain rfl := HM.out.no (by simpa using hq)
      have HQ := Lib.hid hq
      clear hq
      go_wp2_with fail
      have e : declAt ds (j : Int) t.ls.length more = none := by
        unfold declAt
        rw [dif_pos (by simpa using hlt)]
        simpa using HQ.out
      rw [e]
      exact ⟨rfl, H.ext, rfl⟩
  · obtain rfl := HM.out.no (by simpa using hlt)
    have HQ := Lib.hid hlt
    clear hlt
    go_wp2_with fail
    have e : declAt ds (j : Int) t.ls.length more = none := by unfold declAt; rw [dif_neg (by simpa using HQ.out)]
    rw [e]
    exact ⟨rfl, H.ext, rfl⟩
end Go.Proofs.YtmedomglemllnaaGreatDoor
/- source: a node's name asked: contracts. No statement of the seat is proved here. -/
namespace Go.Proofs.YtmedomglemllnaaGreatDoor
set_option linter.unusedSimpArgs false
set_option linter.unusedVariables false
open Go.RowKit

def constQ (ds : List Dc) (t : Tm) : Bool := match declAt ds t.n t.ls.length 0 with | some d => decide (d.kind = 1 ∨ d.kind = 2) | none => false
def memQ (ds : List Dc) (t : Tm) : Bool := match declAt ds t.n t.ls.length 0 with | some d => decide (d.kind = 3 ∧ t.a < d.members.length) | none => false
def ctorQ (ds : List Dc) (t : Tm) : Bool := match declAt ds t.n t.ls.length 0 with | some d => decide (d.kind = 3 ∧ t.a < d.ctors.length) | none => false
def recQ (ds : List Dc) (t : Tm) : Bool := match declAt ds t.n t.ls.length 1 with | some d => decide (d.kind = 3 ∧ t.a < d.members.length) | none => false
theorem RC.dcM {w : World} {S : Nat → Prop} {d : Dc} {cs : List Value} (h : RC w S d.d cs) : d.members.length ≤ 4294967296 ∧ d.ctors.length ≤ 4294967296 := by
  obtain ⟨Am, cm, Ac, cc, hl, g0, g14, g15, hm, hc⟩ := h.dcG
  exact ⟨hm.lenM.1, hc.lenM.1⟩
set_option maxRecDepth 100000 in
set_option maxHeartbeats 4000000 in
theorem member11_calls {w : World} {S S1 : Nat → Prop} {ds : List Dc} {t : Tm} {v : Value} {A : Option Addr} {nd c : Nat} {n sf sc : Int} (h : RC w S (.l 51 16 (ds.map Dc.d)) [.slice A nd c]) (hn : nd = ds.length) (ht : TV w S1 t v) (h0 : 0 ≤ t.n) :
    Calls Tryz.prog 241 #[wkV A nd c n sf sc, v] w (PWr w (memQ ds t)) := by
  subst hn
  obtain ⟨A0, ca, K0, ck, rfl, hrc⟩ := ht
  have HRC := Lib.hid hrc
  have HH := Lib.hid h
  have HN := Lib.hid h0
  clear hrc h h0
  go_enter Tryz.func241, Tryz.ntmps241
  go_wp2_with fail
  have H := Hp.start no w
  refine callsH (by (repeat (first | with_reducible exact H | with_reducible exact H0_ | with_reducible apply Hp.alloc | with_reducible apply Hp.allocMap | with_reducible apply Hp.drew | with_reducible apply Hp.drewN | with_reducible apply Hp.set)); (try any_goals (repeat (first | with_reducible exact Upd.head | with_reducible apply Upd.tail)))) ?_
  clear H; intro w1 H; (try simp only [size_drew_, size_drewN_, World.size_alloc, World.size_setCell, List.set_cons_zero, List.set_cons_succ] at H)
  refine (decl11_calls (HH.out.ext0 H.ext) rfl ⟨_, _, _, _, rfl, HRC.out.ext0 H.ext⟩ HN.out).mono ?_
  rintro e w2 ⟨hx, hm⟩
  replace H := H.call hx
  clear hx
  cases hdc : declAt ds t.n t.ls.length 0 with
  | none =>
    rw [hdc] at hm
    obtain rfl := hm
    exact ⟨rfl, by unfold memQ; rw [hdc]; rfl, H.ext⟩
  | some d =>
    rw [hdc] at hm
    obtain ⟨cs, rfl, hd⟩ := hm
    obtain ⟨Am, cm, Ac, cc, hl, g0, g14, g15, _, _⟩ := hd.dcG
    have hlm := hd.dcM
    have one := Lib.hid (RC.one _ _ hd)
    have HL := Lib.hid hl
    have HD := Lib.hid hdc
    clear hl hd hdc
    have hr_ := H.rules; simp only [Rules, and_true] at hr_; have hd_ := H.dif; simp only [Dif, Neq, and_true] at hd_; obtain ⟨ho_, hz_⟩ := H.old0
    go_wp2_with (first | ((with_reducible refine atStore (t := 51) ?_); go_must (refine wpList_storeH (t := 51) (cs' := cs) rfl rfl (by go_simp <;> first | rfl | exact ⟨rfl, rfl⟩) (by go_simp <;> first | rfl | exact ⟨rfl, rfl⟩) (by exact Hp.norm (by (repeat (first | with_reducible exact H | with_reducible exact H0_ | with_reducible apply Hp.alloc | with_reducible apply Hp.allocMap | with_reducible apply Hp.drew | with_reducible apply Hp.drewN | with_reducible apply Hp.set)); (try any_goals (repeat (first | with_reducible exact Upd.head | with_reducible apply Upd.tail)))) (by ((try simp only [size_drew_, size_drewN_, World.size_alloc, World.size_setCell, List.set_cons_zero, List.set_cons_succ, List.nil_append, List.cons_append]) <;> rfl))) (by (repeat (first | with_reducible exact Upd.head | with_reducible apply Upd.tail))) (by rw [HL.out]; exact aggDecl) (by rw [HL.out]; rfl) one.out ?_; clear H; intro w3 H; (try simp only [size_drew_, size_drewN_, World.size_alloc, World.size_setCell, List.set_cons_zero, List.set_cons_succ] at H); have hr2_ := H.rules; simp only [Rules, and_true] at hr2_; have hs2_ := H.ext.size)) | ((with_reducible refine atLoad (t := 51) ?_); (refine wpList_run (v := .agg (cs).toArray) rfl (run_loadL aggDecl rfl ?_ HL.out (Hp.boxlies H (by (repeat (first | with_reducible exact Pick.head | with_reducible apply Pick.tail))))) ?_); (focus (go_simp; done))))
    (try clear hr2_ hs2_)
    refine callsH (by (repeat (first | with_reducible exact H | with_reducible exact H0_ | with_reducible apply Hp.alloc | with_reducible apply Hp.allocMap | with_reducible apply Hp.drew | with_reducible apply Hp.drewN | with_reducible apply Hp.set)); (try any_goals (repeat (first | with_reducible exact Upd.head | with_reducible apply Upd.tail)))) ?_
    clear H; intro w4 H; (try simp only [size_drew_, size_drewN_, World.size_alloc, World.size_setCell, List.set_cons_zero, List.set_cons_succ] at H)
    refine (smust2 H).mono ?_
    rintro e w2 hm
    have hx := hm.2
    have HM := Lib.hid hm
    clear hm
    replace H := H.call hx
    clear hx
    by_cases hq : d.kind = 3 ∧ t.a < d.members.length
    · obtain rfl := HM.out.yes (by simp [hq])
      have HQ := Lib.hid hq
      clear hq
      go_wp2_with fail
      go_end0
      exact ⟨by unfold memQ; rw [HD.out]; simp [HQ.out], H.ext⟩
    · obtain rfl := HM.out.no (by simpa using hq)
      have HQ := Lib.hid hq
      clear hq
      go_wp2_with fail
      exact ⟨rfl, by unfold memQ; rw [HD.out]; simp [HQ.out], H.ext⟩
set_option maxRecDepth 100000 in
set_option maxHeartbeats 4000000 in
theorem ctor11_calls {w : World} {S S1 : Nat → Prop} {ds : List Dc} {t : Tm} {v : Value} {A : Option Addr} {nd c : Nat} {n sf sc : Int} (h : RC w S (.l 51 16 (ds.map Dc.d)) [.slice A nd c]) (hn : nd = ds.length) (ht : TV w S1 t v) (h0 : 0 ≤ t.n) :
    Calls Tryz.prog 242 #[wkV A nd c n sf sc, v] w (PWr w (ctorQ ds t)) := by
  subst hn
  obtain ⟨A0, ca, K0, ck, rfl, hrc⟩ := ht
  have HRC := Lib.hid hrc
  have HH := Lib.hid h
  have HN := Lib.hid h0
  clear hrc h h0
  go_enter Tryz.func242, Tryz.ntmps242
  go_wp2_with fail
  have H := Hp.start no w
  refine callsH (by (repeat (first | with_reducible exact H | with_reducible exact H0_ | with_reducible apply Hp.alloc | with_reducible apply Hp.allocMap | with_reducible apply Hp.drew | with_reducible apply Hp.drewN | with_reducible apply Hp.set)); (try any_goals (repeat (first | with_reducible exact Upd.head | with_reducible apply Upd.tail)))) ?_
  clear H; intro w1 H; (try simp only [size_drew_, size_drewN_, World.size_alloc, World.size_setCell, List.set_cons_zero, List.set_cons_succ] at H)
  refine (decl11_calls (HH.out.ext0 H.ext) rfl ⟨_, _, _, _, rfl, HRC.out.ext0 H.ext⟩ HN.out).mono ?_
  rintro e w2 ⟨hx, hm⟩
  replace H := H.call hx
  clear hx
  cases hdc : declAt ds t.n t.ls.length 0 with
  | none =>
    rw [hdc] at hm
    obtain rfl := hm
    exact ⟨rfl, by unfold ctorQ; rw [hdc]; rfl, H.ext⟩
  | some d =>
    rw [hdc] at hm
    obtain ⟨cs, rfl, hd⟩ := hm
    obtain ⟨Am, cm, Ac, cc, hl, g0, g14, g15, _, _⟩ := hd.dcG
    have hlm := hd.dcM
    have one := Lib.hid (RC.one _ _ hd)
    have HL := Lib.hid hl
    have HD := Lib.hid hdc
    clear hl hd hdc
    have hr_ := H.rules; simp only [Rules, and_true] at hr_; have hd_ := H.dif; simp only [Dif, Neq, and_true] at hd_; obtain ⟨ho_, hz_⟩ := H.old0
    go_wp2_with (first | ((with_reducible refine atStore (t := 51) ?_); go_must (refine wpList_storeH (t := 51) (cs' := cs) rfl rfl (by go_simp <;> first | rfl | exact ⟨rfl, rfl⟩) (by go_simp <;> first | rfl | exact ⟨rfl, rfl⟩) (by exact Hp.norm (by (repeat (first | with_reducible exact H | with_reducible exact H0_ | with_reducible apply Hp.alloc | with_reducible apply Hp.allocMap | with_reducible apply Hp.drew | with_reducible apply Hp.drewN | with_reducible apply Hp.set)); (try any_goals (repeat (first | with_reducible exact Upd.head | with_reducible apply Upd.tail)))) (by ((try simp only [size_drew_, size_drewN_, World.size_alloc, World.size_setCell, List.set_cons_zero, List.set_cons_succ, List.nil_append, List.cons_append]) <;> rfl))) (by (repeat (first | with_reducible exact Upd.head | with_reducible apply Upd.tail))) (by rw [HL.out]; exact aggDecl) (by rw [HL.out]; rfl) one.out ?_; clear H; intro w3 H; (try simp only [size_drew_, size_drewN_, World.size_alloc, World.size_setCell, List.set_cons_zero, List.set_cons_succ] at H); have hr2_ := H.rules; simp only [Rules, and_true] at hr2_; have hs2_ := H.ext.size)) | ((with_reducible refine atLoad (t := 51) ?_); (refine wpList_run (v := .agg (cs).toArray) rfl (run_loadL aggDecl rfl ?_ HL.out (Hp.boxlies H (by (repeat (first | with_reducible exact Pick.head | with_reducible apply Pick.tail))))) ?_); (focus (go_simp; done))))
    (try clear hr2_ hs2_)
    refine callsH (by (repeat (first | with_reducible exact H | with_reducible exact H0_ | with_reducible apply Hp.alloc | with_reducible apply Hp.allocMap | with_reducible apply Hp.drew | with_reducible apply Hp.drewN | with_reducible apply Hp.set)); (try any_goals (repeat (first | with_reducible exact Upd.head | with_reducible apply Upd.tail)))) ?_
    clear H; intro w4 H; (try simp only [size_drew_, size_drewN_, World.size_alloc, World.size_setCell, List.set_cons_zero, List.set_cons_succ] at H)
    refine (smust2 H).mono ?_
    rintro e w2 hm
    have hx := hm.2
    have HM := Lib.hid hm
    clear hm
    replace H := H.call hx
    clear hx
    by_cases hq : d.kind = 3 ∧ t.a < d.ctors.length
    · obtain rfl := HM.out.yes (by simp [hq])
      have HQ := Lib.hid hq
      clear hq
      go_wp2_with fail
      go_end0
      exact ⟨by unfold ctorQ; rw [HD.out]; simp [HQ.out], H.ext⟩
    · obtain rfl := HM.out.no (by simpa using hq)
      have HQ := Lib.hid hq
      clear hq
      go_wp2_with fail
      exact ⟨rfl, by unfold ctorQ; rw [HD.out]; simp [HQ.out], H.ext⟩
set_option maxRecDepth 100000 in
set_option maxHeartbeats 4000000 in
theorem recursor11_calls {w : World} {S S1 : Nat → Prop} {ds : List Dc} {t : Tm} {v : Value} {A : Option Addr} {nd c : Nat} {n sf sc : Int} (h : RC w S (.l 51 16 (ds.map Dc.d)) [.slice A nd c]) (hn : nd = ds.length) (ht : TV w S1 t v) (h0 : 0 ≤ t.n) :
    Calls Tryz.prog 243 #[wkV A nd c n sf sc, v] w (PWr w (recQ ds t)) := by
  subst hn
  obtain ⟨A0, ca, K0, ck, rfl, hrc⟩ := ht
  have HRC := Lib.hid hrc
  have HH := Lib.hid h
  have HN := Lib.hid h0
  clear hrc h h0
  go_enter Tryz.func243, Tryz.ntmps243
  go_wp2_with fail
  have H := Hp.start no w
  refine callsH (by (repeat (first | with_reducible exact H | with_reducible exact H0_ | with_reducible apply Hp.alloc | with_reducible apply Hp.allocMap | with_reducible apply Hp.drew | with_reducible apply Hp.drewN | with_reducible apply Hp.set)); (try any_goals (repeat (first | with_reducible exact Upd.head | with_reducible apply Upd.tail)))) ?_
  clear H; intro w1 H; (try simp only [size_drew_, size_drewN_, World.size_alloc, World.size_setCell, List.set_cons_zero, List.set_cons_succ] at H)
  refine (decl11_calls (HH.out.ext0 H.ext) rfl ⟨_, _, _, _, rfl, HRC.out.ext0 H.ext⟩ HN.out).mono ?_
  rintro e w2 ⟨hx, hm⟩
  replace H := H.call hx
  clear hx
  cases hdc : declAt ds t.n t.ls.length 1 with
  | none =>
    rw [hdc] at hm
    obtain rfl := hm
    exact ⟨rfl, by unfold recQ; rw [hdc]; rfl, H.ext⟩
  | some d =>
    rw [hdc] at hm
    obtain ⟨cs, rfl, hd⟩ := hm
    obtain ⟨Am, cm, Ac, cc, hl, g0, g14, g15, _, _⟩ := hd.dcG
    have hlm := hd.dcM
    have one := Lib.hid (RC.one _ _ hd)
    have HL := Lib.hid hl
    have HD := Lib.hid hdc
    clear hl hd hdc
    have hr_ := H.rules; simp only [Rules, and_true] at hr_; have hd_ := H.dif; simp only [Dif, Neq, and_true] at hd_; obtain ⟨ho_, hz_⟩ := H.old0
    go_wp2_with (first | ((with_reducible refine atStore (t := 51) ?_); go_must (refine wpList_storeH (t := 51) (cs' := cs) rfl rfl (by go_simp <;> first | rfl | exact ⟨rfl, rfl⟩) (by go_simp <;> first | rfl | exact ⟨rfl, rfl⟩) (by exact Hp.norm (by (repeat (first | with_reducible exact H | with_reducible exact H0_ | with_reducible apply Hp.alloc | with_reducible apply Hp.allocMap | with_reducible apply Hp.drew | with_reducible apply Hp.drewN | with_reducible apply Hp.set)); (try any_goals (repeat (first | with_reducible exact Upd.head | with_reducible apply Upd.tail)))) (by ((try simp only [size_drew_, size_drewN_, World.size_alloc, World.size_setCell, List.set_cons_zero, List.set_cons_succ, List.nil_append, List.cons_append]) <;> rfl))) (by (repeat (first | with_reducible exact Upd.head | with_reducible apply Upd.tail))) (by rw [HL.out]; exact aggDecl) (by rw [HL.out]; rfl) one.out ?_; clear H; intro w3 H; (try simp only [size_drew_, size_drewN_, World.size_alloc, World.size_setCell, List.set_cons_zero, List.set_cons_succ] at H); have hr2_ := H.rules; simp only [Rules, and_true] at hr2_; have hs2_ := H.ext.size)) | ((with_reducible refine atLoad (t := 51) ?_); (refine wpList_run (v := .agg (cs).toArray) rfl (run_loadL aggDecl rfl ?_ HL.out (Hp.boxlies H (by (repeat (first | with_reducible exact Pick.head | with_reducible apply Pick.tail))))) ?_); (focus (go_simp; done))))
    (try clear hr2_ hs2_)
    refine callsH (by (repeat (first | with_reducible exact H | with_reducible exact H0_ | with_reducible apply Hp.alloc | with_reducible apply Hp.allocMap | with_reducible apply Hp.drew | with_reducible apply Hp.drewN | with_reducible apply Hp.set)); (try any_goals (repeat (first | with_reducible exact Upd.head | with_reducible apply Upd.tail)))) ?_
    clear H; intro w4 H; (try simp only [size_drew_, size_drewN_, World.size_alloc, World.size_setCell, List.set_cons_zero, List.set_cons_succ] at H)
    refine (smust2 H).mono ?_
    rintro e w2 hm
    have hx := hm.2
    have HM := Lib.hid hm
    clear hm
    replace H := H.call hx
    clear hx
    by_cases hq : d.kind = 3 ∧ t.a < d.members.length
    · obtain rfl := HM.out.yes (by simp [hq])
      have HQ := Lib.hid hq
      clear hq
      go_wp2_with fail
      go_end0
      exact ⟨by unfold recQ; rw [HD.out]; simp [HQ.out], H.ext⟩
    · obtain rfl := HM.out.no (by simpa using hq)
      have HQ := Lib.hid hq
      clear hq
      go_wp2_with fail
      exact ⟨rfl, by unfold recQ; rw [HD.out]; simp [HQ.out], H.ext⟩
set_option maxRecDepth 100000 in
set_option maxHeartbeats 4000000 in
theorem constant11_calls {w : World} {S S1 : Nat → Prop} {ds : List Dc} {t : Tm} {v : Value} {A : Option Addr} {nd c : Nat} {n sf sc : Int} (h : RC w S (.l 51 16 (ds.map Dc.d)) [.slice A nd c]) (hn : nd = ds.length) (ht : TV w S1 t v) (h0 : 0 ≤ t.n) :
    Calls Tryz.prog 240 #[wkV A nd c n sf sc, v] w (PWr w (constQ ds t)) := by
  subst hn
  obtain ⟨A0, ca, K0, ck, rfl, hrc⟩ := ht
  have HRC := Lib.hid hrc
  have HH := Lib.hid h
  have HN := Lib.hid h0
  clear hrc h h0
  go_enter Tryz.func240, Tryz.ntmps240
  go_wp2_with fail
  have H := Hp.start no w
  refine callsH (by (repeat (first | with_reducible exact H | with_reducible exact H0_ | with_reducible apply Hp.alloc | with_reducible apply Hp.allocMap | with_reducible apply Hp.drew | with_reducible apply Hp.drewN | with_reducible apply Hp.set)); (try any_goals (repeat (first | with_reducible exact Upd.head | with_reducible apply Upd.tail)))) ?_
  clear H; intro w1 H; (try simp only [size_drew_, size_drewN_, World.size_alloc, World.size_setCell, List.set_cons_zero, List.set_cons_succ] at H)
  refine (decl11_calls (HH.out.ext0 H.ext) rfl ⟨_, _, _, _, rfl, HRC.out.ext0 H.ext⟩ HN.out).mono ?_
  rintro e w2 ⟨hx, hm⟩
  replace H := H.call hx
  clear hx
  cases hdc : declAt ds t.n t.ls.length 0 with
  | none =>
    rw [hdc] at hm
    obtain rfl := hm
    exact ⟨rfl, by unfold constQ; rw [hdc]; rfl, H.ext⟩
  | some d =>
    rw [hdc] at hm
    obtain ⟨cs, rfl, hd⟩ := hm
    obtain ⟨Am, cm, Ac, cc, hl, g0, g14, g15, _, _⟩ := hd.dcG
    have hlm := hd.dcM
    have one := Lib.hid (RC.one _ _ hd)
    have HL := Lib.hid hl
    have HD := Lib.hid hdc
    clear hl hd hdc
    by_cases k1 : d.kind = 1
    · have HC : Hid (constQ ds t = true) := by unfold Hid constQ; rw [HD.out]; simp [k1]
      rw [k1] at g0
      clear k1
      have hr_ := H.rules; simp only [Rules, and_true] at hr_; have hd_ := H.dif; simp only [Dif, Neq, and_true] at hd_; obtain ⟨ho_, hz_⟩ := H.old0
      go_wp2_with (first | ((with_reducible refine atStore (t := 51) ?_); go_must (refine wpList_storeH (t := 51) (cs' := cs) rfl rfl (by go_simp <;> first | rfl | exact ⟨rfl, rfl⟩) (by go_simp <;> first | rfl | exact ⟨rfl, rfl⟩) (by exact Hp.norm (by (repeat (first | with_reducible exact H | with_reducible exact H0_ | with_reducible apply Hp.alloc | with_reducible apply Hp.allocMap | with_reducible apply Hp.drew | with_reducible apply Hp.drewN | with_reducible apply Hp.set)); (try any_goals (repeat (first | with_reducible exact Upd.head | with_reducible apply Upd.tail)))) (by ((try simp only [size_drew_, size_drewN_, World.size_alloc, World.size_setCell, List.set_cons_zero, List.set_cons_succ, List.nil_append, List.cons_append]) <;> rfl))) (by (repeat (first | with_reducible exact Upd.head | with_reducible apply Upd.tail))) (by rw [HL.out]; exact aggDecl) (by rw [HL.out]; rfl) one.out ?_; clear H; intro w3 H; (try simp only [size_drew_, size_drewN_, World.size_alloc, World.size_setCell, List.set_cons_zero, List.set_cons_succ] at H); have hr2_ := H.rules; simp only [Rules, and_true] at hr2_; have hs2_ := H.ext.size)) | ((with_reducible refine atLoad (t := 51) ?_); (refine wpList_run (v := .agg (cs).toArray) rfl (run_loadL aggDecl rfl ?_ HL.out (Hp.boxlies H (by (repeat (first | with_reducible exact Pick.head | with_reducible apply Pick.tail))))) ?_); (focus (go_simp; done))))
      (try clear hr2_ hs2_)
      refine callsH (by (repeat (first | with_reducible exact H | with_reducible exact H0_ | with_reducible apply Hp.alloc | with_reducible apply Hp.allocMap | with_reducible apply Hp.drew | with_reducible apply Hp.drewN | with_reducible apply Hp.set)); (try any_goals (repeat (first | with_reducible exact Upd.head | with_reducible apply Upd.tail)))) ?_
      clear H; intro w4 H; (try simp only [size_drew_, size_drewN_, World.size_alloc, World.size_setCell, List.set_cons_zero, List.set_cons_succ] at H)
      refine (smust1 H).mono ?_
      rintro e w2 hm
      have hx := hm.2
      have HM := Lib.hid hm
      clear hm
      replace H := H.call hx
      clear hx
      obtain rfl := HM.out.yes rfl
      go_wp2_with fail
      go_end0
      exact ⟨by rw [HC.out]; rfl, H.ext⟩
    · by_cases k2 : d.kind = 2
      · have HC : Hid (constQ ds t = true) := by unfold Hid constQ; rw [HD.out]; simp [k2]
        rw [k2] at g0
        clear k1 k2
        have hr_ := H.rules; simp only [Rules, and_true] at hr_; have hd_ := H.dif; simp only [Dif, Neq, and_true] at hd_; obtain ⟨ho_, hz_⟩ := H.old0
        go_wp2_with (first | ((with_reducible refine atStore (t := 51) ?_); go_must (refine wpList_storeH (t := 51) (cs' := cs) rfl rfl (by go_simp <;> first | rfl | exact ⟨rfl, rfl⟩) (by go_simp <;> first | rfl | exact ⟨rfl, rfl⟩) (by exact Hp.norm (by (repeat (first | with_reducible exact H | with_reducible exact H0_ | with_reducible apply Hp.alloc | with_reducible apply Hp.allocMap | with_reducible apply Hp.drew | with_reducible apply Hp.drewN | with_reducible apply Hp.set)); (try any_goals (repeat (first | with_reducible exact Upd.head | with_reducible apply Upd.tail)))) (by ((try simp only [size_drew_, size_drewN_, World.size_alloc, World.size_setCell, List.set_cons_zero, List.set_cons_succ, List.nil_append, List.cons_append]) <;> rfl))) (by (repeat (first | with_reducible exact Upd.head | with_reducible apply Upd.tail))) (by rw [HL.out]; exact aggDecl) (by rw [HL.out]; rfl) one.out ?_; clear H; intro w3 H; (try simp only [size_drew_, size_drewN_, World.size_alloc, World.size_setCell, List.set_cons_zero, List.set_cons_succ] at H); have hr2_ := H.rules; simp only [Rules, and_true] at hr2_; have hs2_ := H.ext.size)) | ((with_reducible refine atLoad (t := 51) ?_); (refine wpList_run (v := .agg (cs).toArray) rfl (run_loadL aggDecl rfl ?_ HL.out (Hp.boxlies H (by (repeat (first | with_reducible exact Pick.head | with_reducible apply Pick.tail))))) ?_); (focus (go_simp; done))))
        (try clear hr2_ hs2_)
        refine callsH (by (repeat (first | with_reducible exact H | with_reducible exact H0_ | with_reducible apply Hp.alloc | with_reducible apply Hp.allocMap | with_reducible apply Hp.drew | with_reducible apply Hp.drewN | with_reducible apply Hp.set)); (try any_goals (repeat (first | with_reducible exact Upd.head | with_reducible apply Upd.tail)))) ?_
        clear H; intro w4 H; (try simp only [size_drew_, size_drewN_, World.size_alloc, World.size_setCell, List.set_cons_zero, List.set_cons_succ] at H)
        refine (smust1 H).mono ?_
        rintro e w2 hm
        have hx := hm.2
        have HM := Lib.hid hm
        clear hm
        replace H := H.call hx
        clear hx
        obtain rfl := HM.out.yes rfl
        go_wp2_with fail
        go_end0
        exact ⟨by rw [HC.out]; rfl, H.ext⟩
      · have HC : Hid (constQ ds t = false) := by unfold Hid constQ; rw [HD.out]; simp [k1, k2]
        have e1 : (d.kind == 1) = false := by simpa using k1
        have e2 : (d.kind == 2) = false := by simpa using k2
        have hr_ := H.rules; simp only [Rules, and_true] at hr_; have hd_ := H.dif; simp only [Dif, Neq, and_true] at hd_; obtain ⟨ho_, hz_⟩ := H.old0
        go_wp2_with (first | ((with_reducible refine atStore (t := 51) ?_); go_must (refine wpList_storeH (t := 51) (cs' := cs) rfl rfl (by go_simp <;> first | rfl | exact ⟨rfl, rfl⟩) (by go_simp <;> first | rfl | exact ⟨rfl, rfl⟩) (by exact Hp.norm (by (repeat (first | with_reducible exact H | with_reducible exact H0_ | with_reducible apply Hp.alloc | with_reducible apply Hp.allocMap | with_reducible apply Hp.drew | with_reducible apply Hp.drewN | with_reducible apply Hp.set)); (try any_goals (repeat (first | with_reducible exact Upd.head | with_reducible apply Upd.tail)))) (by ((try simp only [size_drew_, size_drewN_, World.size_alloc, World.size_setCell, List.set_cons_zero, List.set_cons_succ, List.nil_append, List.cons_append]) <;> rfl))) (by (repeat (first | with_reducible exact Upd.head | with_reducible apply Upd.tail))) (by rw [HL.out]; exact aggDecl) (by rw [HL.out]; rfl) one.out ?_; clear H; intro w3 H; (try simp only [size_drew_, size_drewN_, World.size_alloc, World.size_setCell, List.set_cons_zero, List.set_cons_succ] at H); have hr2_ := H.rules; simp only [Rules, and_true] at hr2_; have hs2_ := H.ext.size)) | ((with_reducible refine atLoad (t := 51) ?_); (refine wpList_run (v := .agg (cs).toArray) rfl (run_loadL aggDecl rfl ?_ HL.out (Hp.boxlies H (by (repeat (first | with_reducible exact Pick.head | with_reducible apply Pick.tail))))) ?_); (focus (go_simp; done))))
        (try clear hr2_ hs2_)
        refine callsH (by (repeat (first | with_reducible exact H | with_reducible exact H0_ | with_reducible apply Hp.alloc | with_reducible apply Hp.allocMap | with_reducible apply Hp.drew | with_reducible apply Hp.drewN | with_reducible apply Hp.set)); (try any_goals (repeat (first | with_reducible exact Upd.head | with_reducible apply Upd.tail)))) ?_
        clear H; intro w4 H; (try simp only [size_drew_, size_drewN_, World.size_alloc, World.size_setCell, List.set_cons_zero, List.set_cons_succ] at H)
        refine (smust1 H).mono ?_
        rintro e w2 hm
        have hx := hm.2
        have HM := Lib.hid hm
        clear hm
        replace H := H.call hx
        clear hx
        obtain rfl := HM.out.no (by simp [k1, k2])
        go_wp2_with fail
        exact ⟨rfl, by rw [HC.out]; rfl, H.ext⟩
end Go.Proofs.YtmedomglemllnaaGreatDoor
