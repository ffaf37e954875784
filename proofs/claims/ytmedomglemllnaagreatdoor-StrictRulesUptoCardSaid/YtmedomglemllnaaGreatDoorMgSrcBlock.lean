/- source: a walk through a term: the kinds that name nothing; the whole. No statement of the seat is proved here. -/
import Derived.Test.YtmedomglemllnaaGreatDoorSrc6
import Derived.Test.YtmedomglemllnaaGreatDoorMgSrc3
import Derived.Test.YtmedomglemllnaaGreatDoorMgBack
import Derived.Recover
import Derived.Test.YtmedomglemllnaaGreatDoorMgCnt
import Derived.Test.YtmedomglemllnaaGreatDoorMgStrictLaw3
import Derived.Test.YtmedomglemllnaaGreatDoorMgFst
namespace Go.Proofs.YtmedomglemllnaaGreatDoor
set_option linter.unusedSimpArgs false
set_option linter.unusedVariables false
open Go.RowKit

set_option maxRecDepth 100000 in
set_option maxHeartbeats 8000000 in
theorem all_else {w : World} {S S1 : Nat → Prop} {ds : List Dc} {k m a : Int} {ls : List Lv} {ks : List Tm} {A A0 K0 : Option Addr} {c ca ck : Nat} {n sf sc : Int} (IH : Hid (∀ t ∈ ks, AllOK t)) (hT : Tab w)
    (h : RC w S (.l 51 16 (ds.map Dc.d)) [.slice A ds.length c]) (hrc : RC w S1 (Tm.mk k m a ls ks).d [.int .i64 k, .int .i64 m, .int .i64 a, .slice A0 ls.length ca, .slice K0 ks.length ck]) (hnn : ∀ t ∈ ks, TmNN t)
    (h1 : ¬ k = 1) (h3 : ¬ k = 3) (h8 : ¬ k = 8) (h9 : ¬ k = 9) (h10 : ¬ k = 10) (h11 : ¬ k = 11) :
    Calls Tryz.prog 176 #[wkV A ds.length c n sf sc, .agg #[.int .i64 k, .int .i64 m, .int .i64 a, .slice A0 ls.length ca, .slice K0 ks.length ck]] w (PWr w (allQ ds n sf sc (.mk k m a ls ks))) := by
  obtain ⟨_, _, _, _, he, _, _, _, hls, hks⟩ := RC.tm.1 hrc
  simp only [Tm.ls_mk, Tm.ks_mk, Tm.k_mk, Tm.n_mk, Tm.a_mk, List.cons.injEq, Value.slice.injEq, and_true, true_and] at he hls hks
  obtain ⟨⟨rfl, rfl⟩, rfl, rfl⟩ := he
  have HH := Lib.hid h
  have HLS := Lib.hid hls
  have HKS := Lib.hid hks
  have HT := Lib.hid hT
  have HN := Lib.hid hnn
  clear h hls hks hT hnn hrc
  have hmf : ∀ (fn : Fn) (first cap : Array Value) (w : World), (Instr.makeFunc fn first cap).run Tryz.prog w = .ok (.func fn first cap) w := fun _ _ _ _ => rfl
  have hmm : ∀ w : World, (Instr.makeMap 276 none).run Tryz.prog w = .ok (.map (some w.heap.size)) (w.alloc (.map #[] 0)) := fun _ => rfl
  have hA : askQ ds sf sc (.mk k m a ls ks) = decide (k ≤ 7) := by
    unfold askQ
    rw [if_neg (show ¬ Tm.k (.mk k m a ls ks) = 1 from h1), if_neg (show ¬ Tm.k (.mk k m a ls ks) = 3 from h3), if_neg (show ¬ Tm.k (.mk k m a ls ks) = 8 from h8), if_neg (show ¬ Tm.k (.mk k m a ls ks) = 9 from h9), if_neg (show ¬ Tm.k (.mk k m a ls ks) = 10 from h10), if_neg (show ¬ Tm.k (.mk k m a ls ks) = 11 from h11)]
    rfl
  have HA := Lib.hid hA
  clear hA
  by_cases h7 : k ≤ 7
  · have hE : allQ ds n sf sc (.mk k m a ls ks) = (lvsQ n ls && allsQ ds n sf k sc 0 ks) := by rw [allQ, HA.out, decide_eq_true h7]; rfl
    rw [hE]
    have H7 := Lib.hid h7
    clear hE h7
    go_enter Tryz.func176, Tryz.ntmps176
    have H := Hp.start no w
    go_wp2_with (first | ((with_reducible refine atInsert ?_); go_must (refine wpList_insert Tryz.underlying276 Tryz.underlying23 (by go_simp <;> first | rfl | exact ⟨rfl, rfl⟩) (by go_simp <;> first | rfl | exact ⟨rfl, rfl⟩) (by go_simp <;> first | rfl | exact ⟨rfl, rfl⟩) (by exact Hp.norm (by (repeat (first | with_reducible exact H | with_reducible exact H0_ | with_reducible apply Hp.alloc | with_reducible apply Hp.allocMap | with_reducible apply Hp.drew | with_reducible apply Hp.drewN | with_reducible apply Hp.set)); (try any_goals (repeat (first | with_reducible exact Upd.head | with_reducible apply Upd.tail)))) (by ((try simp only [size_drew_, size_drewN_, World.size_alloc, World.size_setCell, List.set_cons_zero, List.set_cons_succ, List.nil_append, List.cons_append]) <;> rfl))) (by (repeat (first | with_reducible exact Upd.head | with_reducible apply Upd.tail))) (by simp [List.lookup]) ?_; clear H; intro w_ H; (try simp only [size_drew_, size_drewN_, World.size_alloc, World.size_setCell, List.set_cons_zero, List.set_cons_succ] at H); simp only [List.nil_append, List.cons_append] at H; (try clear hr2_); have hr2_ := H.rules; simp only [Rules, and_true] at hr2_)) | ((with_reducible refine atLookup ?_); go_must (refine wpList_lookup Tryz.underlying276 Tryz.underlying23 (z := .nilFunc) (run_zero (t := 175) (by kernel_rfl)) (by go_simp <;> first | rfl | exact ⟨rfl, rfl⟩) (by go_simp <;> first | rfl | exact ⟨rfl, rfl⟩) H (by (repeat (first | with_reducible exact Pick.head | with_reducible apply Pick.tail))) ?_; simp [List.lookup, *])))
    (try clear hr2_)
    refine callsH (by (repeat (first | with_reducible exact H | with_reducible exact H0_ | with_reducible apply Hp.alloc | with_reducible apply Hp.allocMap | with_reducible apply Hp.drew | with_reducible apply Hp.drewN | with_reducible apply Hp.set)); (try any_goals (repeat (first | with_reducible exact Upd.head | with_reducible apply Upd.tail)))) ?_
    clear H; intro w2 H; (try simp only [size_drew_, size_drewN_, World.size_alloc, World.size_setCell, List.set_cons_zero, List.set_cons_succ] at H)
    refine (smust1 H).mono ?_
    rintro e w3 hm
    have hx := hm.2
    have HM := Lib.hid hm
    clear hm
    replace H := H.call hx
    clear hx
    obtain rfl := HM.out.yes (by simpa using H7.out)
    dsimp only
    repeat (first | exact all5 IH HT.out HH.out HLS.out HKS.out HN.out (H.arr (by (repeat (first | with_reducible exact Arr.nil | refine Arr.cons (by (repeat (first | with_reducible exact Pick.head | with_reducible apply Pick.tail))) ?_)) <;> exact Arr.of_subl (by (repeat (first | with_reducible exact Subl.refl _ | with_reducible apply Subl.drop))))) | go_step)
  · have hE : allQ ds n sf sc (.mk k m a ls ks) = false := by rw [allQ, HA.out, decide_eq_false h7]; rfl
    rw [hE]
    have H7 := Lib.hid h7
    clear hE h7
    go_enter Tryz.func176, Tryz.ntmps176
    have H := Hp.start no w
    go_wp2_with (first | ((with_reducible refine atInsert ?_); go_must (refine wpList_insert Tryz.underlying276 Tryz.underlying23 (by go_simp <;> first | rfl | exact ⟨rfl, rfl⟩) (by go_simp <;> first | rfl | exact ⟨rfl, rfl⟩) (by go_simp <;> first | rfl | exact ⟨rfl, rfl⟩) (by exact Hp.norm (by (repeat (first | with_reducible exact H | with_reducible exact H0_ | with_reducible apply Hp.alloc | with_reducible apply Hp.allocMap | with_reducible apply Hp.drew | with_reducible apply Hp.drewN | with_reducible apply Hp.set)); (try any_goals (repeat (first | with_reducible exact Upd.head | with_reducible apply Upd.tail)))) (by ((try simp only [size_drew_, size_drewN_, World.size_alloc, World.size_setCell, List.set_cons_zero, List.set_cons_succ, List.nil_append, List.cons_append]) <;> rfl))) (by (repeat (first | with_reducible exact Upd.head | with_reducible apply Upd.tail))) (by simp [List.lookup]) ?_; clear H; intro w_ H; (try simp only [size_drew_, size_drewN_, World.size_alloc, World.size_setCell, List.set_cons_zero, List.set_cons_succ] at H); simp only [List.nil_append, List.cons_append] at H; (try clear hr2_); have hr2_ := H.rules; simp only [Rules, and_true] at hr2_)) | ((with_reducible refine atLookup ?_); go_must (refine wpList_lookup Tryz.underlying276 Tryz.underlying23 (z := .nilFunc) (run_zero (t := 175) (by kernel_rfl)) (by go_simp <;> first | rfl | exact ⟨rfl, rfl⟩) (by go_simp <;> first | rfl | exact ⟨rfl, rfl⟩) H (by (repeat (first | with_reducible exact Pick.head | with_reducible apply Pick.tail))) ?_; simp [List.lookup, *])))
    (try clear hr2_)
    refine callsH (by (repeat (first | with_reducible exact H | with_reducible exact H0_ | with_reducible apply Hp.alloc | with_reducible apply Hp.allocMap | with_reducible apply Hp.drew | with_reducible apply Hp.drewN | with_reducible apply Hp.set)); (try any_goals (repeat (first | with_reducible exact Upd.head | with_reducible apply Upd.tail)))) ?_
    clear H; intro w2 H; (try simp only [size_drew_, size_drewN_, World.size_alloc, World.size_setCell, List.set_cons_zero, List.set_cons_succ] at H)
    refine (smust1 H).mono ?_
    rintro e w3 hm
    have hx := hm.2
    have HM := Lib.hid hm
    clear hm
    replace H := H.call hx
    clear hx
    obtain rfl := HM.out.no (by simpa using H7.out)
    exact ⟨rfl, rfl, H.ext⟩
theorem all_calls : ∀ t : Tm, AllOK t := by
  intro t
  induction t using Tm.ind_ with
  | h k m a ls ks ih =>
  rintro w S S1 ds v A c n sf sc hT h ⟨A0, ca, K0, ck, rfl, hrc⟩ hnn
  cases hnn with
  | mk h0 hk =>
  simp only [Tm.k_mk, Tm.n_mk, Tm.a_mk, Tm.ls_mk, Tm.ks_mk] at hrc ⊢
  have IH := Lib.hid ih
  by_cases h1 : k = 1
  · subst h1; exact all_k1 IH hT h hrc h0 hk
  by_cases h3 : k = 3
  · subst h3; exact all_k3 IH hT h hrc h0 hk
  by_cases h8 : k = 8
  · subst h8; exact all_k8 IH hT h hrc h0 hk
  by_cases h9 : k = 9
  · subst h9; exact all_k9 IH hT h hrc h0 hk
  by_cases h10 : k = 10
  · subst h10; exact all_k10 IH hT h hrc h0 hk
  by_cases h11 : k = 11
  · subst h11; exact all_k11 IH hT h hrc h0 hk
  exact all_else IH hT h hrc hk h1 h3 h8 h9 h10 h11
end Go.Proofs.YtmedomglemllnaaGreatDoor
/- source: held: what is thrown is caught: contract. No statement of the seat is proved here. -/
namespace Go.Proofs.YtmedomglemllnaaGreatDoor
set_option linter.unusedSimpArgs false
set_option linter.unusedVariables false
open Go.RowKit

set_option maxRecDepth 100000 in
set_option maxHeartbeats 2000000 in
theorem held1_panicking {w0 w : World} {l : List Ch} {bo : Nat} {q : Bool} (H : Hp no w0 w (.box bo 4 [.bool q] :: l)) :
    CallsD Tryz.prog 171 #[.pointer (some ⟨bo, 0, none⟩)] (.panicking wrongP) w fun e u' w' =>
      e = .returned (.tuple #[]) ∧ u' = .panicking [{ v := .iface 201 (.agg #[]), recovered := true }] ∧ Hp no w0 w' (.box bo 4 [.bool false] :: l) := by
  refine callsD_of_wpS Tryz.func171 rfl fun c₀ cs hu => ?_
  have hta : ∀ w, (Instr.typeAssert (.iface 201 (.agg #[])) 20 201 true).run Tryz.prog w = .ok (.tuple #[.agg #[], .bool true]) w := fun w => run_assert_same Tryz.underlying201 rfl w
  simp only [Tryz.ntmps171, List.size_toArray, List.length_cons, List.length_nil, Nat.reduceAdd, Nat.reduceSub, Array.replicate_succ, Array.replicate_zero, List.push_toArray, List.append_toArray, List.nil_append, List.cons_append]
  apply wpS_seq
  apply wpS_region
  simp [wpOpsS, go_sem, recoverD, hu, wrongP, Exit.thenS]
  refine wpS_of_wp ?_
  have hr_ := H.rules; simp only [Rules, and_true] at hr_; have hd_ := H.dif; simp only [Dif, Neq, and_true] at hd_; obtain ⟨ho_, hz_⟩ := H.old0
  go_wp2_with fail
  (try clear hr_ hd_ ho_ hz_)
  have H := H.set (g := bo) (t := 4) (i := 0) (cs := [.bool q]) (v := .bool false) .head
  simp only [List.set_cons_zero] at H
  have H := H.alloc [] 201
  have H := H.only (.drop (Subl.refl _))
  have HH := Lib.hid H
  clear H hta
  cases c₀
  simp_all [bodyPostS, results, Tryz.results171]
  exact HH.out
set_option maxRecDepth 100000 in
set_option maxHeartbeats 1000000 in
theorem held1_idle {bo : Nat} {w : World} :
    CallsD Tryz.prog 171 #[.pointer (some ⟨bo, 0, none⟩)] .returning w fun e u' w' => e = .returned (.tuple #[]) ∧ u' = .returning ∧ w' = w := by
  refine callsD_of_wpS Tryz.func171 rfl fun c₀ cs hu => ?_
  simp only [Tryz.ntmps171, List.size_toArray, List.length_cons, List.length_nil, Nat.reduceAdd, Nat.reduceSub, Array.replicate_succ, Array.replicate_zero, List.push_toArray, List.append_toArray, List.nil_append, List.cons_append]
  apply wpS_seq
  apply wpS_region
  simp [wpOpsS, go_sem, recoverD, hu, Exit.thenS]
  refine wpS_of_wp ?_
  go_wp2_with fail
  cases c₀
  simp_all [bodyPostS, results, Tryz.results171]
set_option maxRecDepth 100000 in
set_option maxHeartbeats 2000000 in
theorem held_calls {w : World} {F : FuncId} {caps : Array Value} {q : Bool} (eg : ∀ args w, (callFunc F args).run Tryz.prog w = .ok (.enter F args) w) (hf : ∀ w', Ext no w w' → Calls Tryz.prog F caps w' (PWr w' q)) :
    Calls Tryz.prog 90 #[.func (.func F) #[] caps] w (PV w (.bool q)) := by
  have HF := Lib.hid hf
  clear hf
  have hmf : ∀ (fn : Fn) (first cap : Array Value) (w : World), (Instr.makeFunc fn first cap).run Tryz.prog w = .ok (.func fn first cap) w := fun _ _ _ _ => rfl
  go_enter_defers Tryz.func90, Tryz.ntmps90
  have H := Hp.start no w
  go_wp2_with fail
  refine callsH (by (repeat (first | with_reducible exact H | with_reducible exact H0_ | with_reducible apply Hp.alloc | with_reducible apply Hp.allocMap | with_reducible apply Hp.drew | with_reducible apply Hp.drewN | with_reducible apply Hp.set)); (try any_goals (repeat (first | with_reducible exact Upd.head | with_reducible apply Upd.tail)))) ?_
  clear H; intro w1 H; (try simp only [size_drew_, size_drewN_, World.size_alloc, World.size_setCell, List.set_cons_zero, List.set_cons_succ] at H)
  refine (HF.out w1 H.ext).mono ?_
  rintro e w2 hm
  have hx := hm.2
  replace H := H.call hx
  clear hx
  cases q with
  | false =>
    obtain rfl := hm.no rfl
    clear hm
    refine leaves_cons (f := 171) (args := #[.pointer (some ⟨w.heap.size, 0, none⟩)]) (by simp) (by simp [go_sem]) ?_
    refine (held1_panicking (q := false) (H.arr (by (repeat (first | with_reducible exact Arr.nil | refine Arr.cons (by (repeat (first | with_reducible exact Pick.head | with_reducible apply Pick.tail))) ?_)) <;> exact Arr.of_subl (by (repeat (first | with_reducible exact Subl.refl _ | with_reducible apply Subl.drop)))))).mono ?_
    rintro e u' w'' ⟨rfl, rfl, H3⟩
    clear H
    have H := H3
    clear H3
    have hr_ := H.rules
    simp only [Rules, and_true] at hr_
    have HH := Lib.hid H
    clear H
    simp [Leaves, settle, results, Tryz.results90, go_sem, hr_]
    exact ⟨rfl, HH.out.ext⟩
  | true =>
    obtain rfl := hm.yes rfl
    clear hm
    have hr_ := H.rules; simp only [Rules, and_true] at hr_; have hd_ := H.dif; simp only [Dif, Neq, and_true] at hd_; obtain ⟨ho_, hz_⟩ := H.old0
    go_wp2_with fail
    clear hr_ hd_ ho_ hz_
    have H := H.set (g := w.heap.size) (t := 4) (i := 0) (cs := [.bool false]) (v := .bool true) .head
    simp only [List.set_cons_zero] at H
    refine leaves_cons (f := 171) (args := #[.pointer (some ⟨w.heap.size, 0, none⟩)]) (by simp) (by simp [go_sem]) ?_
    refine held1_idle.mono ?_
    rintro e u' w'' ⟨rfl, rfl, rfl⟩
    have hr_ := H.rules
    simp only [Rules, and_true] at hr_
    have HH := Lib.hid H
    clear H
    simp [Leaves, settle, results, Tryz.results90, go_sem, hr_]
    exact ⟨rfl, HH.out.ext⟩
end Go.Proofs.YtmedomglemllnaaGreatDoor
/- source: over.asks, over.row, Right: contracts. No statement of the seat is proved here. -/
namespace Go.Proofs.YtmedomglemllnaaGreatDoor
set_option linter.unusedSimpArgs false
set_option linter.unusedVariables false
open Go.RowKit

abbrev overV (A : Option Addr) (nd c : Nat) (n sf : Int) : Value := .agg #[.slice A nd c, .int .i64 n, .int .i64 sf]
set_option maxRecDepth 100000 in
set_option maxHeartbeats 4000000 in
theorem asks_calls {w : World} {S S1 : Nat → Prop} {ds : List Dc} {t : Tm} {v : Value} {A : Option Addr} {c : Nat} {n sf sc : Int} (hT : Tab w) (h : RC w S (.l 51 16 (ds.map Dc.d)) [.slice A ds.length c]) (ht : TV w S1 t v) :
    Calls Tryz.prog 94 #[overV A ds.length c n sf, .int .i64 sc, v] w (PWr w (srcQ ds n sc sf t)) := by
  obtain ⟨A0, ca, K0, ck, rfl, hrc⟩ := ht
  have HV := Lib.hid hrc
  have HT := Lib.hid hT
  have HH := Lib.hid h
  obtain ⟨s1, hs1⟩ : ∃ s1 : Int, s1 = if sc < 0 then 0 else sc := ⟨_, rfl⟩
  obtain ⟨s2, hs2⟩ : ∃ s2 : Int, s2 = if s1 < 1099511627776 then s1 else 1099511627776 := ⟨_, rfl⟩
  have HC : Hid (clamp sc = s2) := by unfold Hid clamp; rw [hs2, hs1]
  have m1 : (if (0 : Int) < sc then sc else 0) = s1 := by rw [hs1]; split <;> split <;> omega
  have m2 : (if sc < (0 : Int) then 0 else sc) = s1 := hs1.symm
  have m3 : (if sc ≤ (0 : Int) then 0 else sc) = s1 := by rw [hs1]; split <;> split <;> omega
  have m4 : (if (0 : Int) ≤ sc then sc else 0) = s1 := by rw [hs1]; split <;> split <;> omega
  have k1 : (if s1 < (1099511627776 : Int) then s1 else 1099511627776) = s2 := hs2.symm
  have k2 : (if (1099511627776 : Int) < s1 then 1099511627776 else s1) = s2 := by rw [hs2]; split <;> split <;> omega
  have k3 : (if s1 ≤ (1099511627776 : Int) then s1 else 1099511627776) = s2 := by rw [hs2]; split <;> split <;> omega
  have k4 : (if (1099511627776 : Int) ≤ s1 then 1099511627776 else s1) = s2 := by rw [hs2]; split <;> split <;> omega
  clear hrc hT h hs1 hs2
  cases hr : rightQ t
  · have HE : Hid (srcQ ds n sc sf t = false) := by unfold Hid srcQ; rw [hr]; rfl
    have HR := Lib.hid hr
    clear hr m1 m2 m3 m4 k1 k2 k3 k4
    rw [HE.out]
    go_enter Tryz.func94, Tryz.ntmps94
    go_wp2_with fail
    have H := Hp.start no w
    refine callsH (by (repeat (first | with_reducible exact H | with_reducible exact H0_ | with_reducible apply Hp.alloc | with_reducible apply Hp.allocMap | with_reducible apply Hp.drew | with_reducible apply Hp.drewN | with_reducible apply Hp.set)); (try any_goals (repeat (first | with_reducible exact Upd.head | with_reducible apply Upd.tail)))) ?_
    clear H; intro w1 H; (try simp only [size_drew_, size_drewN_, World.size_alloc, World.size_setCell, List.set_cons_zero, List.set_cons_succ] at H)
    refine (tmRight_calls (HT.out.ext H.ext) ⟨A0, ca, K0, ck, rfl, HV.out.ext0 H.ext⟩).mono ?_
    rw [HR.out]
    rintro e w_ ⟨rfl, hx⟩
    replace H := H.call hx
    clear hx
    have hr_ := H.rules; simp only [Rules, and_true] at hr_; have hd_ := H.dif; simp only [Dif, Neq, and_true] at hd_; obtain ⟨ho_, hz_⟩ := H.old0
    go_wp2_with fail
    clear hr_ hd_ ho_ hz_
    refine callsH (by (repeat (first | with_reducible exact H | with_reducible exact H0_ | with_reducible apply Hp.alloc | with_reducible apply Hp.allocMap | with_reducible apply Hp.drew | with_reducible apply Hp.drewN | with_reducible apply Hp.set)); (try any_goals (repeat (first | with_reducible exact Upd.head | with_reducible apply Upd.tail)))) ?_
    clear H; intro w2 H; (try simp only [size_drew_, size_drewN_, World.size_alloc, World.size_setCell, List.set_cons_zero, List.set_cons_succ] at H)
    refine (smust1 H).mono ?_
    rintro e w3 hm
    have hx := hm.2
    obtain rfl := hm.no rfl
    clear hm
    replace H := H.call hx
    exact ⟨rfl, rfl, H.ext⟩
  · have HE : Hid (srcQ ds n sc sf t = allQ ds n sf s2 t) := by unfold Hid srcQ; rw [hr, HC.out]; rfl
    have HN := Lib.hid (ok_nn t 1 (rightQ_ok hr))
    have HR := Lib.hid hr
    clear hr
    rw [HE.out]
    go_enter Tryz.func94, Tryz.ntmps94
    go_wp2_with fail
    have H := Hp.start no w
    refine callsH (by (repeat (first | with_reducible exact H | with_reducible exact H0_ | with_reducible apply Hp.alloc | with_reducible apply Hp.allocMap | with_reducible apply Hp.drew | with_reducible apply Hp.drewN | with_reducible apply Hp.set)); (try any_goals (repeat (first | with_reducible exact Upd.head | with_reducible apply Upd.tail)))) ?_
    clear H; intro w1 H; (try simp only [size_drew_, size_drewN_, World.size_alloc, World.size_setCell, List.set_cons_zero, List.set_cons_succ] at H)
    refine (tmRight_calls (HT.out.ext H.ext) ⟨A0, ca, K0, ck, rfl, HV.out.ext0 H.ext⟩).mono ?_
    rw [HR.out]
    rintro e w_ ⟨rfl, hx⟩
    replace H := H.call hx
    clear hx
    have hr_ := H.rules; simp only [Rules, and_true] at hr_; have hd_ := H.dif; simp only [Dif, Neq, and_true] at hd_; obtain ⟨ho_, hz_⟩ := H.old0
    go_wp2_with fail
    clear hr_ hd_ ho_ hz_
    refine callsH (by (repeat (first | with_reducible exact H | with_reducible exact H0_ | with_reducible apply Hp.alloc | with_reducible apply Hp.allocMap | with_reducible apply Hp.drew | with_reducible apply Hp.drewN | with_reducible apply Hp.set)); (try any_goals (repeat (first | with_reducible exact Upd.head | with_reducible apply Upd.tail)))) ?_
    clear H; intro w2 H; (try simp only [size_drew_, size_drewN_, World.size_alloc, World.size_setCell, List.set_cons_zero, List.set_cons_succ] at H)
    refine (smust1 H).mono ?_
    rintro e w3 hm
    have hx := hm.2
    obtain rfl := hm.yes rfl
    clear hm
    replace H := H.call hx
    clear hx
    have hr_ := H.rules; simp only [Rules, and_true] at hr_; have hd_ := H.dif; simp only [Dif, Neq, and_true] at hd_; obtain ⟨ho_, hz_⟩ := H.old0
    go_wp2_with fail
    clear hr_ hd_ ho_ hz_
    refine callsH (by (repeat (first | with_reducible exact H | with_reducible exact H0_ | with_reducible apply Hp.alloc | with_reducible apply Hp.allocMap | with_reducible apply Hp.drew | with_reducible apply Hp.drewN | with_reducible apply Hp.set)); (try any_goals (repeat (first | with_reducible exact Upd.head | with_reducible apply Upd.tail)))) ?_
    clear H; intro w5 H; (try simp only [size_drew_, size_drewN_, World.size_alloc, World.size_setCell, List.set_cons_zero, List.set_cons_succ] at H)
    refine (all_calls t _ _ _ ds _ A c n sf s2 (HT.out.ext H.ext) (HH.out.ext0 H.ext) ⟨A0, ca, K0, ck, rfl, HV.out.ext0 H.ext⟩ HN.out).mono ?_
    rintro e w6 hm
    have hx := hm.2
    have HM := Lib.hid hm
    clear hm
    replace H := H.call hx
    clear hx
    cases hq : allQ ds n sf s2 t
    · obtain rfl := HM.out.no hq
      exact ⟨rfl, by first | rfl | (rw [hq]; rfl), H.ext⟩
    · obtain rfl := HM.out.yes hq
      have HQ := Lib.hid hq
      clear hq
      go_wp2_with fail
      go_end0
      exact ⟨by first | (rw [HQ.out]; rfl) | rfl, H.ext⟩
theorem aggOver : AggT Tryz.prog 128 3 := ⟨_, Tryz.underlying128, rfl, by kernel_rfl⟩
set_option maxRecDepth 100000 in
set_option maxHeartbeats 4000000 in
theorem row11_calls {w : World} {S S1 : Nat → Prop} {ds : List Dc} {ts : List Tm} {A B : Option Addr} {c k cb : Nat} {n sf sc : Int} (hT : Tab w) (h : RC w S (.l 51 16 (ds.map Dc.d)) [.slice A ds.length c]) (hb : RC w S1 (.l 26 5 (ts.map Tm.d)) [.slice B k cb]) (hk : k = ts.length) :
    Calls Tryz.prog 174 #[overV A ds.length c n sf, .int .i64 sc, .slice B k cb] w (PWr w (rowQ ds n sc sf 0 ts)) := by
  subst hk
  have hM := hb.lenM
  have HT := Lib.hid hT
  have HH := Lib.hid h
  clear hT h
  go_enter Tryz.func174, Tryz.ntmps174
  go_wp2_with fail
  have H := Hp.start no w
  go_loopw [10] (fun i wr => ∃ j : Nat, j ≤ ts.length ∧ i = .int .i64 j ∧ Hid (rowQ ds n sc sf j (ts.drop j) = rowQ ds n sc sf 0 ts) ∧ Hp no w wr [.box w.heap.size 128 [.slice A ds.length c, .int .i64 n, .int .i64 sf]]) (fun i _ => ts.length - (intOf i).toNat)
  case atStart => exact ⟨0, Nat.zero_le _, rfl, Lib.hid (by simp), by (repeat (first | with_reducible exact H | with_reducible exact H0_ | with_reducible apply Hp.alloc | with_reducible apply Hp.allocMap | with_reducible apply Hp.drew | with_reducible apply Hp.drewN | with_reducible apply Hp.set)); (try any_goals (repeat (first | with_reducible exact Upd.head | with_reducible apply Upd.tail)))⟩
  case round =>
    clear H
    obtain ⟨j, hj, rfl, HS, H⟩ := hrel
    by_cases hlt : j < ts.length
    · obtain ⟨b, o, A1, ca1, K1, ck1, rfl, hb1, hS, hd, p0, p1, p2, p3, p4⟩ := hb.atTm hlt
      have HD := Lib.hid hd
      have HE := Lib.hid (rowQ_drop (ds := ds) (n := n) (sc := sc) (sf := sf) hlt)
      clear hd
      have hr_ := H.rules; simp only [Rules, and_true] at hr_; have hd_ := H.dif; simp only [Dif, Neq, and_true] at hd_; obtain ⟨ho_, hz_⟩ := H.old0
      go_wp2_with ((with_reducible refine atStore (t := 26) ?_); go_must (refine wpList_storeH (t := 26) rfl rfl (by go_simp <;> first | rfl | exact ⟨rfl, rfl⟩) (by go_simp <;> first | rfl | exact ⟨rfl, rfl⟩) (by exact Hp.norm (by (repeat (first | with_reducible exact H | with_reducible exact H0_ | with_reducible apply Hp.alloc | with_reducible apply Hp.allocMap | with_reducible apply Hp.drew | with_reducible apply Hp.drewN | with_reducible apply Hp.set)); (try any_goals (repeat (first | with_reducible exact Upd.head | with_reducible apply Upd.tail)))) (by ((try simp only [size_drew_, size_drewN_, World.size_alloc, World.size_setCell, List.set_cons_zero, List.set_cons_succ, List.nil_append, List.cons_append]) <;> rfl))) (by (repeat (first | with_reducible exact Upd.head | with_reducible apply Upd.tail))) (by exact aggTerm) (by rfl) (by simp [Value.oneCell']) ?_; clear H; intro w7 H; (try simp only [size_drew_, size_drewN_, World.size_alloc, World.size_setCell, List.set_cons_zero, List.set_cons_succ] at H); (try clear hr_ hd_ ho_ hz_); have hr_ := H.rules; simp only [Rules, and_true] at hr_; have hd_ := H.dif; simp only [Dif, Neq, and_true] at hd_; obtain ⟨ho_, hz_⟩ := H.old0))
      (try clear hr_ hd_ ho_ hz_)
      refine callsH (by (repeat (first | with_reducible exact H | with_reducible exact H0_ | with_reducible apply Hp.alloc | with_reducible apply Hp.allocMap | with_reducible apply Hp.drew | with_reducible apply Hp.drewN | with_reducible apply Hp.set)); (try any_goals (repeat (first | with_reducible exact Upd.head | with_reducible apply Upd.tail)))) ?_
      clear H; intro w9 H; (try simp only [size_drew_, size_drewN_, World.size_alloc, World.size_setCell, List.set_cons_zero, List.set_cons_succ] at H)
      refine (asks_calls (t := ts[j]) (HT.out.ext H.ext) (HH.out.ext0 H.ext) ⟨_, _, _, _, rfl, HD.out.ext0 H.ext⟩).mono ?_
      rintro e w2 hm
      have hx := hm.2
      have HM := Lib.hid hm
      clear hm
      replace H := H.call hx
      clear hx
      cases hq : srcQ ds n (wrap64 (sc + (j : Int))) sf ts[j]
      · obtain rfl := HM.out.no hq
        exact ⟨rfl, by rw [← HS.out, HE.out, hq]; rfl, H.ext⟩
      · obtain rfl := HM.out.yes hq
        have HQ := Lib.hid hq
        clear hq
        go_wp2_with fail
        go_roundw
        case rel => exact ⟨j + 1, by omega, by first | go_num | rfl | simp, Lib.hid (by rw [← HS.out, HE.out, HQ.out]; rfl), (H.arr (by (repeat (first | with_reducible exact Arr.nil | refine Arr.cons (by (repeat (first | with_reducible exact Pick.head | with_reducible apply Pick.tail))) ?_)) <;> exact Arr.of_subl (by (repeat (first | with_reducible exact Subl.refl _ | with_reducible apply Subl.drop)))))⟩
        case measure => simp [intOf]; omega
    · go_wp2_with fail
      go_end0
      have e : rowQ ds n sc sf 0 ts = true := by rw [← HS.out, List.drop_eq_nil_of_le (by omega), rowQ]
      exact ⟨by rw [e]; rfl, H.ext⟩
end Go.Proofs.YtmedomglemllnaaGreatDoor
/- source: over.block, its loops: contract. No statement of the seat is proved here. -/
namespace Go.Proofs.YtmedomglemllnaaGreatDoor
set_option linter.unusedSimpArgs false
set_option linter.unusedVariables false
open Go.RowKit

theorem RC.dc16 {w : World} {S : Nat → Prop} {d : Dc} {cs : List Value} (h : RC w S d.d cs) : ∃ Aty cty Kty kty Abody cbody Kbody kbody Aparams cparams Asort csort Amembers cmembers Actors cctors, cs.length = 16 ∧ cs[0]? = some (.int .i64 d.kind) ∧ cs[1]? = some (.int .i64 d.levels) ∧ cs[2]? = some (.int .i64 d.ty.k) ∧ cs[3]? = some (.int .i64 d.ty.n) ∧ cs[4]? = some (.int .i64 d.ty.a) ∧ cs[5]? = some (.slice Aty d.ty.ls.length cty) ∧ cs[6]? = some (.slice Kty d.ty.ks.length kty) ∧ cs[7]? = some (.int .i64 d.body.k) ∧ cs[8]? = some (.int .i64 d.body.n) ∧ cs[9]? = some (.int .i64 d.body.a) ∧ cs[10]? = some (.slice Abody d.body.ls.length cbody) ∧ cs[11]? = some (.slice Kbody d.body.ks.length kbody) ∧ cs[12]? = some (.slice Aparams d.params.length cparams) ∧ cs[13]? = some (.slice Asort d.sort.length csort) ∧ cs[14]? = some (.slice Amembers d.members.length cmembers) ∧ cs[15]? = some (.slice Actors d.ctors.length cctors) ∧ inI d.levels ∧ RC w S d.ty.d [.int .i64 d.ty.k, .int .i64 d.ty.n, .int .i64 d.ty.a, .slice Aty d.ty.ls.length cty, .slice Kty d.ty.ks.length kty] ∧ RC w S d.body.d [.int .i64 d.body.k, .int .i64 d.body.n, .int .i64 d.body.a, .slice Abody d.body.ls.length cbody, .slice Kbody d.body.ks.length kbody] ∧ RC w S (.l 26 5 (d.params.map Tm.d)) [.slice Aparams d.params.length cparams] ∧ RC w S (.l 237 2 (d.sort.map ptD)) [.slice Asort d.sort.length csort] ∧ RC w S (.l 73 1 (d.members.map Mb.d)) [.slice Amembers d.members.length cmembers] ∧ RC w S (.l 148 6 (d.ctors.map Ct.d)) [.slice Actors d.ctors.length cctors] := by
  obtain ⟨Aty, cty, Kty, kty, Abody, cbody, Kbody, kbody, Aparams, cparams, Asort, csort, Amembers, cmembers, Actors, cctors, rfl, hr⟩ := RC.dc.1 h
  exact ⟨_, _, _, _, _, _, _, _, _, _, _, _, _, _, _, _, rfl, rfl, rfl, rfl, rfl, rfl, rfl, rfl, rfl, rfl, rfl, rfl, rfl, rfl, rfl, rfl, rfl, hr.2.1, hr.2.2.1, hr.2.2.2.1, hr.2.2.2.2.1, hr.2.2.2.2.2.1, hr.2.2.2.2.2.2.1, hr.2.2.2.2.2.2.2⟩
theorem alls_take {α : Type} {p : α → Bool} {xs : List α} {k : Nat} (hk : k < xs.length) (h : (xs.take k).all p = true) (e : p xs[k] = true) : (xs.take (k + 1)).all p = true := by
  rw [List.take_succ_eq_append_getElem hk, List.all_append, h]; simp [e]
theorem alls_not {α : Type} {p : α → Bool} {xs : List α} {k : Nat} (hk : k < xs.length) (e : p xs[k] = false) : xs.all p = false := by
  rw [Bool.eq_false_iff]
  intro h
  rw [List.all_eq_true] at h
  have := h _ (List.getElem_mem hk)
  rw [e] at this
  cases this
theorem aggCtor : AggT Tryz.prog 148 6 := ⟨_, Tryz.underlying148, rfl, by kernel_rfl⟩
abbrev ovC (A : Option Addr) (nd c : Nat) (n sf : Int) : List Value := [.slice A nd c, .int .i64 n, .int .i64 sf]
set_option maxRecDepth 100000 in
set_option maxHeartbeats 8000000 in
theorem block10 {w W : World} {S S1 : Nat → Prop} {ds : List Dc} {d : Dc} {cs : List Value} {A : Option Addr} {c gO gD : Nat} {n sf : Int} {x0 x1 x5 x6 x7 x8 x9 x10 x11 x12 x13 x14 x15 x16 x17 x18 x19 x20 x21 x22 x23 x24 x25 x26 x27 x28 x29 x30 x31 x32 x33 x34 x35 x36 x37 x38 x39 x40 x41 x42 x43 x44 x45 x46 x47 x48 x49 x50 x51 x52 x53 x54 x55 x56 x57 x58 x59 x60 x61 x62 x63 x64 x65 x66 x67 x68 x69 x70 x71 x72 x73 x74 x75 x76 x77 x78 x79 x80 x81 x82 x83 x84 x85 x86 x87 x88 x89 : Value} (hT : Tab w) (h : RC w S (.l 51 16 (ds.map Dc.d)) [.slice A ds.length c]) (hd : RC w S1 d.d cs)
    (H : Hp no w W [.box gO 128 (ovC A ds.length c n sf), .box gD 51 cs]) :
    (fromN 10 (Tryz.f93.body.getD .skip)).wp Tryz.prog (bodyPost Tryz.prog Tryz.f93 (PWr w (d.ctors.all (ctQ ds n d.params.length d.members.length)))) { tmps := #[x0, x1, .pointer (some ⟨gO, 0, none⟩), .pointer (some ⟨gD, 0, none⟩), .int .i64 d.params.length, x5, x6, x7, x8, x9, x10, x11, x12, x13, x14, x15, x16, x17, x18, x19, x20, x21, x22, x23, x24, x25, x26, x27, x28, x29, x30, x31, x32, x33, x34, x35, x36, x37, x38, x39, x40, x41, x42, x43, x44, x45, x46, x47, x48, x49, x50, x51, x52, x53, x54, x55, x56, x57, x58, x59, x60, x61, x62, x63, x64, x65, x66, x67, x68, x69, x70, x71, x72, x73, x74, x75, x76, x77, x78, x79, x80, x81, x82, x83, x84, x85, x86, x87, x88, x89], defers := [] } W := by
  obtain ⟨Aty, cty, Kty, kty, Abody, cbody, Kbody, kbody, Aparams, cparams, Asort, csort, Amembers, cmembers, Actors, cctors, hl, f0, f1, f2, f3, f4, f5, f6, f7, f8, f9, f10, f11, f12, f13, f14, f15, hiL, r1, r2, r3, r4, r5, r6⟩ := hd.dc16
  have hM5 := r5.lenM.1
  have hM6 := r6.lenM.1
  have HT := Lib.hid hT
  have HH := Lib.hid h
  have HL := Lib.hid hl
  clear hT h hl hd f0 f1 f2 f3 f4 f5 f6 f7 f8 f9 f10 f11 f12 f13 r1 r2 r3 r4 r5
  conv => arg 2; whnf
  have hr_ := H.rules; simp only [Rules, and_true] at hr_; have hd_ := H.dif; simp only [Dif, Neq, and_true] at hd_; obtain ⟨ho_, hz_⟩ := H.old0
  go_wp2_with fail
  (try clear hr_ hd_ ho_ hz_)
  refine codeH (by (repeat (first | with_reducible exact H | with_reducible exact H0_ | with_reducible apply Hp.alloc | with_reducible apply Hp.allocMap | with_reducible apply Hp.drew | with_reducible apply Hp.drewN | with_reducible apply Hp.set)); (try any_goals (repeat (first | with_reducible exact Upd.head | with_reducible apply Upd.tail)))) ?_
  clear H; intro w3 H; (try simp only [size_drew_, size_drewN_, World.size_alloc, World.size_setCell, List.set_cons_zero, List.set_cons_succ] at H)
  go_loopw [69] (fun i wr => ∃ j : Nat, j ≤ d.ctors.length ∧ i = .int .i64 j ∧ Hid ((d.ctors.take j).all (ctQ ds n d.params.length d.members.length) = true) ∧ Hp no w wr [.box gO 128 (ovC A ds.length c n d.members.length), .box gD 51 cs]) (fun i _ => d.ctors.length - (intOf i).toNat)
  case atStart => exact ⟨0, Nat.zero_le _, rfl, Lib.hid (by simp), (H.arr (by (repeat (first | with_reducible exact Arr.nil | refine Arr.cons (by (repeat (first | with_reducible exact Pick.head | with_reducible apply Pick.tail))) ?_)) <;> exact Arr.of_subl (by (repeat (first | with_reducible exact Subl.refl _ | with_reducible apply Subl.drop)))))⟩
  case round =>
    clear H
    obtain ⟨j, hj, rfl, HS, H⟩ := hrel
    by_cases hlt : j < d.ctors.length
    · obtain ⟨b, o, A1, ca1, K1, ck1, rfl, hb1, hS, hd, p0, p1, p2, p3, p4, p5⟩ := r6.atCt hlt
      have HTY : Hid (RC w S1 d.ctors[j].ty.d [.int .i64 d.ctors[j].ty.k, .int .i64 d.ctors[j].ty.n, .int .i64 d.ctors[j].ty.a, .slice A1 d.ctors[j].ty.ls.length ca1, .slice K1 d.ctors[j].ty.ks.length ck1]) := by
        obtain ⟨A2, ca2, K2, ck2, he, _, h2⟩ := RC.ct.1 hd
        simp only [List.cons.injEq, Value.slice.injEq, and_true, true_and] at he
        obtain ⟨⟨rfl, rfl⟩, rfl, rfl⟩ := he
        exact Lib.hid h2
      clear hd
      have hr_ := H.rules; simp only [Rules, and_true] at hr_; have hd_ := H.dif; simp only [Dif, Neq, and_true] at hd_; obtain ⟨ho_, hz_⟩ := H.old0
      go_wp2_with ((with_reducible refine atStore (t := 148) ?_); go_must (refine wpList_storeH (t := 148) rfl rfl (by go_simp <;> first | rfl | exact ⟨rfl, rfl⟩) (by go_simp <;> first | rfl | exact ⟨rfl, rfl⟩) (by exact Hp.norm (by (repeat (first | with_reducible exact H | with_reducible exact H0_ | with_reducible apply Hp.alloc | with_reducible apply Hp.allocMap | with_reducible apply Hp.drew | with_reducible apply Hp.drewN | with_reducible apply Hp.set)); (try any_goals (repeat (first | with_reducible exact Upd.head | with_reducible apply Upd.tail)))) (by ((try simp only [size_drew_, size_drewN_, World.size_alloc, World.size_setCell, List.set_cons_zero, List.set_cons_succ, List.nil_append, List.cons_append]) <;> rfl))) (by (repeat (first | with_reducible exact Upd.head | with_reducible apply Upd.tail))) (by exact aggCtor) (by rfl) (by simp [Value.oneCell']) ?_; clear H; intro w7 H; (try simp only [size_drew_, size_drewN_, World.size_alloc, World.size_setCell, List.set_cons_zero, List.set_cons_succ] at H); (try clear hr_ hd_ ho_ hz_); have hr_ := H.rules; simp only [Rules, and_true] at hr_; have hd_ := H.dif; simp only [Dif, Neq, and_true] at hd_; obtain ⟨ho_, hz_⟩ := H.old0))
      (try clear hr_ hd_ ho_ hz_)
      refine callsH (by (repeat (first | with_reducible exact H | with_reducible exact H0_ | with_reducible apply Hp.alloc | with_reducible apply Hp.allocMap | with_reducible apply Hp.drew | with_reducible apply Hp.drewN | with_reducible apply Hp.set)); (try any_goals (repeat (first | with_reducible exact Upd.head | with_reducible apply Upd.tail)))) ?_
      clear H; intro w8 H; (try simp only [size_drew_, size_drewN_, World.size_alloc, World.size_setCell, List.set_cons_zero, List.set_cons_succ] at H)
      refine (smust2 H).mono ?_
      rintro e w2 hm
      have hx := hm.2
      have HM := Lib.hid hm
      clear hm
      replace H := H.call hx
      clear hx
      by_cases q : 0 ≤ d.ctors[j].member ∧ d.ctors[j].member < d.members.length
      · obtain rfl := HM.out.yes (by simp [q.1, q.2])
        have HQ := Lib.hid q
        clear q
        have hr_ := H.rules; simp only [Rules, and_true] at hr_; have hd_ := H.dif; simp only [Dif, Neq, and_true] at hd_; obtain ⟨ho_, hz_⟩ := H.old0
        go_wp2_with fail
        (try clear hr_ hd_ ho_ hz_)
        refine callsH (by (repeat (first | with_reducible exact H | with_reducible exact H0_ | with_reducible apply Hp.alloc | with_reducible apply Hp.allocMap | with_reducible apply Hp.drew | with_reducible apply Hp.drewN | with_reducible apply Hp.set)); (try any_goals (repeat (first | with_reducible exact Upd.head | with_reducible apply Upd.tail)))) ?_
        clear H; intro w9 H; (try simp only [size_drew_, size_drewN_, World.size_alloc, World.size_setCell, List.set_cons_zero, List.set_cons_succ] at H)
        refine (asks_calls (t := d.ctors[j].ty) (HT.out.ext H.ext) (HH.out.ext0 H.ext) ⟨_, _, _, _, rfl, HTY.out.ext0 H.ext⟩).mono ?_
        clear HM
        rintro e w2 hm
        have hx := hm.2
        have HM := Lib.hid hm
        clear hm
        replace H := H.call hx
        clear hx
        have HC : Hid (ctQ ds n d.params.length d.members.length d.ctors[j] = srcQ ds n (d.params.length : Int) (d.members.length : Int) d.ctors[j].ty) := by
          unfold Hid ctQ
          rw [decide_eq_true HQ.out.1, decide_eq_true HQ.out.2]
          rfl
        cases hq : srcQ ds n (d.params.length : Int) (d.members.length : Int) d.ctors[j].ty
        · obtain rfl := HM.out.no hq
          exact ⟨rfl, by rw [alls_not hlt (HC.out.trans hq)]; rfl, H.ext⟩
        · obtain rfl := HM.out.yes hq
          have HQ2 := Lib.hid hq
          clear hq
          go_wp2_with fail
          go_roundw
          case rel => exact ⟨j + 1, by omega, by first | go_num | rfl | simp, Lib.hid (alls_take hlt HS.out (HC.out.trans HQ2.out)), (H.arr (by (repeat (first | with_reducible exact Arr.nil | refine Arr.cons (by (repeat (first | with_reducible exact Pick.head | with_reducible apply Pick.tail))) ?_)) <;> exact Arr.of_subl (by (repeat (first | with_reducible exact Subl.refl _ | with_reducible apply Subl.drop)))))⟩
          case measure => simp [intOf]; omega
      · have hno : (decide (0 ≤ d.ctors[j].member) && decide (d.ctors[j].member < d.members.length)) = false := by
          rw [Bool.eq_false_iff]
          intro h
          simp only [Bool.and_eq_true, decide_eq_true_eq] at h
          exact q h
        obtain rfl := HM.out.no hno
        refine ⟨rfl, ?_, H.ext⟩
        rw [alls_not (p := ctQ ds n d.params.length d.members.length) hlt (by unfold ctQ; rw [hno]; rfl)]
        rfl
    · go_wp2_with fail
      go_end0
      have e := HS.out
      rw [take_all hlt] at e
      exact ⟨by rw [e]; rfl, H.ext⟩
set_option maxRecDepth 100000 in
set_option maxHeartbeats 8000000 in
theorem block4 {w W : World} {S S1 : Nat → Prop} {ds : List Dc} {d : Dc} {cs : List Value} {A : Option Addr} {c gO gD : Nat} {n : Int} {x0 x1 x5 x6 x7 x8 x9 x10 x11 x12 x13 x14 x15 x16 x17 x18 x19 x20 x21 x22 x23 x24 x25 x26 x27 x28 x29 x30 x31 x32 x33 x34 x35 x36 x37 x38 x39 x40 x41 x42 x43 x44 x45 x46 x47 x48 x49 x50 x51 x52 x53 x54 x55 x56 x57 x58 x59 x60 x61 x62 x63 x64 x65 x66 x67 x68 x69 x70 x71 x72 x73 x74 x75 x76 x77 x78 x79 x80 x81 x82 x83 x84 x85 x86 x87 x88 x89 : Value} (hT : Tab w) (h : RC w S (.l 51 16 (ds.map Dc.d)) [.slice A ds.length c]) (hd : RC w S1 d.d cs) {K K1 : Act → World → Prop} {R : Bool} (hR : R = (d.members.all (mbQ ds n d.params.length) && d.ctors.all (ctQ ds n d.params.length d.members.length)))
    (hK1 : ∀ a w', (sndC (fromN 4 (Tryz.f93.body.getD .skip))).wp Tryz.prog (bodyPost Tryz.prog Tryz.f93 (PWr w R)) a w' → K1 a w')
    (hK : ∀ a w', (sndC (fstC (fromN 4 (Tryz.f93.body.getD .skip)))).wp Tryz.prog (Exit.then K1 (bodyPost Tryz.prog Tryz.f93 (PWr w R))) a w' → K a w')
    (H : Hp no w W [.box gO 128 (ovC A ds.length c n 0), .box gD 51 cs]) :
    (fstC (fstC (fromN 4 (Tryz.f93.body.getD .skip)))).wp Tryz.prog (Exit.then K (Exit.then K1 (bodyPost Tryz.prog Tryz.f93 (PWr w R)))) { tmps := #[x0, x1, .pointer (some ⟨gO, 0, none⟩), .pointer (some ⟨gD, 0, none⟩), .int .i64 d.params.length, x5, x6, x7, x8, x9, x10, x11, x12, x13, x14, x15, x16, x17, x18, x19, x20, x21, x22, x23, x24, x25, x26, x27, x28, x29, x30, x31, x32, x33, x34, x35, x36, x37, x38, x39, x40, x41, x42, x43, x44, x45, x46, x47, x48, x49, x50, x51, x52, x53, x54, x55, x56, x57, x58, x59, x60, x61, x62, x63, x64, x65, x66, x67, x68, x69, x70, x71, x72, x73, x74, x75, x76, x77, x78, x79, x80, x81, x82, x83, x84, x85, x86, x87, x88, x89], defers := [] } W := by
  obtain ⟨Aty, cty, Kty, kty, Abody, cbody, Kbody, kbody, Aparams, cparams, Asort, csort, Amembers, cmembers, Actors, cctors, hl, f0, f1, f2, f3, f4, f5, f6, f7, f8, f9, f10, f11, f12, f13, f14, f15, hiL, r1, r2, r3, r4, r5, r6⟩ := hd.dc16
  have hM5 := r5.lenM.1
  have HT := Lib.hid hT
  have HH := Lib.hid h
  have HL := Lib.hid hl
  have HD := Lib.hid hd
  clear hT h hl hd f0 f1 f2 f3 f4 f5 f6 f7 f8 f9 f10 f11 f12 f13 f15 r1 r2 r3 r4 r6
  have HR := Lib.hid hR
  clear hR
  conv => arg 2; whnf
  conv at hK1 => intro a w; arg 1; arg 2; whnf
  conv at hK => intro a w; arg 1; arg 2; whnf
  have hr_ := H.rules; simp only [Rules, and_true] at hr_; have hd_ := H.dif; simp only [Dif, Neq, and_true] at hd_; obtain ⟨ho_, hz_⟩ := H.old0
  go_wp2_with fail
  (try clear hr_ hd_ ho_ hz_)
  go_loopw [46] (fun i wr => ∃ j : Nat, j ≤ d.members.length ∧ i = .int .i64 j ∧ Hid ((d.members.take j).all (mbQ ds n d.params.length) = true) ∧ Hp no w wr [.box gO 128 (ovC A ds.length c n 0), .box gD 51 cs]) (fun i _ => d.members.length - (intOf i).toNat)
  case atStart => exact ⟨0, Nat.zero_le _, rfl, Lib.hid (by simp), (H.arr (by (repeat (first | with_reducible exact Arr.nil | refine Arr.cons (by (repeat (first | with_reducible exact Pick.head | with_reducible apply Pick.tail))) ?_)) <;> exact Arr.of_subl (by (repeat (first | with_reducible exact Subl.refl _ | with_reducible apply Subl.drop)))))⟩
  case round =>
    clear H
    obtain ⟨j, hj, rfl, HS, H⟩ := hrel
    by_cases hlt : j < d.members.length
    · obtain ⟨b, o, A1, ca1, rfl, hb1, hS, hdm, p0⟩ := r5.atMb hlt
      have HIX : Hid (RC w S1 (.l 26 5 (d.members[j].index.map Tm.d)) [.slice A1 d.members[j].index.length ca1]) := by
        obtain ⟨A2, ca2, he, h2⟩ := RC.mb.1 hdm
        simp only [List.cons.injEq, Value.slice.injEq, and_true, true_and] at he
        obtain ⟨rfl, rfl⟩ := he
        exact Lib.hid h2
      have hMi := HIX.out.lenM.1
      clear hdm
      have hr_ := H.rules; simp only [Rules, and_true] at hr_; have hd_ := H.dif; simp only [Dif, Neq, and_true] at hd_; obtain ⟨ho_, hz_⟩ := H.old0
      go_wp2_with fail
      (try clear hr_ hd_ ho_ hz_)
      refine callsH (by (repeat (first | with_reducible exact H | with_reducible exact H0_ | with_reducible apply Hp.alloc | with_reducible apply Hp.allocMap | with_reducible apply Hp.drew | with_reducible apply Hp.drewN | with_reducible apply Hp.set)); (try any_goals (repeat (first | with_reducible exact Upd.head | with_reducible apply Upd.tail)))) ?_
      clear H; intro w8 H; (try simp only [size_drew_, size_drewN_, World.size_alloc, World.size_setCell, List.set_cons_zero, List.set_cons_succ] at H)
      refine (smust1 H).mono ?_
      rintro e w2 hm
      have hx := hm.2
      have HM := Lib.hid hm
      clear hm
      replace H := H.call hx
      clear hx
      by_cases q : (d.members[j].index.length : Int) ≤ 6
      · obtain rfl := HM.out.yes (by simpa using q)
        have HQ := Lib.hid q
        clear q
        have hr_ := H.rules; simp only [Rules, and_true] at hr_; have hd_ := H.dif; simp only [Dif, Neq, and_true] at hd_; obtain ⟨ho_, hz_⟩ := H.old0
        go_wp2_with fail
        (try clear hr_ hd_ ho_ hz_)
        refine callsH (by (repeat (first | with_reducible exact H | with_reducible exact H0_ | with_reducible apply Hp.alloc | with_reducible apply Hp.allocMap | with_reducible apply Hp.drew | with_reducible apply Hp.drewN | with_reducible apply Hp.set)); (try any_goals (repeat (first | with_reducible exact Upd.head | with_reducible apply Upd.tail)))) ?_
        clear H; intro w9 H; (try simp only [size_drew_, size_drewN_, World.size_alloc, World.size_setCell, List.set_cons_zero, List.set_cons_succ] at H)
        refine (row11_calls (ts := d.members[j].index) (HT.out.ext H.ext) (HH.out.ext0 H.ext) (HIX.out.ext0 H.ext) rfl).mono ?_
        clear HM
        rintro e w2 hm
        have hx := hm.2
        have HM := Lib.hid hm
        clear hm
        replace H := H.call hx
        clear hx
        have HC : Hid (mbQ ds n d.params.length d.members[j] = rowQ ds n (d.params.length : Int) 0 0 d.members[j].index) := by
          unfold Hid mbQ
          rw [decide_eq_true HQ.out]
          rfl
        cases hq : rowQ ds n (d.params.length : Int) 0 0 d.members[j].index
        · obtain rfl := HM.out.no hq
          exact ⟨rfl, by rw [HR.out, alls_not hlt (HC.out.trans hq)]; rfl, H.ext⟩
        · obtain rfl := HM.out.yes hq
          have HQ2 := Lib.hid hq
          clear hq
          go_wp2_with fail
          go_roundw
          case rel => exact ⟨j + 1, by omega, by first | go_num | rfl | simp, Lib.hid (alls_take hlt HS.out (HC.out.trans HQ2.out)), (H.arr (by (repeat (first | with_reducible exact Arr.nil | refine Arr.cons (by (repeat (first | with_reducible exact Pick.head | with_reducible apply Pick.tail))) ?_)) <;> exact Arr.of_subl (by (repeat (first | with_reducible exact Subl.refl _ | with_reducible apply Subl.drop)))))⟩
          case measure => simp [intOf]; omega
      · obtain rfl := HM.out.no (by simpa using q)
        refine ⟨rfl, ?_, H.ext⟩
        rw [HR.out, alls_not (p := mbQ ds n d.params.length) hlt (by unfold mbQ; rw [decide_eq_false q]; rfl)]
        rfl
    · have e := HS.out
      rw [take_all hlt] at e
      have hr_ := H.rules; simp only [Rules, and_true] at hr_; have hd_ := H.dif; simp only [Dif, Neq, and_true] at hd_; obtain ⟨ho_, hz_⟩ := H.old0
      repeat ((fail_if_success (with_reducible (show Code.wp _ (Code.seq (Code.region 10 _ _) _) _ _ _))); go_step)
      (try clear hr_ hd_ ho_ hz_)
      rw [HR.out, e, Bool.true_and]
      exact block10 HT.out HH.out HD.out H
end Go.Proofs.YtmedomglemllnaaGreatDoor
