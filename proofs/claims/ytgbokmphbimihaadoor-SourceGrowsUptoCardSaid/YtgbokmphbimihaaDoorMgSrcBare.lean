/- source: a walk through a term: the kinds that name nothing; the whole. No statement of the seat is proved here. -/
import Derived.Test.YtgbokmphbimihaaDoorSrc6
import Derived.Test.YtgbokmphbimihaaDoorMgSrc1
import Derived.Test.YtgbokmphbimihaaDoorMgRow
import Derived.Recover
namespace Go.Proofs.YtgbokmphbimihaaDoor
set_option linter.unusedSimpArgs false
set_option linter.unusedVariables false
open Go.RowKit

set_option maxRecDepth 100000 in
set_option maxHeartbeats 8000000 in
theorem all_else {w : World} {S S1 : Nat → Prop} {ds : List Dc} {k m a : Int} {ls : List Lv} {ks : List Tm} {A A0 K0 : Option Addr} {c ca ck : Nat} {n sf sc : Int} (IH : Hid (∀ t ∈ ks, AllOK t)) (hT : Tab w)
    (h : RC w S (.l 37 16 (ds.map Dc.d)) [.slice A ds.length c]) (hrc : RC w S1 (Tm.mk k m a ls ks).d [.int .i64 k, .int .i64 m, .int .i64 a, .slice A0 ls.length ca, .slice K0 ks.length ck]) (hnn : ∀ t ∈ ks, TmNN t)
    (h1 : ¬ k = 1) (h3 : ¬ k = 3) (h8 : ¬ k = 8) (h9 : ¬ k = 9) (h10 : ¬ k = 10) (h11 : ¬ k = 11) :
    Calls Tryd.prog 128 #[wkV A ds.length c n sf sc, .agg #[.int .i64 k, .int .i64 m, .int .i64 a, .slice A0 ls.length ca, .slice K0 ks.length ck]] w (PWr w (allQ ds n sf sc (.mk k m a ls ks))) := by
  obtain ⟨_, _, _, _, he, _, _, _, hls, hks⟩ := RC.tm.1 hrc
  simp only [Tm.ls_mk, Tm.ks_mk, Tm.k_mk, Tm.n_mk, Tm.a_mk, List.cons.injEq, Value.slice.injEq, and_true, true_and] at he hls hks
  obtain ⟨⟨rfl, rfl⟩, rfl, rfl⟩ := he
  have HH := Lib.hid h
  have HLS := Lib.hid hls
  have HKS := Lib.hid hks
  have HT := Lib.hid hT
  have HN := Lib.hid hnn
  clear h hls hks hT hnn hrc
  have hmf : ∀ (fn : Fn) (first cap : Array Value) (w : World), (Instr.makeFunc fn first cap).run Tryd.prog w = .ok (.func fn first cap) w := fun _ _ _ _ => rfl
  have hmm : ∀ w : World, (Instr.makeMap 194 none).run Tryd.prog w = .ok (.map (some w.heap.size)) (w.alloc (.map #[] 0)) := fun _ => rfl
  have hA : askQ ds sf sc (.mk k m a ls ks) = decide (k ≤ 7) := by
    unfold askQ
    rw [if_neg (show ¬ Tm.k (.mk k m a ls ks) = 1 from h1), if_neg (show ¬ Tm.k (.mk k m a ls ks) = 3 from h3), if_neg (show ¬ Tm.k (.mk k m a ls ks) = 8 from h8), if_neg (show ¬ Tm.k (.mk k m a ls ks) = 9 from h9), if_neg (show ¬ Tm.k (.mk k m a ls ks) = 10 from h10), if_neg (show ¬ Tm.k (.mk k m a ls ks) = 11 from h11)]
    rfl
  have HA := Lib.hid hA
  clear hA
  by_cases h7 : k ≤ 7
  · have hE : allQ ds n sf sc (.mk k m a ls ks) = (lvsQ n ls && allsQ ds n sf k sc 0 ks) := by rw [allQ, HA.out, decide_eq_true h7]; rfl
    rw [hE]
    have H7 := Lib.hid h7
    clear hE h7
    go_enter Tryd.func128, Tryd.ntmps128
    have H := Hp.start no w
    go_wp2_with (first | ((with_reducible refine atInsert ?_); go_must (refine wpList_insert Tryd.underlying194 Tryd.underlying22 (by go_simp <;> first | rfl | exact ⟨rfl, rfl⟩) (by go_simp <;> first | rfl | exact ⟨rfl, rfl⟩) (by go_simp <;> first | rfl | exact ⟨rfl, rfl⟩) (by exact Hp.norm (by (repeat (first | with_reducible exact H | with_reducible exact H0_ | with_reducible apply Hp.alloc | with_reducible apply Hp.allocMap | with_reducible apply Hp.drew | with_reducible apply Hp.drewN | with_reducible apply Hp.set)); (try any_goals (repeat (first | with_reducible exact Upd.head | with_reducible apply Upd.tail)))) (by ((try simp only [size_drew_, size_drewN_, World.size_alloc, World.size_setCell, List.set_cons_zero, List.set_cons_succ, List.nil_append, List.cons_append]) <;> rfl))) (by (repeat (first | with_reducible exact Upd.head | with_reducible apply Upd.tail))) (by simp [List.lookup]) ?_; clear H; intro w_ H; (try simp only [size_drew_, size_drewN_, World.size_alloc, World.size_setCell, List.set_cons_zero, List.set_cons_succ] at H); simp only [List.nil_append, List.cons_append] at H; (try clear hr2_); have hr2_ := H.rules; simp only [Rules, and_true] at hr2_)) | ((with_reducible refine atLookup ?_); go_must (refine wpList_lookup Tryd.underlying194 Tryd.underlying22 (z := .nilFunc) (run_zero (t := 152) (by kernel_rfl)) (by go_simp <;> first | rfl | exact ⟨rfl, rfl⟩) (by go_simp <;> first | rfl | exact ⟨rfl, rfl⟩) H (by (repeat (first | with_reducible exact Pick.head | with_reducible apply Pick.tail))) ?_; simp [List.lookup, *])))
    (try clear hr2_)
    refine callsH (by (repeat (first | with_reducible exact H | with_reducible exact H0_ | with_reducible apply Hp.alloc | with_reducible apply Hp.allocMap | with_reducible apply Hp.drew | with_reducible apply Hp.drewN | with_reducible apply Hp.set)); (try any_goals (repeat (first | with_reducible exact Upd.head | with_reducible apply Upd.tail)))) ?_
    clear H; intro w2 H; (try simp only [size_drew_, size_drewN_, World.size_alloc, World.size_setCell, List.set_cons_zero, List.set_cons_succ] at H)
    refine (smust1 H).mono ?_
    rintro e w3 hm
    have hx := hm.2
    have HM := Lib.hid hm
    clear hm
    replace H := H.call hx
    clear hx
    obtain rfl := HM.out.yes (by simpa using H7.out)
    dsimp only
    repeat (first | exact all5 IH HT.out HH.out HLS.out HKS.out HN.out (H.arr (by (repeat (first | with_reducible exact Arr.nil | refine Arr.cons (by (repeat (first | with_reducible exact Pick.head | with_reducible apply Pick.tail))) ?_)) <;> exact Arr.of_subl (by (repeat (first | with_reducible exact Subl.refl _ | with_reducible apply Subl.drop))))) | go_step)
  · have hE : allQ ds n sf sc (.mk k m a ls ks) = false := by rw [allQ, HA.out, decide_eq_false h7]; rfl
    rw [hE]
    have H7 := Lib.hid h7
    clear hE h7
    go_enter Tryd.func128, Tryd.ntmps128
    have H := Hp.start no w
    go_wp2_with (first | ((with_reducible refine atInsert ?_); go_must (refine wpList_insert Tryd.underlying194 Tryd.underlying22 (by go_simp <;> first | rfl | exact ⟨rfl, rfl⟩) (by go_simp <;> first | rfl | exact ⟨rfl, rfl⟩) (by go_simp <;> first | rfl | exact ⟨rfl, rfl⟩) (by exact Hp.norm (by (repeat (first | with_reducible exact H | with_reducible exact H0_ | with_reducible apply Hp.alloc | with_reducible apply Hp.allocMap | with_reducible apply Hp.drew | with_reducible apply Hp.drewN | with_reducible apply Hp.set)); (try any_goals (repeat (first | with_reducible exact Upd.head | with_reducible apply Upd.tail)))) (by ((try simp only [size_drew_, size_drewN_, World.size_alloc, World.size_setCell, List.set_cons_zero, List.set_cons_succ, List.nil_append, List.cons_append]) <;> rfl))) (by (repeat (first | with_reducible exact Upd.head | with_reducible apply Upd.tail))) (by simp [List.lookup]) ?_; clear H; intro w_ H; (try simp only [size_drew_, size_drewN_, World.size_alloc, World.size_setCell, List.set_cons_zero, List.set_cons_succ] at H); simp only [List.nil_append, List.cons_append] at H; (try clear hr2_); have hr2_ := H.rules; simp only [Rules, and_true] at hr2_)) | ((with_reducible refine atLookup ?_); go_must (refine wpList_lookup Tryd.underlying194 Tryd.underlying22 (z := .nilFunc) (run_zero (t := 152) (by kernel_rfl)) (by go_simp <;> first | rfl | exact ⟨rfl, rfl⟩) (by go_simp <;> first | rfl | exact ⟨rfl, rfl⟩) H (by (repeat (first | with_reducible exact Pick.head | with_reducible apply Pick.tail))) ?_; simp [List.lookup, *])))
    (try clear hr2_)
    refine callsH (by (repeat (first | with_reducible exact H | with_reducible exact H0_ | with_reducible apply Hp.alloc | with_reducible apply Hp.allocMap | with_reducible apply Hp.drew | with_reducible apply Hp.drewN | with_reducible apply Hp.set)); (try any_goals (repeat (first | with_reducible exact Upd.head | with_reducible apply Upd.tail)))) ?_
    clear H; intro w2 H; (try simp only [size_drew_, size_drewN_, World.size_alloc, World.size_setCell, List.set_cons_zero, List.set_cons_succ] at H)
    refine (smust1 H).mono ?_
    rintro e w3 hm
    have hx := hm.2
    have HM := Lib.hid hm
    clear hm
    replace H := H.call hx
    clear hx
    obtain rfl := HM.out.no (by simpa using H7.out)
    exact ⟨rfl, rfl, H.ext⟩
theorem all_calls : ∀ t : Tm, AllOK t := by
  intro t
  induction t using Tm.ind_ with
  | h k m a ls ks ih =>
  rintro w S S1 ds v A c n sf sc hT h ⟨A0, ca, K0, ck, rfl, hrc⟩ hnn
  cases hnn with
  | mk h0 hk =>
  simp only [Tm.k_mk, Tm.n_mk, Tm.a_mk, Tm.ls_mk, Tm.ks_mk] at hrc ⊢
  have IH := Lib.hid ih
  by_cases h1 : k = 1
  · subst h1; exact all_k1 IH hT h hrc h0 hk
  by_cases h3 : k = 3
  · subst h3; exact all_k3 IH hT h hrc h0 hk
  by_cases h8 : k = 8
  · subst h8; exact all_k8 IH hT h hrc h0 hk
  by_cases h9 : k = 9
  · subst h9; exact all_k9 IH hT h hrc h0 hk
  by_cases h10 : k = 10
  · subst h10; exact all_k10 IH hT h hrc h0 hk
  by_cases h11 : k = 11
  · subst h11; exact all_k11 IH hT h hrc h0 hk
  exact all_else IH hT h hrc hk h1 h3 h8 h9 h10 h11
end Go.Proofs.YtgbokmphbimihaaDoor
/- source: held: what is thrown is caught: contract. No statement of the seat is proved here. -/
namespace Go.Proofs.YtgbokmphbimihaaDoor
set_option linter.unusedSimpArgs false
set_option linter.unusedVariables false
open Go.RowKit

set_option maxRecDepth 100000 in
set_option maxHeartbeats 2000000 in
theorem held1_panicking {w0 w : World} {l : List Ch} {bo : Nat} {q : Bool} (H : Hp no w0 w (.box bo 4 [.bool q] :: l)) :
    CallsD Tryd.prog 127 #[.pointer (some ⟨bo, 0, none⟩)] (.panicking wrongP) w fun e u' w' =>
      e = .returned (.tuple #[]) ∧ u' = .panicking [{ v := .iface 148 (.agg #[]), recovered := true }] ∧ Hp no w0 w' (.box bo 4 [.bool false] :: l) := by
  refine callsD_of_wpS Tryd.func127 rfl fun c₀ cs hu => ?_
  have hta : ∀ w, (Instr.typeAssert (.iface 148 (.agg #[])) 20 148 true).run Tryd.prog w = .ok (.tuple #[.agg #[], .bool true]) w := fun w => run_assert_same Tryd.underlying148 rfl w
  simp only [Tryd.ntmps127, List.size_toArray, List.length_cons, List.length_nil, Nat.reduceAdd, Nat.reduceSub, Array.replicate_succ, Array.replicate_zero, List.push_toArray, List.append_toArray, List.nil_append, List.cons_append]
  apply wpS_seq
  apply wpS_region
  simp [wpOpsS, go_sem, recoverD, hu, wrongP, Exit.thenS]
  refine wpS_of_wp ?_
  have hr_ := H.rules; simp only [Rules, and_true] at hr_; have hd_ := H.dif; simp only [Dif, Neq, and_true] at hd_; obtain ⟨ho_, hz_⟩ := H.old0
  go_wp2_with fail
  (try clear hr_ hd_ ho_ hz_)
  have H := H.set (g := bo) (t := 4) (i := 0) (cs := [.bool q]) (v := .bool false) .head
  simp only [List.set_cons_zero] at H
  have H := H.alloc [] 148
  have H := H.only (.drop (Subl.refl _))
  have HH := Lib.hid H
  clear H hta
  cases c₀
  simp_all [bodyPostS, results, Tryd.results127]
  exact HH.out
set_option maxRecDepth 100000 in
set_option maxHeartbeats 1000000 in
theorem held1_idle {bo : Nat} {w : World} :
    CallsD Tryd.prog 127 #[.pointer (some ⟨bo, 0, none⟩)] .returning w fun e u' w' => e = .returned (.tuple #[]) ∧ u' = .returning ∧ w' = w := by
  refine callsD_of_wpS Tryd.func127 rfl fun c₀ cs hu => ?_
  simp only [Tryd.ntmps127, List.size_toArray, List.length_cons, List.length_nil, Nat.reduceAdd, Nat.reduceSub, Array.replicate_succ, Array.replicate_zero, List.push_toArray, List.append_toArray, List.nil_append, List.cons_append]
  apply wpS_seq
  apply wpS_region
  simp [wpOpsS, go_sem, recoverD, hu, Exit.thenS]
  refine wpS_of_wp ?_
  go_wp2_with fail
  cases c₀
  simp_all [bodyPostS, results, Tryd.results127]
set_option maxRecDepth 100000 in
set_option maxHeartbeats 2000000 in
/-- held: whether something held. -/
theorem held_calls {w : World} {F : FuncId} {caps : Array Value} {q : Bool} (eg : ∀ args w, (callFunc F args).run Tryd.prog w = .ok (.enter F args) w) (hf : ∀ w', Ext no w w' → Calls Tryd.prog F caps w' (PWr w' q)) :
    Calls Tryd.prog 64 #[.func (.func F) #[] caps] w (PV w (.bool q)) := by
  have HF := Lib.hid hf
  clear hf
  have hmf : ∀ (fn : Fn) (first cap : Array Value) (w : World), (Instr.makeFunc fn first cap).run Tryd.prog w = .ok (.func fn first cap) w := fun _ _ _ _ => rfl
  go_enter_defers Tryd.func64, Tryd.ntmps64
  have H := Hp.start no w
  go_wp2_with fail
  refine callsH (by (repeat (first | with_reducible exact H | with_reducible exact H0_ | with_reducible apply Hp.alloc | with_reducible apply Hp.allocMap | with_reducible apply Hp.drew | with_reducible apply Hp.drewN | with_reducible apply Hp.set)); (try any_goals (repeat (first | with_reducible exact Upd.head | with_reducible apply Upd.tail)))) ?_
  clear H; intro w1 H; (try simp only [size_drew_, size_drewN_, World.size_alloc, World.size_setCell, List.set_cons_zero, List.set_cons_succ] at H)
  refine (HF.out w1 H.ext).mono ?_
  rintro e w2 hm
  have hx := hm.2
  replace H := H.call hx
  clear hx
  cases q with
  | false =>
    obtain rfl := hm.no rfl
    clear hm
    refine leaves_cons (f := 127) (args := #[.pointer (some ⟨w.heap.size, 0, none⟩)]) (by simp) (by simp [go_sem]) ?_
    refine (held1_panicking (q := false) (H.arr (by (repeat (first | with_reducible exact Arr.nil | refine Arr.cons (by (repeat (first | with_reducible exact Pick.head | with_reducible apply Pick.tail))) ?_)) <;> exact Arr.of_subl (by (repeat (first | with_reducible exact Subl.refl _ | with_reducible apply Subl.drop)))))).mono ?_
    rintro e u' w'' ⟨rfl, rfl, H3⟩
    clear H
    have H := H3
    clear H3
    have hr_ := H.rules
    simp only [Rules, and_true] at hr_
    have HH := Lib.hid H
    clear H
    simp [Leaves, settle, results, Tryd.results64, go_sem, hr_]
    exact ⟨rfl, HH.out.ext⟩
  | true =>
    obtain rfl := hm.yes rfl
    clear hm
    have hr_ := H.rules; simp only [Rules, and_true] at hr_; have hd_ := H.dif; simp only [Dif, Neq, and_true] at hd_; obtain ⟨ho_, hz_⟩ := H.old0
    go_wp2_with fail
    clear hr_ hd_ ho_ hz_
    have H := H.set (g := w.heap.size) (t := 4) (i := 0) (cs := [.bool false]) (v := .bool true) .head
    simp only [List.set_cons_zero] at H
    refine leaves_cons (f := 127) (args := #[.pointer (some ⟨w.heap.size, 0, none⟩)]) (by simp) (by simp [go_sem]) ?_
    refine held1_idle.mono ?_
    rintro e u' w'' ⟨rfl, rfl, rfl⟩
    have hr_ := H.rules
    simp only [Rules, and_true] at hr_
    have HH := Lib.hid H
    clear H
    simp [Leaves, settle, results, Tryd.results64, go_sem, hr_]
    exact ⟨rfl, HH.out.ext⟩
end Go.Proofs.YtgbokmphbimihaaDoor
/- source: bare: contract. No statement of the seat is proved here. -/
namespace Go.Proofs.YtgbokmphbimihaaDoor
set_option linter.unusedSimpArgs false
set_option linter.unusedVariables false
open Go.RowKit

/-- Is a term none? -/
def bareQ (t : Tm) : Bool := decide (t.k = 0) && decide (t.n = 0) && decide (t.a = 0) && decide (t.ls.length + t.ks.length = 0)
theorem RC.lenN {w : World} {S : Nat → Prop} {e z : Nat} {ds : List D} {cs : List Value} (h : RC w S (.l e z ds) cs) : ds.length ≤ 4294967296 := by
  unfold RC at h
  obtain ⟨A, c, h1, h2, h3, h4, _⟩ := h
  unfold M at h4
  exact h4
set_option maxRecDepth 100000 in
set_option maxHeartbeats 2000000 in
theorem bare_calls {w : World} {S : Nat → Prop} {t : Tm} {v : Value} (h : TV w S t v) : Calls Tryd.prog 76 #[v] w (PV w (.bool (bareQ t))) := by
  obtain ⟨A0, ca, K0, ck, rfl, hrc⟩ := h
  obtain ⟨_, _, _, _, he, _, _, _, hls, hks⟩ := RC.tm.1 hrc
  have hM1 : t.ls.length ≤ 4294967296 := by simpa using RC.lenN hls
  have hM2 : t.ks.length ≤ 4294967296 := by simpa using RC.lenN hks
  clear hrc he hls hks
  go_enter Tryd.func76, Tryd.ntmps76
  by_cases h1 : t.k = 0
  · by_cases h2 : t.n = 0
    · by_cases h3 : t.a = 0
      · by_cases h4 : t.ls.length + t.ks.length = 0
        · have HB : Hid (bareQ t = true) := by unfold Hid bareQ; rw [decide_eq_true h1, decide_eq_true h2, decide_eq_true h3, decide_eq_true h4]; rfl
          have e1 : t.ls.length = 0 := by omega
          have e2 : t.ks.length = 0 := by omega
          go_wp2_with fail
          go_ret
          exact ⟨by rw [HB.out]; rfl, (Ext.refl _ _).alloc _⟩
        · have HB : Hid (bareQ t = false) := by unfold Hid bareQ; rw [decide_eq_false h4]; simp
          have e4 : ((t.ls.length : Int) + (t.ks.length : Int) == 0) = false := by simp; omega
          go_wp2_with fail
          go_ret
          exact ⟨by rw [HB.out]; rfl, (Ext.refl _ _).alloc _⟩
      · have HB : Hid (bareQ t = false) := by unfold Hid bareQ; simp [h3]
        go_wp2_with fail
        go_ret
        exact ⟨by rw [HB.out]; rfl, (Ext.refl _ _).alloc _⟩
    · have HB : Hid (bareQ t = false) := by unfold Hid bareQ; simp [h2]
      go_wp2_with fail
      go_ret
      exact ⟨by rw [HB.out]; rfl, (Ext.refl _ _).alloc _⟩
  · have HB : Hid (bareQ t = false) := by unfold Hid bareQ; simp [h1]
    go_wp2_with fail
    go_ret
    exact ⟨by rw [HB.out]; rfl, (Ext.refl _ _).alloc _⟩
end Go.Proofs.YtgbokmphbimihaaDoor
