/- source: a walk through a term: contract. No statement of the seat is proved here. -/
import Derived.Test.YtmedomglemllnaaGreatDoorMgSrcSpec
import Derived.Test.YtmedomglemllnaaGreatDoorMgPairT
namespace Go.Proofs.YtmedomglemllnaaGreatDoor
set_option linter.unusedSimpArgs false
set_option linter.unusedVariables false
open Go.RowKit

set_option maxRecDepth 100000 in
set_option maxHeartbeats 8000000 in
theorem all_k1 {w : World} {S S1 : Nat → Prop} {ds : List Dc} {m a : Int} {ls : List Lv} {ks : List Tm} {A A0 K0 : Option Addr} {c ca ck : Nat} {n sf sc : Int} (IH : Hid (∀ t ∈ ks, AllOK t)) (hT : Tab w)
    (h : RC w S (.l 51 16 (ds.map Dc.d)) [.slice A ds.length c]) (hrc : RC w S1 (Tm.mk 1 m a ls ks).d [.int .i64 1, .int .i64 m, .int .i64 a, .slice A0 ls.length ca, .slice K0 ks.length ck]) (h0 : 0 ≤ m) (hnn : ∀ t ∈ ks, TmNN t) :
    Calls Tryz.prog 176 #[wkV A ds.length c n sf sc, .agg #[.int .i64 1, .int .i64 m, .int .i64 a, .slice A0 ls.length ca, .slice K0 ks.length ck]] w (PWr w (allQ ds n sf sc (.mk 1 m a ls ks))) := by
  obtain ⟨_, _, _, _, he, _, _, _, hls, hks⟩ := RC.tm.1 hrc
  simp only [Tm.ls_mk, Tm.ks_mk, Tm.k_mk, Tm.n_mk, Tm.a_mk, List.cons.injEq, Value.slice.injEq, and_true, true_and] at he hls hks
  obtain ⟨⟨rfl, rfl⟩, rfl, rfl⟩ := he
  have HH := Lib.hid h
  have HLS := Lib.hid hls
  have HKS := Lib.hid hks
  have HT := Lib.hid hT
  have HN := Lib.hid hnn
  have HRC := Lib.hid hrc
  have H0 := Lib.hid h0
  clear h hls hks hT hnn hrc h0
  have hmf : ∀ (fn : Fn) (first cap : Array Value) (w : World), (Instr.makeFunc fn first cap).run Tryz.prog w = .ok (.func fn first cap) w := fun _ _ _ _ => rfl
  have hmm : ∀ w : World, (Instr.makeMap 276 none).run Tryz.prog w = .ok (.map (some w.heap.size)) (w.alloc (.map #[] 0)) := fun _ => rfl
  have hA : askQ ds sf sc (.mk 1 m a ls ks) = decide (m < sc) := by unfold askQ; rfl
  cases hq : decide (m < sc) with
  | true =>
    have hE : allQ ds n sf sc (.mk 1 m a ls ks) = (lvsQ n ls && allsQ ds n sf 1 sc 0 ks) := by rw [allQ, hA, hq]; rfl
    rw [hE]
    have HQ := Lib.hid hq
    clear hq hA hE
    go_enter Tryz.func176, Tryz.ntmps176
    have H := Hp.start no w
    go_wp2_with (first | ((with_reducible refine atInsert ?_); go_must (refine wpList_insert Tryz.underlying276 Tryz.underlying23 (by go_simp <;> first | rfl | exact ⟨rfl, rfl⟩) (by go_simp <;> first | rfl | exact ⟨rfl, rfl⟩) (by go_simp <;> first | rfl | exact ⟨rfl, rfl⟩) (by exact Hp.norm (by (repeat (first | with_reducible exact H | with_reducible exact H0_ | with_reducible apply Hp.alloc | with_reducible apply Hp.allocMap | with_reducible apply Hp.drew | with_reducible apply Hp.drewN | with_reducible apply Hp.set)); (try any_goals (repeat (first | with_reducible exact Upd.head | with_reducible apply Upd.tail)))) (by ((try simp only [size_drew_, size_drewN_, World.size_alloc, World.size_setCell, List.set_cons_zero, List.set_cons_succ, List.nil_append, List.cons_append]) <;> rfl))) (by (repeat (first | with_reducible exact Upd.head | with_reducible apply Upd.tail))) (by simp [List.lookup]) ?_; clear H; intro w_ H; (try simp only [size_drew_, size_drewN_, World.size_alloc, World.size_setCell, List.set_cons_zero, List.set_cons_succ] at H); simp only [List.nil_append, List.cons_append] at H; (try clear hr2_); have hr2_ := H.rules; simp only [Rules, and_true] at hr2_)) | ((with_reducible refine atLookup ?_); go_must (refine wpList_lookup Tryz.underlying276 Tryz.underlying23 (z := .nilFunc) (run_zero (t := 175) (by kernel_rfl)) (by go_simp <;> first | rfl | exact ⟨rfl, rfl⟩) (by go_simp <;> first | rfl | exact ⟨rfl, rfl⟩) H (by (repeat (first | with_reducible exact Pick.head | with_reducible apply Pick.tail))) ?_; simp [List.lookup, *])))
    (try clear hr2_)
    refine callsH (by (repeat (first | with_reducible exact H | with_reducible exact H0_ | with_reducible apply Hp.alloc | with_reducible apply Hp.allocMap | with_reducible apply Hp.drew | with_reducible apply Hp.drewN | with_reducible apply Hp.set)); (try any_goals (repeat (first | with_reducible exact Upd.head | with_reducible apply Upd.tail)))) ?_
    clear H; intro w2 H; (try simp only [size_drew_, size_drewN_, World.size_alloc, World.size_setCell, List.set_cons_zero, List.set_cons_succ] at H)
    refine (smust1 H).mono ?_
    rintro e w3 hm
    have hx := hm.2
    obtain rfl := hm.yes rfl
    clear hm
    replace H := H.call hx
    clear hx
    have hr_ := H.rules; simp only [Rules, and_true] at hr_; have hd_ := H.dif; simp only [Dif, Neq, and_true] at hd_; obtain ⟨ho_, hz_⟩ := H.old0
    go_wp2_with fail
    clear hr_ hd_ ho_ hz_
    refine callsH (by (repeat (first | with_reducible exact H | with_reducible exact H0_ | with_reducible apply Hp.alloc | with_reducible apply Hp.allocMap | with_reducible apply Hp.drew | with_reducible apply Hp.drewN | with_reducible apply Hp.set)); (try any_goals (repeat (first | with_reducible exact Upd.head | with_reducible apply Upd.tail)))) ?_
    clear H; intro w5 H; (try simp only [size_drew_, size_drewN_, World.size_alloc, World.size_setCell, List.set_cons_zero, List.set_cons_succ] at H)
    refine (variable_calls (t := .mk 1 m a ls ks) ⟨A0, ca, K0, ck, rfl, HRC.out.ext0 H.ext⟩).mono ?_
    rintro e w4 hm
    have hx := hm.2
    obtain rfl := hm.yes HQ.out
    clear hm
    replace H := H.call hx
    clear hx
    dsimp only
    repeat (first | exact all5 IH HT.out HH.out HLS.out HKS.out HN.out (H.arr (by (repeat (first | with_reducible exact Arr.nil | refine Arr.cons (by (repeat (first | with_reducible exact Pick.head | with_reducible apply Pick.tail))) ?_)) <;> exact Arr.of_subl (by (repeat (first | with_reducible exact Subl.refl _ | with_reducible apply Subl.drop))))) | go_step)
  | false =>
    have hE : allQ ds n sf sc (.mk 1 m a ls ks) = false := by rw [allQ, hA, hq]; rfl
    rw [hE]
    have HQ := Lib.hid hq
    clear hq hA hE
    go_enter Tryz.func176, Tryz.ntmps176
    have H := Hp.start no w
    go_wp2_with (first | ((with_reducible refine atInsert ?_); go_must (refine wpList_insert Tryz.underlying276 Tryz.underlying23 (by go_simp <;> first | rfl | exact ⟨rfl, rfl⟩) (by go_simp <;> first | rfl | exact ⟨rfl, rfl⟩) (by go_simp <;> first | rfl | exact ⟨rfl, rfl⟩) (by exact Hp.norm (by (repeat (first | with_reducible exact H | with_reducible exact H0_ | with_reducible apply Hp.alloc | with_reducible apply Hp.allocMap | with_reducible apply Hp.drew | with_reducible apply Hp.drewN | with_reducible apply Hp.set)); (try any_goals (repeat (first | with_reducible exact Upd.head | with_reducible apply Upd.tail)))) (by ((try simp only [size_drew_, size_drewN_, World.size_alloc, World.size_setCell, List.set_cons_zero, List.set_cons_succ, List.nil_append, List.cons_append]) <;> rfl))) (by (repeat (first | with_reducible exact Upd.head | with_reducible apply Upd.tail))) (by simp [List.lookup]) ?_; clear H; intro w_ H; (try simp only [size_drew_, size_drewN_, World.size_alloc, World.size_setCell, List.set_cons_zero, List.set_cons_succ] at H); simp only [List.nil_append, List.cons_append] at H; (try clear hr2_); have hr2_ := H.rules; simp only [Rules, and_true] at hr2_)) | ((with_reducible refine atLookup ?_); go_must (refine wpList_lookup Tryz.underlying276 Tryz.underlying23 (z := .nilFunc) (run_zero (t := 175) (by kernel_rfl)) (by go_simp <;> first | rfl | exact ⟨rfl, rfl⟩) (by go_simp <;> first | rfl | exact ⟨rfl, rfl⟩) H (by (repeat (first | with_reducible exact Pick.head | with_reducible apply Pick.tail))) ?_; simp [List.lookup, *])))
    (try clear hr2_)
    refine callsH (by (repeat (first | with_reducible exact H | with_reducible exact H0_ | with_reducible apply Hp.alloc | with_reducible apply Hp.allocMap | with_reducible apply Hp.drew | with_reducible apply Hp.drewN | with_reducible apply Hp.set)); (try any_goals (repeat (first | with_reducible exact Upd.head | with_reducible apply Upd.tail)))) ?_
    clear H; intro w2 H; (try simp only [size_drew_, size_drewN_, World.size_alloc, World.size_setCell, List.set_cons_zero, List.set_cons_succ] at H)
    refine (smust1 H).mono ?_
    rintro e w3 hm
    have hx := hm.2
    obtain rfl := hm.yes rfl
    clear hm
    replace H := H.call hx
    clear hx
    have hr_ := H.rules; simp only [Rules, and_true] at hr_; have hd_ := H.dif; simp only [Dif, Neq, and_true] at hd_; obtain ⟨ho_, hz_⟩ := H.old0
    go_wp2_with fail
    clear hr_ hd_ ho_ hz_
    refine callsH (by (repeat (first | with_reducible exact H | with_reducible exact H0_ | with_reducible apply Hp.alloc | with_reducible apply Hp.allocMap | with_reducible apply Hp.drew | with_reducible apply Hp.drewN | with_reducible apply Hp.set)); (try any_goals (repeat (first | with_reducible exact Upd.head | with_reducible apply Upd.tail)))) ?_
    clear H; intro w5 H; (try simp only [size_drew_, size_drewN_, World.size_alloc, World.size_setCell, List.set_cons_zero, List.set_cons_succ] at H)
    refine (variable_calls (t := .mk 1 m a ls ks) ⟨A0, ca, K0, ck, rfl, HRC.out.ext0 H.ext⟩).mono ?_
    rintro e w4 hm
    have hx := hm.2
    obtain rfl := hm.no HQ.out
    clear hm
    replace H := H.call hx
    exact ⟨rfl, rfl, H.ext⟩
set_option maxRecDepth 100000 in
set_option maxHeartbeats 8000000 in
theorem all_k3 {w : World} {S S1 : Nat → Prop} {ds : List Dc} {m a : Int} {ls : List Lv} {ks : List Tm} {A A0 K0 : Option Addr} {c ca ck : Nat} {n sf sc : Int} (IH : Hid (∀ t ∈ ks, AllOK t)) (hT : Tab w)
    (h : RC w S (.l 51 16 (ds.map Dc.d)) [.slice A ds.length c]) (hrc : RC w S1 (Tm.mk 3 m a ls ks).d [.int .i64 3, .int .i64 m, .int .i64 a, .slice A0 ls.length ca, .slice K0 ks.length ck]) (h0 : 0 ≤ m) (hnn : ∀ t ∈ ks, TmNN t) :
    Calls Tryz.prog 176 #[wkV A ds.length c n sf sc, .agg #[.int .i64 3, .int .i64 m, .int .i64 a, .slice A0 ls.length ca, .slice K0 ks.length ck]] w (PWr w (allQ ds n sf sc (.mk 3 m a ls ks))) := by
  obtain ⟨_, _, _, _, he, _, _, _, hls, hks⟩ := RC.tm.1 hrc
  simp only [Tm.ls_mk, Tm.ks_mk, Tm.k_mk, Tm.n_mk, Tm.a_mk, List.cons.injEq, Value.slice.injEq, and_true, true_and] at he hls hks
  obtain ⟨⟨rfl, rfl⟩, rfl, rfl⟩ := he
  have HH := Lib.hid h
  have HLS := Lib.hid hls
  have HKS := Lib.hid hks
  have HT := Lib.hid hT
  have HN := Lib.hid hnn
  have HRC := Lib.hid hrc
  have H0 := Lib.hid h0
  clear h hls hks hT hnn hrc h0
  have hmf : ∀ (fn : Fn) (first cap : Array Value) (w : World), (Instr.makeFunc fn first cap).run Tryz.prog w = .ok (.func fn first cap) w := fun _ _ _ _ => rfl
  have hmm : ∀ w : World, (Instr.makeMap 276 none).run Tryz.prog w = .ok (.map (some w.heap.size)) (w.alloc (.map #[] 0)) := fun _ => rfl
  have hA : askQ ds sf sc (.mk 3 m a ls ks) = constQ ds (.mk 3 m a ls ks) := by unfold askQ; rfl
  cases hq : constQ ds (.mk 3 m a ls ks) with
  | true =>
    have hE : allQ ds n sf sc (.mk 3 m a ls ks) = (lvsQ n ls && allsQ ds n sf 3 sc 0 ks) := by rw [allQ, hA, hq]; rfl
    rw [hE]
    have HQ := Lib.hid hq
    clear hq hA hE
    go_enter Tryz.func176, Tryz.ntmps176
    have H := Hp.start no w
    go_wp2_with (first | ((with_reducible refine atInsert ?_); go_must (refine wpList_insert Tryz.underlying276 Tryz.underlying23 (by go_simp <;> first | rfl | exact ⟨rfl, rfl⟩) (by go_simp <;> first | rfl | exact ⟨rfl, rfl⟩) (by go_simp <;> first | rfl | exact ⟨rfl, rfl⟩) (by exact Hp.norm (by (repeat (first | with_reducible exact H | with_reducible exact H0_ | with_reducible apply Hp.alloc | with_reducible apply Hp.allocMap | with_reducible apply Hp.drew | with_reducible apply Hp.drewN | with_reducible apply Hp.set)); (try any_goals (repeat (first | with_reducible exact Upd.head | with_reducible apply Upd.tail)))) (by ((try simp only [size_drew_, size_drewN_, World.size_alloc, World.size_setCell, List.set_cons_zero, List.set_cons_succ, List.nil_append, List.cons_append]) <;> rfl))) (by (repeat (first | with_reducible exact Upd.head | with_reducible apply Upd.tail))) (by simp [List.lookup]) ?_; clear H; intro w_ H; (try simp only [size_drew_, size_drewN_, World.size_alloc, World.size_setCell, List.set_cons_zero, List.set_cons_succ] at H); simp only [List.nil_append, List.cons_append] at H; (try clear hr2_); have hr2_ := H.rules; simp only [Rules, and_true] at hr2_)) | ((with_reducible refine atLookup ?_); go_must (refine wpList_lookup Tryz.underlying276 Tryz.underlying23 (z := .nilFunc) (run_zero (t := 175) (by kernel_rfl)) (by go_simp <;> first | rfl | exact ⟨rfl, rfl⟩) (by go_simp <;> first | rfl | exact ⟨rfl, rfl⟩) H (by (repeat (first | with_reducible exact Pick.head | with_reducible apply Pick.tail))) ?_; simp [List.lookup, *])))
    (try clear hr2_)
    refine callsH (by (repeat (first | with_reducible exact H | with_reducible exact H0_ | with_reducible apply Hp.alloc | with_reducible apply Hp.allocMap | with_reducible apply Hp.drew | with_reducible apply Hp.drewN | with_reducible apply Hp.set)); (try any_goals (repeat (first | with_reducible exact Upd.head | with_reducible apply Upd.tail)))) ?_
    clear H; intro w2 H; (try simp only [size_drew_, size_drewN_, World.size_alloc, World.size_setCell, List.set_cons_zero, List.set_cons_succ] at H)
    refine (smust1 H).mono ?_
    rintro e w3 hm
    have hx := hm.2
    obtain rfl := hm.yes rfl
    clear hm
    replace H := H.call hx
    clear hx
    have hr_ := H.rules; simp only [Rules, and_true] at hr_; have hd_ := H.dif; simp only [Dif, Neq, and_true] at hd_; obtain ⟨ho_, hz_⟩ := H.old0
    go_wp2_with fail
    clear hr_ hd_ ho_ hz_
    refine callsH (by (repeat (first | with_reducible exact H | with_reducible exact H0_ | with_reducible apply Hp.alloc | with_reducible apply Hp.allocMap | with_reducible apply Hp.drew | with_reducible apply Hp.drewN | with_reducible apply Hp.set)); (try any_goals (repeat (first | with_reducible exact Upd.head | with_reducible apply Upd.tail)))) ?_
    clear H; intro w5 H; (try simp only [size_drew_, size_drewN_, World.size_alloc, World.size_setCell, List.set_cons_zero, List.set_cons_succ] at H)
    refine (constant11_calls (t := .mk 3 m a ls ks) (HH.out.ext0 H.ext) rfl ⟨A0, ca, K0, ck, rfl, HRC.out.ext0 H.ext⟩ H0.out).mono ?_
    rintro e w4 hm
    have hx := hm.2
    obtain rfl := hm.yes HQ.out
    clear hm
    replace H := H.call hx
    clear hx
    dsimp only
    repeat (first | exact all5 IH HT.out HH.out HLS.out HKS.out HN.out (H.arr (by (repeat (first | with_reducible exact Arr.nil | refine Arr.cons (by (repeat (first | with_reducible exact Pick.head | with_reducible apply Pick.tail))) ?_)) <;> exact Arr.of_subl (by (repeat (first | with_reducible exact Subl.refl _ | with_reducible apply Subl.drop))))) | go_step)
  | false =>
    have hE : allQ ds n sf sc (.mk 3 m a ls ks) = false := by rw [allQ, hA, hq]; rfl
    rw [hE]
    have HQ := Lib.hid hq
    clear hq hA hE
    go_enter Tryz.func176, Tryz.ntmps176
    have H := Hp.start no w
    go_wp2_with (first | ((with_reducible refine atInsert ?_); go_must (refine wpList_insert Tryz.underlying276 Tryz.underlying23 (by go_simp <;> first | rfl | exact ⟨rfl, rfl⟩) (by go_simp <;> first | rfl | exact ⟨rfl, rfl⟩) (by go_simp <;> first | rfl | exact ⟨rfl, rfl⟩) (by exact Hp.norm (by (repeat (first | with_reducible exact H | with_reducible exact H0_ | with_reducible apply Hp.alloc | with_reducible apply Hp.allocMap | with_reducible apply Hp.drew | with_reducible apply Hp.drewN | with_reducible apply Hp.set)); (try any_goals (repeat (first | with_reducible exact Upd.head | with_reducible apply Upd.tail)))) (by ((try simp only [size_drew_, size_drewN_, World.size_alloc, World.size_setCell, List.set_cons_zero, List.set_cons_succ, List.nil_append, List.cons_append]) <;> rfl))) (by (repeat (first | with_reducible exact Upd.head | with_reducible apply Upd.tail))) (by simp [List.lookup]) ?_; clear H; intro w_ H; (try simp only [size_drew_, size_drewN_, World.size_alloc, World.size_setCell, List.set_cons_zero, List.set_cons_succ] at H); simp only [List.nil_append, List.cons_append] at H; (try clear hr2_); have hr2_ := H.rules; simp only [Rules, and_true] at hr2_)) | ((with_reducible refine atLookup ?_); go_must (refine wpList_lookup Tryz.underlying276 Tryz.underlying23 (z := .nilFunc) (run_zero (t := 175) (by kernel_rfl)) (by go_simp <;> first | rfl | exact ⟨rfl, rfl⟩) (by go_simp <;> first | rfl | exact ⟨rfl, rfl⟩) H (by (repeat (first | with_reducible exact Pick.head | with_reducible apply Pick.tail))) ?_; simp [List.lookup, *])))
    (try clear hr2_)
    refine callsH (by (repeat (first | with_reducible exact H | with_reducible exact H0_ | with_reducible apply Hp.alloc | with_reducible apply Hp.allocMap | with_reducible apply Hp.drew | with_reducible apply Hp.drewN | with_reducible apply Hp.set)); (try any_goals (repeat (first | with_reducible exact Upd.head | with_reducible apply Upd.tail)))) ?_
    clear H; intro w2 H; (try simp only [size_drew_, size_drewN_, World.size_alloc, World.size_setCell, List.set_cons_zero, List.set_cons_succ] at H)
    refine (smust1 H).mono ?_
    rintro e w3 hm
    have hx := hm.2
    obtain rfl := hm.yes rfl
    clear hm
    replace H := H.call hx
    clear hx
    have hr_ := H.rules; simp only [Rules, and_true] at hr_; have hd_ := H.dif; simp only [Dif, Neq, and_true] at hd_; obtain ⟨ho_, hz_⟩ := H.old0
    go_wp2_with fail
    clear hr_ hd_ ho_ hz_
    refine callsH (by (repeat (first | with_reducible exact H | with_reducible exact H0_ | with_reducible apply Hp.alloc | with_reducible apply Hp.allocMap | with_reducible apply Hp.drew | with_reducible apply Hp.drewN | with_reducible apply Hp.set)); (try any_goals (repeat (first | with_reducible exact Upd.head | with_reducible apply Upd.tail)))) ?_
    clear H; intro w5 H; (try simp only [size_drew_, size_drewN_, World.size_alloc, World.size_setCell, List.set_cons_zero, List.set_cons_succ] at H)
    refine (constant11_calls (t := .mk 3 m a ls ks) (HH.out.ext0 H.ext) rfl ⟨A0, ca, K0, ck, rfl, HRC.out.ext0 H.ext⟩ H0.out).mono ?_
    rintro e w4 hm
    have hx := hm.2
    obtain rfl := hm.no HQ.out
    clear hm
    replace H := H.call hx
    exact ⟨rfl, rfl, H.ext⟩
set_option maxRecDepth 100000 in
set_option maxHeartbeats 8000000 in
theorem all_k8 {w : World} {S S1 : Nat → Prop} {ds : List Dc} {m a : Int} {ls : List Lv} {ks : List Tm} {A A0 K0 : Option Addr} {c ca ck : Nat} {n sf sc : Int} (IH : Hid (∀ t ∈ ks, AllOK t)) (hT : Tab w)
    (h : RC w S (.l 51 16 (ds.map Dc.d)) [.slice A ds.length c]) (hrc : RC w S1 (Tm.mk 8 m a ls ks).d [.int .i64 8, .int .i64 m, .int .i64 a, .slice A0 ls.length ca, .slice K0 ks.length ck]) (h0 : 0 ≤ m) (hnn : ∀ t ∈ ks, TmNN t) :
    Calls Tryz.prog 176 #[wkV A ds.length c n sf sc, .agg #[.int .i64 8, .int .i64 m, .int .i64 a, .slice A0 ls.length ca, .slice K0 ks.length ck]] w (PWr w (allQ ds n sf sc (.mk 8 m a ls ks))) := by
  obtain ⟨_, _, _, _, he, _, _, _, hls, hks⟩ := RC.tm.1 hrc
  simp only [Tm.ls_mk, Tm.ks_mk, Tm.k_mk, Tm.n_mk, Tm.a_mk, List.cons.injEq, Value.slice.injEq, and_true, true_and] at he hls hks
  obtain ⟨⟨rfl, rfl⟩, rfl, rfl⟩ := he
  have HH := Lib.hid h
  have HLS := Lib.hid hls
  have HKS := Lib.hid hks
  have HT := Lib.hid hT
  have HN := Lib.hid hnn
  have HRC := Lib.hid hrc
  have H0 := Lib.hid h0
  clear h hls hks hT hnn hrc h0
  have hmf : ∀ (fn : Fn) (first cap : Array Value) (w : World), (Instr.makeFunc fn first cap).run Tryz.prog w = .ok (.func fn first cap) w := fun _ _ _ _ => rfl
  have hmm : ∀ w : World, (Instr.makeMap 276 none).run Tryz.prog w = .ok (.map (some w.heap.size)) (w.alloc (.map #[] 0)) := fun _ => rfl
  have hA : askQ ds sf sc (.mk 8 m a ls ks) = memQ ds (.mk 8 m a ls ks) := by unfold askQ; rfl
  cases hq : memQ ds (.mk 8 m a ls ks) with
  | true =>
    have hE : allQ ds n sf sc (.mk 8 m a ls ks) = (lvsQ n ls && allsQ ds n sf 8 sc 0 ks) := by rw [allQ, hA, hq]; rfl
    rw [hE]
    have HQ := Lib.hid hq
    clear hq hA hE
    go_enter Tryz.func176, Tryz.ntmps176
    have H := Hp.start no w
    go_wp2_with (first | ((with_reducible refine atInsert ?_); go_must (refine wpList_insert Tryz.underlying276 Tryz.underlying23 (by go_simp <;> first | rfl | exact ⟨rfl, rfl⟩) (by go_simp <;> first | rfl | exact ⟨rfl, rfl⟩) (by go_simp <;> first | rfl | exact ⟨rfl, rfl⟩) (by exact Hp.norm (by (repeat (first | with_reducible exact H | with_reducible exact H0_ | with_reducible apply Hp.alloc | with_reducible apply Hp.allocMap | with_reducible apply Hp.drew | with_reducible apply Hp.drewN | with_reducible apply Hp.set)); (try any_goals (repeat (first | with_reducible exact Upd.head | with_reducible apply Upd.tail)))) (by ((try simp only [size_drew_, size_drewN_, World.size_alloc, World.size_setCell, List.set_cons_zero, List.set_cons_succ, List.nil_append, List.cons_append]) <;> rfl))) (by (repeat (first | with_reducible exact Upd.head | with_reducible apply Upd.tail))) (by simp [List.lookup]) ?_; clear H; intro w_ H; (try simp only [size_drew_, size_drewN_, World.size_alloc, World.size_setCell, List.set_cons_zero, List.set_cons_succ] at H); simp only [List.nil_append, List.cons_append] at H; (try clear hr2_); have hr2_ := H.rules; simp only [Rules, and_true] at hr2_)) | ((with_reducible refine atLookup ?_); go_must (refine wpList_lookup Tryz.underlying276 Tryz.underlying23 (z := .nilFunc) (run_zero (t := 175) (by kernel_rfl)) (by go_simp <;> first | rfl | exact ⟨rfl, rfl⟩) (by go_simp <;> first | rfl | exact ⟨rfl, rfl⟩) H (by (repeat (first | with_reducible exact Pick.head | with_reducible apply Pick.tail))) ?_; simp [List.lookup, *])))
    (try clear hr2_)
    refine callsH (by (repeat (first | with_reducible exact H | with_reducible exact H0_ | with_reducible apply Hp.alloc | with_reducible apply Hp.allocMap | with_reducible apply Hp.drew | with_reducible apply Hp.drewN | with_reducible apply Hp.set)); (try any_goals (repeat (first | with_reducible exact Upd.head | with_reducible apply Upd.tail)))) ?_
    clear H; intro w2 H; (try simp only [size_drew_, size_drewN_, World.size_alloc, World.size_setCell, List.set_cons_zero, List.set_cons_succ] at H)
    refine (smust1 H).mono ?_
    rintro e w3 hm
    have hx := hm.2
    obtain rfl := hm.yes rfl
    clear hm
    replace H := H.call hx
    clear hx
    have hr_ := H.rules; simp only [Rules, and_true] at hr_; have hd_ := H.dif; simp only [Dif, Neq, and_true] at hd_; obtain ⟨ho_, hz_⟩ := H.old0
    go_wp2_with fail
    clear hr_ hd_ ho_ hz_
    refine callsH (by (repeat (first | with_reducible exact H | with_reducible exact H0_ | with_reducible apply Hp.alloc | with_reducible apply Hp.allocMap | with_reducible apply Hp.drew | with_reducible apply Hp.drewN | with_reducible apply Hp.set)); (try any_goals (repeat (first | with_reducible exact Upd.head | with_reducible apply Upd.tail)))) ?_
    clear H; intro w5 H; (try simp only [size_drew_, size_drewN_, World.size_alloc, World.size_setCell, List.set_cons_zero, List.set_cons_succ] at H)
    refine (member11_calls (t := .mk 8 m a ls ks) (HH.out.ext0 H.ext) rfl ⟨A0, ca, K0, ck, rfl, HRC.out.ext0 H.ext⟩ H0.out).mono ?_
    rintro e w4 hm
    have hx := hm.2
    obtain rfl := hm.yes HQ.out
    clear hm
    replace H := H.call hx
    clear hx
    dsimp only
    repeat (first | exact all5 IH HT.out HH.out HLS.out HKS.out HN.out (H.arr (by (repeat (first | with_reducible exact Arr.nil | refine Arr.cons (by (repeat (first | with_reducible exact Pick.head | with_reducible apply Pick.tail))) ?_)) <;> exact Arr.of_subl (by (repeat (first | with_reducible exact Subl.refl _ | with_reducible apply Subl.drop))))) | go_step)
  | false =>
    have hE : allQ ds n sf sc (.mk 8 m a ls ks) = false := by rw [allQ, hA, hq]; rfl
    rw [hE]
    have HQ := Lib.hid hq
    clear hq hA hE
    go_enter Tryz.func176, Tryz.ntmps176
    have H := Hp.start no w
    go_wp2_with (first | ((with_reducible refine atInsert ?_); go_must (refine wpList_insert Tryz.underlying276 Tryz.underlying23 (by go_simp <;> first | rfl | exact ⟨rfl, rfl⟩) (by go_simp <;> first | rfl | exact ⟨rfl, rfl⟩) (by go_simp <;> first | rfl | exact ⟨rfl, rfl⟩) (by exact Hp.norm (by (repeat (first | with_reducible exact H | with_reducible exact H0_ | with_reducible apply Hp.alloc | with_reducible apply Hp.allocMap | with_reducible apply Hp.drew | with_reducible apply Hp.drewN | with_reducible apply Hp.set)); (try any_goals (repeat (first | with_reducible exact Upd.head | with_reducible apply Upd.tail)))) (by ((try simp only [size_drew_, size_drewN_, World.size_alloc, World.size_setCell, List.set_cons_zero, List.set_cons_succ, List.nil_append, List.cons_append]) <;> rfl))) (by (repeat (first | with_reducible exact Upd.head | with_reducible apply Upd.tail))) (by simp [List.lookup]) ?_; clear H; intro w_ H; (try simp only [size_drew_, size_drewN_, World.size_alloc, World.size_setCell, List.set_cons_zero, List.set_cons_succ] at H); simp only [List.nil_append, List.cons_append] at H; (try clear hr2_); have hr2_ := H.rules; simp only [Rules, and_true] at hr2_)) | ((with_reducible refine atLookup ?_); go_must (refine wpList_lookup Tryz.underlying276 Tryz.underlying23 (z := .nilFunc) (run_zero (t := 175) (by kernel_rfl)) (by go_simp <;> first | rfl | exact ⟨rfl, rfl⟩) (by go_simp <;> first | rfl | exact ⟨rfl, rfl⟩) H (by (repeat (first | with_reducible exact Pick.head | with_reducible apply Pick.tail))) ?_; simp [List.lookup, *])))
    (try clear hr2_)
    refine callsH (by (repeat (first | with_reducible exact H | with_reducible exact H0_ | with_reducible apply Hp.alloc | with_reducible apply Hp.allocMap | with_reducible apply Hp.drew | with_reducible apply Hp.drewN | with_reducible apply Hp.set)); (try any_goals (repeat (first | with_reducible exact Upd.head | with_reducible apply Upd.tail)))) ?_
    clear H; intro w2 H; (try simp only [size_drew_, size_drewN_, World.size_alloc, World.size_setCell, List.set_cons_zero, List.set_cons_succ] at H)
    refine (smust1 H).mono ?_
    rintro e w3 hm
    have hx := hm.2
    obtain rfl := hm.yes rfl
    clear hm
    replace H := H.call hx
    clear hx
    have hr_ := H.rules; simp only [Rules, and_true] at hr_; have hd_ := H.dif; simp only [Dif, Neq, and_true] at hd_; obtain ⟨ho_, hz_⟩ := H.old0
    go_wp2_with fail
    clear hr_ hd_ ho_ hz_
    refine callsH (by (repeat (first | with_reducible exact H | with_reducible exact H0_ | with_reducible apply Hp.alloc | with_reducible apply Hp.allocMap | with_reducible apply Hp.drew | with_reducible apply Hp.drewN | with_reducible apply Hp.set)); (try any_goals (repeat (first | with_reducible exact Upd.head | with_reducible apply Upd.tail)))) ?_
    clear H; intro w5 H; (try simp only [size_drew_, size_drewN_, World.size_alloc, World.size_setCell, List.set_cons_zero, List.set_cons_succ] at H)
    refine (member11_calls (t := .mk 8 m a ls ks) (HH.out.ext0 H.ext) rfl ⟨A0, ca, K0, ck, rfl, HRC.out.ext0 H.ext⟩ H0.out).mono ?_
    rintro e w4 hm
    have hx := hm.2
    obtain rfl := hm.no HQ.out
    clear hm
    replace H := H.call hx
    exact ⟨rfl, rfl, H.ext⟩
set_option maxRecDepth 100000 in
set_option maxHeartbeats 8000000 in
theorem all_k9 {w : World} {S S1 : Nat → Prop} {ds : List Dc} {m a : Int} {ls : List Lv} {ks : List Tm} {A A0 K0 : Option Addr} {c ca ck : Nat} {n sf sc : Int} (IH : Hid (∀ t ∈ ks, AllOK t)) (hT : Tab w)
    (h : RC w S (.l 51 16 (ds.map Dc.d)) [.slice A ds.length c]) (hrc : RC w S1 (Tm.mk 9 m a ls ks).d [.int .i64 9, .int .i64 m, .int .i64 a, .slice A0 ls.length ca, .slice K0 ks.length ck]) (h0 : 0 ≤ m) (hnn : ∀ t ∈ ks, TmNN t) :
    Calls Tryz.prog 176 #[wkV A ds.length c n sf sc, .agg #[.int .i64 9, .int .i64 m, .int .i64 a, .slice A0 ls.length ca, .slice K0 ks.length ck]] w (PWr w (allQ ds n sf sc (.mk 9 m a ls ks))) := by
  obtain ⟨_, _, _, _, he, _, _, _, hls, hks⟩ := RC.tm.1 hrc
  simp only [Tm.ls_mk, Tm.ks_mk, Tm.k_mk, Tm.n_mk, Tm.a_mk, List.cons.injEq, Value.slice.injEq, and_true, true_and] at he hls hks
  obtain ⟨⟨rfl, rfl⟩, rfl, rfl⟩ := he
  have HH := Lib.hid h
  have HLS := Lib.hid hls
  have HKS := Lib.hid hks
  have HT := Lib.hid hT
  have HN := Lib.hid hnn
  have HRC := Lib.hid hrc
  have H0 := Lib.hid h0
  clear h hls hks hT hnn hrc h0
  have hmf : ∀ (fn : Fn) (first cap : Array Value) (w : World), (Instr.makeFunc fn first cap).run Tryz.prog w = .ok (.func fn first cap) w := fun _ _ _ _ => rfl
  have hmm : ∀ w : World, (Instr.makeMap 276 none).run Tryz.prog w = .ok (.map (some w.heap.size)) (w.alloc (.map #[] 0)) := fun _ => rfl
  have hA : askQ ds sf sc (.mk 9 m a ls ks) = ctorQ ds (.mk 9 m a ls ks) := by unfold askQ; rfl
  cases hq : ctorQ ds (.mk 9 m a ls ks) with
  | true =>
    have hE : allQ ds n sf sc (.mk 9 m a ls ks) = (lvsQ n ls && allsQ ds n sf 9 sc 0 ks) := by rw [allQ, hA, hq]; rfl
    rw [hE]
    have HQ := Lib.hid hq
    clear hq hA hE
    go_enter Tryz.func176, Tryz.ntmps176
    have H := Hp.start no w
    go_wp2_with (first | ((with_reducible refine atInsert ?_); go_must (refine wpList_insert Tryz.underlying276 Tryz.underlying23 (by go_simp <;> first | rfl | exact ⟨rfl, rfl⟩) (by go_simp <;> first | rfl | exact ⟨rfl, rfl⟩) (by go_simp <;> first | rfl | exact ⟨rfl, rfl⟩) (by exact Hp.norm (by (repeat (first | with_reducible exact H | with_reducible exact H0_ | with_reducible apply Hp.alloc | with_reducible apply Hp.allocMap | with_reducible apply Hp.drew | with_reducible apply Hp.drewN | with_reducible apply Hp.set)); (try any_goals (repeat (first | with_reducible exact Upd.head | with_reducible apply Upd.tail)))) (by ((try simp only [size_drew_, size_drewN_, World.size_alloc, World.size_setCell, List.set_cons_zero, List.set_cons_succ, List.nil_append, List.cons_append]) <;> rfl))) (by (repeat (first | with_reducible exact Upd.head | with_reducible apply Upd.tail))) (by simp [List.lookup]) ?_; clear H; intro w_ H; (try simp only [size_drew_, size_drewN_, World.size_alloc, World.size_setCell, List.set_cons_zero, List.set_cons_succ] at H); simp only [List.nil_append, List.cons_append] at H; (try clear hr2_); have hr2_ := H.rules; simp only [Rules, and_true] at hr2_)) | ((with_reducible refine atLookup ?_); go_must (refine wpList_lookup Tryz.underlying276 Tryz.underlying23 (z := .nilFunc) (run_zero (t := 175) (by kernel_rfl)) (by go_simp <;> first | rfl | exact ⟨rfl, rfl⟩) (by go_simp <;> first | rfl | exact ⟨rfl, rfl⟩) H (by (repeat (first | with_reducible exact Pick.head | with_reducible apply Pick.tail))) ?_; simp [List.lookup, *])))
    (try clear hr2_)
    refine callsH (by (repeat (first | with_reducible exact H | with_reducible exact H0_ | with_reducible apply Hp.alloc | with_reducible apply Hp.allocMap | with_reducible apply Hp.drew | with_reducible apply Hp.drewN | with_reducible apply Hp.set)); (try any_goals (repeat (first | with_reducible exact Upd.head | with_reducible apply Upd.tail)))) ?_
    clear H; intro w2 H; (try simp only [size_drew_, size_drewN_, World.size_alloc, World.size_setCell, List.set_cons_zero, List.set_cons_succ] at H)
    refine (smust1 H).mono ?_
    rintro e w3 hm
    have hx := hm.2
    obtain rfl := hm.yes rfl
    clear hm
    replace H := H.call hx
    clear hx
    have hr_ := H.rules; simp only [Rules, and_true] at hr_; have hd_ := H.dif; simp only [Dif, Neq, and_true] at hd_; obtain ⟨ho_, hz_⟩ := H.old0
    go_wp2_with fail
    clear hr_ hd_ ho_ hz_
    refine callsH (by (repeat (first | with_reducible exact H | with_reducible exact H0_ | with_reducible apply Hp.alloc | with_reducible apply Hp.allocMap | with_reducible apply Hp.drew | with_reducible apply Hp.drewN | with_reducible apply Hp.set)); (try any_goals (repeat (first | with_reducible exact Upd.head | with_reducible apply Upd.tail)))) ?_
    clear H; intro w5 H; (try simp only [size_drew_, size_drewN_, World.size_alloc, World.size_setCell, List.set_cons_zero, List.set_cons_succ] at H)
    refine (ctor11_calls (t := .mk 9 m a ls ks) (HH.out.ext0 H.ext) rfl ⟨A0, ca, K0, ck, rfl, HRC.out.ext0 H.ext⟩ H0.out).mono ?_
    rintro e w4 hm
    have hx := hm.2
    obtain rfl := hm.yes HQ.out
    clear hm
    replace H := H.call hx
    clear hx
    dsimp only
    repeat (first | exact all5 IH HT.out HH.out HLS.out HKS.out HN.out (H.arr (by (repeat (first | with_reducible exact Arr.nil | refine Arr.cons (by (repeat (first | with_reducible exact Pick.head | with_reducible apply Pick.tail))) ?_)) <;> exact Arr.of_subl (by (repeat (first | with_reducible exact Subl.refl _ | with_reducible apply Subl.drop))))) | go_step)
  | false =>
    have hE : allQ ds n sf sc (.mk 9 m a ls ks) = false := by rw [allQ, hA, hq]; rfl
    rw [hE]
    have HQ := Lib.hid hq
    clear hq hA hE
    go_enter Tryz.func176, Tryz.ntmps176
    have H := Hp.start no w
    go_wp2_with (first | ((with_reducible refine atInsert ?_); go_must (refine wpList_insert Tryz.underlying276 Tryz.underlying23 (by go_simp <;> first | rfl | exact ⟨rfl, rfl⟩) (by go_simp <;> first | rfl | exact ⟨rfl, rfl⟩) (by go_simp <;> first | rfl | exact ⟨rfl, rfl⟩) (by exact Hp.norm (by (repeat (first | with_reducible exact H | with_reducible exact H0_ | with_reducible apply Hp.alloc | with_reducible apply Hp.allocMap | with_reducible apply Hp.drew | with_reducible apply Hp.drewN | with_reducible apply Hp.set)); (try any_goals (repeat (first | with_reducible exact Upd.head | with_reducible apply Upd.tail)))) (by ((try simp only [size_drew_, size_drewN_, World.size_alloc, World.size_setCell, List.set_cons_zero, List.set_cons_succ, List.nil_append, List.cons_append]) <;> rfl))) (by (repeat (first | with_reducible exact Upd.head | with_reducible apply Upd.tail))) (by simp [List.lookup]) ?_; clear H; intro w_ H; (try simp only [size_drew_, size_drewN_, World.size_alloc, World.size_setCell, List.set_cons_zero, List.set_cons_succ] at H); simp only [List.nil_append, List.cons_append] at H; (try clear hr2_); have hr2_ := H.rules; simp only [Rules, and_true] at hr2_)) | ((with_reducible refine atLookup ?_); go_must (refine wpList_lookup Tryz.underlying276 Tryz.underlying23 (z := .nilFunc) (run_zero (t := 175) (by kernel_rfl)) (by go_simp <;> first | rfl | exact ⟨rfl, rfl⟩) (by go_simp <;> first | rfl | exact ⟨rfl, rfl⟩) H (by (repeat (first | with_reducible exact Pick.head | with_reducible apply Pick.tail))) ?_; simp [List.lookup, *])))
    (try clear hr2_)
    refine callsH (by (repeat (first | with_reducible exact H | with_reducible exact H0_ | with_reducible apply Hp.alloc | with_reducible apply Hp.allocMap | with_reducible apply Hp.drew | with_reducible apply Hp.drewN | with_reducible apply Hp.set)); (try any_goals (repeat (first | with_reducible exact Upd.head | with_reducible apply Upd.tail)))) ?_
    clear H; intro w2 H; (try simp only [size_drew_, size_drewN_, World.size_alloc, World.size_setCell, List.set_cons_zero, List.set_cons_succ] at H)
    refine (smust1 H).mono ?_
    rintro e w3 hm
    have hx := hm.2
    obtain rfl := hm.yes rfl
    clear hm
    replace H := H.call hx
    clear hx
    have hr_ := H.rules; simp only [Rules, and_true] at hr_; have hd_ := H.dif; simp only [Dif, Neq, and_true] at hd_; obtain ⟨ho_, hz_⟩ := H.old0
    go_wp2_with fail
    clear hr_ hd_ ho_ hz_
    refine callsH (by (repeat (first | with_reducible exact H | with_reducible exact H0_ | with_reducible apply Hp.alloc | with_reducible apply Hp.allocMap | with_reducible apply Hp.drew | with_reducible apply Hp.drewN | with_reducible apply Hp.set)); (try any_goals (repeat (first | with_reducible exact Upd.head | with_reducible apply Upd.tail)))) ?_
    clear H; intro w5 H; (try simp only [size_drew_, size_drewN_, World.size_alloc, World.size_setCell, List.set_cons_zero, List.set_cons_succ] at H)
    refine (ctor11_calls (t := .mk 9 m a ls ks) (HH.out.ext0 H.ext) rfl ⟨A0, ca, K0, ck, rfl, HRC.out.ext0 H.ext⟩ H0.out).mono ?_
    rintro e w4 hm
    have hx := hm.2
    obtain rfl := hm.no HQ.out
    clear hm
    replace H := H.call hx
    exact ⟨rfl, rfl, H.ext⟩
set_option maxRecDepth 100000 in
set_option maxHeartbeats 8000000 in
theorem all_k10 {w : World} {S S1 : Nat → Prop} {ds : List Dc} {m a : Int} {ls : List Lv} {ks : List Tm} {A A0 K0 : Option Addr} {c ca ck : Nat} {n sf sc : Int} (IH : Hid (∀ t ∈ ks, AllOK t)) (hT : Tab w)
    (h : RC w S (.l 51 16 (ds.map Dc.d)) [.slice A ds.length c]) (hrc : RC w S1 (Tm.mk 10 m a ls ks).d [.int .i64 10, .int .i64 m, .int .i64 a, .slice A0 ls.length ca, .slice K0 ks.length ck]) (h0 : 0 ≤ m) (hnn : ∀ t ∈ ks, TmNN t) :
    Calls Tryz.prog 176 #[wkV A ds.length c n sf sc, .agg #[.int .i64 10, .int .i64 m, .int .i64 a, .slice A0 ls.length ca, .slice K0 ks.length ck]] w (PWr w (allQ ds n sf sc (.mk 10 m a ls ks))) := by
  obtain ⟨_, _, _, _, he, _, _, _, hls, hks⟩ := RC.tm.1 hrc
  simp only [Tm.ls_mk, Tm.ks_mk, Tm.k_mk, Tm.n_mk, Tm.a_mk, List.cons.injEq, Value.slice.injEq, and_true, true_and] at he hls hks
  obtain ⟨⟨rfl, rfl⟩, rfl, rfl⟩ := he
  have HH := Lib.hid h
  have HLS := Lib.hid hls
  have HKS := Lib.hid hks
  have HT := Lib.hid hT
  have HN := Lib.hid hnn
  have HRC := Lib.hid hrc
  have H0 := Lib.hid h0
  clear h hls hks hT hnn hrc h0
  have hmf : ∀ (fn : Fn) (first cap : Array Value) (w : World), (Instr.makeFunc fn first cap).run Tryz.prog w = .ok (.func fn first cap) w := fun _ _ _ _ => rfl
  have hmm : ∀ w : World, (Instr.makeMap 276 none).run Tryz.prog w = .ok (.map (some w.heap.size)) (w.alloc (.map #[] 0)) := fun _ => rfl
  have hA : askQ ds sf sc (.mk 10 m a ls ks) = recQ ds (.mk 10 m a ls ks) := by unfold askQ; rfl
  cases hq : recQ ds (.mk 10 m a ls ks) with
  | true =>
    have hE : allQ ds n sf sc (.mk 10 m a ls ks) = (lvsQ n ls && allsQ ds n sf 10 sc 0 ks) := by rw [allQ, hA, hq]; rfl
    rw [hE]
    have HQ := Lib.hid hq
    clear hq hA hE
    go_enter Tryz.func176, Tryz.ntmps176
    have H := Hp.start no w
    go_wp2_with (first | ((with_reducible refine atInsert ?_); go_must (refine wpList_insert Tryz.underlying276 Tryz.underlying23 (by go_simp <;> first | rfl | exact ⟨rfl, rfl⟩) (by go_simp <;> first | rfl | exact ⟨rfl, rfl⟩) (by go_simp <;> first | rfl | exact ⟨rfl, rfl⟩) (by exact Hp.norm (by (repeat (first | with_reducible exact H | with_reducible exact H0_ | with_reducible apply Hp.alloc | with_reducible apply Hp.allocMap | with_reducible apply Hp.drew | with_reducible apply Hp.drewN | with_reducible apply Hp.set)); (try any_goals (repeat (first | with_reducible exact Upd.head | with_reducible apply Upd.tail)))) (by ((try simp only [size_drew_, size_drewN_, World.size_alloc, World.size_setCell, List.set_cons_zero, List.set_cons_succ, List.nil_append, List.cons_append]) <;> rfl))) (by (repeat (first | with_reducible exact Upd.head | with_reducible apply Upd.tail))) (by simp [List.lookup]) ?_; clear H; intro w_ H; (try simp only [size_drew_, size_drewN_, World.size_alloc, World.size_setCell, List.set_cons_zero, List.set_cons_succ] at H); simp only [List.nil_append, List.cons_append] at H; (try clear hr2_); have hr2_ := H.rules; simp only [Rules, and_true] at hr2_)) | ((with_reducible refine atLookup ?_); go_must (refine wpList_lookup Tryz.underlying276 Tryz.underlying23 (z := .nilFunc) (run_zero (t := 175) (by kernel_rfl)) (by go_simp <;> first | rfl | exact ⟨rfl, rfl⟩) (by go_simp <;> first | rfl | exact ⟨rfl, rfl⟩) H (by (repeat (first | with_reducible exact Pick.head | with_reducible apply Pick.tail))) ?_; simp [List.lookup, *])))
    (try clear hr2_)
    refine callsH (by (repeat (first | with_reducible exact H | with_reducible exact H0_ | with_reducible apply Hp.alloc | with_reducible apply Hp.allocMap | with_reducible apply Hp.drew | with_reducible apply Hp.drewN | with_reducible apply Hp.set)); (try any_goals (repeat (first | with_reducible exact Upd.head | with_reducible apply Upd.tail)))) ?_
    clear H; intro w2 H; (try simp only [size_drew_, size_drewN_, World.size_alloc, World.size_setCell, List.set_cons_zero, List.set_cons_succ] at H)
    refine (smust1 H).mono ?_
    rintro e w3 hm
    have hx := hm.2
    obtain rfl := hm.yes rfl
    clear hm
    replace H := H.call hx
    clear hx
    have hr_ := H.rules; simp only [Rules, and_true] at hr_; have hd_ := H.dif; simp only [Dif, Neq, and_true] at hd_; obtain ⟨ho_, hz_⟩ := H.old0
    go_wp2_with fail
    clear hr_ hd_ ho_ hz_
    refine callsH (by (repeat (first | with_reducible exact H | with_reducible exact H0_ | with_reducible apply Hp.alloc | with_reducible apply Hp.allocMap | with_reducible apply Hp.drew | with_reducible apply Hp.drewN | with_reducible apply Hp.set)); (try any_goals (repeat (first | with_reducible exact Upd.head | with_reducible apply Upd.tail)))) ?_
    clear H; intro w5 H; (try simp only [size_drew_, size_drewN_, World.size_alloc, World.size_setCell, List.set_cons_zero, List.set_cons_succ] at H)
    refine (recursor11_calls (t := .mk 10 m a ls ks) (HH.out.ext0 H.ext) rfl ⟨A0, ca, K0, ck, rfl, HRC.out.ext0 H.ext⟩ H0.out).mono ?_
    rintro e w4 hm
    have hx := hm.2
    obtain rfl := hm.yes HQ.out
    clear hm
    replace H := H.call hx
    clear hx
    dsimp only
    repeat (first | exact all5 IH HT.out HH.out HLS.out HKS.out HN.out (H.arr (by (repeat (first | with_reducible exact Arr.nil | refine Arr.cons (by (repeat (first | with_reducible exact Pick.head | with_reducible apply Pick.tail))) ?_)) <;> exact Arr.of_subl (by (repeat (first | with_reducible exact Subl.refl _ | with_reducible apply Subl.drop))))) | go_step)
  | false =>
    have hE : allQ ds n sf sc (.mk 10 m a ls ks) = false := by rw [allQ, hA, hq]; rfl
    rw [hE]
    have HQ := Lib.hid hq
    clear hq hA hE
    go_enter Tryz.func176, Tryz.ntmps176
    have H := Hp.start no w
    go_wp2_with (first | ((with_reducible refine atInsert ?_); go_must (refine wpList_insert Tryz.underlying276 Tryz.underlying23 (by go_simp <;> first | rfl | exact ⟨rfl, rfl⟩) (by go_simp <;> first | rfl | exact ⟨rfl, rfl⟩) (by go_simp <;> first | rfl | exact ⟨rfl, rfl⟩) (by exact Hp.norm (by (repeat (first | with_reducible exact H | with_reducible exact H0_ | with_reducible apply Hp.alloc | with_reducible apply Hp.allocMap | with_reducible apply Hp.drew | with_reducible apply Hp.drewN | with_reducible apply Hp.set)); (try any_goals (repeat (first | with_reducible exact Upd.head | with_reducible apply Upd.tail)))) (by ((try simp only [size_drew_, size_drewN_, World.size_alloc, World.size_setCell, List.set_cons_zero, List.set_cons_succ, List.nil_append, List.cons_append]) <;> rfl))) (by (repeat (first | with_reducible exact Upd.head | with_reducible apply Upd.tail))) (by simp [List.lookup]) ?_; clear H; intro w_ H; (try simp only [size_drew_, size_drewN_, World.size_alloc, World.size_setCell, List.set_cons_zero, List.set_cons_succ] at H); simp only [List.nil_append, List.cons_append] at H; (try clear hr2_); have hr2_ := H.rules; simp only [Rules, and_true] at hr2_)) | ((with_reducible refine atLookup ?_); go_must (refine wpList_lookup Tryz.underlying276 Tryz.underlying23 (z := .nilFunc) (run_zero (t := 175) (by kernel_rfl)) (by go_simp <;> first | rfl | exact ⟨rfl, rfl⟩) (by go_simp <;> first | rfl | exact ⟨rfl, rfl⟩) H (by (repeat (first | with_reducible exact Pick.head | with_reducible apply Pick.tail))) ?_; simp [List.lookup, *])))
    (try clear hr2_)
    refine callsH (by (repeat (first | with_reducible exact H | with_reducible exact H0_ | with_reducible apply Hp.alloc | with_reducible apply Hp.allocMap | with_reducible apply Hp.drew | with_reducible apply Hp.drewN | with_reducible apply Hp.set)); (try any_goals (repeat (first | with_reducible exact Upd.head | with_reducible apply Upd.tail)))) ?_
    clear H; intro w2 H; (try simp only [size_drew_, size_drewN_, World.size_alloc, World.size_setCell, List.set_cons_zero, List.set_cons_succ] at H)
    refine (smust1 H).mono ?_
    rintro e w3 hm
    have hx := hm.2
    obtain rfl := hm.yes rfl
    clear hm
    replace H := H.call hx
    clear hx
    have hr_ := H.rules; simp only [Rules, and_true] at hr_; have hd_ := H.dif; simp only [Dif, Neq, and_true] at hd_; obtain ⟨ho_, hz_⟩ := H.old0
    go_wp2_with fail
    clear hr_ hd_ ho_ hz_
    refine callsH (by (repeat (first | with_reducible exact H | with_reducible exact H0_ | with_reducible apply Hp.alloc | with_reducible apply Hp.allocMap | with_reducible apply Hp.drew | with_reducible apply Hp.drewN | with_reducible apply Hp.set)); (try any_goals (repeat (first | with_reducible exact Upd.head | with_reducible apply Upd.tail)))) ?_
    clear H; intro w5 H; (try simp only [size_drew_, size_drewN_, World.size_alloc, World.size_setCell, List.set_cons_zero, List.set_cons_succ] at H)
    refine (recursor11_calls (t := .mk 10 m a ls ks) (HH.out.ext0 H.ext) rfl ⟨A0, ca, K0, ck, rfl, HRC.out.ext0 H.ext⟩ H0.out).mono ?_
    rintro e w4 hm
    have hx := hm.2
    obtain rfl := hm.no HQ.out
    clear hm
    replace H := H.call hx
    exact ⟨rfl, rfl, H.ext⟩
set_option maxRecDepth 100000 in
set_option maxHeartbeats 8000000 in
theorem all_k11 {w : World} {S S1 : Nat → Prop} {ds : List Dc} {m a : Int} {ls : List Lv} {ks : List Tm} {A A0 K0 : Option Addr} {c ca ck : Nat} {n sf sc : Int} (IH : Hid (∀ t ∈ ks, AllOK t)) (hT : Tab w)
    (h : RC w S (.l 51 16 (ds.map Dc.d)) [.slice A ds.length c]) (hrc : RC w S1 (Tm.mk 11 m a ls ks).d [.int .i64 11, .int .i64 m, .int .i64 a, .slice A0 ls.length ca, .slice K0 ks.length ck]) (h0 : 0 ≤ m) (hnn : ∀ t ∈ ks, TmNN t) :
    Calls Tryz.prog 176 #[wkV A ds.length c n sf sc, .agg #[.int .i64 11, .int .i64 m, .int .i64 a, .slice A0 ls.length ca, .slice K0 ks.length ck]] w (PWr w (allQ ds n sf sc (.mk 11 m a ls ks))) := by
  obtain ⟨_, _, _, _, he, _, _, _, hls, hks⟩ := RC.tm.1 hrc
  simp only [Tm.ls_mk, Tm.ks_mk, Tm.k_mk, Tm.n_mk, Tm.a_mk, List.cons.injEq, Value.slice.injEq, and_true, true_and] at he hls hks
  obtain ⟨⟨rfl, rfl⟩, rfl, rfl⟩ := he
  have HH := Lib.hid h
  have HLS := Lib.hid hls
  have HKS := Lib.hid hks
  have HT := Lib.hid hT
  have HN := Lib.hid hnn
  have HRC := Lib.hid hrc
  have H0 := Lib.hid h0
  clear h hls hks hT hnn hrc h0
  have hmf : ∀ (fn : Fn) (first cap : Array Value) (w : World), (Instr.makeFunc fn first cap).run Tryz.prog w = .ok (.func fn first cap) w := fun _ _ _ _ => rfl
  have hmm : ∀ w : World, (Instr.makeMap 276 none).run Tryz.prog w = .ok (.map (some w.heap.size)) (w.alloc (.map #[] 0)) := fun _ => rfl
  have hA : askQ ds sf sc (.mk 11 m a ls ks) = decide (a < sf) := by unfold askQ; rfl
  cases hq : decide (a < sf) with
  | true =>
    have hE : allQ ds n sf sc (.mk 11 m a ls ks) = (lvsQ n ls && allsQ ds n sf 11 sc 0 ks) := by rw [allQ, hA, hq]; rfl
    rw [hE]
    have HQ := Lib.hid hq
    clear hq hA hE
    go_enter Tryz.func176, Tryz.ntmps176
    have H := Hp.start no w
    go_wp2_with (first | ((with_reducible refine atInsert ?_); go_must (refine wpList_insert Tryz.underlying276 Tryz.underlying23 (by go_simp <;> first | rfl | exact ⟨rfl, rfl⟩) (by go_simp <;> first | rfl | exact ⟨rfl, rfl⟩) (by go_simp <;> first | rfl | exact ⟨rfl, rfl⟩) (by exact Hp.norm (by (repeat (first | with_reducible exact H | with_reducible exact H0_ | with_reducible apply Hp.alloc | with_reducible apply Hp.allocMap | with_reducible apply Hp.drew | with_reducible apply Hp.drewN | with_reducible apply Hp.set)); (try any_goals (repeat (first | with_reducible exact Upd.head | with_reducible apply Upd.tail)))) (by ((try simp only [size_drew_, size_drewN_, World.size_alloc, World.size_setCell, List.set_cons_zero, List.set_cons_succ, List.nil_append, List.cons_append]) <;> rfl))) (by (repeat (first | with_reducible exact Upd.head | with_reducible apply Upd.tail))) (by simp [List.lookup]) ?_; clear H; intro w_ H; (try simp only [size_drew_, size_drewN_, World.size_alloc, World.size_setCell, List.set_cons_zero, List.set_cons_succ] at H); simp only [List.nil_append, List.cons_append] at H; (try clear hr2_); have hr2_ := H.rules; simp only [Rules, and_true] at hr2_)) | ((with_reducible refine atLookup ?_); go_must (refine wpList_lookup Tryz.underlying276 Tryz.underlying23 (z := .nilFunc) (run_zero (t := 175) (by kernel_rfl)) (by go_simp <;> first | rfl | exact ⟨rfl, rfl⟩) (by go_simp <;> first | rfl | exact ⟨rfl, rfl⟩) H (by (repeat (first | with_reducible exact Pick.head | with_reducible apply Pick.tail))) ?_; simp [List.lookup, *])))
    (try clear hr2_)
    refine callsH (by (repeat (first | with_reducible exact H | with_reducible exact H0_ | with_reducible apply Hp.alloc | with_reducible apply Hp.allocMap | with_reducible apply Hp.drew | with_reducible apply Hp.drewN | with_reducible apply Hp.set)); (try any_goals (repeat (first | with_reducible exact Upd.head | with_reducible apply Upd.tail)))) ?_
    clear H; intro w2 H; (try simp only [size_drew_, size_drewN_, World.size_alloc, World.size_setCell, List.set_cons_zero, List.set_cons_succ] at H)
    refine (smust1 H).mono ?_
    rintro e w3 hm
    have hx := hm.2
    obtain rfl := hm.yes rfl
    clear hm
    replace H := H.call hx
    clear hx
    have hr_ := H.rules; simp only [Rules, and_true] at hr_; have hd_ := H.dif; simp only [Dif, Neq, and_true] at hd_; obtain ⟨ho_, hz_⟩ := H.old0
    go_wp2_with fail
    clear hr_ hd_ ho_ hz_
    refine callsH (by (repeat (first | with_reducible exact H | with_reducible exact H0_ | with_reducible apply Hp.alloc | with_reducible apply Hp.allocMap | with_reducible apply Hp.drew | with_reducible apply Hp.drewN | with_reducible apply Hp.set)); (try any_goals (repeat (first | with_reducible exact Upd.head | with_reducible apply Upd.tail)))) ?_
    clear H; intro w5 H; (try simp only [size_drew_, size_drewN_, World.size_alloc, World.size_setCell, List.set_cons_zero, List.set_cons_succ] at H)
    refine (own11_calls (t := .mk 11 m a ls ks) ⟨A0, ca, K0, ck, rfl, HRC.out.ext0 H.ext⟩).mono ?_
    rintro e w4 hm
    have hx := hm.2
    obtain rfl := hm.yes HQ.out
    clear hm
    replace H := H.call hx
    clear hx
    dsimp only
    repeat (first | exact all5 IH HT.out HH.out HLS.out HKS.out HN.out (H.arr (by (repeat (first | with_reducible exact Arr.nil | refine Arr.cons (by (repeat (first | with_reducible exact Pick.head | with_reducible apply Pick.tail))) ?_)) <;> exact Arr.of_subl (by (repeat (first | with_reducible exact Subl.refl _ | with_reducible apply Subl.drop))))) | go_step)
  | false =>
    have hE : allQ ds n sf sc (.mk 11 m a ls ks) = false := by rw [allQ, hA, hq]; rfl
    rw [hE]
    have HQ := Lib.hid hq
    clear hq hA hE
    go_enter Tryz.func176, Tryz.ntmps176
    have H := Hp.start no w
    go_wp2_with (first | ((with_reducible refine atInsert ?_); go_must (refine wpList_insert Tryz.underlying276 Tryz.underlying23 (by go_simp <;> first | rfl | exact ⟨rfl, rfl⟩) (by go_simp <;> first | rfl | exact ⟨rfl, rfl⟩) (by go_simp <;> first | rfl | exact ⟨rfl, rfl⟩) (by exact Hp.norm (by (repeat (first | with_reducible exact H | with_reducible exact H0_ | with_reducible apply Hp.alloc | with_reducible apply Hp.allocMap | with_reducible apply Hp.drew | with_reducible apply Hp.drewN | with_reducible apply Hp.set)); (try any_goals (repeat (first | with_reducible exact Upd.head | with_reducible apply Upd.tail)))) (by ((try simp only [size_drew_, size_drewN_, World.size_alloc, World.size_setCell, List.set_cons_zero, List.set_cons_succ, List.nil_append, List.cons_append]) <;> rfl))) (by (repeat (first | with_reducible exact Upd.head | with_reducible apply Upd.tail))) (by simp [List.lookup]) ?_; clear H; intro w_ H; (try simp only [size_drew_, size_drewN_, World.size_alloc, World.size_setCell, List.set_cons_zero, List.set_cons_succ] at H); simp only [List.nil_append, List.cons_append] at H; (try clear hr2_); have hr2_ := H.rules; simp only [Rules, and_true] at hr2_)) | ((with_reducible refine atLookup ?_); go_must (refine wpList_lookup Tryz.underlying276 Tryz.underlying23 (z := .nilFunc) (run_zero (t := 175) (by kernel_rfl)) (by go_simp <;> first | rfl | exact ⟨rfl, rfl⟩) (by go_simp <;> first | rfl | exact ⟨rfl, rfl⟩) H (by (repeat (first | with_reducible exact Pick.head | with_reducible apply Pick.tail))) ?_; simp [List.lookup, *])))
    (try clear hr2_)
    refine callsH (by (repeat (first | with_reducible exact H | with_reducible exact H0_ | with_reducible apply Hp.alloc | with_reducible apply Hp.allocMap | with_reducible apply Hp.drew | with_reducible apply Hp.drewN | with_reducible apply Hp.set)); (try any_goals (repeat (first | with_reducible exact Upd.head | with_reducible apply Upd.tail)))) ?_
    clear H; intro w2 H; (try simp only [size_drew_, size_drewN_, World.size_alloc, World.size_setCell, List.set_cons_zero, List.set_cons_succ] at H)
    refine (smust1 H).mono ?_
    rintro e w3 hm
    have hx := hm.2
    obtain rfl := hm.yes rfl
    clear hm
    replace H := H.call hx
    clear hx
    have hr_ := H.rules; simp only [Rules, and_true] at hr_; have hd_ := H.dif; simp only [Dif, Neq, and_true] at hd_; obtain ⟨ho_, hz_⟩ := H.old0
    go_wp2_with fail
    clear hr_ hd_ ho_ hz_
    refine callsH (by (repeat (first | with_reducible exact H | with_reducible exact H0_ | with_reducible apply Hp.alloc | with_reducible apply Hp.allocMap | with_reducible apply Hp.drew | with_reducible apply Hp.drewN | with_reducible apply Hp.set)); (try any_goals (repeat (first | with_reducible exact Upd.head | with_reducible apply Upd.tail)))) ?_
    clear H; intro w5 H; (try simp only [size_drew_, size_drewN_, World.size_alloc, World.size_setCell, List.set_cons_zero, List.set_cons_succ] at H)
    refine (own11_calls (t := .mk 11 m a ls ks) ⟨A0, ca, K0, ck, rfl, HRC.out.ext0 H.ext⟩).mono ?_
    rintro e w4 hm
    have hx := hm.2
    obtain rfl := hm.no HQ.out
    clear hm
    replace H := H.call hx
    exact ⟨rfl, rfl, H.ext⟩
end Go.Proofs.YtmedomglemllnaaGreatDoor
