/- Reference 04: Count, Open, Spine: contracts. No statement of the seat is proved here. -/
import Derived.Test.YtgbokmphbimihaaDoorMgRefFree
import Derived.Test.YtgbokmphbimihaaDoorMgPut
import Derived.Test.YtgbokmphbimihaaDoorMgSplitSpec
namespace Go.Proofs.YtgbokmphbimihaaDoor
set_option linter.unusedSimpArgs false
set_option linter.unusedVariables false
open Go.RowKit

set_option maxRecDepth 100000 in
set_option maxHeartbeats 2000000 in
theorem refCount {S : Nat → Prop} {t : Tm} {w : World} {v : Value} (h : TV w S t v) (hb : countT t ≤ 1000000000000) : Calls Tryd.prog 105 #[v] w (PV w (.int .i64 (countT t))) := by
  obtain ⟨A0, ca, K0, ck, rfl, hrc⟩ := h
  have HRC := Lib.hid hrc
  clear hrc
  go_enter Tryd.func105, Tryd.ntmps105
  go_wp2_with fail
  have H := Hp.start no w
  go_loopw [3] (fun n wr => ∃ (u : Tm) (m : Nat) (B K : Option Addr) (cb kb : Nat), n = .int .i64 m ∧ countT u + m = countT t ∧ RC w S u.d [.int .i64 u.k, .int .i64 u.n, .int .i64 u.a, .slice B u.ls.length cb, .slice K u.ks.length kb] ∧ Hp no w wr [.box w.heap.size 26 [.int .i64 u.k, .int .i64 u.n, .int .i64 u.a, .slice B u.ls.length cb, .slice K u.ks.length kb]]) (fun n _ => countT t - (intOf n).toNat)
  case atStart => exact ⟨t, 0, _, _, _, _, rfl, rfl, HRC.out, by (repeat (first | with_reducible exact H | with_reducible exact H0_ | with_reducible apply Hp.alloc | with_reducible apply Hp.allocMap | with_reducible apply Hp.drew | with_reducible apply Hp.drewN | with_reducible apply Hp.set)); (try any_goals (repeat (first | with_reducible exact Upd.head | with_reducible apply Upd.tail)))⟩
  case round =>
    clear H
    obtain ⟨u, m, B, K, cb, kb, rfl, hm, hrc, H⟩ := hrel
    have HM := Lib.hid hm
    have HR := Lib.hid hrc
    have hmb : m ≤ 1000000000000 := by omega
    clear hm hrc
    by_cases h4 : u.k = 4
    · by_cases h2 : u.ks.length = 2
      · obtain ⟨_, _, _, _, he, _, _, _, _, hks⟩ := RC.tm.1 HR.out
        simp only [List.cons.injEq, Value.slice.injEq, and_true, true_and] at he
        obtain ⟨⟨rfl, rfl⟩, rfl, rfl⟩ := he
        obtain ⟨b, o, A1, ca1, K1, ck1, rfl, hb, hS, hd, p0, p1, p2, p3, p4⟩ := hks.atTm (k := 1) (by omega)
        have HD := Lib.hid hd
        have HS := Lib.hid (countT_step h4 h2)
        clear hd hks
        simp only [Nat.one_mul] at p0 p1 p2 p3 p4
        have hr_ := H.rules; simp only [Rules, and_true] at hr_; have hd_ := H.dif; simp only [Dif, Neq, and_true] at hd_; obtain ⟨ho_, hz_⟩ := H.old0
        go_wp2_with ((with_reducible refine atStore (t := 26) ?_); go_must (refine wpList_storeH (t := 26) rfl rfl (by go_simp <;> first | rfl | exact ⟨rfl, rfl⟩) (by go_simp <;> first | rfl | exact ⟨rfl, rfl⟩) (by exact Hp.norm (by (repeat (first | with_reducible exact H | with_reducible exact H0_ | with_reducible apply Hp.alloc | with_reducible apply Hp.allocMap | with_reducible apply Hp.drew | with_reducible apply Hp.drewN | with_reducible apply Hp.set)); (try any_goals (repeat (first | with_reducible exact Upd.head | with_reducible apply Upd.tail)))) (by ((try simp only [size_drew_, size_drewN_, World.size_alloc, World.size_setCell, List.set_cons_zero, List.set_cons_succ, List.nil_append, List.cons_append]) <;> rfl))) (by (repeat (first | with_reducible exact Upd.head | with_reducible apply Upd.tail))) (by exact aggTerm) (by rfl) (by simp [Value.oneCell']) ?_; clear H; intro w7 H; (try simp only [size_drew_, size_drewN_, World.size_alloc, World.size_setCell, List.set_cons_zero, List.set_cons_succ] at H); (try clear hr_ hd_ ho_ hz_); have hr_ := H.rules; simp only [Rules, and_true] at hr_; have hd_ := H.dif; simp only [Dif, Neq, and_true] at hd_; obtain ⟨ho_, hz_⟩ := H.old0))
        clear hr_ hd_ ho_ hz_
        go_roundw
        case rel => exact ⟨u.ks[1], m + 1, _, _, _, _, by go_num, by have h1 := HM.out; have h5 := HS.out; omega, HD.out, H⟩
        case measure => have h1 := HM.out; have h5 := HS.out; simp [intOf]; omega
      · have HS := Lib.hid (countT_stop (t := u) (fun h => h2 h.2))
        have hr_ := H.rules; simp only [Rules, and_true] at hr_; have hd_ := H.dif; simp only [Dif, Neq, and_true] at hd_; obtain ⟨ho_, hz_⟩ := H.old0
        go_wp2_with fail
        clear hr_ hd_ ho_ hz_
        go_ret
        exact ⟨by have h1 := HM.out; have h5 := HS.out; rw [show countT t = m by omega]; rfl, H.ext⟩
    · have HS := Lib.hid (countT_stop (t := u) (fun h => h4 h.1))
      have hr_ := H.rules; simp only [Rules, and_true] at hr_; have hd_ := H.dif; simp only [Dif, Neq, and_true] at hd_; obtain ⟨ho_, hz_⟩ := H.old0
      go_wp2_with fail
      clear hr_ hd_ ho_ hz_
      go_ret
      exact ⟨by have h1 := HM.out; have h5 := HS.out; rw [show countT t = m by omega]; rfl, H.ext⟩
end Go.Proofs.YtgbokmphbimihaaDoor
/- Reference 04: Open: contract. No statement of the seat is proved here. -/
namespace Go.Proofs.YtgbokmphbimihaaDoor
set_option linter.unusedSimpArgs false
set_option linter.unusedVariables false
open Go.RowKit

theorem openAll_step {u : Tm} (h4 : u.k = 4) (h2 : u.ks.length = 2) : openAll u = ((u.ks[0]'(by omega)) :: (openAll (u.ks[1]'(by omega))).1, (openAll (u.ks[1]'(by omega))).2) := by
  have h := openAll_eq u
  rw [countT_step h4 h2, openT_step h4 h2, openAll_eq] at h
  simpa using h.symm
theorem openAll_stop {u : Tm} (h : countT u = 0) : openAll u = ([], u) := by
  have h1 := openAll_eq u
  rw [h, openT] at h1
  simpa using h1.symm
theorem refLift0 {w : World} {S : Nat → Prop} {t : Tm} {v : Value} (hv : TV w S t v) : Calls Tryd.prog 151 #[v, .int .i64 0, .int .i64 0] w (PTm w t) := by
  have h := refLift 0 0 hv
  obtain ⟨A0, ca, K0, ck, rfl, hrc⟩ := hv
  rwa [liftT0 (RC.ok _ hrc)] at h
/-- What Open tells of all of a term. -/
def POpenR (w : World) (p : List Tm × Tm) (e : Ending) (w' : World) : Prop :=
  ∃ B cb K kb A c, e = .returned (.tuple #[.slice A p.1.length c, .agg #[.int .i64 p.2.k, .int .i64 p.2.n, .int .i64 p.2.a, .slice B p.2.ls.length cb, .slice K p.2.ks.length kb], .bool true]) ∧
    Hp no w w' [.dat p.2.d [.int .i64 p.2.k, .int .i64 p.2.n, .int .i64 p.2.a, .slice B p.2.ls.length cb, .slice K p.2.ks.length kb], .dat (.l 26 5 (p.1.map Tm.d)) [.slice A p.1.length c]]
set_option maxRecDepth 100000 in
set_option maxHeartbeats 4000000 in
theorem refOpen {S : Nat → Prop} {t : Tm} {w : World} {v : Value} (h : TV w S t v) (hb : countT t ≤ 1000000000) : Calls Tryd.prog 96 #[v, .int .i64 (countT t : Nat)] w (POpenR w (openAll t)) := by
  obtain ⟨A0, ca, K0, ck, rfl, hrc⟩ := h
  have HRC := Lib.hid hrc
  clear hrc
  obtain ⟨N, hN⟩ : ∃ N, N = countT t := ⟨_, rfl⟩
  rw [← hN] at hb ⊢
  have HN := Lib.hid hN
  clear hN
  go_enter Tryd.func96, Tryd.ntmps96
  have H := Hp.start no w
  go_wp2_with fail
  refine callsH (by (repeat (first | with_reducible exact H | with_reducible exact H0_ | with_reducible apply Hp.alloc | with_reducible apply Hp.allocMap | with_reducible apply Hp.drew | with_reducible apply Hp.drewN | with_reducible apply Hp.set)); (try any_goals (repeat (first | with_reducible exact Upd.head | with_reducible apply Upd.tail)))) ?_
  clear H; intro w1 H; (try simp only [size_drew_, size_drewN_, World.size_alloc, World.size_setCell, List.set_cons_zero, List.set_cons_succ] at H)
  refine (refCount (t := t) ⟨_, _, _, _, rfl, HRC.out.ext0 H.ext⟩ (by rw [← HN.out]; omega)).mono ?_
  rintro e w_ ⟨rfl, hx⟩
  replace H := H.call hx
  clear hx
  rw [← HN.out]
  go_wp2_with fail
  have H0_ := H
  clear H
  go_loopw [7, 8] (fun o i wr => ∃ (j : Nat) (u : Tm) (got : List Tm) (A : Option Addr) (c : Nat) (B K : Option Addr) (cb kb : Nat), o = .slice A got.length c ∧ i = .int .i64 j ∧ j ≤ N ∧ got.length = j ∧ Hid (countT u + j = N ∧ openAll t = (got ++ (openAll u).1, (openAll u).2)) ∧
      RC w S u.d [.int .i64 u.k, .int .i64 u.n, .int .i64 u.a, .slice B u.ls.length cb, .slice K u.ks.length kb] ∧
      Hp no w wr [.dat (.l 26 5 (got.map Tm.d)) [.slice A got.length c], .box w.heap.size 26 [.int .i64 u.k, .int .i64 u.n, .int .i64 u.a, .slice B u.ls.length cb, .slice K u.ks.length kb], .box (w.heap.size + 1) 26 [.int .i64 0, .int .i64 0, .int .i64 0, .slice none 0 0, .slice none 0 0]]) (fun _ i _ => N - (intOf i).toNat)
  case atStart =>
    have H := H0_.nil 26 5
    refine ⟨0, t, [], none, 0, _, _, _, _, rfl, rfl, Nat.zero_le _, rfl, Lib.hid ⟨by rw [HN.out]; rfl, by simp⟩, HRC.out, ?_⟩
    simp only [List.length_nil, List.map_nil]
    exact (H.arr (by (repeat (first | with_reducible exact Arr.nil | refine Arr.cons (by (repeat (first | with_reducible exact Pick.head | with_reducible apply Pick.tail))) ?_)) <;> exact Arr.of_subl (by (repeat (first | with_reducible exact Subl.refl _ | with_reducible apply Subl.drop)))))
  case round =>
    clear H0_
    obtain ⟨j, u, got, A, c, B, K, cb, kb, rfl, rfl, hj, hgl, HU, hrc, H⟩ := hrel
    have HR := Lib.hid hrc
    have HGL := Lib.hid hgl
    clear hrc hgl
    by_cases hlt : j < N
    · have hpi : u.k = 4 ∧ u.ks.length = 2 := Classical.byContradiction fun hh => by
        have h1 := countT_stop hh
        have h2 := HU.out.1
        omega
      have HPI := Lib.hid hpi
      have l0 : 0 < u.ks.length := by omega
      have l1 : 1 < u.ks.length := by omega
      clear hpi
      obtain ⟨_, _, _, _, he, _, _, _, _, hks⟩ := RC.tm.1 HR.out
      simp only [List.cons.injEq, Value.slice.injEq, and_true, true_and] at he
      obtain ⟨⟨rfl, rfl⟩, rfl, rfl⟩ := he
      obtain ⟨b, o, A1, ca1, K1, ck1, hK, hb0, hS, hd, p0, p1, p2, p3, p4⟩ := hks.atTm (k := 0) l0
      obtain ⟨b', o', A2, ca2, K2, ck2, hK2, hb2, hS2, hd2, q0, q1, q2, q3, q4⟩ := hks.atTm (k := 1) l1
      subst hK
      simp only [Option.some.injEq, Addr.mk.injEq, and_true] at hK2
      obtain ⟨rfl, rfl⟩ := hK2
      simp only [Nat.one_mul, Nat.zero_mul, Nat.add_zero] at p0 p1 p2 p3 p4 q0 q1 q2 q3 q4
      have HD := Lib.hid hd
      have HD2 := Lib.hid hd2
      have HU2 : Hid (countT u.ks[1] + (j + 1) = N ∧ openAll t = ((got ++ [u.ks[0]]) ++ (openAll u.ks[1]).1, (openAll u.ks[1]).2)) := by
        unfold Hid
        have h1 := HU.out
        rw [countT_step HPI.out.1 HPI.out.2, openAll_step HPI.out.1 HPI.out.2] at h1
        exact ⟨by omega, by rw [h1.2]; simp⟩
      clear hd hd2 hks
      have hr_ := H.rules; simp only [Rules, and_true] at hr_; have hd_ := H.dif; simp only [Dif, Neq, and_true] at hd_; obtain ⟨ho_, hz_⟩ := H.old0
      go_wp2_with fail
      (try clear hr_ hd_ ho_ hz_)
      refine callsH (by (repeat (first | with_reducible exact H | with_reducible exact H0_ | with_reducible apply Hp.alloc | with_reducible apply Hp.allocMap | with_reducible apply Hp.drew | with_reducible apply Hp.drewN | with_reducible apply Hp.set)); (try any_goals (repeat (first | with_reducible exact Upd.head | with_reducible apply Upd.tail)))) ?_
      clear H; intro w2 H; (try simp only [size_drew_, size_drewN_, World.size_alloc, World.size_setCell, List.set_cons_zero, List.set_cons_succ] at H)
      refine (refLift0 (t := u.ks[0]'l0) ⟨_, _, _, _, rfl, HD.out.ext0 H.ext⟩).mono ?_
      rintro e w_ ⟨v, rfl, hto, hx⟩
      obtain ⟨E1, Ec, E2, Ek, rfl, H_⟩ := H.resTm hx hto
      clear H hx hto
      have H := H_
      clear H_
      have hub : got.length ≤ 1000000000 := by have := HGL.out; omega
      dsimp only
      repeat ((fail_if_success (with_reducible (first | show Code.wp _ (Code.seq (Code.region 8 _ _) _) _ _ _ | show Code.wp _ (Code.region 8 _ _) _ _ _))); (first | (at_builtin; go_must (refine wpList_pushH rfl (.tmp 23) (.tmp 29) 24 rfl stTerms (by go_simp <;> first | rfl | exact ⟨rfl, rfl⟩) (by go_simp <;> first | rfl | exact ⟨rfl, rfl⟩) (by exact Hp.norm (by (repeat (first | with_reducible exact H | with_reducible exact H0_ | with_reducible apply Hp.alloc | with_reducible apply Hp.allocMap | with_reducible apply Hp.drew | with_reducible apply Hp.drewN | with_reducible apply Hp.set)); (try any_goals (repeat (first | with_reducible exact Upd.head | with_reducible apply Upd.tail)))) (by ((try simp only [size_drew_, size_drewN_, World.size_alloc, World.size_setCell, List.set_cons_zero, List.set_cons_succ, List.nil_append, List.cons_append]) <;> rfl))) (by (repeat (first | with_reducible exact Pick.head | with_reducible apply Pick.tail))) (by (repeat (first | with_reducible exact Pick.head | with_reducible apply Pick.tail))) (by (repeat (first | with_reducible exact Pick.head | with_reducible apply Pick.tail))) (Tm.size_d _) ?_ ?_; (focus (simp [M]; omega)); clear H; intro v' w4 H)) | go_step))
      obtain ⟨A5, c6, rfl, _, _, _⟩ := H.slice (e := 26) (z := 5) (v := v') (by (repeat (first | with_reducible exact Pick.head | with_reducible apply Pick.tail)))
      rw [show (got.map Tm.d ++ [(u.ks[0]'l0).d]).length = (got ++ [u.ks[0]'l0]).length by simp, show got.map Tm.d ++ [(u.ks[0]'l0).d] = (got ++ [u.ks[0]'l0]).map Tm.d by simp] at H
      rw [show (got.map Tm.d ++ [(u.ks[0]'l0).d]).length = (got ++ [u.ks[0]'l0]).length by simp]
      have hgl2 : (got ++ [u.ks[0]'l0]).length = j + 1 := by simp [HGL.out]
      have HGL2 := Lib.hid hgl2
      clear hgl2
      generalize got ++ [u.ks[0]'l0] = got2 at H HGL2 HU2 ⊢
      have hr_ := H.rules; simp only [Rules, and_true] at hr_; have hd_ := H.dif; simp only [Dif, Neq, and_true] at hd_; obtain ⟨ho_, hz_⟩ := H.old0
      go_wp2_with ((with_reducible refine atStore (t := 26) ?_); go_must (refine wpList_storeH (t := 26) rfl rfl (by go_simp <;> first | rfl | exact ⟨rfl, rfl⟩) (by go_simp <;> first | rfl | exact ⟨rfl, rfl⟩) (by exact Hp.norm (by (repeat (first | with_reducible exact H | with_reducible exact H0_ | with_reducible apply Hp.alloc | with_reducible apply Hp.allocMap | with_reducible apply Hp.drew | with_reducible apply Hp.drewN | with_reducible apply Hp.set)); (try any_goals (repeat (first | with_reducible exact Upd.head | with_reducible apply Upd.tail)))) (by ((try simp only [size_drew_, size_drewN_, World.size_alloc, World.size_setCell, List.set_cons_zero, List.set_cons_succ, List.nil_append, List.cons_append]) <;> rfl))) (by (repeat (first | with_reducible exact Upd.head | with_reducible apply Upd.tail))) (by exact aggTerm) (by rfl) (by simp [Value.oneCell']) ?_; clear H; intro w7 H; (try simp only [size_drew_, size_drewN_, World.size_alloc, World.size_setCell, List.set_cons_zero, List.set_cons_succ] at H); (try clear hr_ hd_ ho_ hz_); have hr_ := H.rules; simp only [Rules, and_true] at hr_; have hd_ := H.dif; simp only [Dif, Neq, and_true] at hd_; obtain ⟨ho_, hz_⟩ := H.old0))
      (try clear hr_ hd_ ho_ hz_)
      go_roundw
      case rel => exact ⟨j + 1, u.ks[1]'l1, got2, _, _, _, _, _, _, rfl, by first | go_num | rfl | simp, by omega, HGL2.out, HU2, HD2.out, (H.arr (by (repeat (first | with_reducible exact Arr.nil | refine Arr.cons (by (repeat (first | with_reducible exact Pick.head | with_reducible apply Pick.tail))) ?_)) <;> exact Arr.of_subl (by (repeat (first | with_reducible exact Subl.refl _ | with_reducible apply Subl.drop)))))⟩
      case measure => simp [intOf]; omega
    · have HE : Hid (openAll t = (got, u)) := by
        unfold Hid
        have h1 := HU.out
        rw [openAll_stop (u := u) (by omega)] at h1
        simpa using h1.2
      have hr_ := H.rules; simp only [Rules, and_true] at hr_; have hd_ := H.dif; simp only [Dif, Neq, and_true] at hd_; obtain ⟨ho_, hz_⟩ := H.old0
      go_wp2_with fail
      (try clear hr_ hd_ ho_ hz_)
      refine callsH (by (repeat (first | with_reducible exact H | with_reducible exact H0_ | with_reducible apply Hp.alloc | with_reducible apply Hp.allocMap | with_reducible apply Hp.drew | with_reducible apply Hp.drewN | with_reducible apply Hp.set)); (try any_goals (repeat (first | with_reducible exact Upd.head | with_reducible apply Upd.tail)))) ?_
      clear H; intro w2 H; (try simp only [size_drew_, size_drewN_, World.size_alloc, World.size_setCell, List.set_cons_zero, List.set_cons_succ] at H)
      refine (refLift0 (t := u) ⟨_, _, _, _, rfl, HR.out.ext0 H.ext⟩).mono ?_
      rintro e w_ ⟨v, rfl, hto, hx⟩
      obtain ⟨E1, Ec, E2, Ek, rfl, H_⟩ := H.resTm hx hto
      clear H hx hto
      have H := H_
      clear H_
      dsimp only
      have hr_ := H.rules; simp only [Rules, and_true] at hr_; have hd_ := H.dif; simp only [Dif, Neq, and_true] at hd_; obtain ⟨ho_, hz_⟩ := H.old0
      go_wp2_with ((with_reducible refine atStore (t := 26) ?_); go_must (refine wpList_storeH (t := 26) rfl rfl (by go_simp <;> first | rfl | exact ⟨rfl, rfl⟩) (by go_simp <;> first | rfl | exact ⟨rfl, rfl⟩) (by exact Hp.norm (by (repeat (first | with_reducible exact H | with_reducible exact H0_ | with_reducible apply Hp.alloc | with_reducible apply Hp.allocMap | with_reducible apply Hp.drew | with_reducible apply Hp.drewN | with_reducible apply Hp.set)); (try any_goals (repeat (first | with_reducible exact Upd.head | with_reducible apply Upd.tail)))) (by ((try simp only [size_drew_, size_drewN_, World.size_alloc, World.size_setCell, List.set_cons_zero, List.set_cons_succ, List.nil_append, List.cons_append]) <;> rfl))) (by (repeat (first | with_reducible exact Upd.head | with_reducible apply Upd.tail))) (by exact aggTerm) (by rfl) (by simp [Value.oneCell']) ?_; clear H; intro w7 H; (try simp only [size_drew_, size_drewN_, World.size_alloc, World.size_setCell, List.set_cons_zero, List.set_cons_succ] at H); (try clear hr_ hd_ ho_ hz_); have hr_ := H.rules; simp only [Rules, and_true] at hr_; have hd_ := H.dif; simp only [Dif, Neq, and_true] at hd_; obtain ⟨ho_, hz_⟩ := H.old0))
      (try clear hr_ hd_ ho_ hz_)
      refine bodyPost_ret (v := .tuple #[.slice A got.length c, .agg #[.int .i64 u.k, .int .i64 u.n, .int .i64 u.a, .slice E1 u.ls.length Ec, .slice E2 u.ks.length Ek], .bool true]) (Res.three Tryd.results96 rfl (H.resBox (g := w.heap.size + 1) (by (repeat (first | with_reducible exact Pick.head | with_reducible apply Pick.tail))) aggTerm rfl rfl) rfl) rfl ?_
      rw [HE.out]
      exact ⟨_, _, _, _, _, _, rfl, (H.arr (by (repeat (first | with_reducible exact Arr.nil | refine Arr.cons (by (repeat (first | with_reducible exact Pick.head | with_reducible apply Pick.tail))) ?_)) <;> exact Arr.of_subl (by (repeat (first | with_reducible exact Subl.refl _ | with_reducible apply Subl.drop)))))⟩
end Go.Proofs.YtgbokmphbimihaaDoor
/- Reference 04: Spine: contract. No statement of the seat is proved here. -/
namespace Go.Proofs.YtgbokmphbimihaaDoor
set_option linter.unusedSimpArgs false
set_option linter.unusedVariables false
open Go.RowKit

def sliceLen : Value → Nat | .slice _ n _ => n | _ => 0
theorem spineR_step {t : Tm} (h6 : t.k = 6) (h2 : t.ks.length = 2) : spineT t = ((spineT (t.ks[0]'(by omega))).1, (spineT (t.ks[0]'(by omega))).2 ++ [t.ks[1]'(by omega)]) := by
  obtain ⟨k, n, a, ls, x, y, rfl⟩ := Tm.two h2
  simp only [Tm.k_mk] at h6
  rw [spineT, if_pos h6]
  rfl
theorem spineR_stop {t : Tm} (h : ¬ (t.k = 6 ∧ t.ks.length = 2)) : spineT t = (t, []) := by
  obtain ⟨k, n, a, ls, ks⟩ := t
  match ks with
  | [] => simp [spineT]
  | [_] => simp [spineT]
  | [x, y] =>
    rw [spineT, if_neg]
    intro e
    exact h ⟨e, rfl⟩
  | _ :: _ :: _ :: _ => simp [spineT]
def PSpineR (w : World) (p : Tm × List Tm) (e : Ending) (w' : World) : Prop :=
  ∃ B cb K kb A c, e = .returned (.tuple #[.agg #[.int .i64 p.1.k, .int .i64 p.1.n, .int .i64 p.1.a, .slice B p.1.ls.length cb, .slice K p.1.ks.length kb], .slice A p.2.length c]) ∧
    Hp no w w' [.dat p.1.d [.int .i64 p.1.k, .int .i64 p.1.n, .int .i64 p.1.a, .slice B p.1.ls.length cb, .slice K p.1.ks.length kb], .dat (.l 26 5 (p.2.map Tm.d)) [.slice A p.2.length c]]
set_option maxRecDepth 100000 in
set_option maxHeartbeats 4000000 in
theorem spR {S : Nat → Prop} {t u : Tm} {back : List Tm} {A B K : Option Addr} {c cb kb : Nat} {w W : World} {x0 x3 x5 x6 x7 x8 x9 x10 x11 x12 x13 x14 x15 x16 x17 x18 x19 x20 x21 x22 x23 x24 x25 x26 x27 x28 x29 x30 x31 x32 x33 x34 x35 x36 x37 x38 x39 x40 x41 x42 x43 x44 : Value} (hb : back.length ≤ 1000000000) (hs : spineT t = (u, back.reverse))
    (hrc : RC w S u.d [.int .i64 u.k, .int .i64 u.n, .int .i64 u.a, .slice B u.ls.length cb, .slice K u.ks.length kb])
    (H : Hp no w W [.row 26 5 (back.map Tm.d) (.slice A back.length c), .box w.heap.size 26 [.int .i64 u.k, .int .i64 u.n, .int .i64 u.a, .slice B u.ls.length cb, .slice K u.ks.length kb], .box (w.heap.size + 1) 26 [.int .i64 0, .int .i64 0, .int .i64 0, .slice none 0 0, .slice none 0 0]]) :
    (fromF 5 (Tryd.f98.body.getD .skip)).wp Tryd.prog (bodyPost Tryd.prog Tryd.f98 (PSpineR w (spineT t))) { tmps := #[x0, .pointer (some ⟨w.heap.size, 0, none⟩), .pointer (some ⟨w.heap.size + 1, 0, none⟩), x3, .slice A back.length c, x5, x6, x7, x8, x9, x10, x11, x12, x13, x14, x15, x16, x17, x18, x19, x20, x21, x22, x23, x24, x25, x26, x27, x28, x29, x30, x31, x32, x33, x34, x35, x36, x37, x38, x39, x40, x41, x42, x43, x44], defers := [] } W := by
  have HR := Lib.hid hrc
  have HS := Lib.hid hs
  clear hrc hs
  conv => arg 2; whnf
  go_wp2_with fail
  have H0_ := H
  clear H
  go_loopw [5, 6] (fun o i wr => ∃ (m : Nat) (out : List Tm) (Ao : Option Addr) (co : Nat), m ≤ back.length ∧ Hid (i = .int .i64 ((m : Int) - 1)) ∧ Hid (o = .slice Ao out.length co) ∧ Hid (out = (back.drop m).reverse) ∧ Hp no w wr [.dat (.l 26 5 (out.map Tm.d)) [.slice Ao out.length co], .row 26 5 (back.map Tm.d) (.slice A back.length c), .box w.heap.size 26 [.int .i64 u.k, .int .i64 u.n, .int .i64 u.a, .slice B u.ls.length cb, .slice K u.ks.length kb], .box (w.heap.size + 1) 26 [.int .i64 0, .int .i64 0, .int .i64 0, .slice none 0 0, .slice none 0 0]]) (fun _ i _ => (intOf i + 1).toNat)
  case atStart =>
    have H := H0_.nil 26 5
    refine ⟨back.length, [], none, 0, Nat.le_refl _, Lib.hid rfl, Lib.hid rfl, Lib.hid (by simp), ?_⟩
    simp only [List.length_nil, List.map_nil]
    exact (H.arr (by (repeat (first | with_reducible exact Arr.nil | refine Arr.cons (by (repeat (first | with_reducible exact Pick.head | with_reducible apply Pick.tail))) ?_)) <;> exact Arr.of_subl (by (repeat (first | with_reducible exact Subl.refl _ | with_reducible apply Subl.drop)))))
  case round =>
    clear H0_
    obtain ⟨m, out, Ao, co, hm, hi_, ho2_, HO, H⟩ := hrel
    obtain rfl := hi_.out
    obtain rfl := ho2_.out
    clear hi_ ho2_
    cases m with
    | zero =>
      have hz : ((0 : Nat) : Int) - 1 = -1 := rfl
      simp only [hz]
      have HE : Hid (out = back.reverse) := by unfold Hid; simpa using HO.out
      have hr_ := H.rules; simp only [Rules, and_true] at hr_; have hd_ := H.dif; simp only [Dif, Neq, and_true] at hd_; obtain ⟨ho_, hz_⟩ := H.old0
      go_wp2_with fail
      (try clear hr_ hd_ ho_ hz_)
      refine callsH (by (repeat (first | with_reducible exact H | with_reducible exact H0_ | with_reducible apply Hp.alloc | with_reducible apply Hp.allocMap | with_reducible apply Hp.drew | with_reducible apply Hp.drewN | with_reducible apply Hp.set)); (try any_goals (repeat (first | with_reducible exact Upd.head | with_reducible apply Upd.tail)))) ?_
      clear H; intro w2 H; (try simp only [size_drew_, size_drewN_, World.size_alloc, World.size_setCell, List.set_cons_zero, List.set_cons_succ] at H)
      refine (refLift0 (t := u) ⟨_, _, _, _, rfl, HR.out.ext0 H.ext⟩).mono ?_
      rintro e w_ ⟨v, rfl, hto, hx⟩
      obtain ⟨E1, Ec, E2, Ek, rfl, H_⟩ := H.resTm hx hto
      clear H hx hto
      have H := H_
      clear H_
      dsimp only
      have hr_ := H.rules; simp only [Rules, and_true] at hr_; have hd_ := H.dif; simp only [Dif, Neq, and_true] at hd_; obtain ⟨ho_, hz_⟩ := H.old0
      go_wp2_with ((with_reducible refine atStore (t := 26) ?_); go_must (refine wpList_storeH (t := 26) rfl rfl (by go_simp <;> first | rfl | exact ⟨rfl, rfl⟩) (by go_simp <;> first | rfl | exact ⟨rfl, rfl⟩) (by exact Hp.norm (by (repeat (first | with_reducible exact H | with_reducible exact H0_ | with_reducible apply Hp.alloc | with_reducible apply Hp.allocMap | with_reducible apply Hp.drew | with_reducible apply Hp.drewN | with_reducible apply Hp.set)); (try any_goals (repeat (first | with_reducible exact Upd.head | with_reducible apply Upd.tail)))) (by ((try simp only [size_drew_, size_drewN_, World.size_alloc, World.size_setCell, List.set_cons_zero, List.set_cons_succ, List.nil_append, List.cons_append]) <;> rfl))) (by (repeat (first | with_reducible exact Upd.head | with_reducible apply Upd.tail))) (by exact aggTerm) (by rfl) (by simp [Value.oneCell']) ?_; clear H; intro w7 H; (try simp only [size_drew_, size_drewN_, World.size_alloc, World.size_setCell, List.set_cons_zero, List.set_cons_succ] at H); (try clear hr_ hd_ ho_ hz_); have hr_ := H.rules; simp only [Rules, and_true] at hr_; have hd_ := H.dif; simp only [Dif, Neq, and_true] at hd_; obtain ⟨ho_, hz_⟩ := H.old0))
      (try clear hr_ hd_ ho_ hz_)
      refine bodyPost_ret (v := .tuple #[.agg #[.int .i64 u.k, .int .i64 u.n, .int .i64 u.a, .slice E1 u.ls.length Ec, .slice E2 u.ks.length Ek], .slice Ao out.length co]) (Res.two Tryd.results98 (H.resBox (g := w.heap.size + 1) (by (repeat (first | with_reducible exact Pick.head | with_reducible apply Pick.tail))) aggTerm rfl rfl) rfl) rfl ?_
      rw [HS.out, ← HE.out]
      exact ⟨_, _, _, _, _, _, rfl, (H.arr (by (repeat (first | with_reducible exact Arr.nil | refine Arr.cons (by (repeat (first | with_reducible exact Pick.head | with_reducible apply Pick.tail))) ?_)) <;> exact Arr.of_subl (by (repeat (first | with_reducible exact Subl.refl _ | with_reducible apply Subl.drop)))))⟩
    | succ m =>
      have hz : ((m + 1 : Nat) : Int) - 1 = (m : Int) := by omega
      simp only [hz]
      have hml : m < back.length := by omega
      obtain ⟨g, c', cs, he, _, _, hg0, hg1, hrd, hl5, hcell⟩ := H.rowAt (d := (back[m]'hml).d) (i := m) (by (repeat (first | with_reducible exact Pick.head | with_reducible apply Pick.tail))) (by simp [hml])
      simp only [Value.slice.injEq, List.length_map, true_and] at he
      obtain ⟨rfl, rfl⟩ := he
      obtain ⟨A1, ca1, K1, ck1, rfl, -⟩ := RC.tm.1 hrd
      have p0 := hcell 0 _ rfl
      have p1 := hcell 1 _ rfl
      have p2 := hcell 2 _ rfl
      have p3 := hcell 3 _ rfl
      have p4 := hcell 4 _ rfl
      simp only [Nat.add_zero] at p0
      have HD := Lib.hid hrd
      have HC := Lib.hid hcell
      clear hrd hcell hl5
      have hr_ := H.rules; simp only [Rules, and_true] at hr_; have hd_ := H.dif; simp only [Dif, Neq, and_true] at hd_; obtain ⟨ho_, hz_⟩ := H.old0
      go_wp2_with fail
      (try clear hr_ hd_ ho_ hz_)
      refine callsH (by (repeat (first | with_reducible exact H | with_reducible exact H0_ | with_reducible apply Hp.alloc | with_reducible apply Hp.allocMap | with_reducible apply Hp.drew | with_reducible apply Hp.drewN | with_reducible apply Hp.set)); (try any_goals (repeat (first | with_reducible exact Upd.head | with_reducible apply Upd.tail)))) ?_
      clear H; intro w2 H; (try simp only [size_drew_, size_drewN_, World.size_alloc, World.size_setCell, List.set_cons_zero, List.set_cons_succ] at H)
      refine (refLift0 (t := back[m]'hml) ⟨_, _, _, _, rfl, HD.out.ext0 H.ext⟩).mono ?_
      rintro e w_ ⟨v, rfl, hto, hx⟩
      obtain ⟨E1, Ec, E2, Ek, rfl, H_⟩ := H.resTm hx hto
      clear H hx hto
      have H := H_
      clear H_
      dsimp only
      have hub : out.length ≤ 1000000000 := by have := HO.out; rw [this]; simp; omega
      repeat ((fail_if_success (with_reducible (first | show Code.wp _ (Code.seq (Code.region 8 _ _) _) _ _ _ | show Code.wp _ (Code.region 8 _ _) _ _ _))); (first | (at_builtin; go_must (refine wpList_pushH rfl (.tmp 34) (.tmp 40) 24 rfl stTerms (by go_simp <;> first | rfl | exact ⟨rfl, rfl⟩) (by go_simp <;> first | rfl | exact ⟨rfl, rfl⟩) (by exact Hp.norm (by (repeat (first | with_reducible exact H | with_reducible exact H0_ | with_reducible apply Hp.alloc | with_reducible apply Hp.allocMap | with_reducible apply Hp.drew | with_reducible apply Hp.drewN | with_reducible apply Hp.set)); (try any_goals (repeat (first | with_reducible exact Upd.head | with_reducible apply Upd.tail)))) (by ((try simp only [size_drew_, size_drewN_, World.size_alloc, World.size_setCell, List.set_cons_zero, List.set_cons_succ, List.nil_append, List.cons_append]) <;> rfl))) (by (repeat (first | with_reducible exact Pick.head | with_reducible apply Pick.tail))) (by (repeat (first | with_reducible exact Pick.head | with_reducible apply Pick.tail))) (by (repeat (first | with_reducible exact Pick.head | with_reducible apply Pick.tail))) (Tm.size_d _) ?_ ?_; (focus (simp [M]; omega)); clear H; intro v' w4 H)) | go_step))
      obtain ⟨A5, c6, rfl, _, _, _⟩ := H.slice (e := 26) (z := 5) (v := v') (by (repeat (first | with_reducible exact Pick.head | with_reducible apply Pick.tail)))
      have HO2 : Hid (out ++ [back[m]'hml] = (back.drop m).reverse) := by unfold Hid; rw [List.drop_eq_getElem_cons hml, List.reverse_cons, ← HO.out]
      rw [show (out.map Tm.d ++ [(back[m]'hml).d]).length = (out ++ [back[m]'hml]).length by simp, show out.map Tm.d ++ [(back[m]'hml).d] = (out ++ [back[m]'hml]).map Tm.d by simp] at H
      rw [show (out.map Tm.d ++ [(back[m]'hml).d]).length = (out ++ [back[m]'hml]).length by simp]
      generalize out ++ [back[m]'hml] = out2 at H HO2 ⊢
      go_wp2_with fail
      go_roundw
      case rel => exact ⟨m, out2, A5, c6, by omega, Lib.hid rfl, Lib.hid rfl, HO2, (H.arr (by (repeat (first | with_reducible exact Arr.nil | refine Arr.cons (by (repeat (first | with_reducible exact Pick.head | with_reducible apply Pick.tail))) ?_)) <;> exact Arr.of_subl (by (repeat (first | with_reducible exact Subl.refl _ | with_reducible apply Subl.drop)))))⟩
      case measure => simp [intOf]
set_option maxRecDepth 100000 in
set_option maxHeartbeats 4000000 in
theorem refSpine {S : Nat → Prop} {t : Tm} {w : World} {v : Value} (h : TV w S t v) (hb : (spineT t).2.length ≤ 1000000000) : Calls Tryd.prog 98 #[v] w (PSpineR w (spineT t)) := by
  obtain ⟨A0, ca, K0, ck, rfl, hrc⟩ := h
  have HRC := Lib.hid hrc
  have HB := Lib.hid hb
  clear hrc hb
  go_enter Tryd.func98, Tryd.ntmps98
  have H := Hp.start no w
  have hr_ := H.rules; simp only [Rules, and_true] at hr_; have hd_ := H.dif; simp only [Dif, Neq, and_true] at hd_; obtain ⟨ho_, hz_⟩ := H.old0
  go_wp2_with fail
  (try clear hr_ hd_ ho_ hz_)
  refine codeH (by (repeat (first | with_reducible exact H | with_reducible exact H0_ | with_reducible apply Hp.alloc | with_reducible apply Hp.allocMap | with_reducible apply Hp.drew | with_reducible apply Hp.drewN | with_reducible apply Hp.set)); (try any_goals (repeat (first | with_reducible exact Upd.head | with_reducible apply Upd.tail)))) ?_
  clear H; intro w1 H; (try simp only [size_drew_, size_drewN_, World.size_alloc, World.size_setCell, List.set_cons_zero, List.set_cons_succ] at H)
  have H0_ := H
  clear H
  go_loopw [4] (fun o wr => ∃ (u : Tm) (back : List Tm) (A : Option Addr) (c : Nat) (B K : Option Addr) (cb kb : Nat), o = .slice A back.length c ∧ Hid (spineT t = ((spineT u).1, (spineT u).2 ++ back.reverse)) ∧
      RC w S u.d [.int .i64 u.k, .int .i64 u.n, .int .i64 u.a, .slice B u.ls.length cb, .slice K u.ks.length kb] ∧
      Hp no w wr [.row 26 5 (back.map Tm.d) (.slice A back.length c), .box w.heap.size 26 [.int .i64 u.k, .int .i64 u.n, .int .i64 u.a, .slice B u.ls.length cb, .slice K u.ks.length kb], .box (w.heap.size + 1) 26 [.int .i64 0, .int .i64 0, .int .i64 0, .slice none 0 0, .slice none 0 0]]) (fun o _ => (spineT t).2.length - sliceLen o)
  case atStart =>
    have H := H0_.rowNil 26 5
    refine ⟨t, [], none, 0, _, _, _, _, rfl, Lib.hid (by simp), HRC.out, ?_⟩
    simp only [List.length_nil, List.map_nil]
    exact (H.arr (by (repeat (first | with_reducible exact Arr.nil | refine Arr.cons (by (repeat (first | with_reducible exact Pick.head | with_reducible apply Pick.tail))) ?_)) <;> exact Arr.of_subl (by (repeat (first | with_reducible exact Subl.refl _ | with_reducible apply Subl.drop)))))
  case round =>
    clear H0_
    obtain ⟨u, back, A, c, B, K, cb, kb, rfl, HS, hrc, H⟩ := hrel
    have HR := Lib.hid hrc
    clear hrc
    by_cases h6 : u.k = 6
    · have g1 : (u.k == 6) = true := by simpa using h6
      by_cases h2 : u.ks.length = 2
      · have HST := Lib.hid (spineR_step h6 h2)
        have l0 : 0 < u.ks.length := by omega
        have l1 : 1 < u.ks.length := by omega
        have hub : back.length + 1 ≤ 1000000000 := by
          have h1 := HB.out
          rw [HS.out, HST.out] at h1
          simp at h1
          omega
        obtain ⟨_, _, _, _, he, _, _, _, _, hks⟩ := RC.tm.1 HR.out
        simp only [List.cons.injEq, Value.slice.injEq, and_true, true_and] at he
        obtain ⟨⟨rfl, rfl⟩, rfl, rfl⟩ := he
        obtain ⟨b, o, A1, ca1, K1, ck1, hK, hb0, hS, hd, p0, p1, p2, p3, p4⟩ := hks.atTm (k := 0) l0
        obtain ⟨b', o', A2, ca2, K2, ck2, hK2, hb2, hS2, hd2, q0, q1, q2, q3, q4⟩ := hks.atTm (k := 1) l1
        subst hK
        simp only [Option.some.injEq, Addr.mk.injEq, and_true] at hK2
        obtain ⟨rfl, rfl⟩ := hK2
        simp only [Nat.one_mul, Nat.zero_mul, Nat.add_zero] at p0 p1 p2 p3 p4 q0 q1 q2 q3 q4
        have HD := Lib.hid hd
        have HD2 := Lib.hid hd2
        clear hd hd2 hks
        have hr_ := H.rules; simp only [Rules, and_true] at hr_; have hd_ := H.dif; simp only [Dif, Neq, and_true] at hd_; obtain ⟨ho_, hz_⟩ := H.old0
        repeat ((fail_if_success (with_reducible (first | show Code.wp _ (Code.seq (Code.region 4 _ _) _) _ _ _ | show Code.wp _ (Code.region 4 _ _) _ _ _))); (first | (at_builtin; go_must (refine wpList_pushR (d := (u.ks[1]'l1).d) rfl (.tmp 16) (.tmp 21) 24 rfl stTerms (by go_simp <;> first | rfl | exact ⟨rfl, rfl⟩) (by go_simp <;> first | rfl | exact ⟨rfl, rfl⟩) (by exact Hp.norm (by (repeat (first | with_reducible exact H | with_reducible exact H0_ | with_reducible apply Hp.alloc | with_reducible apply Hp.allocMap | with_reducible apply Hp.drew | with_reducible apply Hp.drewN | with_reducible apply Hp.set)); (try any_goals (repeat (first | with_reducible exact Upd.head | with_reducible apply Upd.tail)))) (by ((try simp only [size_drew_, size_drewN_, World.size_alloc, World.size_setCell, List.set_cons_zero, List.set_cons_succ, List.nil_append, List.cons_append]) <;> rfl))) (by (repeat (first | with_reducible exact Pick.head | with_reducible apply Pick.tail))) (by (repeat (first | with_reducible exact Pick.head | with_reducible apply Pick.tail))) ?_ ?_ ?_ ?_; (focus (exact HD2.out.oldP (H.ext.alloc _))); (focus (exact Tm.size_d _)); (focus (simp only [M, List.length_map]; omega)); clear H; intro v' w4 H; (try clear hr_ hd_ ho_ hz_); have hr_ := H.rules; simp only [Rules, and_true] at hr_; have hd_ := H.dif; simp only [Dif, Neq, and_true] at hd_; obtain ⟨ho_, hz_⟩ := H.old0)) | go_step))
        (try clear hr_ hd_ ho_ hz_)
        obtain ⟨A5, c5, rfl, _⟩ := (H.rowRd (v := v') (by (repeat (first | with_reducible exact Pick.head | with_reducible apply Pick.tail)))).slice
        have HS2 : Hid (spineT t = ((spineT (u.ks[0]'l0)).1, (spineT (u.ks[0]'l0)).2 ++ (back ++ [u.ks[1]'l1]).reverse)) := by
          unfold Hid
          rw [HS.out, HST.out]
          simp
        rw [show (back.map Tm.d ++ [(u.ks[1]'l1).d]).length = (back ++ [u.ks[1]'l1]).length by simp, show back.map Tm.d ++ [(u.ks[1]'l1).d] = (back ++ [u.ks[1]'l1]).map Tm.d by simp] at H
        rw [show (back.map Tm.d ++ [(u.ks[1]'l1).d]).length = (back ++ [u.ks[1]'l1]).length by simp]
        have HL2 : Hid ((back ++ [u.ks[1]'l1]).length = back.length + 1) := by unfold Hid; simp
        generalize back ++ [u.ks[1]'l1] = back2 at H HS2 HL2 ⊢
        have hr_ := H.rules; simp only [Rules, and_true] at hr_; have hd_ := H.dif; simp only [Dif, Neq, and_true] at hd_; obtain ⟨ho_, hz_⟩ := H.old0
        go_wp2_with ((with_reducible refine atStore (t := 26) ?_); go_must (refine wpList_storeH (t := 26) rfl rfl (by go_simp <;> first | rfl | exact ⟨rfl, rfl⟩) (by go_simp <;> first | rfl | exact ⟨rfl, rfl⟩) (by exact Hp.norm (by (repeat (first | with_reducible exact H | with_reducible exact H0_ | with_reducible apply Hp.alloc | with_reducible apply Hp.allocMap | with_reducible apply Hp.drew | with_reducible apply Hp.drewN | with_reducible apply Hp.set)); (try any_goals (repeat (first | with_reducible exact Upd.head | with_reducible apply Upd.tail)))) (by ((try simp only [size_drew_, size_drewN_, World.size_alloc, World.size_setCell, List.set_cons_zero, List.set_cons_succ, List.nil_append, List.cons_append]) <;> rfl))) (by (repeat (first | with_reducible exact Upd.head | with_reducible apply Upd.tail))) (by exact aggTerm) (by rfl) (by simp [Value.oneCell']) ?_; clear H; intro w7 H; (try simp only [size_drew_, size_drewN_, World.size_alloc, World.size_setCell, List.set_cons_zero, List.set_cons_succ] at H); (try clear hr_ hd_ ho_ hz_); have hr_ := H.rules; simp only [Rules, and_true] at hr_; have hd_ := H.dif; simp only [Dif, Neq, and_true] at hd_; obtain ⟨ho_, hz_⟩ := H.old0))
        (try clear hr_ hd_ ho_ hz_)
        go_roundw
        case rel => exact ⟨u.ks[0]'l0, back2, A5, c5, ⟨rfl, rfl, rfl⟩, HS2, A1, K1, ca1, ck1, HD.out, (H.arr (by (repeat (first | with_reducible exact Arr.nil | refine Arr.cons (by (repeat (first | with_reducible exact Pick.head | with_reducible apply Pick.tail))) ?_)) <;> exact Arr.of_subl (by (repeat (first | with_reducible exact Subl.refl _ | with_reducible apply Subl.drop)))))⟩
        case measure =>
          have h1 := congrArg (fun p => p.2.length) HS2.out
          have h2 := HL2.out
          simp at h1
          simp [sliceLen]
          omega
      · have HE : Hid (spineT t = (u, back.reverse)) := by unfold Hid; rw [HS.out, spineR_stop (fun hh => h2 hh.2)]; simp
        have g2 : (((u.ks.length : Nat) : Int) == 2) = false := by simp; omega
        have hub : back.length ≤ 1000000000 := by have h1 := HB.out; rw [HE.out] at h1; simpa using h1
        have hr_ := H.rules; simp only [Rules, and_true] at hr_; have hd_ := H.dif; simp only [Dif, Neq, and_true] at hd_; obtain ⟨ho_, hz_⟩ := H.old0
        repeat ((fail_if_success (with_reducible (first | show Code.wp _ (Code.seq (Code.region 5 _ _) _) _ _ _ | show Code.wp _ (Code.seq (Code.seq (Code.region 5 _ _) _) _) _ _ _))); go_step)
        exact spR hub HE.out HR.out (H.arr (by (repeat (first | with_reducible exact Arr.nil | refine Arr.cons (by (repeat (first | with_reducible exact Pick.head | with_reducible apply Pick.tail))) ?_)) <;> exact Arr.of_subl (by (repeat (first | with_reducible exact Subl.refl _ | with_reducible apply Subl.drop)))))
    · have HE : Hid (spineT t = (u, back.reverse)) := by unfold Hid; rw [HS.out, spineR_stop (fun hh => h6 hh.1)]; simp
      have g1 : (u.k == 6) = false := by simpa using h6
      have hub : back.length ≤ 1000000000 := by have h1 := HB.out; rw [HE.out] at h1; simpa using h1
      have hr_ := H.rules; simp only [Rules, and_true] at hr_; have hd_ := H.dif; simp only [Dif, Neq, and_true] at hd_; obtain ⟨ho_, hz_⟩ := H.old0
      repeat ((fail_if_success (with_reducible (first | show Code.wp _ (Code.seq (Code.region 5 _ _) _) _ _ _ | show Code.wp _ (Code.seq (Code.seq (Code.region 5 _ _) _) _) _ _ _))); go_step)
      exact spR hub HE.out HR.out (H.arr (by (repeat (first | with_reducible exact Arr.nil | refine Arr.cons (by (repeat (first | with_reducible exact Pick.head | with_reducible apply Pick.tail))) ?_)) <;> exact Arr.of_subl (by (repeat (first | with_reducible exact Subl.refl _ | with_reducible apply Subl.drop)))))
end Go.Proofs.YtgbokmphbimihaaDoor
