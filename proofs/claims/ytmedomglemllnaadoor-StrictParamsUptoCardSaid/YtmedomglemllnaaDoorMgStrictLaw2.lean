/- Reference 04: Open: contract. No statement of the seat is proved here. -/
import Derived.Test.YtmedomglemllnaaDoorMgRef04
import Derived.Test.YtmedomglemllnaaDoorMgStrictSpec
import Derived.Test.YtmedomglemllnaaDoorMgSpine
namespace Go.Proofs.YtmedomglemllnaaDoor
set_option linter.unusedSimpArgs false
set_option linter.unusedVariables false
open Go.RowKit

theorem openAll_step {u : Tm} (h4 : u.k = 4) (h2 : u.ks.length = 2) : openAll u = ((u.ks[0]'(by omega)) :: (openAll (u.ks[1]'(by omega))).1, (openAll (u.ks[1]'(by omega))).2) := by
  have h := openAll_eq u
  rw [countT_step h4 h2, openT_step h4 h2, openAll_eq] at h
  simpa using h.symm
theorem openAll_stop {u : Tm} (h : countT u = 0) : openAll u = ([], u) := by
  have h1 := openAll_eq u
  rw [h, openT] at h1
  simpa using h1.symm
theorem refLift0 {w : World} {S : Nat → Prop} {t : Tm} {v : Value} (hv : TV w S t v) : Calls Tryd.prog 151 #[v, .int .i64 0, .int .i64 0] w (PTm w t) := by
  have h := refLift 0 0 hv
  obtain ⟨A0, ca, K0, ck, rfl, hrc⟩ := hv
  rwa [liftT0 (RC.ok _ hrc)] at h
/-- What Open tells of all of a term. -/
def POpenR (w : World) (p : List Tm × Tm) (e : Ending) (w' : World) : Prop :=
  ∃ B cb K kb A c, e = .returned (.tuple #[.slice A p.1.length c, .agg #[.int .i64 p.2.k, .int .i64 p.2.n, .int .i64 p.2.a, .slice B p.2.ls.length cb, .slice K p.2.ks.length kb], .bool true]) ∧
    Hp no w w' [.dat p.2.d [.int .i64 p.2.k, .int .i64 p.2.n, .int .i64 p.2.a, .slice B p.2.ls.length cb, .slice K p.2.ks.length kb], .dat (.l 26 5 (p.1.map Tm.d)) [.slice A p.1.length c]]
set_option maxRecDepth 100000 in
set_option maxHeartbeats 4000000 in
theorem refOpen {S : Nat → Prop} {t : Tm} {w : World} {v : Value} (h : TV w S t v) (hb : countT t ≤ 1000000000) : Calls Tryd.prog 96 #[v, .int .i64 (countT t : Nat)] w (POpenR w (openAll t)) := by
  obtain ⟨A0, ca, K0, ck, rfl, hrc⟩ := h
  have HRC := Lib.hid hrc
  clear hrc
  obtain ⟨N, hN⟩ : ∃ N, N = countT t := ⟨_, rfl⟩
  rw [← hN] at hb ⊢
  have HN := Lib.hid hN
  clear hN
  go_enter Tryd.func96, Tryd.ntmps96
  have H := Hp.start no w
  go_wp2_with fail
  refine callsH (by (repeat (first | with_reducible exact H | with_reducible exact H0_ | with_reducible apply Hp.alloc | with_reducible apply Hp.allocMap | with_reducible apply Hp.drew | with_reducible apply Hp.drewN | with_reducible apply Hp.set)); (try any_goals (repeat (first | with_reducible exact Upd.head | with_reducible apply Upd.tail)))) ?_
  clear H; intro w1 H; (try simp only [size_drew_, size_drewN_, World.size_alloc, World.size_setCell, List.set_cons_zero, List.set_cons_succ] at H)
  refine (refCount (t := t) ⟨_, _, _, _, rfl, HRC.out.ext0 H.ext⟩ (by rw [← HN.out]; omega)).mono ?_
  rintro e w_ ⟨rfl, hx⟩
  replace H := H.call hx
  clear hx
  rw [← HN.out]
  go_wp2_with fail
  have H0_ := H
  clear H
  go_loopw [7, 8] (fun o i wr => ∃ (j : Nat) (u : Tm) (got : List Tm) (A : Option Addr) (c : Nat) (B K : Option Addr) (cb kb : Nat), o = .slice A got.length c ∧ i = .int .i64 j ∧ j ≤ N ∧ got.length = j ∧ Hid (countT u + j = N ∧ openAll t = (got ++ (openAll u).1, (openAll u).2)) ∧
      RC w S u.d [.int .i64 u.k, .int .i64 u.n, .int .i64 u.a, .slice B u.ls.length cb, .slice K u.ks.length kb] ∧
      Hp no w wr [.dat (.l 26 5 (got.map Tm.d)) [.slice A got.length c], .box w.heap.size 26 [.int .i64 u.k, .int .i64 u.n, .int .i64 u.a, .slice B u.ls.length cb, .slice K u.ks.length kb], .box (w.heap.size + 1) 26 [.int .i64 0, .int .i64 0, .int .i64 0, .slice none 0 0, .slice none 0 0]]) (fun _ i _ => N - (intOf i).toNat)
  case atStart =>
    have H := H0_.nil 26 5
    refine ⟨0, t, [], none, 0, _, _, _, _, rfl, rfl, Nat.zero_le _, rfl, Lib.hid ⟨by rw [HN.out]; rfl, by simp⟩, HRC.out, ?_⟩
    simp only [List.length_nil, List.map_nil]
    exact (H.arr (by (repeat (first | with_reducible exact Arr.nil | refine Arr.cons (by (repeat (first | with_reducible exact Pick.head | with_reducible apply Pick.tail))) ?_)) <;> exact Arr.of_subl (by (repeat (first | with_reducible exact Subl.refl _ | with_reducible apply Subl.drop)))))
  case round =>
    clear H0_
    obtain ⟨j, u, got, A, c, B, K, cb, kb, rfl, rfl, hj, hgl, HU, hrc, H⟩ := hrel
    have HR := Lib.hid hrc
    have HGL := Lib.hid hgl
    clear hrc hgl
    by_cases hlt : j < N
    · have hpi : u.k = 4 ∧ u.ks.length = 2 := Classical.byContradiction fun hh => by
        have h1 := countT_stop hh
        have h2 := HU.out.1
        omega
      have HPI := Lib.hid hpi
      have l0 : 0 < u.ks.length := by omega
      have l1 : 1 < u.ks.length := by omega
      clear hpi
      obtain ⟨_, _, _, _, he, _, _, _, _, hks⟩ := RC.tm.1 HR.out
      simp only [List.cons.injEq, Value.slice.injEq, and_true, true_and] at he
      obtain ⟨⟨rfl, rfl⟩, rfl, rfl⟩ := he
      obtain ⟨b, o, A1, ca1, K1, ck1, hK, hb0, hS, hd, p0, p1, p2, p3, p4⟩ := hks.atTm (k := 0) l0
      obtain ⟨b', o', A2, ca2, K2, ck2, hK2, hb2, hS2, hd2, q0, q1, q2, q3, q4⟩ := hks.atTm (k := 1) l1
      subst hK
      simp only [Option.some.injEq, Addr.mk.injEq, and_true] at hK2
      obtain ⟨rfl, rfl⟩ := hK2
      simp only [Nat.one_mul, Nat.zero_mul, Nat.add_zero] at p0 p1 p2 p3 p4 q0 q1 q2 q3 q4
      have HD := Lib.hid hd
      have HD2 := Lib.hid hd2
      have HU2 : Hid (countT u.ks[1] + (j + 1) = N ∧ openAll t = ((got ++ [u.ks[0]]) ++ (openAll u.ks[1]).1, (openAll u.ks[1]).2)) := by
        unfold Hid
        have h1 := HU.out
        rw [countT_step HPI.out.1 HPI.out.2, openAll_step HPI.out.1 HPI.out.2] at h1
        exact ⟨by omega, by rw [h1.2]; simp⟩
      clear hd hd2 hks
      have hr_ := H.rules; simp only [Rules, and_true] at hr_; have hd_ := H.dif; simp only [Dif, Neq, and_true] at hd_; obtain ⟨ho_, hz_⟩ := H.old0
      go_wp2_with fail
      (try clear hr_ hd_ ho_ hz_)
      refine callsH (by (repeat (first | with_reducible exact H | with_reducible exact H0_ | with_reducible apply Hp.alloc | with_reducible apply Hp.allocMap | with_reducible apply Hp.drew | with_reducible apply Hp.drewN | with_reducible apply Hp.set)); (try any_goals (repeat (first | with_reducible exact Upd.head | with_reducible apply Upd.tail)))) ?_
      clear H; intro w2 H; (try simp only [size_drew_, size_drewN_, World.size_alloc, World.size_setCell, List.set_cons_zero, List.set_cons_succ] at H)
      refine (refLift0 (t := u.ks[0]'l0) ⟨_, _, _, _, rfl, HD.out.ext0 H.ext⟩).mono ?_
      rintro e w_ ⟨v, rfl, hto, hx⟩
      obtain ⟨E1, Ec, E2, Ek, rfl, H_⟩ := H.resTm hx hto
      clear H hx hto
      have H := H_
      clear H_
      have hub : got.length ≤ 1000000000 := by have := HGL.out; omega
      dsimp only
      repeat ((fail_if_success (with_reducible (first | show Code.wp _ (Code.seq (Code.region 8 _ _) _) _ _ _ | show Code.wp _ (Code.region 8 _ _) _ _ _))); (first | (at_builtin; go_must (refine wpList_pushH rfl (.tmp 23) (.tmp 29) 24 rfl stTerms (by go_simp <;> first | rfl | exact ⟨rfl, rfl⟩) (by go_simp <;> first | rfl | exact ⟨rfl, rfl⟩) (by exact Hp.norm (by (repeat (first | with_reducible exact H | with_reducible exact H0_ | with_reducible apply Hp.alloc | with_reducible apply Hp.allocMap | with_reducible apply Hp.drew | with_reducible apply Hp.drewN | with_reducible apply Hp.set)); (try any_goals (repeat (first | with_reducible exact Upd.head | with_reducible apply Upd.tail)))) (by ((try simp only [size_drew_, size_drewN_, World.size_alloc, World.size_setCell, List.set_cons_zero, List.set_cons_succ, List.nil_append, List.cons_append]) <;> rfl))) (by (repeat (first | with_reducible exact Pick.head | with_reducible apply Pick.tail))) (by (repeat (first | with_reducible exact Pick.head | with_reducible apply Pick.tail))) (by (repeat (first | with_reducible exact Pick.head | with_reducible apply Pick.tail))) (Tm.size_d _) ?_ ?_; (focus (simp [M]; omega)); clear H; intro v' w4 H)) | go_step))
      obtain ⟨A5, c6, rfl, _, _, _⟩ := H.slice (e := 26) (z := 5) (v := v') (by (repeat (first | with_reducible exact Pick.head | with_reducible apply Pick.tail)))
      rw [show (got.map Tm.d ++ [(u.ks[0]'l0).d]).length = (got ++ [u.ks[0]'l0]).length by simp, show got.map Tm.d ++ [(u.ks[0]'l0).d] = (got ++ [u.ks[0]'l0]).map Tm.d by simp] at H
      rw [show (got.map Tm.d ++ [(u.ks[0]'l0).d]).length = (got ++ [u.ks[0]'l0]).length by simp]
      have hgl2 : (got ++ [u.ks[0]'l0]).length = j + 1 := by simp [HGL.out]
      have HGL2 := Lib.hid hgl2
      clear hgl2
      generalize got ++ [u.ks[0]'l0] = got2 at H HGL2 HU2 ⊢
      have hr_ := H.rules; simp only [Rules, and_true] at hr_; have hd_ := H.dif; simp only [Dif, Neq, and_true] at hd_; obtain ⟨ho_, hz_⟩ := H.old0
      go_wp2_with ((with_reducible refine atStore (t := 26) ?_); go_must (refine wpList_storeH (t := 26) rfl rfl (by go_simp <;> first | rfl | exact ⟨rfl, rfl⟩) (by go_simp <;> first | rfl | exact ⟨rfl, rfl⟩) (by exact Hp.norm (by (repeat (first | with_reducible exact H | with_reducible exact H0_ | with_reducible apply Hp.alloc | with_reducible apply Hp.allocMap | with_reducible apply Hp.drew | with_reducible apply Hp.drewN | with_reducible apply Hp.set)); (try any_goals (repeat (first | with_reducible exact Upd.head | with_reducible apply Upd.tail)))) (by ((try simp only [size_drew_, size_drewN_, World.size_alloc, World.size_setCell, List.set_cons_zero, List.set_cons_succ, List.nil_append, List.cons_append]) <;> rfl))) (by (repeat (first | with_reducible exact Upd.head | with_reducible apply Upd.tail))) (by exact aggTerm) (by rfl) (by simp [Value.oneCell']) ?_; clear H; intro w7 H; (try simp only [size_drew_, size_drewN_, World.size_alloc, World.size_setCell, List.set_cons_zero, List.set_cons_succ] at H); (try clear hr_ hd_ ho_ hz_); have hr_ := H.rules; simp only [Rules, and_true] at hr_; have hd_ := H.dif; simp only [Dif, Neq, and_true] at hd_; obtain ⟨ho_, hz_⟩ := H.old0))
      (try clear hr_ hd_ ho_ hz_)
      go_roundw
      case rel => exact ⟨j + 1, u.ks[1]'l1, got2, _, _, _, _, _, _, rfl, by first | go_num | rfl | simp, by omega, HGL2.out, HU2, HD2.out, (H.arr (by (repeat (first | with_reducible exact Arr.nil | refine Arr.cons (by (repeat (first | with_reducible exact Pick.head | with_reducible apply Pick.tail))) ?_)) <;> exact Arr.of_subl (by (repeat (first | with_reducible exact Subl.refl _ | with_reducible apply Subl.drop)))))⟩
      case measure => simp [intOf]; omega
    · have HE : Hid (openAll t = (got, u)) := by
        unfold Hid
        have h1 := HU.out
        rw [openAll_stop (u := u) (by omega)] at h1
        simpa using h1.2
      have hr_ := H.rules; simp only [Rules, and_true] at hr_; have hd_ := H.dif; simp only [Dif, Neq, and_true] at hd_; obtain ⟨ho_, hz_⟩ := H.old0
      go_wp2_with fail
      (try clear hr_ hd_ ho_ hz_)
      refine callsH (by (repeat (first | with_reducible exact H | with_reducible exact H0_ | with_reducible apply Hp.alloc | with_reducible apply Hp.allocMap | with_reducible apply Hp.drew | with_reducible apply Hp.drewN | with_reducible apply Hp.set)); (try any_goals (repeat (first | with_reducible exact Upd.head | with_reducible apply Upd.tail)))) ?_
      clear H; intro w2 H; (try simp only [size_drew_, size_drewN_, World.size_alloc, World.size_setCell, List.set_cons_zero, List.set_cons_succ] at H)
      refine (refLift0 (t := u) ⟨_, _, _, _, rfl, HR.out.ext0 H.ext⟩).mono ?_
      rintro e w_ ⟨v, rfl, hto, hx⟩
      obtain ⟨E1, Ec, E2, Ek, rfl, H_⟩ := H.resTm hx hto
      clear H hx hto
      have H := H_
      clear H_
      dsimp only
      have hr_ := H.rules; simp only [Rules, and_true] at hr_; have hd_ := H.dif; simp only [Dif, Neq, and_true] at hd_; obtain ⟨ho_, hz_⟩ := H.old0
      go_wp2_with ((with_reducible refine atStore (t := 26) ?_); go_must (refine wpList_storeH (t := 26) rfl rfl (by go_simp <;> first | rfl | exact ⟨rfl, rfl⟩) (by go_simp <;> first | rfl | exact ⟨rfl, rfl⟩) (by exact Hp.norm (by (repeat (first | with_reducible exact H | with_reducible exact H0_ | with_reducible apply Hp.alloc | with_reducible apply Hp.allocMap | with_reducible apply Hp.drew | with_reducible apply Hp.drewN | with_reducible apply Hp.set)); (try any_goals (repeat (first | with_reducible exact Upd.head | with_reducible apply Upd.tail)))) (by ((try simp only [size_drew_, size_drewN_, World.size_alloc, World.size_setCell, List.set_cons_zero, List.set_cons_succ, List.nil_append, List.cons_append]) <;> rfl))) (by (repeat (first | with_reducible exact Upd.head | with_reducible apply Upd.tail))) (by exact aggTerm) (by rfl) (by simp [Value.oneCell']) ?_; clear H; intro w7 H; (try simp only [size_drew_, size_drewN_, World.size_alloc, World.size_setCell, List.set_cons_zero, List.set_cons_succ] at H); (try clear hr_ hd_ ho_ hz_); have hr_ := H.rules; simp only [Rules, and_true] at hr_; have hd_ := H.dif; simp only [Dif, Neq, and_true] at hd_; obtain ⟨ho_, hz_⟩ := H.old0))
      (try clear hr_ hd_ ho_ hz_)
      refine bodyPost_ret (v := .tuple #[.slice A got.length c, .agg #[.int .i64 u.k, .int .i64 u.n, .int .i64 u.a, .slice E1 u.ls.length Ec, .slice E2 u.ks.length Ek], .bool true]) (Res.three Tryd.results96 rfl (H.resBox (g := w.heap.size + 1) (by (repeat (first | with_reducible exact Pick.head | with_reducible apply Pick.tail))) aggTerm rfl rfl) rfl) rfl ?_
      rw [HE.out]
      exact ⟨_, _, _, _, _, _, rfl, (H.arr (by (repeat (first | with_reducible exact Arr.nil | refine Arr.cons (by (repeat (first | with_reducible exact Pick.head | with_reducible apply Pick.tail))) ?_)) <;> exact Arr.of_subl (by (repeat (first | with_reducible exact Subl.refl _ | with_reducible apply Subl.drop)))))⟩
end Go.Proofs.YtmedomglemllnaaDoor
/- strict: plain laws: params that are mentioned nowhere; a constructor more, or less. No statement of the seat is proved here. -/
namespace Go.Proofs.YtmedomglemllnaaDoor
set_option linter.unusedSimpArgs false
set_option linter.unusedVariables false
open Go.RowKit

/-- Asked below more binders is asked of later variables. -/
theorem free_down (fr tt : Int) (hfr : 0 ≤ fr) : ∀ (t : Tm) (b i : Int), TmOK t → 0 ≤ b → 0 ≤ i → b + i + depthT t ≤ 4611686018427387904 → freeT fr tt (b + i) t = freeT (fr + i) (tt + i) b t := by
  intro t
  induction t using Tm.ind_ with
  | h k m a ls ks ih =>
  intro b i h hb hi hd
  cases h with
  | mk h1 h2 h3 h =>
  rw [depthT] at hd
  have hs : ∀ (ts : List Tm) (j : Nat), (∀ t ∈ ts, t ∈ ks ∧ depthT t ≤ depthsT ks) → freesT fr tt k (b + i) j ts = freesT (fr + i) (tt + i) k b j ts := by
    intro ts
    induction ts with
    | nil => intro j _; rfl
    | cons t ts ihs =>
      intro j hm
      obtain ⟨hmem, hdep⟩ := hm t (by simp)
      have hdown : downI k j (b + i) = downI k j b + i ∧ 0 ≤ downI k j b ∧ downI k j b ≤ b + 1 := by
        unfold downI
        push_cast at hd
        split
        · unfold wrap64; omega
        · omega
      rw [freesT, freesT, hdown.1, ih t hmem _ _ (h t hmem) hdown.2.1 hi (by push_cast at hd; omega), ihs _ fun t ht => hm t (by simp [ht])]
  rw [freeT, freeT, hs ks 0 fun t ht => ⟨ht, by obtain ⟨j, hj, rfl⟩ := List.getElem_of_mem ht; exact depthsT_get hj⟩]
  congr 1
  unfold inI at h2
  push_cast at hd
  by_cases h1 : b + i ≤ m
  · have e1 : wrap64 (m - (b + i)) = m - (b + i) := by unfold wrap64; omega
    have e2 : wrap64 (m - b) = m - b := by unfold wrap64; omega
    rw [e1, e2, decide_eq_true h1, decide_eq_true (show b ≤ m by omega)]
    rw [show decide (fr ≤ m - (b + i)) = decide (fr + i ≤ m - b) from decide_eq_decide.2 (by omega), show decide (m - (b + i) < tt) = decide (m - b < tt + i) from decide_eq_decide.2 (by omega)]
  · by_cases h2 : b ≤ m
    · have e2 : wrap64 (m - b) = m - b := by unfold wrap64; omega
      rw [e2, decide_eq_false h1, decide_eq_false (show ¬ fr + i ≤ m - b by omega)]
      simp
    · rw [decide_eq_false h1, decide_eq_false h2]
      simp
theorem depth_le {k : Int} {n a : Int} {ls : List Lv} {x y : Tm} : depthT x < depthT (.mk k n a ls [x, y]) ∧ depthT y < depthT (.mk k n a ls [x, y]) := by
  constructor
  · exact depthT_kid (t := .mk k n a ls [x, y]) (i := 0) (by simp [Tm.ks_mk])
  · exact depthT_kid (t := .mk k n a ls [x, y]) (i := 1) (by simp [Tm.ks_mk])
theorem free_open0 (v : Int) (hv : 0 ≤ v) {t : Tm} (i : Nat) (ok : TmOK t) (hd : (i : Int) + depthT t ≤ 1000000000) (hf : freeT v (v + 1) i t = false) (hc : countT t = 0) : freeRow (some v) i (openAll t).1 = true ∧ standsM (some (v + i + countT t)) (openAll t).2 = false := by
  have ho := openAll_stop hc
  rw [ho, hc]
  refine ⟨rfl, ?_⟩
  have := free_down v (v + 1) hv _ 0 i ok (by omega) (by omega) (by omega)
  rw [Int.zero_add] at this
  simp only [standsM]
  rw [show v + (i : Int) + ((0 : Nat) : Int) = v + i by omega, show v + (i : Int) + 1 = v + 1 + i by omega, ← this]
  exact hf
/-- A function's type is free of a variable; so are its arguments' types, and its end. -/
theorem free_open (v : Int) (hv : 0 ≤ v) : ∀ (t : Tm) (i : Nat), TmOK t → (i : Int) + depthT t ≤ 1000000000 → freeT v (v + 1) i t = false → freeRow (some v) i (openAll t).1 = true ∧ standsM (some (v + i + countT t)) (openAll t).2 = false := by
  intro t
  induction t using Tm.ind_ with
  | h k n a ls ks ih =>
  intro i ok hd hf
  rcases ks with _ | ⟨x, _ | ⟨y, _ | ⟨z, r⟩⟩⟩
  · exact free_open0 v hv i ok hd hf rfl
  · exact free_open0 v hv i ok hd hf rfl
  · skip
    by_cases h4 : k = 4
    · subst h4
      have hst := openAll_step (u := .mk 4 n a ls [x, y]) rfl rfl
      simp only [Tm.ks_mk, List.getElem_cons_zero, List.getElem_cons_succ] at hst
      have hc : countT (.mk 4 n a ls [x, y]) = countT y + 1 := by rw [countT, if_pos rfl]
      obtain ⟨d1, d2⟩ := depth_le (k := 4) (n := n) (a := a) (ls := ls) (x := x) (y := y)
      have okx : TmOK x := by cases ok with | mk _ _ _ h => exact h x (by simp)
      have oky : TmOK y := by cases ok with | mk _ _ _ h => exact h y (by simp)
      rw [freeT] at hf
      simp only [freesT, Bool.or_eq_false_iff] at hf
      obtain ⟨_, hx, hy, _⟩ := hf
      have e0 : downI 4 ((0 : Nat) : Int) i = i := by unfold downI; rw [if_neg (by decide +kernel)]
      have e1 : downI 4 ((0 + 1 : Nat) : Int) i = ((i + 1 : Nat) : Int) := by unfold downI; rw [if_pos (by decide +kernel)]; unfold wrap64; push_cast; omega
      rw [e0] at hx
      rw [e1] at hy
      obtain ⟨r1, r2⟩ := ih y (by simp) (i + 1) oky (by push_cast; omega) hy
      have hxx := free_down v (v + 1) hv x 0 i okx (by omega) (by omega) (by omega)
      rw [Int.zero_add] at hxx
      rw [hst, hc, freeRow]
      refine ⟨?_, ?_⟩
      · rw [r1, Bool.and_true, upM]
        simp only [Option.map_some, standsM]
        rw [show v + (i : Int) + 1 = v + 1 + i by omega, ← hxx, hx]
        rfl
      · rw [show v + (i : Int) + ((countT y + 1 : Nat) : Int) = v + ((i + 1 : Nat) : Int) + (countT y : Int) by push_cast; omega]
        exact r2
    · have hc : countT (.mk k n a ls [x, y]) = 0 := by rw [countT, if_neg h4]
      have ho := openAll_stop hc
      rw [ho, hc]
      refine ⟨rfl, ?_⟩
      have := free_down v (v + 1) hv _ 0 i ok (by omega) (by omega) (by omega)
      rw [Int.zero_add] at this
      simp only [standsM]
      rw [show v + (i : Int) + ((0 : Nat) : Int) = v + i by omega, show v + (i : Int) + 1 = v + 1 + i by omega, ← this]
      exact hf
  · exact free_open0 v hv i ok hd hf rfl
theorem typesQ_free {ds : List Dc} {par : Nat → Nat → Bool} {v : Mk} {ts : List Tm} {i : Nat} (h : freeRow v i ts = true) : typesQ ds par v i ts = true := by
  induction ts generalizing i with
  | nil => rfl
  | cons t ts ih =>
    rw [freeRow, Bool.and_eq_true, Bool.not_eq_true'] at h
    rw [typesQ, strictQ_free h.1, ih h.2]
    rfl
/-- A constructor that does not mention a param takes it strictly. -/
theorem ctorP_free {ds : List Dc} {par : Nat → Nat → Bool} {v : Int} {c : Ct} (hv : 0 ≤ v) (ok : TmOK c.ty) (hd : (depthT c.ty : Int) ≤ 1000000000) (hf : freeT v (v + 1) 0 c.ty = false) : ctorP ds par v c = true := by
  obtain ⟨h1, h2⟩ := free_open v hv c.ty 0 ok (by simpa using hd) hf
  unfold ctorP
  rw [typesQ_free h1, Bool.true_and, Bool.not_eq_true']
  simpa [upM] using h2
/-- The statement's further constructor. -/
def argT (v : Int) : Tm := .mk 4 0 0 [] [.mk 4 0 0 [] [.mk 1 v 0 [] [], .mk 2 0 0 [[]] []], .mk 11 0 0 [] []]
theorem ctorP_arg {ds : List Dc} {par : Nat → Nat → Bool} {v m : Int} (hv : 0 ≤ v) (hv2 : v ≤ 1000000000) : ctorP ds par v ⟨m, argT v⟩ = false := by
  have b0 : downI 4 ((0 : Nat) : Int) 0 = 0 := by unfold downI; rw [if_neg (by decide +kernel)]
  have w0 : wrap64 (v - 0) = v := by unfold wrap64; omega
  have h1 : openAll (argT v) = ([.mk 4 0 0 [] [.mk 1 v 0 [] [], .mk 2 0 0 [[]] []]], .mk 11 0 0 [] []) := rfl
  have h2 : openAll (.mk 4 0 0 [] [.mk 1 v 0 [] [], .mk 2 0 0 [[]] []]) = ([.mk 1 v 0 [] []], .mk 2 0 0 [[]] []) := rfl
  have hf : freeT v (v + 1) 0 (.mk 1 v 0 [] []) = true := by
    rw [freeT, w0]
    simp
    omega
  have hs : standsM (some v) (.mk 4 0 0 [] [.mk 1 v 0 [] [], .mk 2 0 0 [[]] []]) = true := by
    rw [standsM, freeT]
    simp only [freesT, b0, hf, Bool.true_or, Bool.or_true]
  unfold ctorP
  simp only [h1, typesQ, Int.natCast_zero, upM_zero, strictQ]
  obtain ⟨f, hf2⟩ : ∃ f, sizeT (Tm.mk 4 0 0 [] [.mk 1 v 0 [] [], .mk 2 0 0 [[]] []]) = f + 1 := ⟨_, rfl⟩
  have hr : freeRow (some v) 0 [.mk 1 v 0 [] []] = false := by
    simp only [freeRow, Int.natCast_zero, upM_zero, standsM, hf, Bool.not_true, Bool.false_and]
  rw [hf2, strictF, hs, h2, if_neg (by simp), if_pos hr]
  rfl
end Go.Proofs.YtmedomglemllnaaDoor
/- strict: plain laws for params, over a row with one declaration more. No statement of the seat is proved here. -/
namespace Go.Proofs.YtmedomglemllnaaDoor
set_option linter.unusedSimpArgs false
set_option linter.unusedVariables false
open Go.RowKit

theorem parQ_last (ds : List Dc) (d : Dc) (a : Nat) : parQ (ds ++ [d]) ds.length a = stepP ds (parT ds ds.length) d a := by
  rw [parQ_eq]
  have h1 : (ds ++ [d]).take ds.length = ds := by simp
  have h2 : (ds ++ [d]).getD ds.length zDc = d := by simp [List.getD_eq_getElem?_getD]
  rw [h1, h2, parT_take (ds := ds ++ [d]) (ds' := ds) (by simp)]
abbrev idxQ (d : Dc) (v : Int) : Bool := d.members.any fun m => !freeRow (some v) 0 m.index
abbrev nowQ (d : Dc) (v : Int) : Bool := d.ctors.all fun c => !freeT v (v + 1) 0 c.ty
theorem idx_all (d : Dc) (v : Int) : (d.members.all fun m => freeRow (some v) 0 m.index) = !idxQ d v := by
  unfold idxQ
  induction d.members with
  | nil => rfl
  | cons m ms ih => simp only [List.all_cons, List.any_cons, ih]; cases freeRow (some v) 0 m.index <;> simp
theorem params_index {ds : List Dc} {d : Dc} {a : Nat} (h : idxQ d ((d.params.length : Int) - 1 - a) = true) : parQ (ds ++ [d]) ds.length a = false := by
  rw [parQ_last, stepP, idx_all, h]
  rfl
theorem params_nowhere {ds : List Dc} {d : Dc} {a : Nat} (ha : a < d.params.length) (ok : ∀ c ∈ d.ctors, TmOK c.ty ∧ depthT c.ty ≤ 1000000000) (h1 : nowQ d ((d.params.length : Int) - 1 - a) = true) (h2 : idxQ d ((d.params.length : Int) - 1 - a) = false) : parQ (ds ++ [d]) ds.length a = true := by
  rw [parQ_last, stepP, idx_all, h2, Bool.not_false, Bool.true_and, List.all_eq_true]
  intro c hc
  obtain ⟨k1, k2⟩ := ok c hc
  have h3 := List.all_eq_true.1 h1 c hc
  exact ctorP_free (by omega) k1 (by omega) (by simpa using h3)
theorem params_arg {ds : List Dc} {d : Dc} {a : Nat} (ha : a < d.params.length) (hp : d.params.length ≤ 1000000000) : parQ (ds ++ [{ d with ctors := d.ctors ++ [⟨0, argT ((d.params.length : Int) - 1 - a)⟩] }]) ds.length a = false := by
  rw [parQ_last, stepP, List.all_append]
  simp only [List.all_cons, List.all_nil]
  rw [ctorP_arg (by omega) (by omega)]
  simp
theorem params_less {ds : List Dc} {d : Dc} {a k : Nat} (h : parQ (ds ++ [d]) ds.length a = true) : parQ (ds ++ [{ d with ctors := d.ctors.take k ++ d.ctors.drop (k + 1) }]) ds.length a = true := by
  rw [parQ_last, stepP, Bool.and_eq_true, List.all_eq_true, List.all_eq_true] at h ⊢
  refine ⟨h.1, fun c hc => h.2 c ?_⟩
  rcases List.mem_append.1 hc with hc | hc
  · exact List.mem_of_mem_take hc
  · exact List.mem_of_mem_drop hc
end Go.Proofs.YtmedomglemllnaaDoor
