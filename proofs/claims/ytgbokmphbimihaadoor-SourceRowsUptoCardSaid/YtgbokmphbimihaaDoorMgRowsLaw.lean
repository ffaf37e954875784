/- term: Size: contract. No statement of the seat is proved here. -/
import Derived.Test.YtgbokmphbimihaaDoorMgTele3
import Derived.Test.YtgbokmphbimihaaDoorMgGrowLaw
namespace Go.Proofs.YtgbokmphbimihaaDoor
set_option linter.unusedSimpArgs false
set_option linter.unusedVariables false
open Go.RowKit

mutual
/-- How many nodes a term has. -/
def sizeT : Tm → Nat
  | .mk _ _ _ _ ks => sizesT ks + 1
def sizesT : List Tm → Nat
  | [] => 0
  | t :: ts => sizeT t + sizesT ts
end
theorem sizesT_append (a b : List Tm) : sizesT (a ++ b) = sizesT a + sizesT b := by
  induction a with
  | nil => simp [sizesT]
  | cons t a ih => rw [List.cons_append, sizesT, sizesT, ih]; omega
theorem sizesT_take {ts : List Tm} {j : Nat} (h : j < ts.length) : sizesT (ts.take (j + 1)) = sizesT (ts.take j) + sizeT ts[j] := by
  rw [List.take_succ_eq_append_getElem h, sizesT_append]
  simp [sizesT]
theorem sizeT_eq (t : Tm) : sizeT t = sizesT t.ks + 1 := by cases t; rw [sizeT]; rfl
theorem wrapAdd (a b : Int) : wrap64 (wrap64 a + wrap64 b) = wrap64 (a + b) := by unfold wrap64; omega
def SizeOK (t : Tm) : Prop := ∀ (w : World) (S : Nat → Prop) (v : Value), TV w S t v → Calls Tryd.prog 28 #[v] w (PV w (.int .i64 (wrap64 (sizeT t : Nat))))
set_option maxRecDepth 100000 in
set_option maxHeartbeats 2000000 in
theorem size_calls : ∀ t : Tm, SizeOK t := by
  intro t
  induction t using Tm.ind_ with
  | h tk tn ta ls ks ih =>
  rintro w S v ⟨A0, ca, K0, ck, rfl, hrc⟩
  obtain ⟨_, _, _, _, he, i1, i2, i3, hls, hks⟩ := RC.tm.1 hrc
  simp only [List.cons.injEq, Value.slice.injEq, and_true, true_and] at he
  obtain ⟨⟨rfl, rfl⟩, rfl, rfl⟩ := he
  simp only [Tm.k_mk, Tm.n_mk, Tm.a_mk, Tm.ls_mk, Tm.ks_mk] at *
  have IH := Lib.hid ih
  have hM := hks.lenM
  clear ih hrc
  have HSZ := Lib.hid (sizeT_eq (.mk tk tn ta ls ks))
  go_enter Tryd.func28, Tryd.ntmps28
  go_wp2_with fail
  have H := Hp.start no w
  go_loopw [3, 9] (fun n i wr => ∃ j : Nat, j ≤ ks.length ∧ i = .int .i64 j ∧ n = .int .i64 (wrap64 ((sizesT (ks.take j) : Nat) + 1)) ∧ Hp no w wr [.box w.heap.size 26 [.int .i64 tk, .int .i64 tn, .int .i64 ta, .slice A0 ls.length ca, .slice K0 ks.length ck]]) (fun _ i _ => ks.length - (intOf i).toNat)
  case atStart => exact ⟨0, Nat.zero_le _, rfl, by simp [sizesT, wrap64], by (repeat (first | with_reducible exact H | with_reducible exact H0_ | with_reducible apply Hp.alloc | with_reducible apply Hp.allocMap | with_reducible apply Hp.drew | with_reducible apply Hp.drewN | with_reducible apply Hp.set)); (try any_goals (repeat (first | with_reducible exact Upd.head | with_reducible apply Upd.tail)))⟩
  case round =>
    clear H
    obtain ⟨j, hj, rfl, rfl, H⟩ := hrel
    by_cases hlt : j < ks.length
    · obtain ⟨b, o, A1, ca1, K1, ck1, rfl, hb, hS, hd, p0, p1, p2, p3, p4⟩ := hks.atTm hlt
      have HD := Lib.hid hd
      have HS := Lib.hid (sizesT_take hlt)
      clear hd
      have hr_ := H.rules; simp only [Rules, and_true] at hr_; have hd_ := H.dif; simp only [Dif, Neq, and_true] at hd_; obtain ⟨ho_, hz_⟩ := H.old0
      go_wp2_with ((with_reducible refine atStore (t := 26) ?_); go_must (refine wpList_storeH (t := 26) rfl rfl (by go_simp <;> first | rfl | exact ⟨rfl, rfl⟩) (by go_simp <;> first | rfl | exact ⟨rfl, rfl⟩) (by exact Hp.norm (by (repeat (first | with_reducible exact H | with_reducible exact H0_ | with_reducible apply Hp.alloc | with_reducible apply Hp.allocMap | with_reducible apply Hp.drew | with_reducible apply Hp.drewN | with_reducible apply Hp.set)); (try any_goals (repeat (first | with_reducible exact Upd.head | with_reducible apply Upd.tail)))) (by ((try simp only [size_drew_, size_drewN_, World.size_alloc, World.size_setCell, List.set_cons_zero, List.set_cons_succ, List.nil_append, List.cons_append]) <;> rfl))) (by (repeat (first | with_reducible exact Upd.head | with_reducible apply Upd.tail))) (by exact aggTerm) (by rfl) (by simp [Value.oneCell']) ?_; clear H; intro w7 H; (try simp only [size_drew_, size_drewN_, World.size_alloc, World.size_setCell, List.set_cons_zero, List.set_cons_succ] at H); (try clear hr_ hd_ ho_ hz_); have hr_ := H.rules; simp only [Rules, and_true] at hr_; have hd_ := H.dif; simp only [Dif, Neq, and_true] at hd_; obtain ⟨ho_, hz_⟩ := H.old0))
      clear hr_ hd_ ho_ hz_
      refine callsH (by (repeat (first | with_reducible exact H | with_reducible exact H0_ | with_reducible apply Hp.alloc | with_reducible apply Hp.allocMap | with_reducible apply Hp.drew | with_reducible apply Hp.drewN | with_reducible apply Hp.set)); (try any_goals (repeat (first | with_reducible exact Upd.head | with_reducible apply Upd.tail)))) ?_
      clear H; intro w8 H; (try simp only [size_drew_, size_drewN_, World.size_alloc, World.size_setCell, List.set_cons_zero, List.set_cons_succ] at H)
      refine (IH.out _ (List.getElem_mem hlt) _ _ _ ⟨_, _, _, _, rfl, HD.out.ext0 H.ext⟩).mono ?_
      rintro e w_ ⟨rfl, hx⟩
      replace H := H.call hx
      clear hx
      go_wp2_with fail
      go_roundw
      case rel => exact ⟨j + 1, by omega, by go_num, by rw [HS.out, wrapAdd, Int.natCast_add, Int.add_right_comm], (H.arr (by (repeat (first | with_reducible exact Arr.nil | refine Arr.cons (by (repeat (first | with_reducible exact Pick.head | with_reducible apply Pick.tail))) ?_)) <;> exact Arr.of_subl (by (repeat (first | with_reducible exact Subl.refl _ | with_reducible apply Subl.drop)))))⟩
      case measure => simp [intOf]; omega
    · go_wp2_with fail
      go_ret
      have h1 := HSZ.out
      simp only [Tm.ks_mk] at h1
      rw [take_all hlt]
      exact ⟨by rw [h1]; push_cast; rfl, H.ext⟩
end Go.Proofs.YtgbokmphbimihaaDoor
/- tele: plain laws: what Pis lays Open takes off; counts, sizes, spines; walks through Pis. No statement of the seat is proved here. -/
namespace Go.Proofs.YtgbokmphbimihaaDoor
set_option linter.unusedSimpArgs false
set_option linter.unusedVariables false
open Go.RowKit

theorem openT_above (ts : List Tm) (b : Tm) (m : Nat) : openT (ts.length + m) (aboveT 4 ts b) = (openT m b).map fun p => (ts ++ p.1, p.2) := by
  induction ts with
  | nil => simp [aboveT]
  | cons t ts ih =>
    rw [List.length_cons, show ts.length + 1 + m = ts.length + m + 1 by omega, aboveT, openT, if_pos rfl, ih]
    simp [Option.map_map, Function.comp_def]
theorem openT_few (ts : List Tm) (b : Tm) {m : Nat} (h : m ≤ ts.length) : openT m (aboveT 4 ts b) = some (ts.take m, aboveT 4 (ts.drop m) b) := by
  induction ts generalizing m with
  | nil => obtain rfl : m = 0 := by simpa using h
           simp [openT, aboveT]
  | cons t ts ih =>
    cases m with
    | zero => simp [openT]
    | succ m =>
      rw [aboveT, openT, if_pos rfl, ih (by simpa using h)]
      simp
theorem openT_many : ∀ (n : Nat) (t : Tm), countT t < n → openT n t = none
  | 0, _, h => by omega
  | n + 1, t, h => by
    by_cases h42 : t.k = 4 ∧ t.ks.length = 2
    · rw [openT_step h42.1 h42.2, openT_many n _ (by have := countT_step h42.1 h42.2; omega)]
      rfl
    · exact openT_stop h42
theorem countT_above (ts : List Tm) (b : Tm) : countT (aboveT 4 ts b) = ts.length + countT b := by
  induction ts with
  | nil => simp [aboveT]
  | cons t ts ih => rw [aboveT, countT, if_pos rfl, ih, List.length_cons]; omega
theorem sizeT_above (k : Int) (ts : List Tm) (b : Tm) : sizeT (aboveT k ts b) = sizesT ts + ts.length + sizeT b := by
  induction ts with
  | nil => simp [aboveT, sizesT]
  | cons t ts ih => rw [aboveT, sizeT, sizesT, sizesT, sizesT, ih, sizesT, List.length_cons]; omega
/-- A term's spine: its head, its arguments. -/
def spineT : Tm → Tm × List Tm
  | .mk k n a ls [f, x] => if k = 6 then ((spineT f).1, (spineT f).2 ++ [x]) else (.mk k n a ls [f, x], [])
  | t => (t, [])
theorem spineT_apps (f : Tm) (l : List Tm) : spineT (appsT f l) = ((spineT f).1, (spineT f).2 ++ l) := by
  induction l generalizing f with
  | nil => simp [appsT]
  | cons x l ih =>
    have h := ih (.mk 6 0 0 [] [f, x])
    rw [spineT, if_pos rfl] at h
    simpa [appsT] using h
/-- Has no node of a spine anything but its kids? -/
def cleanT : Tm → Bool
  | .mk k n a ls [f, _] => if k = 6 then decide (n = 0) && decide (a = 0) && ls.isEmpty && cleanT f else true
  | _ => true
theorem appsT_append (f : Tm) (l m : List Tm) : appsT f (l ++ m) = appsT (appsT f l) m := by simp [appsT]
theorem apps_spine : ∀ t : Tm, cleanT t = true → appsT (spineT t).1 (spineT t).2 = t
  | .mk k n a ls [f, x], h => by
    rw [spineT]
    rw [cleanT] at h
    by_cases h6 : k = 6
    · rw [if_pos h6] at h ⊢
      simp only [Bool.and_eq_true, decide_eq_true_eq, List.isEmpty_iff] at h
      obtain ⟨⟨⟨rfl, rfl⟩, rfl⟩, hf⟩ := h
      dsimp only
      rw [appsT_append, apps_spine f hf, h6]
      rfl
    · rw [if_neg h6]; rfl
  | .mk k n a ls [], _ => by simp [spineT, appsT]
  | .mk k n a ls [_], _ => by simp [spineT, appsT]
  | .mk k n a ls (_ :: _ :: _ :: _), _ => by simp [spineT, appsT]
/-- A row walked: each behind those ahead. -/
def walkA (f : Turn) (b : Int) : List Tm → List Tm
  | [] => []
  | t :: ts => walkT f b t :: walkA f (wrap64 (b + 1)) ts
def walkE (b : Int) : Nat → Int
  | 0 => b
  | n + 1 => walkE (wrap64 (b + 1)) n
theorem walkT_above {f : Turn} (hf : ∀ b ks, f b (.mk 4 0 0 [] ks) = .inr (4, 0, 0, [])) (ts : List Tm) (t : Tm) (b : Int) : walkT f b (aboveT 4 ts t) = aboveT 4 (walkA f b ts) (walkT f (walkE b ts.length) t) := by
  induction ts generalizing b with
  | nil => simp [aboveT, walkA, walkE]
  | cons x ts ih =>
    rw [aboveT, walkT, hf, walkA, aboveT]
    simp only [walkTs, List.length_cons, walkE]
    have d0 : downI 4 ((0 : Nat) : Int) b = b := by unfold downI; rw [if_neg (by decide +kernel)]
    have d1 : downI 4 ((0 + 1 : Nat) : Int) b = wrap64 (b + 1) := by unfold downI; rw [if_pos (by decide +kernel)]
    rw [d0, d1, ih]
theorem liftF_pi (n fr : Int) : ∀ b ks, liftF n fr b (.mk 4 0 0 [] ks) = .inr (4, 0, 0, []) := by intro b ks; simp [liftF, outer, Tm.k_mk, Tm.n_mk, Tm.a_mk, Tm.ls_mk]
theorem putF_pi (by_ : List Tm) : ∀ b ks, putF by_ b (.mk 4 0 0 [] ks) = .inr (4, 0, 0, []) := by intro b ks; simp [putF, Tm.k_mk, Tm.n_mk, Tm.a_mk, Tm.ls_mk]
theorem walkA_len (f : Turn) (ts : List Tm) : ∀ b, (walkA f b ts).length = ts.length := by
  induction ts with
  | nil => intro b; rfl
  | cons t ts ih => intro b; simp [walkA, ih]
/-- Open behind Lift, behind Put. -/
theorem open_lift (ts : List Tm) (t : Tm) (n fr : Int) : openT ts.length (liftT (aboveT 4 ts t) n fr) = some (walkA (liftF n fr) 0 ts, walkT (liftF n fr) (walkE 0 ts.length) t) := by
  rw [liftT, walkT_above (liftF_pi n fr)]
  have := openT_above (walkA (liftF n fr) 0 ts) (walkT (liftF n fr) (walkE 0 ts.length) t) 0
  rw [walkA_len] at this
  simpa [openT] using this
theorem open_put (ts : List Tm) (t : Tm) (by_ : List Tm) : openT ts.length (putT (aboveT 4 ts t) by_) = some (walkA (putF by_) 0 ts, walkT (putF by_) (walkE 0 ts.length) t) := by
  rw [putT, walkT_above (putF_pi by_)]
  have := openT_above (walkA (putF by_) 0 ts) (walkT (putF by_) (walkE 0 ts.length) t) 0
  rw [walkA_len] at this
  simpa [openT] using this
/-- A lift below more binders is one of later variables. -/
theorem outer_down {b i fr : Int} {t : Tm} (hn : inI t.n) (hb : 0 ≤ b) (hi : 0 ≤ i) (hfr : 0 ≤ fr) (hd : b + i + fr ≤ 4611686018427387904) : outer (b + i) fr t = outer b (fr + i) t := by
  unfold inI at hn
  unfold outer
  by_cases h1 : b + i ≤ t.n
  · have e1 : wrap64 (t.n - (b + i)) = t.n - (b + i) := by unfold wrap64; omega
    have e2 : wrap64 (t.n - b) = t.n - b := by unfold wrap64; omega
    rw [e1, e2, decide_eq_true h1, decide_eq_true (show b ≤ t.n by omega)]
    congr 1
    exact decide_eq_decide.2 (by omega)
  · by_cases h2 : b ≤ t.n
    · have e2 : wrap64 (t.n - b) = t.n - b := by unfold wrap64; omega
      rw [e2, decide_eq_false h1, decide_eq_false (show ¬ fr + i ≤ t.n - b by omega)]
      simp
    · rw [decide_eq_false h1, decide_eq_false h2]
      simp
theorem lift_down (n : Int) : ∀ (t : Tm) (b i fr : Int), TmOK t → 0 ≤ b → 0 ≤ i → 0 ≤ fr → b + i + fr + depthT t ≤ 4611686018427387904 → walkT (liftF n fr) (b + i) t = walkT (liftF n (fr + i)) b t := by
  intro t
  induction t using Tm.ind_ with
  | h k m a ls ks ih =>
  intro b i fr h hb hi hfr hd
  cases h with
  | mk h1 h2 h3 h =>
  rw [depthT] at hd
  have hs : ∀ (ts : List Tm) (j : Nat), (∀ t ∈ ts, t ∈ ks ∧ depthT t ≤ depthsT ks) → walkTs (liftF n fr) k (b + i) j ts = walkTs (liftF n (fr + i)) k b j ts := by
    intro ts
    induction ts with
    | nil => intro j _; rfl
    | cons t ts ihs =>
      intro j hm
      obtain ⟨hmem, hdep⟩ := hm t (by simp)
      have hdown : downI k j (b + i) = downI k j b + i ∧ 0 ≤ downI k j b ∧ downI k j b ≤ b + 1 := by
        unfold downI
        push_cast at hd
        split
        · unfold wrap64; omega
        · omega
      rw [walkTs, walkTs, hdown.1, ih t hmem _ _ _ (h t hmem) hdown.2.1 hi hfr (by push_cast at hd; omega), ihs _ fun t ht => hm t (by simp [ht])]
  have ho := outer_down (t := .mk k m a ls ks) (b := b) (i := i) (fr := fr) h2 hb hi hfr (by push_cast at hd; omega)
  simp only [walkT, liftF, ho]
  rw [hs ks 0 fun t ht => ⟨ht, by obtain ⟨j, hj, rfl⟩ := List.getElem_of_mem ht; exact depthsT_get hj⟩]
theorem walkA_get (f : Turn) (ts : List Tm) : ∀ (b : Int) (j : Nat) (hj : j < ts.length) (h' : j < (walkA f b ts).length), 0 ≤ b → b + ts.length ≤ 4611686018427387904 → (walkA f b ts)[j] = walkT f (b + j) ts[j] := by
  induction ts with
  | nil => intro b j hj; simp at hj
  | cons t ts ih =>
    intro b j hj h' hb hl
    simp only [List.length_cons] at hl
    push_cast at hl
    cases j with
    | zero => simp [walkA]
    | succ j =>
      have e : wrap64 (b + 1) = b + 1 := by unfold wrap64; omega
      simp only [walkA, List.getElem_cons_succ]
      rw [ih _ j (by simpa using hj) _ (by rw [e]; omega) (by rw [e]; omega), e]
      congr 1
      push_cast
      omega
/-- A row lifted is what Open tells of its Pis lifted. -/
theorem lifts_walk {ts : List Tm} {n : Int} (hok : ∀ t ∈ ts, TmOK t) (hl : ts.length + depthsT ts ≤ 4611686018427387904) : liftsT ts n 0 = walkA (liftF n 0) 0 ts := by
  refine List.ext_getElem (by rw [liftsT_len, walkA_len]) fun j h1 h2 => ?_
  have hj : j < ts.length := by rw [liftsT_len] at h1; exact h1
  have hdep := depthsT_get hj
  rw [walkA_get _ _ _ j hj h2 (by omega) (by omega)]
  have e := lift_down n ts[j] 0 j 0 (hok _ (List.getElem_mem hj)) (by omega) (by omega) (by omega) (by omega)
  rw [e]
  have ew : wrap64 (0 + (j : Int)) = 0 + (j : Int) := by unfold wrap64; omega
  simp only [liftsT, List.getElem_ofFn, liftT, ew]
  rfl
end Go.Proofs.YtgbokmphbimihaaDoor
/- source: plain laws: the rows of a right block are right. No statement of the seat is proved here. -/
namespace Go.Proofs.YtgbokmphbimihaaDoor
set_option linter.unusedSimpArgs false
set_option linter.unusedVariables false
open Go.RowKit

/-- The terms of a row, each below those ahead, are right. -/
def RowAll (ds : List Dc) (n sf sc : Int) (ts : List Tm) : Prop := ∀ (j : Nat) (h : j < ts.length), allQ ds n sf (sc + j) ts[j] = true
theorem allQ_pi {ds : List Dc} {n sf sc : Int} {t u : Tm} (h0 : 0 ≤ sc) (h1 : sc ≤ 1000000) (ht : allQ ds n sf sc t = true) (hu : allQ ds n sf (sc + 1) u = true) : allQ ds n sf sc (.mk 4 0 0 [] [t, u]) = true := by
  rw [allQ_mk]
  refine ⟨rfl, rfl, fun j hj => ?_⟩
  have d0 : ∀ b : Int, downI 4 ((0 : Nat) : Int) b = b := fun b => by unfold downI; rw [if_neg (by decide +kernel)]
  have d1 : ∀ b : Int, downI 4 ((1 : Nat) : Int) b = wrap64 (b + 1) := fun b => by unfold downI; rw [if_pos (by decide +kernel)]
  match j, hj with
  | 0, _ => rw [d0]; exact ht
  | 1, _ => rw [d1, show wrap64 (sc + 1) = sc + 1 by unfold wrap64; omega]; exact hu
theorem allQ_above {ds : List Dc} {n sf : Int} {u : Tm} : ∀ (ts : List Tm) (sc : Int), 0 ≤ sc → sc + ts.length ≤ 1000000 → RowAll ds n sf sc ts → allQ ds n sf (sc + ts.length) u = true → allQ ds n sf sc (aboveT 4 ts u) = true
  | [], sc, _, _, _, hu => by simpa [aboveT] using hu
  | t :: ts, sc, h0, h1, h, hu => by
    simp only [List.length_cons] at h1 hu
    push_cast at h1 hu
    rw [aboveT]
    refine allQ_pi h0 (by omega) (by have := h 0 (by simp); rw [show sc + ((0 : Nat) : Int) = sc by simp] at this; exact this) (allQ_above ts (sc + 1) (by omega) (by omega) (fun j hj => ?_) (by rw [show sc + 1 + (ts.length : Int) = sc + ((ts.length : Int) + 1) by omega]; exact hu))
    have := h (j + 1) (by simpa using hj)
    rw [show sc + ((j + 1 : Nat) : Int) = sc + 1 + (j : Int) by push_cast; omega] at this
    simpa using this
theorem rowQ_all {ds : List Dc} {n sc sf : Int} : ∀ (ts : List Tm) (i : Nat), 0 ≤ sc → sc + i + ts.length ≤ 1000000 → rowQ ds n sc sf i ts = true → RowAll ds n sf (sc + i) ts
  | [], _, _, _, _ => fun j h => by simp at h
  | t :: ts, i, h0, h1, h => fun j hj => by
    simp only [List.length_cons] at h1
    push_cast at h1
    rw [rowQ, Bool.and_eq_true] at h
    cases j with
    | zero =>
      have h2 := h.1
      unfold srcQ at h2
      rw [Bool.and_eq_true, show wrap64 (sc + (i : Int)) = sc + i by unfold wrap64; omega, clamp_in (by omega) (by omega)] at h2
      simpa using h2.2
    | succ j =>
      have := rowQ_all ts (i + 1) h0 (by push_cast; omega) h.2 j (by simpa using hj)
      rw [show sc + ((i + 1 : Nat) : Int) + (j : Int) = sc + i + ((j + 1 : Nat) : Int) by push_cast; omega] at this
      simpa using this
theorem rowQ_at {ds : List Dc} {n sc sf : Int} : ∀ {ts : List Tm} {i j : Nat}, rowQ ds n sc sf i ts = true → (hj : j < ts.length) → srcQ ds n (wrap64 (sc + ((i + j : Nat) : Int))) sf ts[j] = true
  | [], _, _, _, hj => by simp at hj
  | t :: ts, i, 0, h, _ => by rw [rowQ, Bool.and_eq_true] at h; simpa using h.1
  | t :: ts, i, j + 1, h, hj => by
    rw [rowQ, Bool.and_eq_true] at h
    have := rowQ_at (i := i + 1) (j := j) h.2 (by simpa using hj)
    rw [show i + 1 + j = i + (j + 1) by omega] at this
    simpa using this
theorem allQ_up {ds : List Dc} {n sf sf' sc : Int} {t : Tm} (hf : sf ≤ sf') (h0 : 0 ≤ sc) (hd : sc + depthT t ≤ 1000000) (h : allQ ds n sf sc t = true) : allQ ds n sf' sc t = true := by
  have := allQ_mono (es := []) (Int.le_refl n) hf t sc sc h0 (Int.le_refl _) (by omega) h
  rwa [List.append_nil] at this
def sortT (l : Lv) : Tm := .mk 2 0 0 [l] []
theorem allQ_sort {ds : List Dc} {n sf sc : Int} {l : Lv} (h : lvRight n l = true) : allQ ds n sf sc (sortT l) = true := by
  unfold sortT
  rw [allQ_mk]
  refine ⟨rfl, lvsQ_iff.2 (by simpa using h), fun j hj => by simp at hj⟩
/-- SourceRows: a definition, an axiom. -/
theorem rows_def {ds : List Dc} {d : Dc} (h : declQ ds d = true) (hk : d.kind ≠ 3) : declQ ds ⟨1, d.levels, d.ty, .mk 0 0 0 [] [], [], [], [], []⟩ = true ∧ (d.kind = 1 ∨ d.kind = 2) := by
  unfold declQ at h ⊢
  rw [if_neg hk] at h
  rw [if_neg (by simp)]
  simp only [Bool.and_eq_true] at h ⊢
  obtain ⟨h1, h2, h3, h4⟩ := h
  refine ⟨⟨h1, rfl, h3, rfl⟩, ?_⟩
  by_cases k1 : d.kind = 1
  · exact .inl k1
  · rw [if_neg k1, Bool.and_eq_true, decide_eq_true_eq] at h4
    exact .inr h4.1
theorem block_parts {ds : List Dc} {d : Dc} (h : declQ ds d = true) (hk : d.kind = 3) : lvRight d.levels d.sort = true ∧ d.params.length ≤ 6 ∧ rowQ ds d.levels 0 0 0 d.params = true ∧ d.members.length ≤ 8 ∧ (∀ m ∈ d.members, m.index.length ≤ 6 ∧ rowQ ds d.levels (d.params.length : Int) 0 0 m.index = true) ∧
    (∀ c ∈ d.ctors, c.member < d.members.length ∧ srcQ ds d.levels (d.params.length : Int) (d.members.length : Int) c.ty = true) := by
  unfold declQ at h
  rw [if_pos hk, Bool.and_eq_true] at h
  have h2 := h.2
  unfold blockQ headQ at h2
  simp only [Bool.and_eq_true, decide_eq_true_eq, List.all_eq_true] at h2
  obtain ⟨⟨⟨⟨⟨⟨⟨h3, h4⟩, h5⟩, h6⟩, h7⟩, h8⟩, h9⟩, h10, h11, h12⟩ := h2
  refine ⟨h4, by omega, h10, by omega, fun m hm => ?_, fun c hc => ?_⟩
  · have := h11 m hm
    unfold mbQ at this
    simp only [Bool.and_eq_true, decide_eq_true_eq] at this
    exact ⟨by omega, this.2⟩
  · have := h12 c hc
    unfold ctQ at this
    simp only [Bool.and_eq_true, decide_eq_true_eq] at this
    exact ⟨this.1.2, this.2⟩
/-- SourceRows: a member's type. -/
theorem rows_member {ds : List Dc} {d : Dc} (h : declQ ds d = true) (hk : d.kind = 3) {m : Mb} (hm : m ∈ d.members) : srcQ ds d.levels 0 0 (aboveT 4 d.params (aboveT 4 m.index (sortT d.sort))) = rightQ (aboveT 4 d.params (aboveT 4 m.index (sortT d.sort))) := by
  obtain ⟨h1, h2, h3, h4, h5, h6⟩ := block_parts h hk
  obtain ⟨g1, g2⟩ := h5 m hm
  have : allQ ds d.levels 0 (clamp 0) (aboveT 4 d.params (aboveT 4 m.index (sortT d.sort))) = true := by
    rw [clamp_in (by omega) (by omega)]
    refine allQ_above _ 0 (by omega) (by omega) (rowQ_all _ 0 (by omega) (by omega) h3) ?_
    have := rowQ_all _ 0 (by omega) (by omega) g2
    rw [Int.zero_add]
    refine allQ_above _ _ (by omega) (by omega) (by simpa using this) (allQ_sort h1)
  unfold srcQ
  rw [this, Bool.and_true]
/-- SourceRows: a constructor's type. -/
theorem rows_ctor {ds : List Dc} {d : Dc} (h : declQ ds d = true) (hk : d.kind = 3) {c : Ct} (hc : c ∈ d.ctors) : srcQ ds d.levels 0 (d.members.length : Int) (aboveT 4 d.params c.ty) = rightQ (aboveT 4 d.params c.ty) ∧ c.member < d.members.length := by
  obtain ⟨h1, h2, h3, h4, h5, h6⟩ := block_parts h hk
  obtain ⟨g1, g2⟩ := h6 c hc
  refine ⟨?_, g1⟩
  have : allQ ds d.levels (d.members.length : Int) (clamp 0) (aboveT 4 d.params c.ty) = true := by
    rw [clamp_in (by omega) (by omega)]
    have hrow := rowQ_all _ 0 (by omega) (by omega) h3
    refine allQ_above _ 0 (by omega) (by omega) (fun j hj => ?_) ?_
    · have hq := hrow j hj
      have hj2 := rowQ_at h3 hj
      have := right_depth (src_right hj2)
      exact allQ_up (sf := 0) (by omega) (by omega) (by omega) (by simpa using hq)
    · unfold srcQ at g2
      rw [Bool.and_eq_true, clamp_in (by omega) (by omega)] at g2
      rw [Int.zero_add]
      exact g2.2
  unfold srcQ
  rw [this, Bool.and_true]
end Go.Proofs.YtgbokmphbimihaaDoor
