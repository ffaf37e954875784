/- term: Size: contract. No statement of the seat is proved here. -/
import Derived.Test.YtmedomglemllnaaDoorMgPut
import Derived.Test.YtmedomglemllnaaDoorMgSpine
import Derived.Test.YtmedomglemllnaaDoorMgRev
namespace Go.Proofs.YtmedomglemllnaaDoor
set_option linter.unusedSimpArgs false
set_option linter.unusedVariables false
open Go.RowKit

mutual
/-- How many nodes a term has. -/
def sizeT : Tm → Nat
  | .mk _ _ _ _ ks => sizesT ks + 1
def sizesT : List Tm → Nat
  | [] => 0
  | t :: ts => sizeT t + sizesT ts
end
theorem sizesT_append (a b : List Tm) : sizesT (a ++ b) = sizesT a + sizesT b := by
  induction a with
  | nil => simp [sizesT]
  | cons t a ih => rw [List.cons_append, sizesT, sizesT, ih]; omega
theorem sizesT_take {ts : List Tm} {j : Nat} (h : j < ts.length) : sizesT (ts.take (j + 1)) = sizesT (ts.take j) + sizeT ts[j] := by
  rw [List.take_succ_eq_append_getElem h, sizesT_append]
  simp [sizesT]
theorem sizeT_eq (t : Tm) : sizeT t = sizesT t.ks + 1 := by cases t; rw [sizeT]; rfl
theorem wrapAdd (a b : Int) : wrap64 (wrap64 a + wrap64 b) = wrap64 (a + b) := by unfold wrap64; omega
def SizeOK (t : Tm) : Prop := ∀ (w : World) (S : Nat → Prop) (v : Value), TV w S t v → Calls Tryd.prog 28 #[v] w (PV w (.int .i64 (wrap64 (sizeT t : Nat))))
set_option maxRecDepth 100000 in
set_option maxHeartbeats 2000000 in
theorem size_calls : ∀ t : Tm, SizeOK t := by
  intro t
  induction t using Tm.ind_ with
  | h tk tn ta ls ks ih =>
  rintro w S v ⟨A0, ca, K0, ck, rfl, hrc⟩
  obtain ⟨_, _, _, _, he, i1, i2, i3, hls, hks⟩ := RC.tm.1 hrc
  simp only [List.cons.injEq, Value.slice.injEq, and_true, true_and] at he
  obtain ⟨⟨rfl, rfl⟩, rfl, rfl⟩ := he
  simp only [Tm.k_mk, Tm.n_mk, Tm.a_mk, Tm.ls_mk, Tm.ks_mk] at *
  have IH := Lib.hid ih
  have hM := hks.lenM
  clear ih hrc
  have HSZ := Lib.hid (sizeT_eq (.mk tk tn ta ls ks))
  go_enter Tryd.func28, Tryd.ntmps28
  go_wp2_with fail
  have H := Hp.start no w
  go_loopw [3, 9] (fun n i wr => ∃ j : Nat, j ≤ ks.length ∧ i = .int .i64 j ∧ n = .int .i64 (wrap64 ((sizesT (ks.take j) : Nat) + 1)) ∧ Hp no w wr [.box w.heap.size 26 [.int .i64 tk, .int .i64 tn, .int .i64 ta, .slice A0 ls.length ca, .slice K0 ks.length ck]]) (fun _ i _ => ks.length - (intOf i).toNat)
  case atStart => exact ⟨0, Nat.zero_le _, rfl, by simp [sizesT, wrap64], by (repeat (first | with_reducible exact H | with_reducible exact H0_ | with_reducible apply Hp.alloc | with_reducible apply Hp.allocMap | with_reducible apply Hp.drew | with_reducible apply Hp.drewN | with_reducible apply Hp.set)); (try any_goals (repeat (first | with_reducible exact Upd.head | with_reducible apply Upd.tail)))⟩
  case round =>
    clear H
    obtain ⟨j, hj, rfl, rfl, H⟩ := hrel
    by_cases hlt : j < ks.length
    · obtain ⟨b, o, A1, ca1, K1, ck1, rfl, hb, hS, hd, p0, p1, p2, p3, p4⟩ := hks.atTm hlt
      have HD := Lib.hid hd
      have HS := Lib.hid (sizesT_take hlt)
      clear hd
      have hr_ := H.rules; simp only [Rules, and_true] at hr_; have hd_ := H.dif; simp only [Dif, Neq, and_true] at hd_; obtain ⟨ho_, hz_⟩ := H.old0
      go_wp2_with ((with_reducible refine atStore (t := 26) ?_); go_must (refine wpList_storeH (t := 26) rfl rfl (by go_simp <;> first | rfl | exact ⟨rfl, rfl⟩) (by go_simp <;> first | rfl | exact ⟨rfl, rfl⟩) (by exact Hp.norm (by (repeat (first | with_reducible exact H | with_reducible exact H0_ | with_reducible apply Hp.alloc | with_reducible apply Hp.allocMap | with_reducible apply Hp.drew | with_reducible apply Hp.drewN | with_reducible apply Hp.set)); (try any_goals (repeat (first | with_reducible exact Upd.head | with_reducible apply Upd.tail)))) (by ((try simp only [size_drew_, size_drewN_, World.size_alloc, World.size_setCell, List.set_cons_zero, List.set_cons_succ, List.nil_append, List.cons_append]) <;> rfl))) (by (repeat (first | with_reducible exact Upd.head | with_reducible apply Upd.tail))) (by exact aggTerm) (by rfl) (by simp [Value.oneCell']) ?_; clear H; intro w7 H; (try simp only [size_drew_, size_drewN_, World.size_alloc, World.size_setCell, List.set_cons_zero, List.set_cons_succ] at H); (try clear hr_ hd_ ho_ hz_); have hr_ := H.rules; simp only [Rules, and_true] at hr_; have hd_ := H.dif; simp only [Dif, Neq, and_true] at hd_; obtain ⟨ho_, hz_⟩ := H.old0))
      clear hr_ hd_ ho_ hz_
      refine callsH (by (repeat (first | with_reducible exact H | with_reducible exact H0_ | with_reducible apply Hp.alloc | with_reducible apply Hp.allocMap | with_reducible apply Hp.drew | with_reducible apply Hp.drewN | with_reducible apply Hp.set)); (try any_goals (repeat (first | with_reducible exact Upd.head | with_reducible apply Upd.tail)))) ?_
      clear H; intro w8 H; (try simp only [size_drew_, size_drewN_, World.size_alloc, World.size_setCell, List.set_cons_zero, List.set_cons_succ] at H)
      refine (IH.out _ (List.getElem_mem hlt) _ _ _ ⟨_, _, _, _, rfl, HD.out.ext0 H.ext⟩).mono ?_
      rintro e w_ ⟨rfl, hx⟩
      replace H := H.call hx
      clear hx
      go_wp2_with fail
      go_roundw
      case rel => exact ⟨j + 1, by omega, by go_num, by rw [HS.out, wrapAdd, Int.natCast_add, Int.add_right_comm], (H.arr (by (repeat (first | with_reducible exact Arr.nil | refine Arr.cons (by (repeat (first | with_reducible exact Pick.head | with_reducible apply Pick.tail))) ?_)) <;> exact Arr.of_subl (by (repeat (first | with_reducible exact Subl.refl _ | with_reducible apply Subl.drop)))))⟩
      case measure => simp [intOf]; omega
    · go_wp2_with fail
      go_ret
      have h1 := HSZ.out
      simp only [Tm.ks_mk] at h1
      rw [take_all hlt]
      exact ⟨by rw [h1]; push_cast; rfl, H.ext⟩
end Go.Proofs.YtmedomglemllnaaDoor
/- tele: plain laws: what Pis lays Open takes off; counts, sizes, spines; walks through Pis. No statement of the seat is proved here. -/
namespace Go.Proofs.YtmedomglemllnaaDoor
set_option linter.unusedSimpArgs false
set_option linter.unusedVariables false
open Go.RowKit

theorem openT_above (ts : List Tm) (b : Tm) (m : Nat) : openT (ts.length + m) (aboveT 4 ts b) = (openT m b).map fun p => (ts ++ p.1, p.2) := by
  induction ts with
  | nil => simp [aboveT]
  | cons t ts ih =>
    rw [List.length_cons, show ts.length + 1 + m = ts.length + m + 1 by omega, aboveT, openT, if_pos rfl, ih]
    simp [Option.map_map, Function.comp_def]
theorem openT_few (ts : List Tm) (b : Tm) {m : Nat} (h : m ≤ ts.length) : openT m (aboveT 4 ts b) = some (ts.take m, aboveT 4 (ts.drop m) b) := by
  induction ts generalizing m with
  | nil => obtain rfl : m = 0 := by simpa using h
           simp [openT, aboveT]
  | cons t ts ih =>
    cases m with
    | zero => simp [openT]
    | succ m =>
      rw [aboveT, openT, if_pos rfl, ih (by simpa using h)]
      simp
theorem openT_many : ∀ (n : Nat) (t : Tm), countT t < n → openT n t = none
  | 0, _, h => by omega
  | n + 1, t, h => by
    by_cases h42 : t.k = 4 ∧ t.ks.length = 2
    · rw [openT_step h42.1 h42.2, openT_many n _ (by have := countT_step h42.1 h42.2; omega)]
      rfl
    · exact openT_stop h42
theorem countT_above (ts : List Tm) (b : Tm) : countT (aboveT 4 ts b) = ts.length + countT b := by
  induction ts with
  | nil => simp [aboveT]
  | cons t ts ih => rw [aboveT, countT, if_pos rfl, ih, List.length_cons]; omega
theorem sizeT_above (k : Int) (ts : List Tm) (b : Tm) : sizeT (aboveT k ts b) = sizesT ts + ts.length + sizeT b := by
  induction ts with
  | nil => simp [aboveT, sizesT]
  | cons t ts ih => rw [aboveT, sizeT, sizesT, sizesT, sizesT, ih, sizesT, List.length_cons]; omega
/-- A term's spine: its head, its arguments. -/
def spineT : Tm → Tm × List Tm
  | .mk k n a ls [f, x] => if k = 6 then ((spineT f).1, (spineT f).2 ++ [x]) else (.mk k n a ls [f, x], [])
  | t => (t, [])
theorem spineT_apps (f : Tm) (l : List Tm) : spineT (appsT f l) = ((spineT f).1, (spineT f).2 ++ l) := by
  induction l generalizing f with
  | nil => simp [appsT]
  | cons x l ih =>
    have h := ih (.mk 6 0 0 [] [f, x])
    rw [spineT, if_pos rfl] at h
    simpa [appsT] using h
/-- Has no node of a spine anything but its kids? -/
def cleanT : Tm → Bool
  | .mk k n a ls [f, _] => if k = 6 then decide (n = 0) && decide (a = 0) && ls.isEmpty && cleanT f else true
  | _ => true
theorem appsT_append (f : Tm) (l m : List Tm) : appsT f (l ++ m) = appsT (appsT f l) m := by simp [appsT]
theorem apps_spine : ∀ t : Tm, cleanT t = true → appsT (spineT t).1 (spineT t).2 = t
  | .mk k n a ls [f, x], h => by
    rw [spineT]
    rw [cleanT] at h
    by_cases h6 : k = 6
    · rw [if_pos h6] at h ⊢
      simp only [Bool.and_eq_true, decide_eq_true_eq, List.isEmpty_iff] at h
      obtain ⟨⟨⟨rfl, rfl⟩, rfl⟩, hf⟩ := h
      dsimp only
      rw [appsT_append, apps_spine f hf, h6]
      rfl
    · rw [if_neg h6]; rfl
  | .mk k n a ls [], _ => by simp [spineT, appsT]
  | .mk k n a ls [_], _ => by simp [spineT, appsT]
  | .mk k n a ls (_ :: _ :: _ :: _), _ => by simp [spineT, appsT]
/-- A row walked: each behind those ahead. -/
def walkA (f : Turn) (b : Int) : List Tm → List Tm
  | [] => []
  | t :: ts => walkT f b t :: walkA f (wrap64 (b + 1)) ts
def walkE (b : Int) : Nat → Int
  | 0 => b
  | n + 1 => walkE (wrap64 (b + 1)) n
theorem walkT_above {f : Turn} (hf : ∀ b ks, f b (.mk 4 0 0 [] ks) = .inr (4, 0, 0, [])) (ts : List Tm) (t : Tm) (b : Int) : walkT f b (aboveT 4 ts t) = aboveT 4 (walkA f b ts) (walkT f (walkE b ts.length) t) := by
  induction ts generalizing b with
  | nil => simp [aboveT, walkA, walkE]
  | cons x ts ih =>
    rw [aboveT, walkT, hf, walkA, aboveT]
    simp only [walkTs, List.length_cons, walkE]
    have d0 : downI 4 ((0 : Nat) : Int) b = b := by unfold downI; rw [if_neg (by decide +kernel)]
    have d1 : downI 4 ((0 + 1 : Nat) : Int) b = wrap64 (b + 1) := by unfold downI; rw [if_pos (by decide +kernel)]
    rw [d0, d1, ih]
theorem liftF_pi (n fr : Int) : ∀ b ks, liftF n fr b (.mk 4 0 0 [] ks) = .inr (4, 0, 0, []) := by intro b ks; simp [liftF, outer, Tm.k_mk, Tm.n_mk, Tm.a_mk, Tm.ls_mk]
theorem putF_pi (by_ : List Tm) : ∀ b ks, putF by_ b (.mk 4 0 0 [] ks) = .inr (4, 0, 0, []) := by intro b ks; simp [putF, Tm.k_mk, Tm.n_mk, Tm.a_mk, Tm.ls_mk]
theorem walkA_len (f : Turn) (ts : List Tm) : ∀ b, (walkA f b ts).length = ts.length := by
  induction ts with
  | nil => intro b; rfl
  | cons t ts ih => intro b; simp [walkA, ih]
/-- Open behind Lift, behind Put. -/
theorem open_lift (ts : List Tm) (t : Tm) (n fr : Int) : openT ts.length (liftT (aboveT 4 ts t) n fr) = some (walkA (liftF n fr) 0 ts, walkT (liftF n fr) (walkE 0 ts.length) t) := by
  rw [liftT, walkT_above (liftF_pi n fr)]
  have := openT_above (walkA (liftF n fr) 0 ts) (walkT (liftF n fr) (walkE 0 ts.length) t) 0
  rw [walkA_len] at this
  simpa [openT] using this
theorem open_put (ts : List Tm) (t : Tm) (by_ : List Tm) : openT ts.length (putT (aboveT 4 ts t) by_) = some (walkA (putF by_) 0 ts, walkT (putF by_) (walkE 0 ts.length) t) := by
  rw [putT, walkT_above (putF_pi by_)]
  have := openT_above (walkA (putF by_) 0 ts) (walkT (putF by_) (walkE 0 ts.length) t) 0
  rw [walkA_len] at this
  simpa [openT] using this
/-- A lift below more binders is one of later variables. -/
theorem outer_down {b i fr : Int} {t : Tm} (hn : inI t.n) (hb : 0 ≤ b) (hi : 0 ≤ i) (hfr : 0 ≤ fr) (hd : b + i + fr ≤ 4611686018427387904) : outer (b + i) fr t = outer b (fr + i) t := by
  unfold inI at hn
  unfold outer
  by_cases h1 : b + i ≤ t.n
  · have e1 : wrap64 (t.n - (b + i)) = t.n - (b + i) := by unfold wrap64; omega
    have e2 : wrap64 (t.n - b) = t.n - b := by unfold wrap64; omega
    rw [e1, e2, decide_eq_true h1, decide_eq_true (show b ≤ t.n by omega)]
    congr 1
    exact decide_eq_decide.2 (by omega)
  · by_cases h2 : b ≤ t.n
    · have e2 : wrap64 (t.n - b) = t.n - b := by unfold wrap64; omega
      rw [e2, decide_eq_false h1, decide_eq_false (show ¬ fr + i ≤ t.n - b by omega)]
      simp
    · rw [decide_eq_false h1, decide_eq_false h2]
      simp
theorem lift_down (n : Int) : ∀ (t : Tm) (b i fr : Int), TmOK t → 0 ≤ b → 0 ≤ i → 0 ≤ fr → b + i + fr + depthT t ≤ 4611686018427387904 → walkT (liftF n fr) (b + i) t = walkT (liftF n (fr + i)) b t := by
  intro t
  induction t using Tm.ind_ with
  | h k m a ls ks ih =>
  intro b i fr h hb hi hfr hd
  cases h with
  | mk h1 h2 h3 h =>
  rw [depthT] at hd
  have hs : ∀ (ts : List Tm) (j : Nat), (∀ t ∈ ts, t ∈ ks ∧ depthT t ≤ depthsT ks) → walkTs (liftF n fr) k (b + i) j ts = walkTs (liftF n (fr + i)) k b j ts := by
    intro ts
    induction ts with
    | nil => intro j _; rfl
    | cons t ts ihs =>
      intro j hm
      obtain ⟨hmem, hdep⟩ := hm t (by simp)
      have hdown : downI k j (b + i) = downI k j b + i ∧ 0 ≤ downI k j b ∧ downI k j b ≤ b + 1 := by
        unfold downI
        push_cast at hd
        split
        · unfold wrap64; omega
        · omega
      rw [walkTs, walkTs, hdown.1, ih t hmem _ _ _ (h t hmem) hdown.2.1 hi hfr (by push_cast at hd; omega), ihs _ fun t ht => hm t (by simp [ht])]
  have ho := outer_down (t := .mk k m a ls ks) (b := b) (i := i) (fr := fr) h2 hb hi hfr (by push_cast at hd; omega)
  simp only [walkT, liftF, ho]
  rw [hs ks 0 fun t ht => ⟨ht, by obtain ⟨j, hj, rfl⟩ := List.getElem_of_mem ht; exact depthsT_get hj⟩]
theorem walkA_get (f : Turn) (ts : List Tm) : ∀ (b : Int) (j : Nat) (hj : j < ts.length) (h' : j < (walkA f b ts).length), 0 ≤ b → b + ts.length ≤ 4611686018427387904 → (walkA f b ts)[j] = walkT f (b + j) ts[j] := by
  induction ts with
  | nil => intro b j hj; simp at hj
  | cons t ts ih =>
    intro b j hj h' hb hl
    simp only [List.length_cons] at hl
    push_cast at hl
    cases j with
    | zero => simp [walkA]
    | succ j =>
      have e : wrap64 (b + 1) = b + 1 := by unfold wrap64; omega
      simp only [walkA, List.getElem_cons_succ]
      rw [ih _ j (by simpa using hj) _ (by rw [e]; omega) (by rw [e]; omega), e]
      congr 1
      push_cast
      omega
/-- A row lifted is what Open tells of its Pis lifted. -/
theorem lifts_walk {ts : List Tm} {n : Int} (hok : ∀ t ∈ ts, TmOK t) (hl : ts.length + depthsT ts ≤ 4611686018427387904) : liftsT ts n 0 = walkA (liftF n 0) 0 ts := by
  refine List.ext_getElem (by rw [liftsT_len, walkA_len]) fun j h1 h2 => ?_
  have hj : j < ts.length := by rw [liftsT_len] at h1; exact h1
  have hdep := depthsT_get hj
  rw [walkA_get _ _ _ j hj h2 (by omega) (by omega)]
  have e := lift_down n ts[j] 0 j 0 (hok _ (List.getElem_mem hj)) (by omega) (by omega) (by omega) (by omega)
  rw [e]
  have ew : wrap64 (0 + (j : Int)) = 0 + (j : Int) := by unfold wrap64; omega
  simp only [liftsT, List.getElem_ofFn, liftT, ew]
  rfl
end Go.Proofs.YtmedomglemllnaaDoor
/- tele: Spine: contract. No statement of the seat is proved here. -/
namespace Go.Proofs.YtmedomglemllnaaDoor
set_option linter.unusedSimpArgs false
set_option linter.unusedVariables false
open Go.RowKit
attribute [local go_sem] Oper.semAt_some

section
variable {P : Program} {ops : Array Oper} {Q : Exit → Act → World → Prop} {X : Nat → Prop} {w0 w : World} {l l' : List Ch} {a : Act}
/-- A region of a round that draws its order, read by way of the state. -/
theorem regionRnH {L nn id : Nat} {lr : List Ch} {is : List Nat} (n : Nat) (l0 : List Bool) (late : List Nat) (H : Hp X w0 w l) (hs : Sel l is lr) (hd : ops.all noDefer = true) (hL : ¬ LetsOut Q) (hm : P.follows .mixedOrders = true) (hn : ops.size = n) (hl : List.replicate n false = l0)
    (h : Hp X w0 w.drew l → Rd X w0 w.drew lr → wpL P .any ops Q (fun w' => Rd X w0 w' lr) late n l0.toArray a w.drew) : (Code.region id ops true).wpIn (Rn L) nn P Q a w :=
  regionRnD late hd hL hm (by
    subst hn
    rw [← List.toArray_replicate, hl]
    exact h H.drew (H.drew.sel hs))
end
theorem spineT_step {t : Tm} (h6 : t.k = 6) (h2 : t.ks.length = 2) : spineT t = ((spineT (t.ks[0]'(by omega))).1, (spineT (t.ks[0]'(by omega))).2 ++ [t.ks[1]'(by omega)]) := by
  obtain ⟨k, n, a, ls, x, y, rfl⟩ := Tm.two h2
  simp only [Tm.k_mk] at h6
  rw [spineT, if_pos h6]
  rfl
theorem spineT_stop {t : Tm} (h : ¬ (t.k = 6 ∧ t.ks.length = 2)) : spineT t = (t, []) := by
  obtain ⟨k, n, a, ls, ks⟩ := t
  match ks with
  | [] => simp [spineT]
  | [_] => simp [spineT]
  | [x, y] =>
    rw [spineT, if_neg]
    intro e
    exact h ⟨e, rfl⟩
  | _ :: _ :: _ :: _ => simp [spineT]
/-- The last element of a row of terms is written over by an own term. -/
theorem Hp.lastSet {w0 w : World} {l : List Ch} {us : List Tm} {x : Tm} {c1 sp : List Value} {a0 a1 a2 a3 a4 : Value} {g c : Nat} (H : Hp no w0 w (.box g 26 (c1 ++ (a0 :: a1 :: a2 :: a3 :: a4 :: sp)) :: .dat (.s (us.map Tm.d)) c1 :: .dat x.d [a0, a1, a2, a3, a4] :: l))
    (hl : c1.length = us.length * 5) (hc : c1.length + 5 + sp.length = c * 5) (h2 : c ≤ maxLen) (hM : us.length + 1 ≤ M) : Hp no w0 w (.dat (.l 26 5 ((us ++ [x]).map Tm.d)) [.slice (some ⟨g, 0, none⟩) (us.length + 1) c] :: l) := by
  have H1 := (H.pick (.tail (.tail .head))).one
  have H2 := H1.join (a := us.map Tm.d) (b := [x.d]) (c1 := c1) (c2 := [a0, a1, a2, a3, a4]) (.tail (.tail .head)) .head
  have e : c1 ++ (a0 :: a1 :: a2 :: a3 :: a4 :: sp) = (c1 ++ [a0, a1, a2, a3, a4]) ++ sp := by simp
  rw [e] at H2
  have H3 := H2.boxraw' (z := 5) (n := us.length + 1) (c := c) (.tail .head) (by simp; omega) (by simp; omega) (by omega) h2
  have H4 := H3.mkrow .head .head (by simp) (fun d hd => by
    simp only [List.mem_append, List.mem_map, List.mem_singleton] at hd
    rcases hd with ⟨t, _, rfl⟩ | rfl <;> exact Tm.size_d _) hM
  simpa using H4
/-- The row of a term and zero behind it, taken apart: a box, its cells. -/
theorem Hp.lastBox {w0 w : World} {l l' : List Ch} {us : List Tm} {x : Tm} {v : Value} (H : Hp no w0 w l) (p : Pick l (.dat (.l 26 5 (us.map Tm.d ++ [x.d])) [v]) l') :
    ∃ g c c1 sp z0 z1 z2 z3 z4, v = .slice (some ⟨g, 0, none⟩) (us.length + 1) c ∧ c1.length = us.length * 5 ∧ c1.length + 5 + List.length sp = c * 5 ∧ c ≤ maxLen ∧ us.length + 1 ≤ c ∧ us.length + 1 ≤ M ∧
      Hp no w0 w (.box g 26 (c1 ++ (z0 :: z1 :: z2 :: z3 :: z4 :: sp)) :: .dat (.s (us.map Tm.d)) c1 :: l') := by
  obtain ⟨_, _, _, _, _, hM⟩ := H.slice p
  obtain ⟨es, hes, H1⟩ := H.unrow p
  obtain ⟨g, c, rfl, hc, _⟩ := H1.rawAt .head (by simp)
  obtain ⟨sp, hl, hl2, _, hl4, H2⟩ := H1.rawbox .head
  obtain ⟨c1, c2, rfl, l1, l2, H3⟩ := H2.cut (.tail .head)
  rw [sizes_tms] at l1
  obtain ⟨z0, z1, z2, z3, z4, rfl⟩ := five_of (by rw [l2]; simp [D.sizes, Tm.size_d])
  have e : (c1 ++ [z0, z1, z2, z3, z4]) ++ sp = c1 ++ (z0 :: z1 :: z2 :: z3 :: z4 :: sp) := by simp
  simp only [List.length_append, List.length_map, List.length_cons, List.length_nil, Nat.zero_add] at hl2 hc hM
  refine ⟨g, c, c1, sp, z0, z1, z2, z3, z4, by simp, l1, by omega, hl4, hc, hM, ?_⟩
  rw [e] at H3
  exact H3.arr (.cons (.tail (.tail .head)) (.cons .head (Arr.of_subl (.drop (Subl.refl _)))))
/-- What Spine tells: the head, the arguments. -/
def PSpine (w : World) (p : Tm × List Tm) (e : Ending) (w' : World) : Prop :=
  ∃ B cb K kb A c, e = .returned (.tuple #[.agg #[.int .i64 p.1.k, .int .i64 p.1.n, .int .i64 p.1.a, .slice B p.1.ls.length cb, .slice K p.1.ks.length kb], .slice A p.2.length c]) ∧
    Hp no w w' [.dat p.1.d [.int .i64 p.1.k, .int .i64 p.1.n, .int .i64 p.1.a, .slice B p.1.ls.length cb, .slice K p.1.ks.length kb], .dat (.l 26 5 (p.2.map Tm.d)) [.slice A p.2.length c]]
def zeroC : List Value := [.int .i64 0, .int .i64 0, .int .i64 0, .slice none 0 0, .slice none 0 0]
theorem last5 {c1 sp : List Value} {z0 z1 z2 z3 z4 : Value} {n : Nat} (h : c1.length = n * 5) : (c1 ++ (z0 :: z1 :: z2 :: z3 :: z4 :: sp))[n * 5]? = some z0 ∧ (c1 ++ (z0 :: z1 :: z2 :: z3 :: z4 :: sp))[n * 5 + 1]? = some z1 ∧ (c1 ++ (z0 :: z1 :: z2 :: z3 :: z4 :: sp))[n * 5 + 2]? = some z2 ∧ (c1 ++ (z0 :: z1 :: z2 :: z3 :: z4 :: sp))[n * 5 + 3]? = some z3 ∧ (c1 ++ (z0 :: z1 :: z2 :: z3 :: z4 :: sp))[n * 5 + 4]? = some z4 := by
  rw [← h]
  simp [List.getElem?_append_right]
set_option maxRecDepth 100000 in
set_option maxHeartbeats 8000000 in
theorem teleSpine {S : Nat → Prop} {t : Tm} {w : World} {v : Value} (hT : Tab w) (h : TV w S t v) (hb : (spineT t).2.length ≤ 4000000000) : Calls Tryd.prog 97 #[v] w (PSpine w (spineT t)) := by
  obtain ⟨A0, ca, K0, ck, rfl, hrc⟩ := h
  have HT := Lib.hid hT
  have HRC := Lib.hid hrc
  have HB := Lib.hid hb
  clear hT hrc hb
  have H := Hp.start no w
  refine enterM Tryd.func97 rfl ?_
  simp only [Tryd.ntmps97, List.size_toArray, List.length_cons, List.length_nil, Nat.reduceAdd, Nat.reduceSub, Array.replicate_succ, Array.replicate_zero, List.push_toArray, List.append_toArray, List.nil_append, List.cons_append]
  go_wp2_with fail
  refine callsH (by (repeat (first | with_reducible exact H | with_reducible exact H0_ | with_reducible apply Hp.alloc | with_reducible apply Hp.allocMap | with_reducible apply Hp.drew | with_reducible apply Hp.drewN | with_reducible apply Hp.set)); (try any_goals (repeat (first | with_reducible exact Upd.head | with_reducible apply Upd.tail)))) ?_
  clear H; intro w1 H; (try simp only [size_drew_, size_drewN_, World.size_alloc, World.size_setCell, List.set_cons_zero, List.set_cons_succ] at H)
  refine (spine_calls H).mono ?_
  rintro e w2 ⟨g1, rfl, H2⟩
  clear H
  have H := H2
  clear H2
  go_wp2_with fail
  refine wp_rangeH H rfl (enters_of Tryd.func190 (by kernel_rfl) rfl) ?_
  intro fn D L rc w3 hDL hrc H3
  clear H
  refine (spine1 (g := w.heap.size) (g1 := g1) (w0 := w) (S := S) (fun u l => ∃ (us : List Tm) (A : Option Addr) (c : Nat), Hid (spineT t = ((spineT u).1, (spineT u).2 ++ us.reverse)) ∧ l = [.obj L (.loop (rc .ready none)), .obj D (.deferred (some [])), .box (w.heap.size + 1 + 1) 24 [.slice A us.length c], .box (w.heap.size + 1) 26 [.int .i64 0, .int .i64 0, .int .i64 0, .slice none 0 0, .slice none 0 0], .dat (.l 26 5 (us.map Tm.d)) [.slice A us.length c]]) ?round
    (t := t) ⟨[], none, 0, Lib.hid (by simp), rfl⟩ HRC.out ?start).mono ?_
  case start =>
    have H := H3.nil 26 5
    simp only [List.length_nil, List.map_nil]
    exact (H.arr (by (repeat (first | with_reducible exact Arr.nil | refine Arr.cons (by (repeat (first | with_reducible exact Pick.head | with_reducible apply Pick.tail))) ?_)) <;> exact Arr.of_subl (by (repeat (first | with_reducible exact Subl.refl _ | with_reducible apply Subl.drop)))))
  case round =>
    rintro u h2 B K cb kb C D' cc kc l W h6 ⟨us, A, c, HS, rfl⟩ hd0 hd1 H
    clear H3
    have HRR := Lib.hid hrc
    have HD0 := Lib.hid hd0
    have HD1 := Lib.hid hd1
    have HSS := Lib.hid (spineT_step h6 h2)
    have HST := Lib.hid h2
    clear hd0 hd1 h6
    have H := H.pick (.tail (.tail .head))
    refine roundH hrc H rfl ?_
    clear hrc
    refine regionRn (by kernel_rfl) (no_letsThen fun ⟨_, _, h⟩ => h) ?_
    have hr_ := H.rules; simp only [Rules, and_true] at hr_; have hd_ := H.dif; simp only [Dif, Neq, and_true] at hd_; obtain ⟨ho_, hz_⟩ := H.old0
    go_wp2_with fail
    clear hr_ hd_ ho_ hz_
    refine ⟨_, (H.alloc [_, _, _, _, _] 26).swap, fun w5 H5 => ?_⟩
    clear H
    have H := H5
    clear H5
    refine wpIn_block ?_
    have hub : us.length + 1 ≤ 4000000000 := by
      have h1 := HB.out
      rw [HS.out, HSS.out] at h1
      simp at h1
      omega
    refine regionRnH 9 [false, false, false, false, false, false, false, false, false] [5, 7, 8] H (.cons (i := 1) rfl (.cons (i := 5) rfl .nil)) (by kernel_rfl) (fun ⟨_, _, h⟩ => h) (by kernel_rfl) rfl rfl (fun H_ hR_ => ?_)
    (try clear H0_); have H0_ := H; clear H; have H := H_; clear H_
    refine wpL_reads (is := [(0, ?v1_0), (1, ?v1_1), (3, ?v1_2)]) (by kernel_rfl) (Nat.le_of_ble_eq_true rfl) (by intro _ _ d_ _ _ h_; cases d_ <;> exact h_) (by kernel_rfl) hR_ (fun w_ hw_ => ?h1_) ?_
    case h1_ =>
      have ho_ := hw_.old0.1; have hz_ := hw_.old0.2; have hr_ := hw_.rules; clear hw_; simp only [Rules, and_true] at hr_; go_split_ands
      (repeat (first | with_reducible exact RdOps.nil | (refine RdOps.run rfl (by rfl) ?_ ?_; (focus (first | (go_simp; done) | (go_simp; with_reducible rfl))); simp only [List.getElem_toArray, List.getElem_cons_zero, List.getElem_cons_succ, Act.put, List.setIfInBounds_toArray, List.set_cons_zero, List.set_cons_succ]) | (refine RdOps.skip rfl (by rfl) ?_; simp only [List.getElem_toArray, List.getElem_cons_zero, List.getElem_cons_succ, Act.put, List.setIfInBounds_toArray, List.set_cons_zero, List.set_cons_succ])))
    simp only [rdMark, rdAct, List.map_cons, List.map_nil, List.length_cons, List.length_nil, Nat.reduceAdd, Nat.reduceSub, Nat.zero_add, List.getElem?_toArray, List.getElem?_cons_zero, List.getElem?_cons_succ, Option.bind_some, Act.put, List.setIfInBounds_toArray, List.set_cons_zero, List.set_cons_succ]
    refine wpL_many (is := [2, 4]) (by kernel_rfl) (by simp) ?_
    simp only [List.forall_mem_cons]
    refine ⟨?_, ?_, fun _ h => by cases h⟩
    · refine wpOp_do (i := 2) rfl (by rfl) (fun K_ hK_ => ?_)
      go_simp
      refine (teleOwn (HT.out.ext H.ext) ⟨_, _, _, _, rfl, HD1.out.ext0 H.ext⟩).mono ?_
      rintro e w_ ⟨v, rfl, hto, hx⟩
      obtain ⟨E1, Ec, E2, Ek, rfl, H_⟩ := H.resTm hx hto
      clear H hx hto
      have H := H_
      clear H_
      refine hK_ _ _ (fun _ => H.sub (by simp)) (fun hR_ => ?_)
      replace hR_ := hR_ (by decide)
      refine wpL_do (i := 4) rfl (by kernel_rfl) (by rfl) (fun K_ hK_ => ?_)
      go_simp
      refine kontH (by (repeat (first | with_reducible exact H | with_reducible exact H0_ | with_reducible apply Hp.alloc | with_reducible apply Hp.allocMap | with_reducible apply Hp.drew | with_reducible apply Hp.drewN | with_reducible apply Hp.set)); (try any_goals (repeat (first | with_reducible exact Upd.head | with_reducible apply Upd.tail)))) ?_
      clear H; intro wb H; (try simp only [size_drew_, size_drewN_, World.size_alloc, World.size_setCell, List.set_cons_zero, List.set_cons_succ] at H)
      refine hK_ _ _ (fun _ => H.sub (by simp)) (fun hR_ => ?_)
      replace hR_ := hR_ (by decide)
      simp only [List.getElem_toArray, List.getElem_cons_zero, List.getElem_cons_succ, Act.put, List.setIfInBounds_toArray, List.set_cons_zero, List.set_cons_succ]
      have H := (H.nil 26 5).nil 33 1
      have H := H.tm (k := 0) (n := 0) (a := 0) (ls := []) (ks := []) .head .head (by unfold inI; omega) (by unfold inI; omega) (by unfold inI; omega)
      refine wpL_do (i := 5) rfl (by kernel_rfl) (by rfl) (fun K_ hK_ => ?_)
      refine wp_pushH (.tmp 8) (.tmp 12) 24 rfl stTerms (by go_simp <;> first | rfl | exact ⟨rfl, rfl⟩) (by go_simp <;> first | rfl | exact ⟨rfl, rfl⟩) H (by (repeat (first | with_reducible exact Pick.head | with_reducible apply Pick.tail))) (by (repeat (first | with_reducible exact Pick.head | with_reducible apply Pick.tail))) (by (repeat (first | with_reducible exact Pick.head | with_reducible apply Pick.tail))) (Tm.size_d _) ?_ ?_
      focus (simp [M]; omega)
      clear H; intro v' w6 H
      obtain ⟨g', c', c1, sp, z0, z1, z2, z3, z4, rfl, hl1, hl2, hl3, hl4, hl5, H_⟩ := H.lastBox (x := .mk 0 0 0 [] []) (by (repeat (first | with_reducible exact Pick.head | with_reducible apply Pick.tail)))
      clear H
      have H := H_
      clear H_
      refine hK_ _ _ (fun h => absurd (by decide) h) (fun _ => ?_)
      have F := last5 (sp := sp) (z0 := z0) (z1 := z1) (z2 := z2) (z3 := z3) (z4 := z4) hl1
      have HL1 := Lib.hid hl1
      have HL2 := Lib.hid hl2
      clear hl1 hl2
      obtain ⟨F0, F1, F2, F3, F4⟩ := F
      refine wpL_takeF (i := 6) (v := .pointer (some ⟨g', us.length * 5, none⟩)) rfl (by kernel_rfl) (fun _ _ _ h => h) (by rfl) (fun w_ => by go_simp <;> (intro h; omega)) ?_
      simp only [List.getElem_toArray, List.getElem_cons_zero, List.getElem_cons_succ, Act.put, List.setIfInBounds_toArray, List.set_cons_zero, List.set_cons_succ]
      refine wpL_many (is := [7, 8]) (by kernel_rfl) (by simp) ?_
      simp only [List.forall_mem_cons]
      refine ⟨?_, ?_, fun _ h => by cases h⟩
      · refine wpOp_do (i := 7) rfl (by rfl) (fun K_ hK_ => ?_)
        have hrs_ := H.rules
        simp only [Rules, and_true] at hrs_
        go_simp
        clear hrs_ F0 F1 F2 F3 F4
        refine kontH (by (repeat (first | with_reducible exact H | with_reducible exact H0_ | with_reducible apply Hp.alloc | with_reducible apply Hp.allocMap | with_reducible apply Hp.drew | with_reducible apply Hp.drewN | with_reducible apply Hp.set)); (try any_goals (repeat (first | with_reducible exact Upd.head | with_reducible apply Upd.tail)))) ?_
        clear H; intro w7 H; (try simp only [size_drew_, size_drewN_, World.size_alloc, World.size_setCell, List.set_cons_zero, List.set_cons_succ] at H)
        rw [set5 HL1.out] at H
        refine hK_ _ _ (fun h => absurd (by decide) h) (fun _ => ?_)
        refine wpL_do (i := 8) rfl (by kernel_rfl) (by rfl) (fun K_ hK_ => ?_)
        have hrs_ := H.rules
        simp only [Rules, and_true] at hrs_
        go_simp
        clear hrs_
        refine kontH (by (repeat (first | with_reducible exact H | with_reducible exact H0_ | with_reducible apply Hp.alloc | with_reducible apply Hp.allocMap | with_reducible apply Hp.drew | with_reducible apply Hp.drewN | with_reducible apply Hp.set)); (try any_goals (repeat (first | with_reducible exact Upd.head | with_reducible apply Upd.tail)))) ?_
        clear H; intro w8 H; (try simp only [size_drew_, size_drewN_, World.size_alloc, World.size_setCell, List.set_cons_zero, List.set_cons_succ] at H)
        refine hK_ _ _ (fun h => absurd (by decide) h) (fun _ => ?_)
        refine wpL_done (by kernel_rfl) ?_ _
        have H := Hp.lastSet (x := u.ks[1]) (us := us) (((H.pick (c := .dat u.ks[1].d _) (by (repeat (first | with_reducible exact Pick.head | with_reducible apply Pick.tail)))).pick (c := .dat (.s (us.map Tm.d)) c1) (.tail (by (repeat (first | with_reducible exact Pick.head | with_reducible apply Pick.tail))))).pick (c := .box g' 26 _) (.tail (.tail (by (repeat (first | with_reducible exact Pick.head | with_reducible apply Pick.tail)))))) HL1.out HL2.out hl3 (by unfold M; omega)
        go_wp2_with fail
        refine endH (by (repeat (first | with_reducible exact H | with_reducible exact H0_ | with_reducible apply Hp.alloc | with_reducible apply Hp.allocMap | with_reducible apply Hp.drew | with_reducible apply Hp.drewN | with_reducible apply Hp.set)); (try any_goals (repeat (first | with_reducible exact Upd.head | with_reducible apply Upd.tail)))) ?_
        clear H; intro w9 H; (try simp only [size_drew_, size_drewN_, World.size_alloc, World.size_setCell, List.set_cons_zero, List.set_cons_succ] at H)
        refine roundNext HRR.out H (by (repeat (first | with_reducible exact Pick.head | with_reducible apply Pick.tail))) (fun w10 H10 => ?_)
        clear H
        have H := H10
        clear H10
        refine ⟨rfl, [.obj L (.loop (rc .ready none)), .obj D (.deferred (some [])), .box (w.heap.size + 1 + 1) 24 [.slice (some ⟨g', 0, none⟩) (us.length + 1) c'], .box (w.heap.size + 1) 26 [.int .i64 0, .int .i64 0, .int .i64 0, .slice none 0 0, .slice none 0 0], .dat (.l 26 5 ((us ++ [u.ks[1]]).map Tm.d)) [.slice (some ⟨g', 0, none⟩) (us.length + 1) c']], ⟨us ++ [u.ks[1]], Lib.hid ?_, some ⟨g', 0, none⟩, c', by simp⟩, ?_⟩
        · rw [HS.out, HSS.out]; simp
        · exact (H.arr (by (repeat (first | with_reducible exact Arr.nil | refine Arr.cons (by (repeat (first | with_reducible exact Pick.head | with_reducible apply Pick.tail))) ?_)) <;> exact Arr.of_subl (by (repeat (first | with_reducible exact Subl.refl _ | with_reducible apply Subl.drop)))))
      · refine wpOp_do (i := 8) rfl (by rfl) (fun K_ hK_ => ?_)
        have hrs_ := H.rules
        simp only [Rules, and_true] at hrs_
        go_simp
        clear hrs_
        refine kontH (by (repeat (first | with_reducible exact H | with_reducible exact H0_ | with_reducible apply Hp.alloc | with_reducible apply Hp.allocMap | with_reducible apply Hp.drew | with_reducible apply Hp.drewN | with_reducible apply Hp.set)); (try any_goals (repeat (first | with_reducible exact Upd.head | with_reducible apply Upd.tail)))) ?_
        clear H; intro w8 H; (try simp only [size_drew_, size_drewN_, World.size_alloc, World.size_setCell, List.set_cons_zero, List.set_cons_succ] at H)
        refine hK_ _ _ (fun h => absurd (by decide) h) (fun _ => ?_)
        refine wpL_do (i := 7) rfl (by kernel_rfl) (by rfl) (fun K_ hK_ => ?_)
        have hrs_ := H.rules
        simp only [Rules, and_true] at hrs_
        go_simp
        clear hrs_ F0 F1 F2 F3 F4
        refine kontH (by (repeat (first | with_reducible exact H | with_reducible exact H0_ | with_reducible apply Hp.alloc | with_reducible apply Hp.allocMap | with_reducible apply Hp.drew | with_reducible apply Hp.drewN | with_reducible apply Hp.set)); (try any_goals (repeat (first | with_reducible exact Upd.head | with_reducible apply Upd.tail)))) ?_
        clear H; intro w7 H; (try simp only [size_drew_, size_drewN_, World.size_alloc, World.size_setCell, List.set_cons_zero, List.set_cons_succ] at H)
        rw [set5 HL1.out] at H
        refine hK_ _ _ (fun h => absurd (by decide) h) (fun _ => ?_)
        refine wpL_done (by kernel_rfl) ?_ _
        have H := Hp.lastSet (x := u.ks[1]) (us := us) (((H.pick (c := .dat u.ks[1].d _) (by (repeat (first | with_reducible exact Pick.head | with_reducible apply Pick.tail)))).pick (c := .dat (.s (us.map Tm.d)) c1) (.tail (by (repeat (first | with_reducible exact Pick.head | with_reducible apply Pick.tail))))).pick (c := .box g' 26 _) (.tail (.tail (by (repeat (first | with_reducible exact Pick.head | with_reducible apply Pick.tail)))))) HL1.out HL2.out hl3 (by unfold M; omega)
        go_wp2_with fail
        refine endH (by (repeat (first | with_reducible exact H | with_reducible exact H0_ | with_reducible apply Hp.alloc | with_reducible apply Hp.allocMap | with_reducible apply Hp.drew | with_reducible apply Hp.drewN | with_reducible apply Hp.set)); (try any_goals (repeat (first | with_reducible exact Upd.head | with_reducible apply Upd.tail)))) ?_
        clear H; intro w9 H; (try simp only [size_drew_, size_drewN_, World.size_alloc, World.size_setCell, List.set_cons_zero, List.set_cons_succ] at H)
        refine roundNext HRR.out H (by (repeat (first | with_reducible exact Pick.head | with_reducible apply Pick.tail))) (fun w10 H10 => ?_)
        clear H
        have H := H10
        clear H10
        refine ⟨rfl, [.obj L (.loop (rc .ready none)), .obj D (.deferred (some [])), .box (w.heap.size + 1 + 1) 24 [.slice (some ⟨g', 0, none⟩) (us.length + 1) c'], .box (w.heap.size + 1) 26 [.int .i64 0, .int .i64 0, .int .i64 0, .slice none 0 0, .slice none 0 0], .dat (.l 26 5 ((us ++ [u.ks[1]]).map Tm.d)) [.slice (some ⟨g', 0, none⟩) (us.length + 1) c']], ⟨us ++ [u.ks[1]], Lib.hid ?_, some ⟨g', 0, none⟩, c', by simp⟩, ?_⟩
        · rw [HS.out, HSS.out]; simp
        · exact (H.arr (by (repeat (first | with_reducible exact Arr.nil | refine Arr.cons (by (repeat (first | with_reducible exact Pick.head | with_reducible apply Pick.tail))) ?_)) <;> exact Arr.of_subl (by (repeat (first | with_reducible exact Subl.refl _ | with_reducible apply Subl.drop)))))
    · refine wpOp_do (i := 4) rfl (by rfl) (fun K_ hK_ => ?_)
      go_simp
      refine kontH (by (repeat (first | with_reducible exact H | with_reducible exact H0_ | with_reducible apply Hp.alloc | with_reducible apply Hp.allocMap | with_reducible apply Hp.drew | with_reducible apply Hp.drewN | with_reducible apply Hp.set)); (try any_goals (repeat (first | with_reducible exact Upd.head | with_reducible apply Upd.tail)))) ?_
      clear H; intro wb H; (try simp only [size_drew_, size_drewN_, World.size_alloc, World.size_setCell, List.set_cons_zero, List.set_cons_succ] at H)
      refine hK_ _ _ (fun _ => H.sub (by simp)) (fun hR_ => ?_)
      replace hR_ := hR_ (by decide)
      refine wpL_do (i := 2) rfl (by kernel_rfl) (by rfl) (fun K_ hK_ => ?_)
      go_simp
      refine (teleOwn (HT.out.ext H.ext) ⟨_, _, _, _, rfl, HD1.out.ext0 H.ext⟩).mono ?_
      rintro e w_ ⟨v, rfl, hto, hx⟩
      obtain ⟨E1, Ec, E2, Ek, rfl, H_⟩ := H.resTm hx hto
      clear H hx hto
      have H := H_
      clear H_
      refine hK_ _ _ (fun _ => H.sub (by simp)) (fun hR_ => ?_)
      replace hR_ := hR_ (by decide)
      simp only [List.getElem_toArray, List.getElem_cons_zero, List.getElem_cons_succ, Act.put, List.setIfInBounds_toArray, List.set_cons_zero, List.set_cons_succ]
      have H := (H.nil 26 5).nil 33 1
      have H := H.tm (k := 0) (n := 0) (a := 0) (ls := []) (ks := []) .head .head (by unfold inI; omega) (by unfold inI; omega) (by unfold inI; omega)
      refine wpL_do (i := 5) rfl (by kernel_rfl) (by rfl) (fun K_ hK_ => ?_)
      refine wp_pushH (.tmp 8) (.tmp 12) 24 rfl stTerms (by go_simp <;> first | rfl | exact ⟨rfl, rfl⟩) (by go_simp <;> first | rfl | exact ⟨rfl, rfl⟩) H (by (repeat (first | with_reducible exact Pick.head | with_reducible apply Pick.tail))) (by (repeat (first | with_reducible exact Pick.head | with_reducible apply Pick.tail))) (by (repeat (first | with_reducible exact Pick.head | with_reducible apply Pick.tail))) (Tm.size_d _) ?_ ?_
      focus (simp [M]; omega)
      clear H; intro v' w6 H
      obtain ⟨g', c', c1, sp, z0, z1, z2, z3, z4, rfl, hl1, hl2, hl3, hl4, hl5, H_⟩ := H.lastBox (x := .mk 0 0 0 [] []) (by (repeat (first | with_reducible exact Pick.head | with_reducible apply Pick.tail)))
      clear H
      have H := H_
      clear H_
      refine hK_ _ _ (fun h => absurd (by decide) h) (fun _ => ?_)
      have F := last5 (sp := sp) (z0 := z0) (z1 := z1) (z2 := z2) (z3 := z3) (z4 := z4) hl1
      have HL1 := Lib.hid hl1
      have HL2 := Lib.hid hl2
      clear hl1 hl2
      obtain ⟨F0, F1, F2, F3, F4⟩ := F
      refine wpL_takeF (i := 6) (v := .pointer (some ⟨g', us.length * 5, none⟩)) rfl (by kernel_rfl) (fun _ _ _ h => h) (by rfl) (fun w_ => by go_simp <;> (intro h; omega)) ?_
      simp only [List.getElem_toArray, List.getElem_cons_zero, List.getElem_cons_succ, Act.put, List.setIfInBounds_toArray, List.set_cons_zero, List.set_cons_succ]
      refine wpL_many (is := [7, 8]) (by kernel_rfl) (by simp) ?_
      simp only [List.forall_mem_cons]
      refine ⟨?_, ?_, fun _ h => by cases h⟩
      · refine wpOp_do (i := 7) rfl (by rfl) (fun K_ hK_ => ?_)
        have hrs_ := H.rules
        simp only [Rules, and_true] at hrs_
        go_simp
        clear hrs_ F0 F1 F2 F3 F4
        refine kontH (by (repeat (first | with_reducible exact H | with_reducible exact H0_ | with_reducible apply Hp.alloc | with_reducible apply Hp.allocMap | with_reducible apply Hp.drew | with_reducible apply Hp.drewN | with_reducible apply Hp.set)); (try any_goals (repeat (first | with_reducible exact Upd.head | with_reducible apply Upd.tail)))) ?_
        clear H; intro w7 H; (try simp only [size_drew_, size_drewN_, World.size_alloc, World.size_setCell, List.set_cons_zero, List.set_cons_succ] at H)
        rw [set5 HL1.out] at H
        refine hK_ _ _ (fun h => absurd (by decide) h) (fun _ => ?_)
        refine wpL_do (i := 8) rfl (by kernel_rfl) (by rfl) (fun K_ hK_ => ?_)
        have hrs_ := H.rules
        simp only [Rules, and_true] at hrs_
        go_simp
        clear hrs_
        refine kontH (by (repeat (first | with_reducible exact H | with_reducible exact H0_ | with_reducible apply Hp.alloc | with_reducible apply Hp.allocMap | with_reducible apply Hp.drew | with_reducible apply Hp.drewN | with_reducible apply Hp.set)); (try any_goals (repeat (first | with_reducible exact Upd.head | with_reducible apply Upd.tail)))) ?_
        clear H; intro w8 H; (try simp only [size_drew_, size_drewN_, World.size_alloc, World.size_setCell, List.set_cons_zero, List.set_cons_succ] at H)
        refine hK_ _ _ (fun h => absurd (by decide) h) (fun _ => ?_)
        refine wpL_done (by kernel_rfl) ?_ _
        have H := Hp.lastSet (x := u.ks[1]) (us := us) (((H.pick (c := .dat u.ks[1].d _) (by (repeat (first | with_reducible exact Pick.head | with_reducible apply Pick.tail)))).pick (c := .dat (.s (us.map Tm.d)) c1) (.tail (by (repeat (first | with_reducible exact Pick.head | with_reducible apply Pick.tail))))).pick (c := .box g' 26 _) (.tail (.tail (by (repeat (first | with_reducible exact Pick.head | with_reducible apply Pick.tail)))))) HL1.out HL2.out hl3 (by unfold M; omega)
        go_wp2_with fail
        refine endH (by (repeat (first | with_reducible exact H | with_reducible exact H0_ | with_reducible apply Hp.alloc | with_reducible apply Hp.allocMap | with_reducible apply Hp.drew | with_reducible apply Hp.drewN | with_reducible apply Hp.set)); (try any_goals (repeat (first | with_reducible exact Upd.head | with_reducible apply Upd.tail)))) ?_
        clear H; intro w9 H; (try simp only [size_drew_, size_drewN_, World.size_alloc, World.size_setCell, List.set_cons_zero, List.set_cons_succ] at H)
        refine roundNext HRR.out H (by (repeat (first | with_reducible exact Pick.head | with_reducible apply Pick.tail))) (fun w10 H10 => ?_)
        clear H
        have H := H10
        clear H10
        refine ⟨rfl, [.obj L (.loop (rc .ready none)), .obj D (.deferred (some [])), .box (w.heap.size + 1 + 1) 24 [.slice (some ⟨g', 0, none⟩) (us.length + 1) c'], .box (w.heap.size + 1) 26 [.int .i64 0, .int .i64 0, .int .i64 0, .slice none 0 0, .slice none 0 0], .dat (.l 26 5 ((us ++ [u.ks[1]]).map Tm.d)) [.slice (some ⟨g', 0, none⟩) (us.length + 1) c']], ⟨us ++ [u.ks[1]], Lib.hid ?_, some ⟨g', 0, none⟩, c', by simp⟩, ?_⟩
        · rw [HS.out, HSS.out]; simp
        · exact (H.arr (by (repeat (first | with_reducible exact Arr.nil | refine Arr.cons (by (repeat (first | with_reducible exact Pick.head | with_reducible apply Pick.tail))) ?_)) <;> exact Arr.of_subl (by (repeat (first | with_reducible exact Subl.refl _ | with_reducible apply Subl.drop)))))
      · refine wpOp_do (i := 8) rfl (by rfl) (fun K_ hK_ => ?_)
        have hrs_ := H.rules
        simp only [Rules, and_true] at hrs_
        go_simp
        clear hrs_
        refine kontH (by (repeat (first | with_reducible exact H | with_reducible exact H0_ | with_reducible apply Hp.alloc | with_reducible apply Hp.allocMap | with_reducible apply Hp.drew | with_reducible apply Hp.drewN | with_reducible apply Hp.set)); (try any_goals (repeat (first | with_reducible exact Upd.head | with_reducible apply Upd.tail)))) ?_
        clear H; intro w8 H; (try simp only [size_drew_, size_drewN_, World.size_alloc, World.size_setCell, List.set_cons_zero, List.set_cons_succ] at H)
        refine hK_ _ _ (fun h => absurd (by decide) h) (fun _ => ?_)
        refine wpL_do (i := 7) rfl (by kernel_rfl) (by rfl) (fun K_ hK_ => ?_)
        have hrs_ := H.rules
        simp only [Rules, and_true] at hrs_
        go_simp
        clear hrs_ F0 F1 F2 F3 F4
        refine kontH (by (repeat (first | with_reducible exact H | with_reducible exact H0_ | with_reducible apply Hp.alloc | with_reducible apply Hp.allocMap | with_reducible apply Hp.drew | with_reducible apply Hp.drewN | with_reducible apply Hp.set)); (try any_goals (repeat (first | with_reducible exact Upd.head | with_reducible apply Upd.tail)))) ?_
        clear H; intro w7 H; (try simp only [size_drew_, size_drewN_, World.size_alloc, World.size_setCell, List.set_cons_zero, List.set_cons_succ] at H)
        rw [set5 HL1.out] at H
        refine hK_ _ _ (fun h => absurd (by decide) h) (fun _ => ?_)
        refine wpL_done (by kernel_rfl) ?_ _
        have H := Hp.lastSet (x := u.ks[1]) (us := us) (((H.pick (c := .dat u.ks[1].d _) (by (repeat (first | with_reducible exact Pick.head | with_reducible apply Pick.tail)))).pick (c := .dat (.s (us.map Tm.d)) c1) (.tail (by (repeat (first | with_reducible exact Pick.head | with_reducible apply Pick.tail))))).pick (c := .box g' 26 _) (.tail (.tail (by (repeat (first | with_reducible exact Pick.head | with_reducible apply Pick.tail)))))) HL1.out HL2.out hl3 (by unfold M; omega)
        go_wp2_with fail
        refine endH (by (repeat (first | with_reducible exact H | with_reducible exact H0_ | with_reducible apply Hp.alloc | with_reducible apply Hp.allocMap | with_reducible apply Hp.drew | with_reducible apply Hp.drewN | with_reducible apply Hp.set)); (try any_goals (repeat (first | with_reducible exact Upd.head | with_reducible apply Upd.tail)))) ?_
        clear H; intro w9 H; (try simp only [size_drew_, size_drewN_, World.size_alloc, World.size_setCell, List.set_cons_zero, List.set_cons_succ] at H)
        refine roundNext HRR.out H (by (repeat (first | with_reducible exact Pick.head | with_reducible apply Pick.tail))) (fun w10 H10 => ?_)
        clear H
        have H := H10
        clear H10
        refine ⟨rfl, [.obj L (.loop (rc .ready none)), .obj D (.deferred (some [])), .box (w.heap.size + 1 + 1) 24 [.slice (some ⟨g', 0, none⟩) (us.length + 1) c'], .box (w.heap.size + 1) 26 [.int .i64 0, .int .i64 0, .int .i64 0, .slice none 0 0, .slice none 0 0], .dat (.l 26 5 ((us ++ [u.ks[1]]).map Tm.d)) [.slice (some ⟨g', 0, none⟩) (us.length + 1) c']], ⟨us ++ [u.ks[1]], Lib.hid ?_, some ⟨g', 0, none⟩, c', by simp⟩, ?_⟩
        · rw [HS.out, HSS.out]; simp
        · exact (H.arr (by (repeat (first | with_reducible exact Arr.nil | refine Arr.cons (by (repeat (first | with_reducible exact Pick.head | with_reducible apply Pick.tail))) ?_)) <;> exact Arr.of_subl (by (repeat (first | with_reducible exact Subl.refl _ | with_reducible apply Subl.drop)))))
  · rintro e w8 ⟨⟨v, rfl⟩, u, B, K, cb, kb, l', hn, ⟨us, A, c, HS, rfl⟩, hd, H⟩
    have HD := Lib.hid hd
    have HN := Lib.hid (spineT_stop hn)
    clear hd hn H3
    have H := H.pick (.tail (.tail .head))
    refine ⟨v, rfl, .ready, none, _, by decide, H, fun w9 H => ?_⟩
    clear hrc
    dsimp only
    have hr_ := H.rules; simp only [Rules, and_true] at hr_; have hd_ := H.dif; simp only [Dif, Neq, and_true] at hd_; obtain ⟨ho_, hz_⟩ := H.old0
    go_wp2_with fail
    clear hr_ hd_ ho_ hz_
    refine (reverse_any H (by (repeat (first | with_reducible exact Pick.head | with_reducible apply Pick.tail))) rfl).mono ?_
    rintro e w10 ⟨rfl, H2⟩
    clear H
    have H := H2
    clear H2
    go_wp2_with fail
    refine onlyNormal ?_
    refine regionH (by (repeat (first | with_reducible exact H | with_reducible exact H0_ | with_reducible apply Hp.alloc | with_reducible apply Hp.allocMap | with_reducible apply Hp.drew | with_reducible apply Hp.drewN | with_reducible apply Hp.set)); (try any_goals (repeat (first | with_reducible exact Upd.head | with_reducible apply Upd.tail)))) ?_
    clear H; intro w11 H; (try simp only [size_drew_, size_drewN_, World.size_alloc, World.size_setCell, List.set_cons_zero, List.set_cons_succ] at H)
    refine wp_region_H 5 [false, false, false, false, false] [] H (.cons (i := 1) rfl (.cons (i := 4) rfl .nil)) (by kernel_rfl) rfl rfl (fun H_ hR_ => ?_)
    (try clear H0_); have H0_ := H; clear H; have H := H_; clear H_
    refine wpL_reads (is := [(0, ?v2_0), (2, ?v2_1)]) (by kernel_rfl) (Nat.le_of_ble_eq_true rfl) (by intro _ _ d_ _ _ h_; cases d_ <;> exact h_) (by kernel_rfl) hR_ (fun w_ hw_ => ?h2_) ?_
    case h2_ =>
      have ho_ := hw_.old0.1; have hz_ := hw_.old0.2; have hr_ := hw_.rules; clear hw_; simp only [Rules, and_true] at hr_; go_split_ands
      (repeat (first | with_reducible exact RdOps.nil | (refine RdOps.run rfl (by rfl) ?_ ?_; (focus (first | (go_simp; done) | (go_simp; with_reducible rfl))); simp only [List.getElem_toArray, List.getElem_cons_zero, List.getElem_cons_succ, Act.put, List.setIfInBounds_toArray, List.set_cons_zero, List.set_cons_succ]) | (refine RdOps.skip rfl (by rfl) ?_; simp only [List.getElem_toArray, List.getElem_cons_zero, List.getElem_cons_succ, Act.put, List.setIfInBounds_toArray, List.set_cons_zero, List.set_cons_succ])))
    simp only [rdMark, rdAct, List.map_cons, List.map_nil, List.length_cons, List.length_nil, Nat.reduceAdd, Nat.reduceSub, Nat.zero_add, List.getElem?_toArray, List.getElem?_cons_zero, List.getElem?_cons_succ, Option.bind_some, Act.put, List.setIfInBounds_toArray, List.set_cons_zero, List.set_cons_succ]
    refine wpL_do (i := 1) rfl (by kernel_rfl) (by rfl) (fun K_ hK_ => ?_)
    go_simp
    refine (teleOwn (HT.out.ext H.ext) ⟨_, _, _, _, rfl, HD.out.ext0 H.ext⟩).mono ?_
    rintro e w_ ⟨v, rfl, hto, hx⟩
    obtain ⟨E1, Ec, E2, Ek, rfl, H_⟩ := H.resTm hx hto
    clear H hx hto
    have H := H_
    clear H_
    refine hK_ _ _ (fun _ => H.sub (by simp)) (fun hR_ => ?_)
    replace hR_ := hR_ (by decide)
    refine wpL_do (i := 3) rfl (by kernel_rfl) (by rfl) (fun K_ hK_ => ?_)
    refine wp_storeH rfl (by go_simp <;> first | rfl | exact ⟨rfl, rfl⟩) (by go_simp <;> first | rfl | exact ⟨rfl, rfl⟩) H (by (repeat (first | with_reducible exact Upd.head | with_reducible apply Upd.tail))) (by exact aggTerm) (by rfl) (by simp [Value.oneCell']) (fun w12 H_ => ?_)
    clear H; have H := H_; clear H_
    refine hK_ _ _ (fun _ => H.sub (by simp)) (fun hR_ => ?_)
    replace hR_ := hR_ (by decide)
    refine wpL_reads (is := [(4, ?v3_0)]) (by kernel_rfl) (Nat.le_of_ble_eq_true rfl) (by intro _ _ d_ _ _ h_; cases d_ <;> exact h_) (by kernel_rfl) hR_ (fun w_ hw_ => ?h3_) ?_
    case h3_ =>
      have ho_ := hw_.old0.1; have hz_ := hw_.old0.2; have hr_ := hw_.rules; clear hw_; simp only [Rules, and_true] at hr_; go_split_ands
      (repeat (first | with_reducible exact RdOps.nil | (refine RdOps.run rfl (by rfl) ?_ ?_; (focus (first | (go_simp; done) | (go_simp; with_reducible rfl))); simp only [List.getElem_toArray, List.getElem_cons_zero, List.getElem_cons_succ, Act.put, List.setIfInBounds_toArray, List.set_cons_zero, List.set_cons_succ]) | (refine RdOps.skip rfl (by rfl) ?_; simp only [List.getElem_toArray, List.getElem_cons_zero, List.getElem_cons_succ, Act.put, List.setIfInBounds_toArray, List.set_cons_zero, List.set_cons_succ])))
    simp only [rdMark, rdAct, List.map_cons, List.map_nil, List.length_cons, List.length_nil, Nat.reduceAdd, Nat.reduceSub, Nat.zero_add, List.getElem?_toArray, List.getElem?_cons_zero, List.getElem?_cons_succ, Option.bind_some, Act.put, List.setIfInBounds_toArray, List.set_cons_zero, List.set_cons_succ]
    refine wpL_done (by kernel_rfl) ?_ _
    go_wp2_with fail
    refine endH (by (repeat (first | with_reducible exact H | with_reducible exact H0_ | with_reducible apply Hp.alloc | with_reducible apply Hp.allocMap | with_reducible apply Hp.drew | with_reducible apply Hp.drewN | with_reducible apply Hp.set)); (try any_goals (repeat (first | with_reducible exact Upd.head | with_reducible apply Upd.tail)))) ?_
    clear H; intro w13 H; (try simp only [size_drew_, size_drewN_, World.size_alloc, World.size_setCell, List.set_cons_zero, List.set_cons_succ] at H)
    refine leaveM (v := .tuple #[.agg #[_, _, _, _, _], .slice A us.length c]) H (by (repeat (first | with_reducible exact Pick.head | with_reducible apply Pick.tail))) (fun w14 H => ⟨Res.two Tryd.results97 (H.resBox (by (repeat (first | with_reducible exact Pick.head | with_reducible apply Pick.tail))) aggTerm rfl rfl) rfl, ?_⟩)
    have e : spineT t = (u, us.reverse) := by rw [HS.out, HN.out]; simp
    rw [e]
    unfold PSpine
    dsimp only
    simp only [List.length_reverse]
    exact ⟨_, _, _, _, _, _, rfl, (H.arr (by (repeat (first | with_reducible exact Arr.nil | refine Arr.cons (by (repeat (first | with_reducible exact Pick.head | with_reducible apply Pick.tail))) ?_)) <;> exact Arr.of_subl (by (repeat (first | with_reducible exact Subl.refl _ | with_reducible apply Subl.drop)))))⟩
end Go.Proofs.YtmedomglemllnaaDoor
