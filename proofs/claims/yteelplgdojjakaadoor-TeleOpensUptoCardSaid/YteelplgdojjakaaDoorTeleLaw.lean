/- tele: plain laws: what Pis lays Open takes off; counts, sizes, spines; walks through Pis. No statement of the seat is proved here. -/
import Derived.Test.YteelplgdojjakaaDoorPut
import Derived.Test.YteelplgdojjakaaDoorSize
namespace Go.Proofs.YteelplgdojjakaaDoor
set_option linter.unusedSimpArgs false
set_option linter.unusedVariables false
open Go.RowKit

theorem openT_above (ts : List Tm) (b : Tm) (m : Nat) : openT (ts.length + m) (aboveT 4 ts b) = (openT m b).map fun p => (ts ++ p.1, p.2) := by
  induction ts with
  | nil => simp [aboveT]
  | cons t ts ih =>
    rw [List.length_cons, show ts.length + 1 + m = ts.length + m + 1 by omega, aboveT, openT, if_pos rfl, ih]
    simp [Option.map_map, Function.comp_def]
theorem openT_few (ts : List Tm) (b : Tm) {m : Nat} (h : m ≤ ts.length) : openT m (aboveT 4 ts b) = some (ts.take m, aboveT 4 (ts.drop m) b) := by
  induction ts generalizing m with
  | nil => obtain rfl : m = 0 := by simpa using h
           simp [openT, aboveT]
  | cons t ts ih =>
    cases m with
    | zero => simp [openT]
    | succ m =>
      rw [aboveT, openT, if_pos rfl, ih (by simpa using h)]
      simp
theorem openT_many : ∀ (n : Nat) (t : Tm), countT t < n → openT n t = none
  | 0, _, h => by omega
  | n + 1, t, h => by
    by_cases h42 : t.k = 4 ∧ t.ks.length = 2
    · rw [openT_step h42.1 h42.2, openT_many n _ (by have := countT_step h42.1 h42.2; omega)]
      rfl
    · exact openT_stop h42
theorem countT_above (ts : List Tm) (b : Tm) : countT (aboveT 4 ts b) = ts.length + countT b := by
  induction ts with
  | nil => simp [aboveT]
  | cons t ts ih => rw [aboveT, countT, if_pos rfl, ih, List.length_cons]; omega
theorem sizeT_above (k : Int) (ts : List Tm) (b : Tm) : sizeT (aboveT k ts b) = sizesT ts + ts.length + sizeT b := by
  induction ts with
  | nil => simp [aboveT, sizesT]
  | cons t ts ih => rw [aboveT, sizeT, sizesT, sizesT, sizesT, ih, sizesT, List.length_cons]; omega
/-- A term's spine: its head, its arguments. -/
def spineT : Tm → Tm × List Tm
  | .mk k n a ls [f, x] => if k = 6 then ((spineT f).1, (spineT f).2 ++ [x]) else (.mk k n a ls [f, x], [])
  | t => (t, [])
theorem spineT_apps (f : Tm) (l : List Tm) : spineT (appsT f l) = ((spineT f).1, (spineT f).2 ++ l) := by
  induction l generalizing f with
  | nil => simp [appsT]
  | cons x l ih =>
    have h := ih (.mk 6 0 0 [] [f, x])
    rw [spineT, if_pos rfl] at h
    simpa [appsT] using h
/-- Has no node of a spine anything but its kids? -/
def cleanT : Tm → Bool
  | .mk k n a ls [f, _] => if k = 6 then decide (n = 0) && decide (a = 0) && ls.isEmpty && cleanT f else true
  | _ => true
theorem appsT_append (f : Tm) (l m : List Tm) : appsT f (l ++ m) = appsT (appsT f l) m := by simp [appsT]
theorem apps_spine : ∀ t : Tm, cleanT t = true → appsT (spineT t).1 (spineT t).2 = t
  | .mk k n a ls [f, x], h => by
    rw [spineT]
    rw [cleanT] at h
    by_cases h6 : k = 6
    · rw [if_pos h6] at h ⊢
      simp only [Bool.and_eq_true, decide_eq_true_eq, List.isEmpty_iff] at h
      obtain ⟨⟨⟨rfl, rfl⟩, rfl⟩, hf⟩ := h
      dsimp only
      rw [appsT_append, apps_spine f hf, h6]
      rfl
    · rw [if_neg h6]; rfl
  | .mk k n a ls [], _ => by simp [spineT, appsT]
  | .mk k n a ls [_], _ => by simp [spineT, appsT]
  | .mk k n a ls (_ :: _ :: _ :: _), _ => by simp [spineT, appsT]
/-- A row walked: each behind those ahead. -/
def walkA (f : Turn) (b : Int) : List Tm → List Tm
  | [] => []
  | t :: ts => walkT f b t :: walkA f (wrap64 (b + 1)) ts
def walkE (b : Int) : Nat → Int
  | 0 => b
  | n + 1 => walkE (wrap64 (b + 1)) n
theorem walkT_above {f : Turn} (hf : ∀ b ks, f b (.mk 4 0 0 [] ks) = .inr (4, 0, 0, [])) (ts : List Tm) (t : Tm) (b : Int) : walkT f b (aboveT 4 ts t) = aboveT 4 (walkA f b ts) (walkT f (walkE b ts.length) t) := by
  induction ts generalizing b with
  | nil => simp [aboveT, walkA, walkE]
  | cons x ts ih =>
    rw [aboveT, walkT, hf, walkA, aboveT]
    simp only [walkTs, List.length_cons, walkE]
    have d0 : downI 4 ((0 : Nat) : Int) b = b := by unfold downI; rw [if_neg (by decide +kernel)]
    have d1 : downI 4 ((0 + 1 : Nat) : Int) b = wrap64 (b + 1) := by unfold downI; rw [if_pos (by decide +kernel)]
    rw [d0, d1, ih]
theorem liftF_pi (n fr : Int) : ∀ b ks, liftF n fr b (.mk 4 0 0 [] ks) = .inr (4, 0, 0, []) := by intro b ks; simp [liftF, outer, Tm.k_mk, Tm.n_mk, Tm.a_mk, Tm.ls_mk]
theorem putF_pi (by_ : List Tm) : ∀ b ks, putF by_ b (.mk 4 0 0 [] ks) = .inr (4, 0, 0, []) := by intro b ks; simp [putF, Tm.k_mk, Tm.n_mk, Tm.a_mk, Tm.ls_mk]
theorem walkA_len (f : Turn) (ts : List Tm) : ∀ b, (walkA f b ts).length = ts.length := by
  induction ts with
  | nil => intro b; rfl
  | cons t ts ih => intro b; simp [walkA, ih]
/-- Open behind Lift, behind Put. -/
theorem open_lift (ts : List Tm) (t : Tm) (n fr : Int) : openT ts.length (liftT (aboveT 4 ts t) n fr) = some (walkA (liftF n fr) 0 ts, walkT (liftF n fr) (walkE 0 ts.length) t) := by
  rw [liftT, walkT_above (liftF_pi n fr)]
  have := openT_above (walkA (liftF n fr) 0 ts) (walkT (liftF n fr) (walkE 0 ts.length) t) 0
  rw [walkA_len] at this
  simpa [openT] using this
theorem open_put (ts : List Tm) (t : Tm) (by_ : List Tm) : openT ts.length (putT (aboveT 4 ts t) by_) = some (walkA (putF by_) 0 ts, walkT (putF by_) (walkE 0 ts.length) t) := by
  rw [putT, walkT_above (putF_pi by_)]
  have := openT_above (walkA (putF by_) 0 ts) (walkT (putF by_) (walkE 0 ts.length) t) 0
  rw [walkA_len] at this
  simpa [openT] using this
/-- A lift below more binders is one of later variables. -/
theorem outer_down {b i fr : Int} {t : Tm} (hn : inI t.n) (hb : 0 ≤ b) (hi : 0 ≤ i) (hfr : 0 ≤ fr) (hd : b + i + fr ≤ 4611686018427387904) : outer (b + i) fr t = outer b (fr + i) t := by
  unfold inI at hn
  unfold outer
  by_cases h1 : b + i ≤ t.n
  · have e1 : wrap64 (t.n - (b + i)) = t.n - (b + i) := by unfold wrap64; omega
    have e2 : wrap64 (t.n - b) = t.n - b := by unfold wrap64; omega
    rw [e1, e2, decide_eq_true h1, decide_eq_true (show b ≤ t.n by omega)]
    congr 1
    exact decide_eq_decide.2 (by omega)
  · by_cases h2 : b ≤ t.n
    · have e2 : wrap64 (t.n - b) = t.n - b := by unfold wrap64; omega
      rw [e2, decide_eq_false h1, decide_eq_false (show ¬ fr + i ≤ t.n - b by omega)]
      simp
    · rw [decide_eq_false h1, decide_eq_false h2]
      simp
theorem lift_down (n : Int) : ∀ (t : Tm) (b i fr : Int), TmOK t → 0 ≤ b → 0 ≤ i → 0 ≤ fr → b + i + fr + depthT t ≤ 4611686018427387904 → walkT (liftF n fr) (b + i) t = walkT (liftF n (fr + i)) b t := by
  intro t
  induction t using Tm.ind_ with
  | h k m a ls ks ih =>
  intro b i fr h hb hi hfr hd
  cases h with
  | mk h1 h2 h3 h =>
  rw [depthT] at hd
  have hs : ∀ (ts : List Tm) (j : Nat), (∀ t ∈ ts, t ∈ ks ∧ depthT t ≤ depthsT ks) → walkTs (liftF n fr) k (b + i) j ts = walkTs (liftF n (fr + i)) k b j ts := by
    intro ts
    induction ts with
    | nil => intro j _; rfl
    | cons t ts ihs =>
      intro j hm
      obtain ⟨hmem, hdep⟩ := hm t (by simp)
      have hdown : downI k j (b + i) = downI k j b + i ∧ 0 ≤ downI k j b ∧ downI k j b ≤ b + 1 := by
        unfold downI
        push_cast at hd
        split
        · unfold wrap64; omega
        · omega
      rw [walkTs, walkTs, hdown.1, ih t hmem _ _ _ (h t hmem) hdown.2.1 hi hfr (by push_cast at hd; omega), ihs _ fun t ht => hm t (by simp [ht])]
  have ho := outer_down (t := .mk k m a ls ks) (b := b) (i := i) (fr := fr) h2 hb hi hfr (by push_cast at hd; omega)
  simp only [walkT, liftF, ho]
  rw [hs ks 0 fun t ht => ⟨ht, by obtain ⟨j, hj, rfl⟩ := List.getElem_of_mem ht; exact depthsT_get hj⟩]
theorem walkA_get (f : Turn) (ts : List Tm) : ∀ (b : Int) (j : Nat) (hj : j < ts.length) (h' : j < (walkA f b ts).length), 0 ≤ b → b + ts.length ≤ 4611686018427387904 → (walkA f b ts)[j] = walkT f (b + j) ts[j] := by
  induction ts with
  | nil => intro b j hj; simp at hj
  | cons t ts ih =>
    intro b j hj h' hb hl
    simp only [List.length_cons] at hl
    push_cast at hl
    cases j with
    | zero => simp [walkA]
    | succ j =>
      have e : wrap64 (b + 1) = b + 1 := by unfold wrap64; omega
      simp only [walkA, List.getElem_cons_succ]
      rw [ih _ j (by simpa using hj) _ (by rw [e]; omega) (by rw [e]; omega), e]
      congr 1
      push_cast
      omega
/-- A row lifted is what Open tells of its Pis lifted. -/
theorem lifts_walk {ts : List Tm} {n : Int} (hok : ∀ t ∈ ts, TmOK t) (hl : ts.length + depthsT ts ≤ 4611686018427387904) : liftsT ts n 0 = walkA (liftF n 0) 0 ts := by
  refine List.ext_getElem (by rw [liftsT_len, walkA_len]) fun j h1 h2 => ?_
  have hj : j < ts.length := by rw [liftsT_len] at h1; exact h1
  have hdep := depthsT_get hj
  rw [walkA_get _ _ _ j hj h2 (by omega) (by omega)]
  have e := lift_down n ts[j] 0 j 0 (hok _ (List.getElem_mem hj)) (by omega) (by omega) (by omega) (by omega)
  rw [e]
  have ew : wrap64 (0 + (j : Int)) = 0 + (j : Int) := by unfold wrap64; omega
  simp only [liftsT, List.getElem_ofFn, liftT, ew]
  rfl
end Go.Proofs.YteelplgdojjakaaDoor
