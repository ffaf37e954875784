/- term.Right, source.Right and the references: what they compute, and that they tell the same; no program in sight. No statement of the seat is proved here. -/
import Derived.Test.YtgbokmphbimihaaDoorMgSrc9
namespace Go.Proofs.YtgbokmphbimihaaDoor
set_option linter.unusedSimpArgs false
set_option linter.unusedVariables false
open Go.RowKit

/-- Is a node of its kind, its levels aside? -/
def nodeB (t : Tm) : Bool := decide (1 ≤ t.k) && decide (t.k ≤ 24) && !(outI t.n || outI t.a) && decide ((t.ks.length : Int) = (kindAt t.k.toNat).2.2.2.1 + (if t.k = 24 then t.a else 0)) && (decide (t.n = 0) || (kindAt t.k.toNat).1) &&
  (decide (t.a = 0) || (kindAt t.k.toNat).2.1) && (decide ((kindAt t.k.toNat).2.2.1 < 0) || decide ((t.ls.length : Int) = (kindAt t.k.toNat).2.2.1)) && decide ((t.ls.length : Int) ≤ (if t.k = 10 then 10 else 8))
theorem nodeB_mk (k n a : Int) (ls : List Lv) (ks : List Tm) : nodeB (.mk k n a ls ks) = (decide (1 ≤ k) && decide (k ≤ 24) && !(outI n || outI a) && decide ((ks.length : Int) = (kindAt k.toNat).2.2.2.1 + (if k = 24 then a else 0)) && (decide (n = 0) || (kindAt k.toNat).1) &&
  (decide (a = 0) || (kindAt k.toNat).2.1) && (decide ((kindAt k.toNat).2.2.1 < 0) || decide ((ls.length : Int) = (kindAt k.toNat).2.2.1)) && decide ((ls.length : Int) ≤ (if k = 10 then 10 else 8))) := rfl
def nodeQ (t : Tm) : Bool := nodeB t && !(t.ls.any fun x => !lvRight 9 x)
theorem nodeQ_mk (k n a : Int) (ls : List Lv) (ks : List Tm) : nodeQ (.mk k n a ls ks) = (nodeB (.mk k n a ls ks) && !(ls.any fun x => !lvRight 9 x)) := rfl
def nodeR (t : Tm) : Bool := nodeB t && decide (t.k = 24 → t.a ≤ 20000) && !(t.ls.any fun x => !lvRight 9 x)
mutual
/-- What term.count tells, and the count behind it. -/
def cntT (d n : Int) : Tm → Bool × Int
  | .mk k m a ls ks => if d ≤ 400 ∧ n + 1 ≤ 20000 ∧ nodeQ (.mk k m a ls ks) = true then cntsT (d + 1) (n + 1) ks else (false, n + 1)
def cntsT (d n : Int) : List Tm → Bool × Int
  | [] => (true, n)
  | t :: ts => if (cntT d n t).1 = true then cntsT d (cntT d n t).2 ts else (false, (cntT d n t).2)
end
mutual
/-- What reference 02's right tells. -/
def refT (d : Int) : Tm → Int
  | .mk k m a ls ks => if d ≤ 400 ∧ nodeR (.mk k m a ls ks) = true then refsT (d + 1) 1 ks else -1
def refsT (d n : Int) : List Tm → Int
  | [] => n
  | t :: ts => if refT d t < 0 ∨ 20000 < n + refT d t then -1 else refsT d (n + refT d t) ts
end
mutual
def nodesT : Tm → Nat
  | .mk _ _ _ _ ks => 1 + nodessT ks
def nodessT : List Tm → Nat
  | [] => 0
  | t :: ts => nodesT t + nodessT ts
end
mutual
def okT (p : Tm → Bool) (d : Int) : Tm → Bool
  | .mk k m a ls ks => decide (d ≤ 400) && (p (.mk k m a ls ks) && okTs p (d + 1) ks)
def okTs (p : Tm → Bool) (d : Int) : List Tm → Bool
  | [] => true
  | t :: ts => okT p d t && okTs p d ts
end
theorem cnts_eq (ts : List Tm) (ih : ∀ t ∈ ts, ∀ d n : Int, 0 ≤ n → (cntT d n t).1 = (okT nodeQ d t && decide (n + nodesT t ≤ 20000)) ∧ ((cntT d n t).1 = true → (cntT d n t).2 = n + nodesT t)) :
    ∀ d n : Int, 0 ≤ n → n ≤ 20000 → (cntsT d n ts).1 = (okTs nodeQ d ts && decide (n + nodessT ts ≤ 20000)) ∧ ((cntsT d n ts).1 = true → (cntsT d n ts).2 = n + nodessT ts) := by
  induction ts with
  | nil => intro d n h0 h1; simp [cntsT, okTs, nodessT, h1]
  | cons t ts iht =>
    intro d n h0 h1
    obtain ⟨g1, g2⟩ := ih t (by simp) d n h0
    rw [cntsT, okTs, nodessT]
    by_cases c : (cntT d n t).1 = true
    · rw [if_pos c, g2 c]
      rw [c] at g1
      have g1 := g1.symm
      simp only [Bool.and_eq_true, decide_eq_true_eq] at g1
      obtain ⟨i1, i2⟩ := iht (fun u hu => ih u (by simp [hu])) d (n + nodesT t) (by omega) g1.2
      have e : n + (nodesT t : Int) + (nodessT ts : Int) = n + ((nodesT t + nodessT ts : Nat) : Int) := by push_cast; omega
      rw [i1, g1.1, e]
      refine ⟨by rw [Bool.true_and], fun h => ?_⟩
      rw [i2 (by rw [i1, e]; exact h), e]
    · rw [if_neg c]
      refine ⟨?_, by simp⟩
      have c' : (cntT d n t).1 = false := by simpa using c
      rw [c'] at g1
      symm
      simp only [Bool.eq_false_iff, ne_eq, Bool.and_eq_true, decide_eq_true_eq] at g1 ⊢
      rintro ⟨⟨h2, h3⟩, h4⟩
      rw [h2] at g1
      simp at g1
      push_cast at h4
      omega
theorem cnt_eq : ∀ (t : Tm) (d n : Int), 0 ≤ n → (cntT d n t).1 = (okT nodeQ d t && decide (n + nodesT t ≤ 20000)) ∧ ((cntT d n t).1 = true → (cntT d n t).2 = n + nodesT t) := by
  intro t
  induction t using Tm.ind_ with
  | h k m a ls ks ih =>
    intro d n h0
    rw [cntT, okT, nodesT]
    by_cases c : d ≤ 400 ∧ n + 1 ≤ 20000 ∧ nodeQ (.mk k m a ls ks) = true
    · rw [if_pos c]
      obtain ⟨i1, i2⟩ := cnts_eq ks ih (d + 1) (n + 1) (by omega) c.2.1
      have e : n + 1 + (nodessT ks : Int) = n + ((1 + nodessT ks : Nat) : Int) := by push_cast; omega
      rw [i1, c.2.2, decide_eq_true c.1, e]
      refine ⟨by rw [Bool.true_and, Bool.true_and], fun h => ?_⟩
      rw [i2 (by rw [i1, e]; exact h), e]
    · rw [if_neg c]
      refine ⟨?_, by simp⟩
      symm
      simp only [Bool.eq_false_iff, ne_eq, Bool.and_eq_true, decide_eq_true_eq]
      rintro ⟨⟨h1, h2, _⟩, h4⟩
      push_cast at h4
      exact c ⟨h1, by omega, h2⟩
theorem refs_eq (ts : List Tm) (ih : ∀ t ∈ ts, ∀ d : Int, refT d t = if okT nodeR d t = true ∧ nodesT t ≤ 20000 then (nodesT t : Int) else -1) :
    ∀ d n : Int, 0 ≤ n → n ≤ 20000 → refsT d n ts = if okTs nodeR d ts = true ∧ n + nodessT ts ≤ 20000 then n + nodessT ts else -1 := by
  induction ts with
  | nil => intro d n h0 h1; simp [refsT, okTs, nodessT, h1]
  | cons t ts iht =>
    intro d n h0 h1
    have g := ih t (by simp) d
    rw [refsT, okTs, nodessT]
    by_cases c : okT nodeR d t = true ∧ nodesT t ≤ 20000
    · rw [if_pos c] at g
      rw [g]
      by_cases e : 20000 < n + (nodesT t : Int)
      · rw [if_pos (.inr e), if_neg (by push_cast; omega)]
      · rw [if_neg (by omega), iht (fun u hu => ih u (by simp [hu])) d _ (by omega) (by omega), c.1]
        by_cases f : okTs nodeR d ts = true ∧ n + nodesT t + nodessT ts ≤ 20000
        · rw [if_pos f, if_pos ⟨by rw [f.1]; rfl, by have := f.2; push_cast; omega⟩]; push_cast; omega
        · rw [if_neg f, if_neg (fun h => f ⟨by have := h.1; simpa using this, by have := h.2; push_cast at this; omega⟩)]
    · rw [if_neg c] at g
      rw [g, if_pos (.inl (by omega)), if_neg]
      rintro ⟨h1, h2⟩
      simp only [Bool.and_eq_true] at h1
      exact c ⟨h1.1, by push_cast at h2; omega⟩
theorem ref_eq : ∀ (t : Tm) (d : Int), refT d t = if okT nodeR d t = true ∧ nodesT t ≤ 20000 then (nodesT t : Int) else -1 := by
  intro t
  induction t using Tm.ind_ with
  | h k m a ls ks ih =>
    intro d
    rw [refT, okT, nodesT]
    by_cases c : d ≤ 400 ∧ nodeR (.mk k m a ls ks) = true
    · rw [if_pos c, refs_eq ks ih (d + 1) 1 (by omega) (by omega), c.2, decide_eq_true c.1]
      by_cases f : okTs nodeR (d + 1) ks = true ∧ (1 : Int) + nodessT ks ≤ 20000
      · rw [if_pos f, if_pos ⟨by rw [f.1]; rfl, by have := f.2; omega⟩]; push_cast; omega
      · rw [if_neg f, if_neg (fun h => f ⟨by have := h.1; simpa using this, by have := h.2; omega⟩)]
    · rw [if_neg c, if_neg]
      rintro ⟨h1, h2⟩
      simp only [Bool.and_eq_true, decide_eq_true_eq] at h1
      exact c ⟨h1.1, h1.2.1⟩
theorem length_le_nodes (ts : List Tm) : ts.length ≤ nodessT ts := by
  induction ts with
  | nil => simp [nodessT]
  | cons t ts ih =>
    have : 1 ≤ nodesT t := by cases t; rw [nodesT]; omega
    rw [nodessT, List.length_cons]; omega
theorem nodeQR (t : Tm) (h : nodesT t ≤ 20000) : nodeR t = nodeQ t := by
  obtain ⟨k, m, a, ls, ks⟩ := t
  rw [nodesT] at h
  have hl := length_le_nodes ks
  unfold nodeR nodeQ
  cases hb : nodeB (.mk k m a ls ks)
  · rfl
  · have : decide ((Tm.mk k m a ls ks).k = 24 → (Tm.mk k m a ls ks).a ≤ 20000) = true := by
      refine decide_eq_true fun hk => ?_
      change k = 24 at hk
      change a ≤ 20000
      subst hk
      unfold nodeB at hb
      simp only [Bool.and_eq_true, decide_eq_true_eq, Tm.k_mk, Tm.a_mk, Tm.ks_mk, if_true] at hb
      have h24 : (kindAt (24 : Int).toNat).2.2.2.1 = 2 := rfl
      rw [h24] at hb
      have := hb.1.1.1.1.2
      omega
    rw [this]; rfl
theorem okTs_congr (ts : List Tm) (ih : ∀ t ∈ ts, ∀ d : Int, nodesT t ≤ 20000 → okT nodeR d t = okT nodeQ d t) : ∀ d : Int, nodessT ts ≤ 20000 → okTs nodeR d ts = okTs nodeQ d ts := by
  induction ts with
  | nil => intros; rfl
  | cons t ts iht =>
    intro d h
    rw [nodessT] at h
    rw [okTs, okTs, ih t (by simp) d (by omega), iht (fun u hu => ih u (by simp [hu])) d (by omega)]
theorem okT_congr : ∀ (t : Tm) (d : Int), nodesT t ≤ 20000 → okT nodeR d t = okT nodeQ d t := by
  intro t
  induction t using Tm.ind_ with
  | h k m a ls ks ih =>
    intro d h
    have h' := h
    rw [nodesT] at h
    rw [okT, okT, nodeQR _ h', okTs_congr ks ih (d + 1) (by omega)]
/-- Is a term right? -/
def rightQ (t : Tm) : Bool := (cntT 1 0 t).1
theorem rightQ_ref (t : Tm) : decide (0 < refT 1 t) = rightQ t := by
  unfold rightQ
  rw [(cnt_eq t 1 0 (by omega)).1, ref_eq]
  by_cases h : nodesT t ≤ 20000
  · rw [okT_congr t 1 h]
    cases okT nodeQ 1 t
    · simp
    · have : 1 ≤ nodesT t := by cases t; rw [nodesT]; omega
      rw [if_pos ⟨rfl, h⟩]
      simp; omega
  · rw [if_neg (fun c => h c.2)]
    have : ¬ ((0 : Int) + nodesT t ≤ 20000) := by omega
    rw [decide_eq_false this]
    simp
theorem rightQ_ok {t : Tm} (h : rightQ t = true) : okT nodeQ 1 t = true := by
  unfold rightQ at h
  rw [(cnt_eq t 1 0 (by omega)).1] at h
  simp only [Bool.and_eq_true] at h
  exact h.1
theorem nodeQ_num {t : Tm} (h : nodeQ t = true) : 0 ≤ t.n ∧ t.n ≤ 1048576 ∧ 1 ≤ t.k ∧ t.k ≤ 24 := by
  unfold nodeQ nodeB at h
  simp only [Bool.and_eq_true, decide_eq_true_eq, Bool.not_eq_true', Bool.or_eq_false_iff, outI, decide_eq_false_iff_not] at h
  obtain ⟨⟨⟨⟨⟨⟨⟨⟨h1, h2⟩, ⟨h3, h4⟩, h5⟩, _⟩, _⟩, _⟩, _⟩, _⟩, _⟩ := h
  exact ⟨by omega, by omega, h1, h2⟩
theorem okTs_mem {p : Tm → Bool} {d : Int} {ts : List Tm} (h : okTs p d ts = true) : ∀ t ∈ ts, okT p d t = true := by
  induction ts with
  | nil => intro t ht; cases ht
  | cons u ts ih =>
    rw [okTs, Bool.and_eq_true] at h
    intro t ht
    rcases List.mem_cons.1 ht with rfl | ht
    · exact h.1
    · exact ih h.2 t ht
theorem ok_nn : ∀ (t : Tm) (d : Int), okT nodeQ d t = true → TmNN t := by
  intro t
  induction t using Tm.ind_ with
  | h k m a ls ks ih =>
    intro d h
    rw [okT] at h
    simp only [Bool.and_eq_true] at h
    exact .mk (nodeQ_num h.2.1).1 fun u hu => ih u hu (d + 1) (okTs_mem h.2.2 u hu)
/-- What reference 11 asks a node's name. -/
def askR (ds : List Dc) (sf : Int) (t : Tm) : Bool := if t.k = 11 then decide (t.a < sf) else if t.k = 3 then constQ ds t else if t.k = 8 then memQ ds t else if t.k = 9 then ctorQ ds t else if t.k = 10 then recQ ds t else decide (1 ≤ t.k ∧ t.k ≤ 7)
mutual
/-- What reference 11's right tells. -/
def allR (ds : List Dc) (n sc sf : Int) : Int → Tm → Bool
  | dep, .mk k m a ls ks => askR ds sf (.mk k m a ls ks) && !(decide (k = 1) && decide (dep ≤ m) && decide (sc ≤ wrap64 (m - dep))) && (lvsQ n ls && allsR ds n sc sf k dep 0 ks)
def allsR (ds : List Dc) (n sc sf k : Int) (dep : Int) : Nat → List Tm → Bool
  | _, [] => true
  | i, t :: ts => allR ds n sc sf (downI k i dep) t && allsR ds n sc sf k dep (i + 1) ts
end
/-- A scope, within bounds. -/
def clamp (sc : Int) : Int := if (if sc < 0 then 0 else sc) < 1099511627776 then (if sc < 0 then 0 else sc) else 1099511627776
theorem clamp_le (sc : Int) : 0 ≤ clamp sc ∧ clamp sc ≤ 1099511627776 := by unfold clamp; omega
theorem clamp_cases (sc : Int) : (sc < 0 ∧ clamp sc = 0) ∨ (0 ≤ sc ∧ sc < 1099511627776 ∧ clamp sc = sc) ∨ (1099511627776 ≤ sc ∧ clamp sc = 1099511627776) := by
  unfold clamp
  by_cases c : sc < 0
  · left; rw [if_pos c]; exact ⟨c, by rw [if_pos (by omega)]⟩
  · right
    rw [if_neg c]
    by_cases y : sc < 1099511627776
    · left; rw [if_pos y]; omega
    · right; rw [if_neg y]; omega
theorem down_add {k : Int} {i : Nat} {c dep : Int} (h0 : 0 ≤ c) (h1 : c ≤ 1099511627776) (h2 : 0 ≤ dep) (h3 : dep ≤ 400) : downI k (i : Int) (c + dep) = c + downI k (i : Int) dep ∧ 0 ≤ downI k (i : Int) dep ∧ downI k (i : Int) dep ≤ dep + 1 := by
  unfold downI
  split
  · unfold wrap64; omega
  · omega
theorem alls_eq {ds : List Dc} {n sf sc k : Int} (ts : List Tm) (ih : ∀ t ∈ ts, ∀ d dep : Int, okT nodeQ d t = true → 0 ≤ dep → dep + 1 ≤ d → allQ ds n sf (clamp sc + dep) t = allR ds n sc sf dep t) :
    ∀ (d dep : Int) (i : Nat), okTs nodeQ (d + 1) ts = true → 0 ≤ dep → dep + 1 ≤ d → d ≤ 400 → allsQ ds n sf k (clamp sc + dep) i ts = allsR ds n sc sf k dep i ts := by
  induction ts with
  | nil => intros; rfl
  | cons t ts iht =>
    intro d dep i h h0 h1 h4
    rw [okTs, Bool.and_eq_true] at h
    obtain ⟨e1, e2, e3⟩ := down_add (k := k) (i := i) (dep := dep) (clamp_le sc).1 (clamp_le sc).2 h0 (by omega)
    rw [allsQ, allsR, e1, ih t (by simp) (d + 1) _ h.1 e2 (by omega), iht (fun u hu => ih u (by simp [hu])) d dep (i + 1) h.2 h0 h1 h4]
theorem all_eq {ds : List Dc} {n sf sc : Int} : ∀ (t : Tm) (d dep : Int), okT nodeQ d t = true → 0 ≤ dep → dep + 1 ≤ d → allQ ds n sf (clamp sc + dep) t = allR ds n sc sf dep t := by
  intro t
  induction t using Tm.ind_ with
  | h k m a ls ks ih =>
    intro d dep h h0 h1
    rw [okT] at h
    simp only [Bool.and_eq_true, decide_eq_true_eq] at h
    rw [allQ, allR, alls_eq ks ih d dep 0 h.2.2 h0 h1 h.1]
    obtain ⟨g0, g1, g2, g3⟩ := nodeQ_num h.2.1
    simp only [Tm.n_mk, Tm.k_mk] at g0 g1 g2 g3
    have h4 := h.1
    have hwd : wrap64 (m - dep) = m - dep := by unfold wrap64; omega
    rw [hwd]
    have e : askQ ds sf (clamp sc + dep) (.mk k m a ls ks) = (askR ds sf (.mk k m a ls ks) && !(decide (k = 1) && decide (dep ≤ m) && decide (sc ≤ m - dep))) := by
      show (if k = 1 then decide (m < clamp sc + dep) else if k = 3 then constQ ds (.mk k m a ls ks) else if k = 8 then memQ ds (.mk k m a ls ks) else if k = 9 then ctorQ ds (.mk k m a ls ks) else if k = 10 then recQ ds (.mk k m a ls ks) else if k = 11 then decide (a < sf) else decide (k ≤ 7)) =
        ((if k = 11 then decide (a < sf) else if k = 3 then constQ ds (.mk k m a ls ks) else if k = 8 then memQ ds (.mk k m a ls ks) else if k = 9 then ctorQ ds (.mk k m a ls ks) else if k = 10 then recQ ds (.mk k m a ls ks) else decide (1 ≤ k ∧ k ≤ 7)) && !(decide (k = 1) && decide (dep ≤ m) && decide (sc ≤ m - dep)))
      by_cases k1 : k = 1
      · subst k1
        have hc : decide (m < clamp sc + dep) = !(decide (dep ≤ m) && decide (sc ≤ m - dep)) := by
          have hcl := clamp_cases sc
          generalize clamp sc = C at hcl
          rw [Bool.eq_iff_iff]
          simp only [decide_eq_true_eq, Bool.not_eq_true', Bool.and_eq_false_iff, decide_eq_false_iff_not]
          omega
        simp only [if_true, decide_true, Bool.true_and, hc]
        simp
      · simp only [k1, if_false, decide_false, Bool.false_and, Bool.not_false, Bool.and_true]
        by_cases k11 : k = 11
        · subst k11; simp
        · simp only [k11, if_false]
          by_cases k3 : k = 3
          · simp [k3]
          · by_cases k8 : k = 8
            · simp [k8]
            · by_cases k9 : k = 9
              · simp [k9]
              · by_cases k10 : k = 10
                · simp [k10]
                · simp only [k3, k8, k9, k10, if_false]; rw [decide_eq_decide]; omega
    rw [e, Bool.and_assoc]
/-- What source.Right tells. -/
def srcQ (ds : List Dc) (n sc sf : Int) (t : Tm) : Bool := rightQ t && allQ ds n sf (clamp sc) t
/-- What reference 11's Right tells. -/
def srcR (ds : List Dc) (n sc sf : Int) (t : Tm) : Bool := decide (0 < refT 1 t) && allR ds n sc sf 0 t
theorem src_eq (ds : List Dc) (n sc sf : Int) (t : Tm) : srcQ ds n sc sf t = srcR ds n sc sf t := by
  unfold srcQ srcR
  rw [rightQ_ref]
  cases h : rightQ t
  · rfl
  · have := all_eq (ds := ds) (n := n) (sf := sf) (sc := sc) t 1 0 (rightQ_ok h) (by omega) (by omega)
    rw [Int.add_zero] at this
    rw [this]
end Go.Proofs.YtgbokmphbimihaaDoor
