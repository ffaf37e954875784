/- source: bare: contract. No statement of the seat is proved here. -/
import Derived.Test.YtmedomglemllnaaGreatDoorMgSrc3
import Derived.Test.YtmedomglemllnaaGreatDoorMgSrcSpec
import Derived.Test.YtmedomglemllnaaGreatDoorMgSpine
import Derived.Test.YtmedomglemllnaaGreatDoorMgPairT
import Derived.Test.YtmedomglemllnaaGreatDoorMgRef04c
namespace Go.Proofs.YtmedomglemllnaaGreatDoor
set_option linter.unusedSimpArgs false
set_option linter.unusedVariables false
open Go.RowKit

def bareQ (t : Tm) : Bool := decide (t.k = 0) && decide (t.n = 0) && decide (t.a = 0) && decide (t.ls.length + t.ks.length = 0)
theorem RC.lenN {w : World} {S : Nat → Prop} {e z : Nat} {ds : List D} {cs : List Value} (h : RC w S (.l e z ds) cs) : ds.length ≤ 4294967296 := by
  unfold RC at h
  obtain ⟨A, c, h1, h2, h3, h4, _⟩ := h
  unfold M at h4
  exact h4
set_option maxRecDepth 100000 in
set_option maxHeartbeats 2000000 in
theorem bare_calls {w : World} {S : Nat → Prop} {t : Tm} {v : Value} (h : TV w S t v) : Calls Tryz.prog 95 #[v] w (PV w (.bool (bareQ t))) := by
  obtain ⟨A0, ca, K0, ck, rfl, hrc⟩ := h
  obtain ⟨_, _, _, _, he, _, _, _, hls, hks⟩ := RC.tm.1 hrc
  have hM1 : t.ls.length ≤ 4294967296 := by simpa using RC.lenN hls
  have hM2 : t.ks.length ≤ 4294967296 := by simpa using RC.lenN hks
  clear hrc he hls hks
  go_enter Tryz.func95, Tryz.ntmps95
  by_cases h1 : t.k = 0
  · by_cases h2 : t.n = 0
    · by_cases h3 : t.a = 0
      · by_cases h4 : t.ls.length + t.ks.length = 0
        · have HB : Hid (bareQ t = true) := by unfold Hid bareQ; rw [decide_eq_true h1, decide_eq_true h2, decide_eq_true h3, decide_eq_true h4]; rfl
          have e1 : t.ls.length = 0 := by omega
          have e2 : t.ks.length = 0 := by omega
          go_wp2_with fail
          go_ret
          exact ⟨by rw [HB.out]; rfl, (Ext.refl _ _).alloc _⟩
        · have HB : Hid (bareQ t = false) := by unfold Hid bareQ; rw [decide_eq_false h4]; simp
          have e4 : ((t.ls.length : Int) + (t.ks.length : Int) == 0) = false := by simp; omega
          go_wp2_with fail
          go_ret
          exact ⟨by rw [HB.out]; rfl, (Ext.refl _ _).alloc _⟩
      · have HB : Hid (bareQ t = false) := by unfold Hid bareQ; simp [h3]
        go_wp2_with fail
        go_ret
        exact ⟨by rw [HB.out]; rfl, (Ext.refl _ _).alloc _⟩
    · have HB : Hid (bareQ t = false) := by unfold Hid bareQ; simp [h2]
      go_wp2_with fail
      go_ret
      exact ⟨by rw [HB.out]; rfl, (Ext.refl _ _).alloc _⟩
  · have HB : Hid (bareQ t = false) := by unfold Hid bareQ; simp [h1]
    go_wp2_with fail
    go_ret
    exact ⟨by rw [HB.out]; rfl, (Ext.refl _ _).alloc _⟩
end Go.Proofs.YtmedomglemllnaaGreatDoor
/- source.Decl and reference 11's Decl: what they compute, and that they tell the same; no program in sight. No statement of the seat is proved here. -/
namespace Go.Proofs.YtmedomglemllnaaGreatDoor
set_option linter.unusedSimpArgs false
set_option linter.unusedVariables false
open Go.RowKit

def rowQ (ds : List Dc) (n sc sf : Int) : Nat → List Tm → Bool
  | _, [] => true
  | i, t :: ts => srcQ ds n (wrap64 (sc + (i : Int))) sf t && rowQ ds n sc sf (i + 1) ts
theorem rowQ_drop {ds : List Dc} {n sc sf : Int} {ts : List Tm} {j : Nat} (h : j < ts.length) : rowQ ds n sc sf j (ts.drop j) = (srcQ ds n (wrap64 (sc + (j : Int))) sf ts[j] && rowQ ds n sc sf (j + 1) (ts.drop (j + 1))) := by
  rw [List.drop_eq_getElem_cons h, rowQ]
def mbQ (ds : List Dc) (n : Int) (np : Nat) (m : Mb) : Bool := decide ((m.index.length : Int) ≤ 6) && rowQ ds n (np : Int) 0 0 m.index
def ctQ (ds : List Dc) (n : Int) (np nm : Nat) (c : Ct) : Bool := decide (0 ≤ c.member) && decide (c.member < nm) && srcQ ds n (np : Int) (nm : Int) c.ty
def headQ (n : Int) (d : Dc) : Bool := decide ((d.params.length : Int) ≤ 6) && lvRight n d.sort && decide ((0 : Int) < d.members.length) && decide ((d.members.length : Int) ≤ 8) && decide ((d.ctors.length : Int) ≤ 16) && bareQ d.ty && bareQ d.body
def blockQ (ds : List Dc) (n : Int) (d : Dc) : Bool := headQ n d && (rowQ ds n 0 0 0 d.params && ((d.members.all (mbQ ds n d.params.length)) && d.ctors.all (ctQ ds n d.params.length d.members.length)))
def noneQ (d : Dc) : Bool := decide ((d.params.length : Int) + d.sort.length + d.members.length + d.ctors.length = 0)
def declQ (ds : List Dc) (d : Dc) : Bool := decide (0 ≤ d.levels ∧ d.levels < 8) && (if d.kind = 3 then blockQ ds d.levels d else noneQ d && (srcQ ds d.levels 0 0 d.ty && (if d.kind = 1 then bareQ d.body else decide (d.kind = 2) && srcQ ds d.levels 0 0 d.body)))
end Go.Proofs.YtmedomglemllnaaGreatDoor
/- source: plain laws: what is right over some declarations is so over more; lifted; with a term put. No statement of the seat is proved here. -/
namespace Go.Proofs.YtmedomglemllnaaGreatDoor
set_option linter.unusedSimpArgs false
set_option linter.unusedVariables false
open Go.RowKit

theorem allsQ_iff {ds : List Dc} {n sf k sc : Int} : ∀ {ts : List Tm} {i : Nat}, allsQ ds n sf k sc i ts = true ↔ ∀ (j : Nat) (h : j < ts.length), allQ ds n sf (downI k ((i + j : Nat) : Int) sc) ts[j] = true
  | [], i => by simp [allsQ]
  | t :: ts, i => by
    rw [allsQ, Bool.and_eq_true, allsQ_iff (ts := ts) (i := i + 1)]
    constructor
    · rintro ⟨h1, h2⟩ j h
      cases j with
      | zero => simpa using h1
      | succ j =>
        have := h2 j (by simpa using h)
        rw [show i + 1 + j = i + (j + 1) by omega] at this
        simpa using this
    · intro h
      refine ⟨by have := h 0 (by simp); rw [Nat.add_zero] at this; exact this, fun j hj => ?_⟩
      have := h (j + 1) (by simpa using hj)
      rw [show i + 1 + j = i + (j + 1) by omega]
      simpa using this
theorem allQ_mk {ds : List Dc} {n sf sc k m a : Int} {ls : List Lv} {ks : List Tm} : allQ ds n sf sc (.mk k m a ls ks) = true ↔ askQ ds sf sc (.mk k m a ls ks) = true ∧ lvsQ n ls = true ∧ ∀ (j : Nat) (h : j < ks.length), allQ ds n sf (downI k (j : Int) sc) ks[j] = true := by
  rw [allQ, Bool.and_eq_true, Bool.and_eq_true, allsQ_iff]
  simp
end Go.Proofs.YtmedomglemllnaaGreatDoor
/- strict: plain laws: rules that can be read; declarations behind. No statement of the seat is proved here. -/
namespace Go.Proofs.YtmedomglemllnaaGreatDoor
set_option linter.unusedSimpArgs false
set_option linter.unusedVariables false
open Go.RowKit

theorem freeRow_none (i : Nat) (ts : List Tm) : freeRow none i ts = !ts.any selfT := by
  induction ts generalizing i with
  | nil => rfl
  | cons t ts ih =>
    rw [freeRow, ih, List.any_cons]
    show (!selfT t && _) = _
    cases selfT t <;> simp
theorem all_not_any {α : Type} (p : α → Bool) (l : List α) : (l.all fun x => !p x) = !l.any p := by
  induction l with
  | nil => rfl
  | cons t ts ih => simp only [List.all_cons, List.any_cons, ih]; cases p t <;> simp
theorem strictQ_arg {ds : List Dc} {par : Nat → Nat → Bool} {ms : List Mb} {t : Tm} {a : Ar} (h : argQ ms t = .ok a) : strictQ ds par none t = true := by
  by_cases h0 : selfT t = false
  · exact strictQ_free h0
  · rw [argQ, if_neg h0] at h
    by_cases h1 : (countT t : Int) ≤ 6
    · rw [if_pos h1] at h
      split at h
      · rename_i h2
        simp only [Bool.and_eq_true, Bool.not_eq_true', decide_eq_true_eq] at h2
        obtain ⟨h3, h4, _, _, h5⟩ := h2
        unfold strictQ
        obtain ⟨f, hf⟩ : ∃ f, sizeT t = f + 1 := ⟨sizeT t - 1, by have := sizeT_eq t; omega⟩
        rw [hf, strictF_eq, if_neg (show ¬ standsM none t = false from h0), freeRow_none, h3, if_neg (by simp), endS]
        rw [if_pos (show isM (upM none (countT t)) (spineT (openAll t).2).1 = true by simp [upM, isM, h4])]
        show (_ : List Tm).all (fun x => !selfT x) = true
        rw [all_not_any, h5]
        rfl
      · cases h
    · rw [if_neg h1] at h; cases h
theorem typesQ_args {ds : List Dc} {par : Nat → Nat → Bool} {ms : List Mb} : ∀ {ts : List Tm} {as_ : List Ar} (i : Nat), argsQ ms ts = .ok as_ → typesQ ds par none i ts = true
  | [], _, _, _ => rfl
  | t :: ts, as_, i, h => by
    rw [argsQ] at h
    cases ha : argQ ms t with
    | error c => rw [ha] at h; cases h
    | ok a =>
      rw [ha] at h
      cases hs : argsQ ms ts with
      | error c => rw [hs] at h; cases h
      | ok b =>
        rw [typesQ, show upM none (i : Int) = none from rfl, strictQ_arg ha, typesQ_args (i + 1) hs]
        rfl
theorem ctorS_read {ds : List Dc} {ms : List Mb} {c : Ct} {r : Ru} (h : readQ ms c = .ok r) : ctorS ds c = true := by
  unfold readQ at h
  split at h
  · cases ha : argsQ ms (openAll c.ty).1 with
    | error k => rw [ha] at h; cases h
    | ok as_ =>
      rw [ha] at h
      dsimp only at h
      split at h
      · rename_i he
        unfold endQ at he
        simp only [Bool.and_eq_true, Bool.not_eq_true', decide_eq_true_eq, beq_iff_eq] at he
        obtain ⟨h1, _, _, _, h5⟩ := he
        unfold ctorS
        rw [typesQ_args 0 ha, all_not_any, h5, h1]
        rfl
      · cases h
  · cases h
theorem ctorsQ_all {ds : List Dc} {ms : List Mb} : ∀ {cs : List Ct} {rs : List Ru}, ctorsQ ms cs = .ok rs → cs.all (ctorS ds) = true
  | [], _, _ => rfl
  | c :: cs, rs, h => by
    rw [ctorsQ] at h
    cases ha : readQ ms c with
    | error k => rw [ha] at h; cases h
    | ok r =>
      rw [ha] at h
      cases hs : ctorsQ ms cs with
      | error k => rw [hs] at h; cases h
      | ok b =>
        rw [List.all_cons, ctorS_read ha, ctorsQ_all hs]
        rfl
theorem positive_rules {ds : List Dc} {d : Dc} {rs : List Ru} (h : rulesQ d = .ok rs) : positiveV ds d = true := by
  unfold rulesQ at h
  split at h
  · rename_i h3
    unfold positiveV
    rw [h3, ctorsQ_all h]
    rfl
  · cases h

inductive IndB (N : Nat) : Tm → Prop where
  | mk {k n a : Int} {ls : List Lv} {ks : List Tm} (h : k = 8 → n < N) (hk : ∀ t ∈ ks, IndB N t) : IndB N (.mk k n a ls ks)
theorem IndB.kids {N : Nat} {t : Tm} (h : IndB N t) : ∀ u ∈ t.ks, IndB N u := by cases h with | mk h hk => exact hk
theorem IndB.top {N : Nat} {t : Tm} (h : IndB N t) : t.k = 8 → t.n < N := by cases h with | mk h hk => exact h
theorem indB_allQ {ds : List Dc} {n sf : Int} : ∀ (t : Tm) (sc : Int), allQ ds n sf sc t = true → IndB ds.length t := by
  intro t
  induction t using Tm.ind_ with
  | h k m a ls ks ih =>
    intro sc h
    obtain ⟨h1, _, h3⟩ := allQ_mk.1 h
    refine .mk (fun hk => ?_) (fun u hu => ?_)
    · subst hk
      have h4 : memQ ds (.mk 8 m a ls ks) = true := h1
      by_cases hm : m.toNat < ds.length
      · omega
      · have hn : declAt ds m ls.length 0 = none := by unfold declAt; rw [dif_neg hm]
        have h6 : memQ ds (.mk 8 m a ls ks) = false := by
          unfold memQ
          show (match declAt ds m ls.length 0 with | some d => decide (d.kind = 3 ∧ a < d.members.length) | none => false) = false
          rw [hn]
        rw [h6] at h4; cases h4
    · obtain ⟨j, hj, rfl⟩ := List.getElem_of_mem hu
      exact ih _ hu _ (h3 j hj)
theorem IndB.open_ {N : Nat} : ∀ {t : Tm}, IndB N t → (∀ u ∈ (openAll t).1, IndB N u) ∧ IndB N (openAll t).2 := by
  intro t
  induction t using Tm.ind_ with
  | h k m a ls ks ih =>
    intro h
    by_cases h42 : k = 4 ∧ ks.length = 2
    · obtain ⟨h4, h2⟩ := h42
      rw [openAll_step (u := .mk k m a ls ks) h4 h2]
      have hk := h.kids
      simp only [Tm.ks_mk] at hk ⊢
      obtain ⟨r1, r2⟩ := ih ks[1] (List.getElem_mem _) (hk _ (List.getElem_mem _))
      refine ⟨fun u hu => ?_, r2⟩
      rcases List.mem_cons.1 hu with rfl | hu
      · exact hk _ (List.getElem_mem _)
      · exact r1 u hu
    · rw [openAll_stop (countT_stop (t := .mk k m a ls ks) h42)]
      exact ⟨fun u hu => by simp at hu, h⟩
theorem IndB.spine {N : Nat} : ∀ {t : Tm}, IndB N t → (∀ u ∈ (spineT t).2, IndB N u) ∧ IndB N (spineT t).1 := by
  intro t
  induction t using Tm.ind_ with
  | h k m a ls ks ih =>
    intro h
    by_cases h62 : k = 6 ∧ ks.length = 2
    · obtain ⟨h6, h2⟩ := h62
      rw [spineR_step (t := .mk k m a ls ks) h6 h2]
      have hk := h.kids
      simp only [Tm.ks_mk] at hk ⊢
      obtain ⟨r1, r2⟩ := ih ks[0] (List.getElem_mem _) (hk _ (List.getElem_mem _))
      refine ⟨fun u hu => ?_, r2⟩
      rcases List.mem_append.1 hu with hu | hu
      · exact r1 u hu
      · obtain rfl := List.mem_singleton.1 hu
        exact hk _ (List.getElem_mem _)
    · rw [spineR_stop (t := .mk k m a ls ks) h62]
      exact ⟨fun u hu => by simp at hu, h⟩
theorem argsS_congr {g g' : Tm → Bool} {v : Mk} {q q' : Nat → Bool} (hq : ∀ a, q a = q' a) : ∀ (xs : List Tm) (k : Nat), (∀ x ∈ xs, g x = g' x) → argsS g v q k xs = argsS g' v q' k xs
  | [], _, _ => rfl
  | x :: xs, k, h => by
    rw [argsS, argsS, h x (by simp), hq k, argsS_congr hq xs (k + 1) fun y hy => h y (by simp [hy])]
theorem getD_more {ds more : List Dc} {n : Nat} (h : n < ds.length) : (ds ++ more).getD n zDc = ds.getD n zDc := by
  rw [List.getD_eq_getElem?_getD, List.getD_eq_getElem?_getD, List.getElem?_append_left h]
theorem strictF_more {ds more : List Dc} {par par' : Nat → Nat → Bool} (hp : ∀ num, num < ds.length → ∀ a, par' num a = par num a) : ∀ (f : Nat) (v : Mk) (t : Tm), IndB ds.length t → strictF (ds ++ more) par' f v t = strictF ds par f v t
  | 0, _, _, _ => rfl
  | f + 1, v, t, h => by
    rw [strictF_eq, strictF_eq]
    obtain ⟨_, h2⟩ := h.open_
    obtain ⟨h3, h4⟩ := h2.spine
    have he : endS (ds ++ more) par' (strictF (ds ++ more) par' f (upM v (countT t))) (upM v (countT t)) (spineT (openAll t).2) = endS ds par (strictF ds par f (upM v (countT t))) (upM v (countT t)) (spineT (openAll t).2) := by
      generalize spineT (openAll t).2 = s at h3 h4
      unfold endS
      split
      · rfl
      · by_cases hk : s.1.k = 8 ∧ 0 ≤ s.1.n ∧ s.1.n < ds.length
        · obtain ⟨k1, k2, k3⟩ := hk
          have k4 : s.1.n.toNat < ds.length := by omega
          rw [if_pos (show s.1.k = 8 ∧ 0 ≤ s.1.n ∧ s.1.n < ((ds ++ more).length : Nat) from ⟨k1, k2, by rw [List.length_append]; push_cast; omega⟩), if_pos (show s.1.k = 8 ∧ 0 ≤ s.1.n ∧ s.1.n < (ds.length : Nat) from ⟨k1, k2, k3⟩), getD_more k4]
          rw [argsS_congr (hp _ k4) _ 0 fun x hx => strictF_more hp f _ x (h3 x (List.mem_of_mem_take hx))]
        · rw [if_neg hk, if_neg (show ¬ (s.1.k = 8 ∧ 0 ≤ s.1.n ∧ s.1.n < ((ds ++ more).length : Nat)) from fun h' => hk ⟨h'.1, h'.2.1, h4.top h'.1⟩)]
    rw [he]
theorem typesQ_more {ds more : List Dc} {par par' : Nat → Nat → Bool} (hp : ∀ num, num < ds.length → ∀ a, par' num a = par num a) {v : Mk} : ∀ (ts : List Tm) (i : Nat), (∀ t ∈ ts, IndB ds.length t) → typesQ (ds ++ more) par' v i ts = typesQ ds par v i ts
  | [], _, _ => rfl
  | t :: ts, i, h => by
    rw [typesQ, typesQ, strictQ, strictQ, strictF_more hp _ _ _ (h t (by simp)), typesQ_more hp ts (i + 1) fun u hu => h u (by simp [hu])]
theorem parQ_more {ds more : List Dc} {num : Nat} (h : num < ds.length) (a : Nat) : parQ (ds ++ more) num a = parQ ds num a := by
  unfold parQ
  rw [parT_take (ds := ds ++ more) (ds' := ds)]
  rw [List.take_append_of_le_length (by omega)]
theorem parT_more {ds more : List Dc} {num : Nat} (h : num < ds.length) (a : Nat) : parT (ds ++ more) (ds ++ more).length num a = parT ds ds.length num a := by
  rw [parT_eq _ (by rw [List.length_append]; omega), parT_eq _ h, parQ_more h]
theorem all_congr {α : Type} {p q : α → Bool} {l : List α} (h : ∀ x ∈ l, p x = q x) : l.all p = l.all q := by
  induction l with
  | nil => rfl
  | cons x l ih => rw [List.all_cons, List.all_cons, h x (by simp), ih fun y hy => h y (by simp [hy])]
theorem positive_more {ds more : List Dc} {d : Dc} (h : declQ ds d = true) : positiveV (ds ++ more) d = positiveV ds d := by
  unfold positiveV
  by_cases h3 : d.kind = 3
  · unfold declQ at h
    rw [if_pos h3, Bool.and_eq_true] at h
    have h := h.2
    unfold blockQ at h
    simp only [Bool.and_eq_true, List.all_eq_true] at h
    rw [all_congr (q := ctorS ds) fun c hc => ?_]
    have h5 := h.2.2.2 c hc
    unfold ctQ srcQ at h5
    simp only [Bool.and_eq_true] at h5
    have h6 := (indB_allQ _ _ h5.2.2).open_.1
    unfold ctorS
    rw [typesQ_more (fun num hn a => parT_more hn a) _ 0 h6]
  · rw [decide_eq_false h3, Bool.false_and, Bool.false_and]
theorem param_more {ds more : List Dc} {num a : Int} (h : num < ds.length) : paramV (ds ++ more) num a = paramV ds num a := by
  unfold paramV
  by_cases h0 : 0 ≤ num
  · have h1 : num.toNat < ds.length := by omega
    rw [getD_more h1, parQ_more h1]
    by_cases hc : 0 ≤ num ∧ num < (ds.length : Nat) ∧ (ds.getD num.toNat zDc).kind = 3 ∧ 0 ≤ a ∧ a < (ds.getD num.toNat zDc).params.length
    · rw [if_pos hc, if_pos ⟨hc.1, by rw [List.length_append]; push_cast; omega, hc.2.2⟩]
    · rw [if_neg hc, if_neg (fun h' => hc ⟨h'.1, h, h'.2.2⟩)]
  · rw [if_neg (fun h => h0 h.1), if_neg (fun h => h0 h.1)]
end Go.Proofs.YtmedomglemllnaaGreatDoor
