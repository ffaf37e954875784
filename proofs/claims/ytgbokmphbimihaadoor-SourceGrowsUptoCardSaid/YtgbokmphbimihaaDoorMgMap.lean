/- term: count, Right: contracts. No statement of the seat is proved here. -/
import Derived.Deep.DeepCutAuto
import Derived.Test.YtgbokmphbimihaaDoorMgRow
import Derived.Test.YtgbokmphbimihaaDoorHp
namespace Go.Proofs.YtgbokmphbimihaaDoor
set_option linter.unusedSimpArgs false
set_option linter.unusedVariables false
open Go.RowKit

/-- What a call of term.count leaves: whether, and the count. -/
def PCnt (w0 : World) (l : List Ch) (bo : Nat) (r : Bool × Int) (q : Bool) (e : Ending) (w' : World) : Prop := e = .returned (.bool q) ∧ Hp no w0 w' (.box bo 3 [.int .i64 r.2] :: l)
def CntOK (t : Tm) : Prop := ∀ (w0 w : World) (l : List Ch) (S : Nat → Prop) (v : Value) (d n : Int) (bo : Nat), Tab w0 → TV w0 S t v → Hp no w0 w (.box bo 3 [.int .i64 n] :: l) → 0 ≤ n → n ≤ 20000 → 0 ≤ d → d ≤ 401 →
  Calls Tryd.prog 71 #[v, .int .i64 d, .pointer (some ⟨bo, 0, none⟩)] w (PCnt w0 l bo (cntT d n t) (cntT d n t).1)
/-- The boxes of a count at work. -/
abbrev cntB (bo gd gp : Nat) (d n : Int) (l : List Ch) : List Ch := .box bo 3 [.int .i64 n] :: .box gd 3 [.int .i64 d] :: .box gp 106 [.pointer (some ⟨bo, 0, none⟩)] :: l
set_option maxRecDepth 100000 in
set_option maxHeartbeats 4000000 in
theorem count1_calls {t : Tm} (IH : CntOK t) {w0 w : World} {l : List Ch} {S : Nat → Prop} {v : Value} {d n : Int} {bo gd gp : Nat} (hT : Tab w0) (hv : TV w0 S t v) (H : Hp no w0 w (cntB bo gd gp d n l)) (h0 : 0 ≤ n) (h1 : n ≤ 20000) (h2 : 0 ≤ d) (h3 : d ≤ 400) :
    Calls Tryd.prog 132 #[v, .pointer (some ⟨gd, 0, none⟩), .pointer (some ⟨gp, 0, none⟩)] w (PCnt w0 (.box gd 3 [.int .i64 d] :: .box gp 106 [.pointer (some ⟨bo, 0, none⟩)] :: l) bo (cntT (d + 1) n t) (!(cntT (d + 1) n t).1)) := by
  obtain ⟨A0, ca, K0, ck, rfl, hrc⟩ := hv
  have HV := Lib.hid hrc
  have HT := Lib.hid hT
  have HI := Lib.hid IH
  have hw : IntKind.i64.wrap (d + 1) = d + 1 := by rw [IntKind.wrap_i64]; omega
  have B := Lib.hid (And.intro h0 (And.intro h1 (And.intro h2 h3)))
  clear hrc hT IH h0 h1 h2 h3
  go_enter Tryd.func132, Tryd.ntmps132
  have hr_ := H.rules; simp only [Rules, and_true] at hr_; have hd_ := H.dif; simp only [Dif, Neq, and_true] at hd_; obtain ⟨ho_, hz_⟩ := H.old0
  go_wp2_with fail
  clear hr_ hd_ ho_ hz_ hw
  refine callsH (by (repeat (first | with_reducible exact H | with_reducible exact H0_ | with_reducible apply Hp.alloc | with_reducible apply Hp.allocMap | with_reducible apply Hp.drew | with_reducible apply Hp.drewN | with_reducible apply Hp.set)); (try any_goals (repeat (first | with_reducible exact Upd.head | with_reducible apply Upd.tail)))) ?_
  clear H; intro w1 H; (try simp only [size_drew_, size_drewN_, World.size_alloc, World.size_setCell, List.set_cons_zero, List.set_cons_succ] at H)
  refine (HI.out w0 w1 _ S _ (d + 1) n bo HT.out ⟨A0, ca, K0, ck, rfl, HV.out⟩ (H.pick (c := .box bo 3 [.int .i64 n]) (by (repeat (first | with_reducible exact Pick.head | with_reducible apply Pick.tail)))) B.out.1 B.out.2.1 (by have := B.out; omega) (by have := B.out; omega)).mono ?_
  rintro e w2 ⟨rfl, H2⟩
  clear H
  have H := H2
  clear H2
  go_wp2_with fail
  go_ret
  exact ⟨rfl, (H.arr (by (repeat (first | with_reducible exact Arr.nil | refine Arr.cons (by (repeat (first | with_reducible exact Pick.head | with_reducible apply Pick.tail))) ?_)) <;> exact Arr.of_subl (by (repeat (first | with_reducible exact Subl.refl _ | with_reducible apply Subl.drop)))))⟩
theorem cntsT_drop {ts : List Tm} {d n : Int} {j : Nat} (h : j < ts.length) : cntsT d n (ts.drop j) = if (cntT d n ts[j]).1 = true then cntsT d (cntT d n ts[j]).2 (ts.drop (j + 1)) else (false, (cntT d n ts[j]).2) := by
  rw [List.drop_eq_getElem_cons h, cntsT]
set_option maxRecDepth 100000 in
set_option maxHeartbeats 4000000 in
theorem cntIndex {ts : List Tm} (IH : ∀ t ∈ ts, CntOK t) {w0 w : World} {l : List Ch} {S : Nat → Prop} {A : Option Addr} {k c : Nat} {d n : Int} {bo gd gp : Nat} (hT : Tab w0) (hv : RC w0 S (.l 26 5 (ts.map Tm.d)) [.slice A k c]) (hk : k = ts.length) (H : Hp no w0 w (cntB bo gd gp d n l)) (h0 : 0 ≤ n) (h1 : n ≤ 20000) (h2 : 0 ≤ d) (h3 : d ≤ 400) :
    Calls Tryd.prog 176 #[.slice A k c, .func (.func 132) #[] #[.pointer (some ⟨gd, 0, none⟩), .pointer (some ⟨gp, 0, none⟩)]] w
      fun e w' => ∃ i : Int, e = .returned (.int .i64 i) ∧ ((0 ≤ i) = ((cntsT (d + 1) n ts).1 = false)) ∧ Hp no w0 w' (cntB bo gd gp d (cntsT (d + 1) n ts).2 l) := by
  subst hk
  have hM := hv.lenM
  have HT := Lib.hid hT
  have HI := Lib.hid IH
  have B := Lib.hid (And.intro h0 (And.intro h1 (And.intro h2 h3)))
  have eg := enters_of Tryd.func132 (by kernel_rfl) rfl
  clear hT IH h0 h1 h2 h3
  go_enter Tryd.func176, Tryd.ntmps176
  have hr_ := H.rules; simp only [Rules, and_true] at hr_; have hd_ := H.dif; simp only [Dif, Neq, and_true] at hd_; obtain ⟨ho_, hz_⟩ := H.old0
  go_wp2_with fail
  clear hr_ hd_ ho_ hz_
  go_loopw [5, 8] (fun u i wr => ∃ (j : Nat) (nj : Int), j ≤ ts.length ∧ i = .int .i64 j ∧ Hid (cntsT (d + 1) nj (ts.drop j) = cntsT (d + 1) n ts) ∧ Hid (0 ≤ nj ∧ nj ≤ 20000) ∧ Hp no w0 wr (cntB bo gd gp d nj l)) (fun _ i _ => ts.length - (intOf i).toNat)
  case atStart => exact ⟨0, n, Nat.zero_le _, rfl, Lib.hid (by simp), Lib.hid ⟨B.out.1, B.out.2.1⟩, H⟩
  case round =>
    clear H
    obtain ⟨j, nj, hj, rfl, HS, HB, H⟩ := hrel
    by_cases hlt : j < ts.length
    · obtain ⟨b, o, A1, ca1, K1, ck1, rfl, hb, hS, hd, p0, p1, p2, p3, p4⟩ := hv.atTm hlt
      have HD := Lib.hid hd
      have HE := Lib.hid (cntsT_drop (d := d + 1) (n := nj) hlt)
      clear hd
      have hr_ := H.rules; simp only [Rules, and_true] at hr_; have hd_ := H.dif; simp only [Dif, Neq, and_true] at hd_; obtain ⟨ho_, hz_⟩ := H.old0
      go_wp2_with fail
      clear hr_ hd_ ho_ hz_
      refine callsH (by (repeat (first | with_reducible exact H | with_reducible exact H0_ | with_reducible apply Hp.alloc | with_reducible apply Hp.allocMap | with_reducible apply Hp.drew | with_reducible apply Hp.drewN | with_reducible apply Hp.set)); (try any_goals (repeat (first | with_reducible exact Upd.head | with_reducible apply Upd.tail)))) ?_
      clear H; intro w1 H; (try simp only [size_drew_, size_drewN_, World.size_alloc, World.size_setCell, List.set_cons_zero, List.set_cons_succ] at H)
      refine (count1_calls (HI.out ts[j] (List.getElem_mem hlt)) HT.out ⟨_, _, _, _, rfl, HD.out⟩ H HB.out.1 HB.out.2 B.out.2.2.1 B.out.2.2.2).mono ?_
      rintro e w2 ⟨rfl, H2⟩
      clear H
      have H := H2
      clear H2
      have hce := (cnt_eq ts[j] (d + 1) nj HB.out.1)
      cases hq : (cntT (d + 1) nj ts[j]).1
      · have HQ := Lib.hid hq
        clear hq hce
        obtain ⟨n', hn'⟩ : ∃ n', n' = (cntT (d + 1) nj ts[j]).2 := ⟨_, rfl⟩
        rw [← hn'] at H
        have HN := Lib.hid hn'
        clear hn'
        go_wp2_with fail
        go_ret
        have e : cntsT (d + 1) n ts = (false, n') := by rw [← HS.out, HE.out, HQ.out, HN.out]; rfl
        exact ⟨j, rfl, by rw [e]; simp, by rw [e]; exact H⟩
      · have hb2 : (cntT (d + 1) nj ts[j]).2 = nj + nodesT ts[j] ∧ nj + nodesT ts[j] ≤ 20000 := by
          refine ⟨hce.2 hq, ?_⟩
          have := hce.1
          rw [hq] at this
          have h9 := this.symm
          rw [Bool.and_eq_true] at h9
          exact of_decide_eq_true h9.2
        have HQ := Lib.hid hq
        clear hq hce
        obtain ⟨n', hn'⟩ : ∃ n', n' = (cntT (d + 1) nj ts[j]).2 := ⟨_, rfl⟩
        rw [← hn'] at H hb2
        have HN := Lib.hid hn'
        have HB2 : Hid (0 ≤ n' ∧ n' ≤ 20000) := Lib.hid (by have := HB.out; omega)
        clear hn' hb2
        go_wp2_with fail
        go_roundw
        case rel => exact ⟨j + 1, n', by omega, by first | go_num | rfl | simp, Lib.hid (by rw [← HS.out, HE.out, HQ.out, HN.out]; rfl), HB2, H⟩
        case measure => simp [intOf]; omega
    · have e : cntsT (d + 1) n ts = (true, nj) := by rw [← HS.out, List.drop_eq_nil_of_le (by omega), cntsT]
      have E := Lib.hid e
      clear e
      go_wp2_with fail
      go_ret
      exact ⟨-1, rfl, by rw [E.out]; simp, by rw [E.out]; exact H⟩
set_option maxRecDepth 100000 in
set_option maxHeartbeats 4000000 in
theorem cntSome {ts : List Tm} (IH : ∀ t ∈ ts, CntOK t) {w0 w : World} {l : List Ch} {S : Nat → Prop} {A : Option Addr} {k c : Nat} {d n : Int} {bo gd gp : Nat} (hT : Tab w0) (hv : RC w0 S (.l 26 5 (ts.map Tm.d)) [.slice A k c]) (hk : k = ts.length) (H : Hp no w0 w (cntB bo gd gp d n l)) (h0 : 0 ≤ n) (h1 : n ≤ 20000) (h2 : 0 ≤ d) (h3 : d ≤ 400) :
    Calls Tryd.prog 131 #[.slice A k c, .func (.func 132) #[] #[.pointer (some ⟨gd, 0, none⟩), .pointer (some ⟨gp, 0, none⟩)]] w
      fun e w' => e = .returned (.bool (!(cntsT (d + 1) n ts).1)) ∧ Hp no w0 w' (cntB bo gd gp d (cntsT (d + 1) n ts).2 l) := by
  have HI := Lib.hid (cntIndex IH hT hv hk H h0 h1 h2 h3)
  clear IH hT hv h0 h1 h2 h3 hk H
  go_enter Tryd.func131, Tryd.ntmps131
  go_wp2_with fail
  refine HI.out.mono ?_
  rintro e w1 ⟨i, rfl, hi, H⟩
  cases hq : (cntsT (d + 1) n ts).1
  · have g : decide (0 ≤ i) = true := by rw [hq] at hi; simpa using hi
    have HQ := Lib.hid hq
    clear hi hq
    go_wp2_with fail
    go_ret
    exact ⟨by rw [HQ.out]; rfl, H⟩
  · have g : decide (0 ≤ i) = false := by rw [hq] at hi; simpa using hi
    have HQ := Lib.hid hq
    clear hi hq
    go_wp2_with fail
    go_ret
    exact ⟨by rw [HQ.out]; rfl, H⟩
set_option maxRecDepth 100000 in
set_option maxHeartbeats 8000000 in
theorem count_calls : ∀ t : Tm, CntOK t := by
  intro t
  induction t using Tm.ind_ with
  | h k m a ls ks ih =>
  rintro w0 w l S v d n bo hT ⟨A0, ca, K0, ck, rfl, hrc⟩ H h0 h1 h2 h3
  obtain ⟨_, _, _, _, he, _, _, _, hls, hks⟩ := RC.tm.1 hrc
  simp only [Tm.ls_mk, Tm.ks_mk, Tm.k_mk, Tm.n_mk, Tm.a_mk, List.cons.injEq, Value.slice.injEq, and_true, true_and] at he hls hks hrc ⊢
  obtain ⟨⟨rfl, rfl⟩, rfl, rfl⟩ := he
  have HV := Lib.hid hrc
  have HK := Lib.hid hks
  have HT := Lib.hid hT
  have HI := Lib.hid ih
  have hmf : ∀ (fn : Fn) (first cap : Array Value) (w : World), (Instr.makeFunc fn first cap).run Tryd.prog w = .ok (.func fn first cap) w := fun _ _ _ _ => rfl
  have hw : IntKind.i64.wrap (n + 1) = n + 1 := by rw [IntKind.wrap_i64]; omega
  have B := Lib.hid (And.intro h0 (And.intro h1 (And.intro h2 h3)))
  clear hrc hks hls hT ih h0 h1 h2 h3
  go_enter Tryd.func71, Tryd.ntmps71
  go_upto_region 1 with fail
  refine codeH (by (repeat (first | with_reducible exact H | with_reducible exact H0_ | with_reducible apply Hp.alloc | with_reducible apply Hp.allocMap | with_reducible apply Hp.drew | with_reducible apply Hp.drewN | with_reducible apply Hp.set)); (try any_goals (repeat (first | with_reducible exact Upd.head | with_reducible apply Upd.tail)))) ?_
  clear H; intro w1_ H; (try simp only [size_drew_, size_drewN_, World.size_alloc, World.size_setCell, List.set_cons_zero, List.set_cons_succ] at H)
  by_cases c1 : d ≤ 400
  · by_cases c2 : n + 1 ≤ 20000
    · have hr_ := H.rules; simp only [Rules, and_true] at hr_; have hd_ := H.dif; simp only [Dif, Neq, and_true] at hd_; obtain ⟨ho_, hz_⟩ := H.old0
      go_wp2_with fail
      clear hr_ hd_ ho_ hz_
      refine callsH (by (repeat (first | with_reducible exact H | with_reducible exact H0_ | with_reducible apply Hp.alloc | with_reducible apply Hp.allocMap | with_reducible apply Hp.drew | with_reducible apply Hp.drewN | with_reducible apply Hp.set)); (try any_goals (repeat (first | with_reducible exact Upd.head | with_reducible apply Upd.tail)))) ?_
      clear H; intro w1 H; (try simp only [size_drew_, size_drewN_, World.size_alloc, World.size_setCell, List.set_cons_zero, List.set_cons_succ] at H)
      refine (node_calls (t := .mk k m a ls ks) (HT.out.ext H.ext) ⟨A0, ca, K0, ck, rfl, HV.out.ext0 H.ext⟩).mono ?_
      rintro e w_ ⟨rfl, hx⟩
      replace H := H.call hx
      clear hx
      cases hq : nodeQ (.mk k m a ls ks)
      · have HQ := Lib.hid hq
        clear hq
        have HE : Hid (cntT d n (.mk k m a ls ks) = (false, n + 1)) := by unfold Hid; rw [cntT, if_neg (by rw [HQ.out]; simp)]
        have hr_ := H.rules; simp only [Rules, and_true] at hr_; have hd_ := H.dif; simp only [Dif, Neq, and_true] at hd_; obtain ⟨ho_, hz_⟩ := H.old0
        go_wp2_with fail
        (try clear hr_ hd_ ho_ hz_)
        refine endH (by (repeat (first | with_reducible exact H | with_reducible exact H0_ | with_reducible apply Hp.alloc | with_reducible apply Hp.allocMap | with_reducible apply Hp.drew | with_reducible apply Hp.drewN | with_reducible apply Hp.set)); (try any_goals (repeat (first | with_reducible exact Upd.head | with_reducible apply Upd.tail)))) ?_
        clear H; intro w9_ H; (try simp only [size_drew_, size_drewN_, World.size_alloc, World.size_setCell, List.set_cons_zero, List.set_cons_succ] at H)
        go_ret
        exact ⟨by rw [HE.out]; (first | done | rfl), by rw [HE.out]; exact (H.arr (by (repeat (first | with_reducible exact Arr.nil | refine Arr.cons (by (repeat (first | with_reducible exact Pick.head | with_reducible apply Pick.tail))) ?_)) <;> exact Arr.of_subl (by (repeat (first | with_reducible exact Subl.refl _ | with_reducible apply Subl.drop)))))⟩
      · have HE : Hid (cntT d n (.mk k m a ls ks) = cntsT (d + 1) (n + 1) ks) := by unfold Hid; rw [cntT, if_pos ⟨c1, c2, hq⟩]
        clear hq
        have hr_ := H.rules; simp only [Rules, and_true] at hr_; have hd_ := H.dif; simp only [Dif, Neq, and_true] at hd_; obtain ⟨ho_, hz_⟩ := H.old0
        go_wp2_with fail
        clear hr_ hd_ ho_ hz_ hw
        have C := Lib.hid (And.intro c1 c2)
        clear c1 c2
        refine (cntSome (d := d) (n := n + 1) HI.out HT.out HK.out rfl (H.arr (by (repeat (first | with_reducible exact Arr.nil | refine Arr.cons (by (repeat (first | with_reducible exact Pick.head | with_reducible apply Pick.tail))) ?_)) <;> exact Arr.of_subl (by (repeat (first | with_reducible exact Subl.refl _ | with_reducible apply Subl.drop))))) (by have := B.out; omega) C.out.2 B.out.2.2.1 C.out.1).mono ?_
        rintro e w2 ⟨rfl, H2⟩
        clear H
        have H := H2
        clear H2
        go_wp2_with fail
        go_ret
        exact ⟨by rw [HE.out]; simp, by rw [HE.out]; exact (H.arr (by (repeat (first | with_reducible exact Arr.nil | refine Arr.cons (by (repeat (first | with_reducible exact Pick.head | with_reducible apply Pick.tail))) ?_)) <;> exact Arr.of_subl (by (repeat (first | with_reducible exact Subl.refl _ | with_reducible apply Subl.drop)))))⟩
    ·
      have HE : Hid (cntT d n (.mk k m a ls ks) = (false, n + 1)) := by unfold Hid; rw [cntT, if_neg (by rintro ⟨_, h, _⟩; exact c2 h)]
      have hr_ := H.rules; simp only [Rules, and_true] at hr_; have hd_ := H.dif; simp only [Dif, Neq, and_true] at hd_; obtain ⟨ho_, hz_⟩ := H.old0
      go_wp2_with fail
      (try clear hr_ hd_ ho_ hz_)
      refine endH (by (repeat (first | with_reducible exact H | with_reducible exact H0_ | with_reducible apply Hp.alloc | with_reducible apply Hp.allocMap | with_reducible apply Hp.drew | with_reducible apply Hp.drewN | with_reducible apply Hp.set)); (try any_goals (repeat (first | with_reducible exact Upd.head | with_reducible apply Upd.tail)))) ?_
      clear H; intro w9_ H; (try simp only [size_drew_, size_drewN_, World.size_alloc, World.size_setCell, List.set_cons_zero, List.set_cons_succ] at H)
      go_ret
      exact ⟨by rw [HE.out]; (first | done | rfl), by rw [HE.out]; exact (H.arr (by (repeat (first | with_reducible exact Arr.nil | refine Arr.cons (by (repeat (first | with_reducible exact Pick.head | with_reducible apply Pick.tail))) ?_)) <;> exact Arr.of_subl (by (repeat (first | with_reducible exact Subl.refl _ | with_reducible apply Subl.drop)))))⟩
  ·
    have HE : Hid (cntT d n (.mk k m a ls ks) = (false, n + 1)) := by unfold Hid; rw [cntT, if_neg (by rintro ⟨h, _⟩; exact c1 h)]
    have hr_ := H.rules; simp only [Rules, and_true] at hr_; have hd_ := H.dif; simp only [Dif, Neq, and_true] at hd_; obtain ⟨ho_, hz_⟩ := H.old0
    go_wp2_with fail
    (try clear hr_ hd_ ho_ hz_)
    refine endH (by (repeat (first | with_reducible exact H | with_reducible exact H0_ | with_reducible apply Hp.alloc | with_reducible apply Hp.allocMap | with_reducible apply Hp.drew | with_reducible apply Hp.drewN | with_reducible apply Hp.set)); (try any_goals (repeat (first | with_reducible exact Upd.head | with_reducible apply Upd.tail)))) ?_
    clear H; intro w9_ H; (try simp only [size_drew_, size_drewN_, World.size_alloc, World.size_setCell, List.set_cons_zero, List.set_cons_succ] at H)
    go_ret
    exact ⟨by rw [HE.out]; (first | done | rfl), by rw [HE.out]; exact (H.arr (by (repeat (first | with_reducible exact Arr.nil | refine Arr.cons (by (repeat (first | with_reducible exact Pick.head | with_reducible apply Pick.tail))) ?_)) <;> exact Arr.of_subl (by (repeat (first | with_reducible exact Subl.refl _ | with_reducible apply Subl.drop)))))⟩
set_option maxRecDepth 100000 in
set_option maxHeartbeats 2000000 in
theorem tmRight_calls {w : World} {S : Nat → Prop} {t : Tm} {v : Value} (hT : Tab w) (h : TV w S t v) : Calls Tryd.prog 27 #[v] w (PV w (.bool (rightQ t))) := by
  obtain ⟨A0, ca, K0, ck, rfl, hrc⟩ := h
  have HV := Lib.hid hrc
  have HT := Lib.hid hT
  clear hrc hT
  go_enter Tryd.func27, Tryd.ntmps27
  go_wp2_with fail
  have H := Hp.start no w
  refine callsH (by (repeat (first | with_reducible exact H | with_reducible exact H0_ | with_reducible apply Hp.alloc | with_reducible apply Hp.allocMap | with_reducible apply Hp.drew | with_reducible apply Hp.drewN | with_reducible apply Hp.set)); (try any_goals (repeat (first | with_reducible exact Upd.head | with_reducible apply Upd.tail)))) ?_
  clear H; intro w1 H; (try simp only [size_drew_, size_drewN_, World.size_alloc, World.size_setCell, List.set_cons_zero, List.set_cons_succ] at H)
  refine (count_calls t w w1 _ S _ 1 0 _ HT.out ⟨A0, ca, K0, ck, rfl, HV.out⟩ H (by omega) (by omega) (by omega) (by omega)).mono ?_
  rintro e w2 ⟨rfl, H2⟩
  clear H
  have H := H2
  clear H2
  have HR := Lib.hid (show (cntT 1 0 t).1 = rightQ t from rfl)
  rw [HR.out]
  go_wp2_with fail
  go_ret
  exact ⟨rfl, H.ext⟩
end Go.Proofs.YtgbokmphbimihaaDoor
/- Maps of a call's own, with numbers as keys: insertion, lookup. No statement of the seat is proved here. -/
namespace Go.Proofs.YtgbokmphbimihaaDoor
set_option linter.unusedSimpArgs false
set_option linter.unusedVariables false
open Go.RowKit

theorem ents_append (l : List (Int × Value)) (x : Int × Value) (k : Nat) : ents k (l ++ [x]) = ents k l ++ [{ key := .int .i64 x.1, val := x.2, born := k + l.length }] := by
  induction l generalizing k with
  | nil => rfl
  | cons y l ih =>
    simp only [List.cons_append, ents, ih, List.length_cons]
    rw [show k + 1 + l.length = k + (l.length + 1) by omega]
theorem find_none (l : List (Int × Value)) (k : Int) (j i : Nat) (h : l.lookup k = none) : Instr.findNow (.int .i64) (.int .i64 k) (ents j l) i = some none := by
  induction l generalizing j i with
  | nil => rfl
  | cons y l ih =>
    simp only [List.lookup] at h
    split at h
    · cases h
    · rename_i hne
      have : (k == y.1) = false := hne
      simp [ents, Instr.findNow, Instr.sameNow, this, ih _ _ h]
theorem find_some (l : List (Int × Value)) (k : Int) (v : Value) (j i : Nat) (h : l.lookup k = some v) : ∃ n, Instr.findNow (.int .i64) (.int .i64 k) (ents j l) i = some (some (n, v)) := by
  induction l generalizing j i with
  | nil => cases h
  | cons y l ih =>
    simp only [List.lookup] at h
    split at h
    · rename_i he
      simp only [Option.some.injEq] at h
      have : (k == y.1) = true := he
      exact ⟨i, by simp [ents, Instr.findNow, Instr.sameNow, this, h]⟩
    · rename_i hne
      have : (k == y.1) = false := hne
      obtain ⟨n, hn⟩ := ih (j + 1) (i + 1) h
      exact ⟨n, by simp [ents, Instr.findNow, Instr.sameNow, this, hn]⟩
section
variable {P : Program} {w w0 : World} {l l' : List Ch} {X : Nat → Prop}
theorem checkKey_int {kt : TypeId} {k : Int} (hk : P.underlying kt = some (.int .i64)) (b : Bool) : (Instr.checkKey b 10000 kt (.int .i64 k)).run P w = .ok () w := by
  show (Instr.checkKey b (9999 + 1) kt (.int .i64 k)).run P w = .ok () w
  unfold Instr.checkKey
  simp only [Sem.run_bind, run_underlying hk, Result.andThen_ok]
  rfl
theorem run_insertM {t kt et : TypeId} {g : Nat} {es : List (Int × Value)} {k : Int} {v : Value} (hu : P.underlying t = some (.map kt et)) (hk : P.underlying kt = some (.int .i64)) (hb : Mp w g es) (hn : es.lookup k = none) :
    (Instr.mapUpdate t (.map (some g)) (.int .i64 k) v).run P w = .ok () { w with heap := w.heap.setIfInBounds g (.map (ents 0 (es ++ [(k, v)])).toArray (es ++ [(k, v)]).length) } := by
  unfold Instr.mapUpdate Instr.findKey
  unfold Mp at hb
  simp [run_underlying hu, run_underlying hk, checkKey_int hk, getObj, setObj, Sem.run, hb, find_none es k 0 0 hn, ents_append]
theorem run_lookupM {t kt et : TypeId} {g : Nat} {es : List (Int × Value)} {k : Int} {z : Value} (hu : P.underlying t = some (.map kt et)) (hk : P.underlying kt = some (.int .i64)) (hz : (zeroValue et).run P w = .ok z w) (hb : Mp w g es) :
    (Instr.lookup t (.map (some g)) (.int .i64 k) true).run P w = .ok (.tuple #[(es.lookup k).getD z, .bool (es.lookup k).isSome]) w := by
  unfold Instr.lookup Instr.findKey
  unfold Mp at hb
  cases hl : es.lookup k with
  | none => simp [run_underlying hu, run_underlying hk, checkKey_int hk, getObj, Sem.run, hb, find_none es k 0 0 hl, hz]
  | some v =>
    obtain ⟨n, hn⟩ := find_some es k v 0 0 hl
    simp [run_underlying hu, run_underlying hk, checkKey_int hk, getObj, Sem.run, hb, hn]
theorem Hp.insert {g : Nat} {es : List (Int × Value)} {k : Int} {v : Value} (H : Hp X w0 w l) (u : Upd l (.map g es) (.map g (es ++ [(k, v)])) l') :
    Hp X w0 { w with heap := w.heap.setIfInBounds g (.map (ents 0 (es ++ [(k, v)])).toArray (es ++ [(k, v)]).length) } l' := by
  obtain ⟨L, h, hn⟩ := H.own
  obtain ⟨_, ⟨_, hg, hm⟩, _⟩ := h.sub u
  have hlt : g < w.heap.size := (Array.getElem?_eq_some_iff.1 hm).1
  have hfr : ∀ j, j ≠ g → (w.heap.setIfInBounds g (.map (ents 0 (es ++ [(k, v)])).toArray (es ++ [(k, v)]).length))[j]? = w.heap[j]? := fun j hj => by
    rw [Array.getElem?_setIfInBounds, if_neg (Ne.symm hj)]
  refine ⟨⟨H.ext.os, H.ext.tape, H.ext.output, by simpa using H.ext.size, fun j hj hx => (hfr j (by omega)).trans (H.ext.block j hj hx)⟩, L, h.upd u H.ext.size (by simp) hn (fun j hj _ => hfr j (by omega)) ?_ ?_, hn⟩
  · rintro K ⟨rfl, h1, h2⟩
    refine ⟨rfl, h1, ?_⟩
    unfold Mp
    simp [Array.getElem?_setIfInBounds, hlt]
  · rintro K ⟨rfl, h1, h2⟩ j hj hne
    exact hfr j (by simpa using hne)
theorem Hp.mp {g : Nat} {es : List (Int × Value)} (H : Hp X w0 w l) (p : Pick l (.map g es) l') : Mp w g es := by
  obtain ⟨L, h, _⟩ := (H.pick p).own
  unfold Chs at h
  obtain ⟨L1, L2, rfl, h1, h2⟩ := h
  exact h1.2.2
variable {ops : Array Oper} {rest : List Oper} {a : Act} {Q : Exit → Act → World → Prop}
theorem wpList_insert {d : Option Tmp} {t kt et : TypeId} {m x y : Operand} {ty : TypeId} {po : String} {af : Array Edge} {g : Nat} {es : List (Int × Value)} {k : Int} {v : Value} (hu : P.underlying t = some (.map kt et)) (hk : P.underlying kt = some (.int .i64))
    (hm : a.eval m = .map (some g)) (hx : a.eval x = .int .i64 k) (hy : a.eval y = v) (H : Hp X w0 w l) (u : Upd l (.map g es) (.map g (es ++ [(k, v)])) l') (hn : es.lookup k = none)
    (h : ∀ w', Hp X w0 w' l' → wpList P ops Q rest (a.put d undef) w') : wpList P ops Q (⟨d, .insert t m x y, ty, po, af, none⟩ :: rest) a w :=
  wpList_plain rfl fun K hK => by
    have hp : ∃ l1, Pick l (.map g es) l1 := u.pick
    obtain ⟨l1, p⟩ := hp
    unfold Oper.wp execOp
    simp only [hm, hx, hy, Sem.run_bind, run_insertM hu hk (H.mp p) hn, Result.andThen_ok, Sem.run_pure]
    exact hK _ _ (h _ (H.insert u))
theorem wpList_lookup {d : Option Tmp} {t kt et : TypeId} {m x : Operand} {ty : TypeId} {po : String} {af : Array Edge} {g : Nat} {es : List (Int × Value)} {k : Int} {z : Value} (hu : P.underlying t = some (.map kt et)) (hk : P.underlying kt = some (.int .i64)) (hz : (zeroValue et).run P w = .ok z w)
    (hm : a.eval m = .map (some g)) (hx : a.eval x = .int .i64 k) (H : Hp X w0 w l) (p : Pick l (.map g es) l')
    (h : wpList P ops Q rest (a.put d (.tuple #[(es.lookup k).getD z, .bool (es.lookup k).isSome])) w) : wpList P ops Q (⟨d, .lookup t m x true, ty, po, af, none⟩ :: rest) a w :=
  wpList_plain rfl fun K hK => by
    unfold Oper.wp execOp
    simp only [hm, hx, Sem.run_bind, run_lookupM hu hk hz (H.mp p), Result.andThen_ok, Sem.run_pure]
    exact hK _ _ h
theorem run_zero {t : TypeId} {z : Value} {w : World} (h : (P.info? t).map (·.zero) = some (some z)) : (zeroValue t).run P w = .ok z w := by
  cases hi : P.info? t with
  | none => simp [hi] at h
  | some i =>
    simp [hi] at h
    simp [zeroValue, typeInfo, hi, h]
theorem run_makeC {t e z bytes : Nat} {zv : Value} {cs : List Value} (n : Nat) (hu : P.underlying t = some (.slice e)) (hi : (P.info? e).map (fun i => (i.zero, i.size, i.bytes)) = some (some zv, z, bytes)) (hc : madeCells zv.cells (n * z) = cs.toArray) (hb : bytes * n ≤ 281474976710656) (hn : n ≤ 9223372036854775807) (w : World) :
    (Instr.makeSlice t (.int .i64 n) (.int .i64 n)).run P w = .ok (.slice (some ⟨w.heap.size, 0, none⟩) n n) (w.alloc (.cells cs.toArray e)) := by
  obtain ⟨i, g1, g2, g3, g4⟩ := info_parts hi
  have := run_make (P := P) w t e i zv hu g1 g2 .i64 .i64 n n (by omega) (by omega) (by rw [g4, ← Int.natCast_mul]; exact Int.ofNat_le.2 hb) (by omega)
  rw [this, Int.toNat_natCast, g3, hc]
theorem atInsert {d : Option Tmp} {t : TypeId} {m x y : Operand} {ty : TypeId} {po : String} {af : Array Edge} (h : wpList P ops Q (⟨d, .insert t m x y, ty, po, af, none⟩ :: rest) a w) : wpList P ops Q (⟨d, .insert t m x y, ty, po, af, none⟩ :: rest) a w := h
theorem atLookup {d : Option Tmp} {t : TypeId} {m x : Operand} {ty : TypeId} {po : String} {af : Array Edge} (h : wpList P ops Q (⟨d, .lookup t m x true, ty, po, af, none⟩ :: rest) a w) : wpList P ops Q (⟨d, .lookup t m x true, ty, po, af, none⟩ :: rest) a w := h
end
end Go.Proofs.YtgbokmphbimihaaDoor
