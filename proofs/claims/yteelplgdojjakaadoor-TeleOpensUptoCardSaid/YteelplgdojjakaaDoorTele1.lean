/- tele: own, owns, of, Pis, Lams, Apps: contracts. No statement of the seat is proved here. -/
import Derived.Test.YteelplgdojjakaaDoorAbove
import Derived.Test.YteelplgdojjakaaDoorLift
namespace Go.Proofs.YteelplgdojjakaaDoor
set_option linter.unusedSimpArgs false
set_option linter.unusedVariables false
open Go.RowKit

/-- All numbers of a term are int64's. -/
inductive TmOK : Tm → Prop where
  | mk {k n a : Int} {ls : List Lv} {ks : List Tm} (h1 : inI k) (h2 : inI n) (h3 : inI a) (h : ∀ t ∈ ks, TmOK t) : TmOK (.mk k n a ls ks)
theorem RC.ok : ∀ (t : Tm) {w : World} {S : Nat → Prop} {cs : List Value}, RC w S t.d cs → TmOK t := by
  intro t
  induction t using Tm.ind_ with
  | h k n a ls ks ih =>
  intro w S cs h
  obtain ⟨_, _, _, _, _, i1, i2, i3, _, hks⟩ := RC.tm.1 h
  refine .mk i1 i2 i3 fun t ht => ?_
  obtain ⟨j, hj, rfl⟩ := List.getElem_of_mem ht
  obtain ⟨_, _, _, _, _, _, _, _, _, hr, _⟩ := RC.atTm hks hj
  exact ih _ (by simp) hr
theorem wrap_in {n : Int} (h : inI n) : wrap64 n = n := by unfold inI at h; unfold wrap64; omega
theorem lift0 : ∀ {t : Tm} (b : Int), TmOK t → walkT (liftF 0 0) b t = t := by
  intro t
  induction t using Tm.ind_ with
  | h k n a ls ks ih =>
  intro b h
  cases h with
  | mk h1 h2 h3 h =>
  have hs : ∀ (ts : List Tm) (i : Nat), (∀ t ∈ ts, t ∈ ks) → walkTs (liftF 0 0) k b i ts = ts := by
    intro ts
    induction ts with
    | nil => intro i _; rfl
    | cons t ts ihs =>
      intro i hm
      rw [walkTs, ih t (hm t (by simp)) _ (h t (hm t (by simp))), ihs _ fun t ht => hm t (by simp [ht])]
  simp only [walkT, liftF, Tm.k_mk, Tm.n_mk, Tm.a_mk, Tm.ls_mk, Int.add_zero, wrap_in h2, ite_self]
  rw [hs ks 0 fun _ h => h]
theorem liftT0 {t : Tm} (h : TmOK t) : liftT t 0 0 = t := lift0 0 h

set_option maxRecDepth 100000 in
set_option maxHeartbeats 2000000 in
theorem teleOwn {S : Nat → Prop} {t : Tm} {w : World} {v : Value} (hT : Tab w) (h : TV w S t v) : Calls Tryd.prog 65 #[v] w (PTm w t) := by
  obtain ⟨A0, ca, K0, ck, rfl, hrc⟩ := h
  have hok := Lib.hid (liftT0 (RC.ok _ hrc))
  have HT := Lib.hid hT
  clear hT
  go_enter Tryd.func65, Tryd.ntmps65
  go_wp2_with fail
  have H := Hp.start no w
  refine callsH (by (repeat (first | with_reducible exact H | with_reducible exact H0_ | with_reducible apply Hp.alloc | with_reducible apply Hp.allocMap | with_reducible apply Hp.drew | with_reducible apply Hp.drewN | with_reducible apply Hp.set)); (try any_goals (repeat (first | with_reducible exact Upd.head | with_reducible apply Upd.tail)))) ?_
  clear H; intro w1 H; (try simp only [size_drew_, size_drewN_, World.size_alloc, World.size_setCell, List.set_cons_zero, List.set_cons_succ] at H)
  refine (lift_calls (t := t) (S := S) (HT.out.ext H.ext) 0 0 ⟨_, _, _, _, rfl, hrc.ext0 H.ext⟩).mono ?_
  rw [hok.out]
  rintro e w_ ⟨v, rfl, hto, hx⟩
  obtain ⟨A1, Ac, A2, Ak, rfl, H_⟩ := H.resTm hx hto
  clear H hx hto
  have H := H_
  clear H_
  have hr_ := H.rules; simp only [Rules, and_true] at hr_; have hd_ := H.dif; simp only [Dif, Neq, and_true] at hd_; obtain ⟨ho_, hz_⟩ := H.old0
  go_wp2_with ((with_reducible refine atStore (t := 30) ?_); go_must (refine wpList_storeH (t := 30) rfl rfl (by go_simp <;> first | rfl | exact ⟨rfl, rfl⟩) (by go_simp <;> first | rfl | exact ⟨rfl, rfl⟩) (by exact Hp.norm (by (repeat (first | with_reducible exact H | with_reducible exact H0_ | with_reducible apply Hp.alloc | with_reducible apply Hp.allocMap | with_reducible apply Hp.drew | with_reducible apply Hp.drewN | with_reducible apply Hp.set)); (try any_goals (repeat (first | with_reducible exact Upd.head | with_reducible apply Upd.tail)))) (by ((try simp only [size_drew_, size_drewN_, World.size_alloc, World.size_setCell, List.set_cons_zero, List.set_cons_succ, List.nil_append, List.cons_append]) <;> rfl))) (by (repeat (first | with_reducible exact Upd.head | with_reducible apply Upd.tail))) (by exact aggTerm) (by rfl) (by simp [Value.oneCell']) ?_; clear H; intro w7 H; (try simp only [size_drew_, size_drewN_, World.size_alloc, World.size_setCell, List.set_cons_zero, List.set_cons_succ] at H); (try clear hr_ hd_ ho_ hz_); have hr_ := H.rules; simp only [Rules, and_true] at hr_; have hd_ := H.dif; simp only [Dif, Neq, and_true] at hd_; obtain ⟨ho_, hz_⟩ := H.old0))
  clear hr_ hd_ ho_ hz_
  refine endH (by (repeat (first | with_reducible exact H | with_reducible exact H0_ | with_reducible apply Hp.alloc | with_reducible apply Hp.allocMap | with_reducible apply Hp.drew | with_reducible apply Hp.drewN | with_reducible apply Hp.set)); (try any_goals (repeat (first | with_reducible exact Upd.head | with_reducible apply Upd.tail)))) ?_
  clear H; intro w8 H; (try simp only [size_drew_, size_drewN_, World.size_alloc, World.size_setCell, List.set_cons_zero, List.set_cons_succ] at H)
  exact bodyPost_ret (v := .agg #[_, _, _, _, _]) (Res.one Tryd.results65 (H.resBox (by (repeat (first | with_reducible exact Pick.head | with_reducible apply Pick.tail))) aggTerm rfl rfl)) rfl (H.ptm (by (repeat (first | with_reducible exact Pick.head | with_reducible apply Pick.tail))))
set_option maxRecDepth 100000 in
set_option maxHeartbeats 2000000 in
theorem teleOwns {S : Nat → Prop} {ts : List Tm} {w : World} {A : Option Addr} {n c : Nat} (hT : Tab w) (h : RC w S (.l 30 5 (ts.map Tm.d)) [.slice A n c]) (hn : n = ts.length) : Calls Tryd.prog 101 #[.slice A n c] w (PSl w 30 5 (ts.map Tm.d)) := by
  subst hn
  have hM := h.lenM
  have HT := Lib.hid hT
  clear hT
  go_enter Tryd.func101, Tryd.ntmps101
  go_wp2_with fail
  have H := Hp.start no w
  replace H := H.nil 30 5
  go_loopw [2, 7] (fun out i wr => ∃ j : Nat, j ≤ ts.length ∧ i = .int .i64 j ∧ Hp no w wr [.dat (.l 30 5 ((ts.take j).map Tm.d)) [out]]) (fun _ i _ => ts.length - (intOf i).toNat)
  case atStart => exact ⟨0, Nat.zero_le _, rfl, H⟩
  case round =>
    clear H
    obtain ⟨j, hj, rfl, H⟩ := hrel
    by_cases hlt : j < ts.length
    · obtain ⟨b, o, A1, ca, K1, ck, rfl, hb, hS, hd, p0, p1, p2, p3, p4⟩ := h.atTm hlt
      have HD := Lib.hid hd
      clear hd
      have hr_ := H.rules; simp only [Rules, and_true] at hr_; have hd_ := H.dif; simp only [Dif, Neq, and_true] at hd_; obtain ⟨ho_, hz_⟩ := H.old0
      go_wp2_with fail
      clear hr_ hd_ ho_ hz_
      refine callsH (by (repeat (first | with_reducible exact H | with_reducible exact H0_ | with_reducible apply Hp.alloc | with_reducible apply Hp.allocMap | with_reducible apply Hp.drew | with_reducible apply Hp.drewN | with_reducible apply Hp.set)); (try any_goals (repeat (first | with_reducible exact Upd.head | with_reducible apply Upd.tail)))) ?_
      clear H; intro w2 H; (try simp only [size_drew_, size_drewN_, World.size_alloc, World.size_setCell, List.set_cons_zero, List.set_cons_succ] at H)
      refine (teleOwn (HT.out.ext H.ext) ⟨_, _, _, _, rfl, HD.out.ext0 H.ext⟩).mono ?_
      rintro e w_ ⟨v, rfl, hto, hx⟩
      obtain ⟨B1, Bc, B2, Bk, rfl, H_⟩ := H.resTm hx hto
      clear H hx hto
      have H := H_
      clear H_
      rename Hp _ _ _ _ => H
      go_wp2_with (at_builtin; go_must (refine wpList_pushH rfl (.tmp 11) (.tmp 14) 28 rfl stTerms (by go_simp <;> first | rfl | exact ⟨rfl, rfl⟩) (by go_simp <;> first | rfl | exact ⟨rfl, rfl⟩) (by exact Hp.norm (by (repeat (first | with_reducible exact H | with_reducible exact H0_ | with_reducible apply Hp.alloc | with_reducible apply Hp.allocMap | with_reducible apply Hp.drew | with_reducible apply Hp.drewN | with_reducible apply Hp.set)); (try any_goals (repeat (first | with_reducible exact Upd.head | with_reducible apply Upd.tail)))) (by ((try simp only [size_drew_, size_drewN_, World.size_alloc, World.size_setCell, List.set_cons_zero, List.set_cons_succ, List.nil_append, List.cons_append]) <;> rfl))) (by (repeat (first | with_reducible exact Pick.head | with_reducible apply Pick.tail))) (by (repeat (first | with_reducible exact Pick.head | with_reducible apply Pick.tail))) (by (repeat (first | with_reducible exact Pick.head | with_reducible apply Pick.tail))) (Tm.size_d _) ?_ ?_; (focus (simp [M]; omega)); clear H; intro v' w4 H))
      go_roundw
      case rel => exact ⟨j + 1, by omega, by go_num, by rw [take_map _ hlt]; exact (H.only (by (repeat (first | with_reducible exact Subl.nil | with_reducible apply Subl.keep | with_reducible apply Subl.drop))))⟩
      case measure => simp [intOf]; omega
    · go_wp2_with fail
      go_ret
      rw [take_all hlt] at H
      exact H.psl .head
end Go.Proofs.YteelplgdojjakaaDoor
