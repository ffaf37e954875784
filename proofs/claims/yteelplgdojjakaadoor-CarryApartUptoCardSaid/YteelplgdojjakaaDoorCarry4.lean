/- carry: terms carried over: contracts. -/
import Derived.Test.YteelplgdojjakaaDoorName
namespace Go.Proofs.YteelplgdojjakaaDoor
set_option linter.unusedSimpArgs false
set_option linter.unusedVariables false
open Go.RowKit

/-- What carrying leans on: the declarations, the bases, the table of kinds. -/
def Cx (w : World) (S S2 : Nat → Prop) (ds : List Dc) (at_ : List Int) (A B : Option Addr) (c c2 : Nat) : Prop :=
  RC w S (.l 42 16 (ds.map Dc.d)) [.slice A ds.length c] ∧ RC w S2 (.l 3 1 (at_.map D.i)) [.slice B at_.length c2] ∧ Tab w
theorem Cx.ext {w w' : World} {S S2 : Nat → Prop} {ds : List Dc} {at_ : List Int} {A B : Option Addr} {c c2 : Nat} (h : Cx w S S2 ds at_ A B c c2) (hx : Ext no w w') : Cx w' S S2 ds at_ A B c c2 := ⟨h.1.ext0 hx, h.2.1.ext0 hx, h.2.2.ext hx⟩
def CarryOK (S S2 : Nat → Prop) (ds : List Dc) (at_ : List Int) (A B : Option Addr) (c c2 : Nat) (t : Tm) : Prop :=
  ∀ (w : World) (S0 : Nat → Prop) (v : Value), Cx w S S2 ds at_ A B c c2 → TV w S0 t v → Calls Tryd.prog 56 #[.agg #[.slice A ds.length c, .slice B at_.length c2], v] w (PTm w (carryT ds at_ t))
set_option maxRecDepth 100000 in
set_option maxHeartbeats 2000000 in
theorem carryTerms {S S2 S0 : Nat → Prop} {ds : List Dc} {at_ : List Int} {A B K : Option Addr} {c c2 n k : Nat} {ts : List Tm} {w : World} (ih : ∀ t ∈ ts, CarryOK S S2 ds at_ A B c c2 t) (C : Cx w S S2 ds at_ A B c c2)
    (h : RC w S0 (.l 30 5 (ts.map Tm.d)) [.slice K n k]) (hn : n = ts.length) :
    Calls Tryd.prog 99 #[.agg #[.slice A ds.length c, .slice B at_.length c2], .slice K n k] w (PSl w 30 5 ((carryTs ds at_ ts).map Tm.d)) := by
  subst hn
  rw [carryTs_eq]
  have hM := h.lenM
  have IH := Lib.hid ih
  have HC := Lib.hid C
  clear ih C
  go_enter Tryd.func99, Tryd.ntmps99
  go_wp2_with fail
  have H := Hp.start no w
  refine codeH (by (repeat (first | with_reducible exact H | with_reducible exact H0_ | with_reducible apply Hp.alloc | with_reducible apply Hp.allocMap | with_reducible apply Hp.drew | with_reducible apply Hp.drewN | with_reducible apply Hp.set)); (try any_goals (repeat (first | with_reducible exact Upd.head | with_reducible apply Upd.tail)))) ?_
  clear H; intro w1 H; (try simp only [size_drew_, size_drewN_, World.size_alloc, World.size_setCell, List.set_cons_zero, List.set_cons_succ] at H)
  replace H := H.nil 30 5
  go_loopw [4, 9] (fun out i wr => ∃ j : Nat, j ≤ ts.length ∧ i = .int .i64 j ∧ Hp no w wr [.dat (.l 30 5 (((ts.map (carryT ds at_)).take j).map Tm.d)) [out], .box w.heap.size 88 [.slice A ds.length c, .slice B at_.length c2]]) (fun _ i _ => ts.length - (intOf i).toNat)
  case atStart => exact ⟨0, Nat.zero_le _, rfl, H⟩
  case round =>
    clear H
    obtain ⟨j, hj, rfl, H⟩ := hrel
    by_cases hlt : j < ts.length
    · obtain ⟨b, o, A1, ca, K1, ck, rfl, hb, hS, hd, p0, p1, p2, p3, p4⟩ := h.atTm hlt
      have HD := Lib.hid hd
      clear hd
      have hr_ := H.rules; simp only [Rules, and_true] at hr_; have hd_ := H.dif; simp only [Dif, Neq, and_true] at hd_; obtain ⟨ho_, hz_⟩ := H.old0
      go_wp2_with fail
      clear hr_ hd_ ho_ hz_
      refine callsH (by (repeat (first | with_reducible exact H | with_reducible exact H0_ | with_reducible apply Hp.alloc | with_reducible apply Hp.allocMap | with_reducible apply Hp.drew | with_reducible apply Hp.drewN | with_reducible apply Hp.set)); (try any_goals (repeat (first | with_reducible exact Upd.head | with_reducible apply Upd.tail)))) ?_
      clear H; intro w2 H; (try simp only [size_drew_, size_drewN_, World.size_alloc, World.size_setCell, List.set_cons_zero, List.set_cons_succ] at H)
      refine (IH.out ts[j] (by simp) _ _ _ (HC.out.ext H.ext) ⟨_, _, _, _, rfl, HD.out.ext0 H.ext⟩).mono ?_
      rintro e w3 ⟨v, rfl, hto, hx⟩
      obtain ⟨A2, c2, K2, k2, rfl, H3⟩ := H.resTm hx hto
      clear H hx hto
      rename Hp _ _ _ _ => H
      go_wp2_with (at_builtin; go_must (refine wpList_pushH rfl (.tmp 13) (.tmp 17) 28 rfl stTerms (by go_simp <;> first | rfl | exact ⟨rfl, rfl⟩) (by go_simp <;> first | rfl | exact ⟨rfl, rfl⟩) (by exact Hp.norm (by (repeat (first | with_reducible exact H | with_reducible exact H0_ | with_reducible apply Hp.alloc | with_reducible apply Hp.allocMap | with_reducible apply Hp.drew | with_reducible apply Hp.drewN | with_reducible apply Hp.set)); (try any_goals (repeat (first | with_reducible exact Upd.head | with_reducible apply Upd.tail)))) (by ((try simp only [size_drew_, size_drewN_, World.size_alloc, World.size_setCell, List.set_cons_zero, List.set_cons_succ, List.nil_append, List.cons_append]) <;> rfl))) (by (repeat (first | with_reducible exact Pick.head | with_reducible apply Pick.tail))) (by (repeat (first | with_reducible exact Pick.head | with_reducible apply Pick.tail))) (by (repeat (first | with_reducible exact Pick.head | with_reducible apply Pick.tail))) (Tm.size_d _) ?_ ?_; (focus (simp [M]; omega)); clear H; intro v' w4 H))
      go_roundw
      case rel => exact ⟨j + 1, by omega, by go_num, by rw [take_map _ (by simpa using hlt), List.getElem_map]; exact (H.only (by (repeat (first | with_reducible exact Subl.nil | with_reducible apply Subl.keep | with_reducible apply Subl.drop))))⟩
      case measure => simp [intOf]; omega
    · go_wp2_with fail
      go_ret
      rw [take_all (by simpa using hlt)] at H
      exact H.psl .head
theorem carryTs_len (ds : List Dc) (at_ : List Int) (ts : List Tm) : (carryTs ds at_ ts).length = ts.length := by rw [carryTs_eq, List.length_map]
theorem RC.ints {w : World} {S : Nat → Prop} {e : Nat} {xs : List Int} {A : Option Addr} {n c : Nat} (h : RC w S (.l e 1 (xs.map D.i)) [.slice A n c]) : ∀ x ∈ xs, inI x := by
  intro x hx
  obtain ⟨k, hk, rfl⟩ := List.getElem_of_mem hx
  obtain ⟨b, o, cs, _, _, _, hr, _⟩ := h.el (i := k) (d := .i xs[k]) (by simp [hk])
  unfold RC at hr
  exact hr.2
theorem nameOf_inI {ds : List Dc} {at_ : List Int} {k n a r : Int} (h : ∀ x ∈ at_, inI x) (e : nameOf ds at_ k n a = some r) : inI r := by
  unfold nameOf at e
  split at e
  · rename_i d b h1 h2
    have hb : inI b := by
      split at h2
      · exact h b (List.mem_of_getElem? h2)
      · cases h2
    (repeat' split at e) <;> first | (cases e; done) | (simp only [Option.some.injEq] at e; subst e; first | exact hb | exact wrap64_inI _)
  · cases e
theorem carryT_none {ds : List Dc} {at_ : List Int} {k n a : Int} {ls : List Lv} {ks : List Tm} (h : nameOf ds at_ k n a = none) : carryT ds at_ (.mk k n a ls ks) = .mk k n a ls (carryTs ds at_ ks) := by
  rw [carryT, h]
theorem carryT_some {ds : List Dc} {at_ : List Int} {k n a r : Int} {ls : List Lv} {ks : List Tm} (h : nameOf ds at_ k n a = some r) : carryT ds at_ (.mk k n a ls ks) = .mk 3 r 0 ls (carryTs ds at_ ks) := by
  rw [carryT, h]
set_option maxRecDepth 100000 in
set_option maxHeartbeats 4000000 in
theorem carryTerm {S S2 : Nat → Prop} {ds : List Dc} {at_ : List Int} {A B : Option Addr} {c c2 : Nat} : ∀ t : Tm, CarryOK S S2 ds at_ A B c c2 t := by
  intro t
  induction t using Tm.ind_ with
  | h tk tn ta ls ks ih =>
  rintro w S0 v C ⟨A0, ca, K0, ck, rfl, hrc⟩
  obtain ⟨_, _, _, _, he, i1, i2, i3, hls, hks⟩ := RC.tm.1 hrc
  simp only [List.cons.injEq, Value.slice.injEq, and_true, true_and] at he
  obtain ⟨⟨rfl, rfl⟩, rfl, rfl⟩ := he
  have IH := Lib.hid ih
  have HC := Lib.hid C
  clear ih hrc C
  simp only [Tm.k_mk, Tm.n_mk, Tm.a_mk, Tm.ls_mk, Tm.ks_mk] at hls hks i1 i2 i3 ⊢
  go_enter Tryd.func56, Tryd.ntmps56
  go_wp2_with fail
  have H := Hp.start no w
  refine callsH (by (repeat (first | with_reducible exact H | with_reducible exact H0_ | with_reducible apply Hp.alloc | with_reducible apply Hp.allocMap | with_reducible apply Hp.drew | with_reducible apply Hp.drewN | with_reducible apply Hp.set)); (try any_goals (repeat (first | with_reducible exact Upd.head | with_reducible apply Upd.tail)))) ?_
  clear H; intro w1 H; (try simp only [size_drew_, size_drewN_, World.size_alloc, World.size_setCell, List.set_cons_zero, List.set_cons_succ] at H)
  refine (lift_calls (t := .mk tk tn ta ls []) (S := S0) (HC.out.2.2.ext H.ext) 0 0 ⟨A0, ca, none, 0, rfl, RC.tm.2 ⟨_, _, _, _, rfl, i1, i2, i3, hls.ext0 H.ext, RC.nil⟩⟩).mono ?_
  rintro e w2 ⟨v, rfl, hto, hx⟩
  rw [lift00 i2] at hto
  obtain ⟨A1, c1, K1, k1, rfl, H3⟩ := H.resTm hx hto
  clear H hx hto
  have H := H3
  clear H3
  simp only [Tm.k_mk, Tm.n_mk, Tm.a_mk, Tm.ls_mk, Tm.ks_mk] at H ⊢
  obtain ⟨_, _, _, H4⟩ := H.untm
  clear H
  have H := H4
  clear H4
  simp only [Tm.k_mk, Tm.n_mk, Tm.a_mk, Tm.ls_mk, Tm.ks_mk] at H
  have hr_ := H.rules; simp only [Rules, and_true] at hr_; have hd_ := H.dif; simp only [Dif, Neq, and_true] at hd_; obtain ⟨ho_, hz_⟩ := H.old0
  go_wp2_with fail
  clear hr_ hd_ ho_ hz_
  refine callsH (by (repeat (first | with_reducible exact H | with_reducible exact H0_ | with_reducible apply Hp.alloc | with_reducible apply Hp.allocMap | with_reducible apply Hp.drew | with_reducible apply Hp.drewN | with_reducible apply Hp.set)); (try any_goals (repeat (first | with_reducible exact Upd.head | with_reducible apply Upd.tail)))) ?_
  clear H; intro w3 H; (try simp only [size_drew_, size_drewN_, World.size_alloc, World.size_setCell, List.set_cons_zero, List.set_cons_succ] at H)
  refine (name_calls (HC.out.1.ext0 H.ext) (HC.out.2.1.ext0 H.ext)).mono ?_
  rintro e w4 ⟨rfl, hx⟩
  replace H := H.call hx
  clear hx
  cases hq : nameOf ds at_ tk tn ta with
  | none =>
      have HE := Lib.hid (carryT_none (ls := ls) (ks := ks) hq)
      clear hq
      simp only [Option.getD_none, Option.isSome_none]
      have hr_ := H.rules; simp only [Rules, and_true] at hr_; have hd_ := H.dif; simp only [Dif, Neq, and_true] at hd_; obtain ⟨ho_, hz_⟩ := H.old0
      go_wp2_with fail
      clear hr_ hd_ ho_ hz_
      refine callsH (by (repeat (first | with_reducible exact H | with_reducible exact H0_ | with_reducible apply Hp.alloc | with_reducible apply Hp.allocMap | with_reducible apply Hp.drew | with_reducible apply Hp.drewN | with_reducible apply Hp.set)); (try any_goals (repeat (first | with_reducible exact Upd.head | with_reducible apply Upd.tail)))) ?_
      clear H; intro w5 H; (try simp only [size_drew_, size_drewN_, World.size_alloc, World.size_setCell, List.set_cons_zero, List.set_cons_succ] at H)
      refine (carryTerms (fun t ht => IH.out t ht) (HC.out.ext H.ext) (hks.ext0 H.ext) rfl).mono ?_
      rintro e w6 ⟨A6, c6, rfl, hacc, hx⟩
      replace H := H.resSl hx hacc
      clear hx hacc
      simp only [List.length_map, carryTs_len] at H ⊢
      have hr_ := H.rules; simp only [Rules, and_true] at hr_; have hd_ := H.dif; simp only [Dif, Neq, and_true] at hd_; obtain ⟨ho_, hz_⟩ := H.old0
      go_wp2_with ((with_reducible refine atStore (t := 30) ?_); go_must (refine wpList_storeH (t := 30) rfl rfl (by go_simp <;> first | rfl | exact ⟨rfl, rfl⟩) (by go_simp <;> first | rfl | exact ⟨rfl, rfl⟩) (by exact Hp.norm (by (repeat (first | with_reducible exact H | with_reducible exact H0_ | with_reducible apply Hp.alloc | with_reducible apply Hp.allocMap | with_reducible apply Hp.drew | with_reducible apply Hp.drewN | with_reducible apply Hp.set)); (try any_goals (repeat (first | with_reducible exact Upd.head | with_reducible apply Upd.tail)))) (by ((try simp only [size_drew_, size_drewN_, World.size_alloc, World.size_setCell, List.set_cons_zero, List.set_cons_succ, List.nil_append, List.cons_append]) <;> rfl))) (by (repeat (first | with_reducible exact Upd.head | with_reducible apply Upd.tail))) (by exact aggTerm) (by rfl) (by simp [Value.oneCell']) ?_; clear H; intro w7 H; (try simp only [size_drew_, size_drewN_, World.size_alloc, World.size_setCell, List.set_cons_zero, List.set_cons_succ] at H); (try clear hr_ hd_ ho_ hz_); have hr_ := H.rules; simp only [Rules, and_true] at hr_; have hd_ := H.dif; simp only [Dif, Neq, and_true] at hd_; obtain ⟨ho_, hz_⟩ := H.old0))
      clear hr_ hd_ ho_ hz_
      refine endH (by (repeat (first | with_reducible exact H | with_reducible exact H0_ | with_reducible apply Hp.alloc | with_reducible apply Hp.allocMap | with_reducible apply Hp.drew | with_reducible apply Hp.drewN | with_reducible apply Hp.set)); (try any_goals (repeat (first | with_reducible exact Upd.head | with_reducible apply Upd.tail)))) ?_
      clear H; intro w8 H; (try simp only [size_drew_, size_drewN_, World.size_alloc, World.size_setCell, List.set_cons_zero, List.set_cons_succ] at H)
      refine bodyPost_ret (v := .agg #[.int .i64 tk, .int .i64 tn, .int .i64 ta, .slice A1 ls.length c1, .slice A6 ks.length c6]) (Res.one Tryd.results56 (H.resBox (by (repeat (first | with_reducible exact Pick.head | with_reducible apply Pick.tail))) aggTerm rfl rfl)) rfl ?_
      rw [HE.out]
      exact (show PTm w (.mk tk tn ta ls (carryTs ds at_ ks)) _ _ from by
        have H := H.tm (by (repeat (first | with_reducible exact Pick.head | with_reducible apply Pick.tail))) (by (repeat (first | with_reducible exact Pick.head | with_reducible apply Pick.tail))) i1 i2 i3
        exact H.ptmk .head rfl (carryTs_len _ _ _).symm)
  | some r =>
      have HE := Lib.hid (carryT_some (ls := ls) (ks := ks) hq)
      have HI := Lib.hid (nameOf_inI HC.out.2.1.ints hq)
      clear hq
      simp only [Option.getD_some, Option.isSome_some]
      have hr_ := H.rules; simp only [Rules, and_true] at hr_; have hd_ := H.dif; simp only [Dif, Neq, and_true] at hd_; obtain ⟨ho_, hz_⟩ := H.old0
      go_wp2_with fail
      clear hr_ hd_ ho_ hz_
      refine callsH (by (repeat (first | with_reducible exact H | with_reducible exact H0_ | with_reducible apply Hp.alloc | with_reducible apply Hp.allocMap | with_reducible apply Hp.drew | with_reducible apply Hp.drewN | with_reducible apply Hp.set)); (try any_goals (repeat (first | with_reducible exact Upd.head | with_reducible apply Upd.tail)))) ?_
      clear H; intro w5 H; (try simp only [size_drew_, size_drewN_, World.size_alloc, World.size_setCell, List.set_cons_zero, List.set_cons_succ] at H)
      refine (carryTerms (fun t ht => IH.out t ht) (HC.out.ext H.ext) (hks.ext0 H.ext) rfl).mono ?_
      rintro e w6 ⟨A6, c6, rfl, hacc, hx⟩
      replace H := H.resSl hx hacc
      clear hx hacc
      simp only [List.length_map, carryTs_len] at H ⊢
      have hr_ := H.rules; simp only [Rules, and_true] at hr_; have hd_ := H.dif; simp only [Dif, Neq, and_true] at hd_; obtain ⟨ho_, hz_⟩ := H.old0
      go_wp2_with ((with_reducible refine atStore (t := 30) ?_); go_must (refine wpList_storeH (t := 30) rfl rfl (by go_simp <;> first | rfl | exact ⟨rfl, rfl⟩) (by go_simp <;> first | rfl | exact ⟨rfl, rfl⟩) (by exact Hp.norm (by (repeat (first | with_reducible exact H | with_reducible exact H0_ | with_reducible apply Hp.alloc | with_reducible apply Hp.allocMap | with_reducible apply Hp.drew | with_reducible apply Hp.drewN | with_reducible apply Hp.set)); (try any_goals (repeat (first | with_reducible exact Upd.head | with_reducible apply Upd.tail)))) (by ((try simp only [size_drew_, size_drewN_, World.size_alloc, World.size_setCell, List.set_cons_zero, List.set_cons_succ, List.nil_append, List.cons_append]) <;> rfl))) (by (repeat (first | with_reducible exact Upd.head | with_reducible apply Upd.tail))) (by exact aggTerm) (by rfl) (by simp [Value.oneCell']) ?_; clear H; intro w7 H; (try simp only [size_drew_, size_drewN_, World.size_alloc, World.size_setCell, List.set_cons_zero, List.set_cons_succ] at H); (try clear hr_ hd_ ho_ hz_); have hr_ := H.rules; simp only [Rules, and_true] at hr_; have hd_ := H.dif; simp only [Dif, Neq, and_true] at hd_; obtain ⟨ho_, hz_⟩ := H.old0))
      clear hr_ hd_ ho_ hz_
      refine endH (by (repeat (first | with_reducible exact H | with_reducible exact H0_ | with_reducible apply Hp.alloc | with_reducible apply Hp.allocMap | with_reducible apply Hp.drew | with_reducible apply Hp.drewN | with_reducible apply Hp.set)); (try any_goals (repeat (first | with_reducible exact Upd.head | with_reducible apply Upd.tail)))) ?_
      clear H; intro w8 H; (try simp only [size_drew_, size_drewN_, World.size_alloc, World.size_setCell, List.set_cons_zero, List.set_cons_succ] at H)
      refine bodyPost_ret (v := .agg #[.int .i64 3, .int .i64 r, .int .i64 0, .slice A1 ls.length c1, .slice A6 ks.length c6]) (Res.one Tryd.results56 (H.resBox (by (repeat (first | with_reducible exact Pick.head | with_reducible apply Pick.tail))) aggTerm rfl rfl)) rfl ?_
      rw [HE.out]
      exact (show PTm w (.mk 3 r 0 ls (carryTs ds at_ ks)) _ _ from by
        have H := H.tm (by (repeat (first | with_reducible exact Pick.head | with_reducible apply Pick.tail))) (by (repeat (first | with_reducible exact Pick.head | with_reducible apply Pick.tail))) (show inI 3 from ⟨by decide, by decide⟩) HI.out (show inI 0 from ⟨by decide, by decide⟩)
        exact H.ptmk .head rfl (carryTs_len _ _ _).symm)
end Go.Proofs.YteelplgdojjakaaDoor
