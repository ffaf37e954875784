/- law 04: clean: contract. No statement of the seat is proved here. -/
import Derived.Test.YteelplgdojjakaaDoorDeep
import Derived.Test.YteelplgdojjakaaDoorTeleLaw
namespace Go.Proofs.YteelplgdojjakaaDoor
set_option linter.unusedSimpArgs false
set_option linter.unusedVariables false
open Go.RowKit

theorem cleanT_step {t : Tm} (h6 : t.k = 6) (h2 : t.ks.length = 2) (hn : t.n = 0) (ha : t.a = 0) (hl : t.ls.length = 0) : cleanT t = cleanT (t.ks[0]'(by omega)) := by
  obtain ⟨k, n, a, ls, x, y, rfl⟩ := Tm.two h2
  simp only [Tm.k_mk, Tm.n_mk, Tm.a_mk, Tm.ls_mk] at h6 hn ha hl
  obtain rfl := List.eq_nil_of_length_eq_zero hl
  rw [cleanT, if_pos h6, hn, ha]
  simp
  rfl
theorem cleanT_bad {t : Tm} (h6 : t.k = 6) (h2 : t.ks.length = 2) (hb : ¬ (t.n = 0 ∧ t.a = 0 ∧ t.ls.length = 0)) : cleanT t = false := by
  obtain ⟨k, n, a, ls, x, y, rfl⟩ := Tm.two h2
  simp only [Tm.k_mk, Tm.n_mk, Tm.a_mk, Tm.ls_mk] at h6 hb
  rw [cleanT, if_pos h6]
  cases ls with
  | nil =>
    by_cases h0 : n = 0
    · have : ¬ a = 0 := fun e => hb ⟨h0, e, rfl⟩
      simp [this]
    · simp [h0]
  | cons _ _ => simp
theorem cleanT_stop {t : Tm} (h : ¬ (t.k = 6 ∧ t.ks.length = 2)) : cleanT t = true := by
  obtain ⟨k, n, a, ls, ks⟩ := t
  match ks with
  | [] => simp [cleanT]
  | [_] => simp [cleanT]
  | [x, y] =>
    rw [cleanT, if_neg]
    intro e
    exact h ⟨e, rfl⟩
  | _ :: _ :: _ :: _ => simp [cleanT]
set_option maxRecDepth 100000 in
set_option maxHeartbeats 4000000 in
theorem clean_calls {S : Nat → Prop} {t : Tm} {w : World} {v : Value} (h : TV w S t v) : Calls Tryd.prog 29 #[v] w (PV w (.bool (cleanT t))) := by
  obtain ⟨A0, ca, K0, ck, rfl, hrc⟩ := h
  have HRC := Lib.hid hrc
  clear hrc
  go_enter Tryd.func29, Tryd.ntmps29
  go_wp2_with fail
  have H := Hp.start no w
  go_loopw [] (fun wr => ∃ (u : Tm) (B K : Option Addr) (cb kb : Nat), Hid (cleanT u = cleanT t) ∧ RC w S u.d [.int .i64 u.k, .int .i64 u.n, .int .i64 u.a, .slice B u.ls.length cb, .slice K u.ks.length kb] ∧ Hp no w wr [.box w.heap.size 30 [.int .i64 u.k, .int .i64 u.n, .int .i64 u.a, .slice B u.ls.length cb, .slice K u.ks.length kb]]) (fun wr => deepAt w S w.heap.size wr)
  case atStart => exact ⟨t, _, _, _, _, Lib.hid rfl, HRC.out, by (repeat (first | with_reducible exact H | with_reducible exact H0_ | with_reducible apply Hp.alloc | with_reducible apply Hp.allocMap | with_reducible apply Hp.drew | with_reducible apply Hp.drewN | with_reducible apply Hp.set)); (try any_goals (repeat (first | with_reducible exact Upd.head | with_reducible apply Upd.tail)))⟩
  case round =>
    clear H
    obtain ⟨u, B, K, cb, kb, HM, hrc, H⟩ := hrel
    have HR := Lib.hid hrc
    have HDP := Lib.hid (deepAt_hp (g := w.heap.size) H (by (repeat (first | with_reducible exact Pick.head | with_reducible apply Pick.tail))) hrc)
    clear hrc
    by_cases h62 : u.k = 6 ∧ u.ks.length = 2
    · obtain ⟨h6, h2⟩ := h62
      obtain ⟨_, _, _, _, he, _, _, _, _, hks⟩ := RC.tm.1 HR.out
      simp only [List.cons.injEq, Value.slice.injEq, and_true, true_and] at he
      obtain ⟨⟨rfl, rfl⟩, rfl, rfl⟩ := he
      obtain ⟨b, o, A1, ca1, K1, ck1, rfl, hb, hS, hd, p0, p1, p2, p3, p4⟩ := hks.atTm (k := 0) (by omega)
      have HD := Lib.hid hd
      have HK := Lib.hid (depthT_kid (t := u) (i := 0) (by omega))
      clear hd hks
      simp only [Nat.zero_mul, Nat.add_zero] at p0 p1 p2 p3 p4
      by_cases hg : u.n = 0 ∧ u.a = 0 ∧ u.ls.length = 0
      · obtain ⟨hn, ha, hl⟩ := hg
        have HS := Lib.hid (cleanT_step h6 h2 hn ha hl)
        have hr_ := H.rules; simp only [Rules, and_true] at hr_; have hd_ := H.dif; simp only [Dif, Neq, and_true] at hd_; obtain ⟨ho_, hz_⟩ := H.old0
        go_wp2_with ((with_reducible refine atStore (t := 30) ?_); go_must (refine wpList_storeH (t := 30) rfl rfl (by go_simp <;> first | rfl | exact ⟨rfl, rfl⟩) (by go_simp <;> first | rfl | exact ⟨rfl, rfl⟩) (by exact Hp.norm (by (repeat (first | with_reducible exact H | with_reducible exact H0_ | with_reducible apply Hp.alloc | with_reducible apply Hp.allocMap | with_reducible apply Hp.drew | with_reducible apply Hp.drewN | with_reducible apply Hp.set)); (try any_goals (repeat (first | with_reducible exact Upd.head | with_reducible apply Upd.tail)))) (by ((try simp only [size_drew_, size_drewN_, World.size_alloc, World.size_setCell, List.set_cons_zero, List.set_cons_succ, List.nil_append, List.cons_append]) <;> rfl))) (by (repeat (first | with_reducible exact Upd.head | with_reducible apply Upd.tail))) (by exact aggTerm) (by rfl) (by simp [Value.oneCell']) ?_; clear H; intro w7 H; (try simp only [size_drew_, size_drewN_, World.size_alloc, World.size_setCell, List.set_cons_zero, List.set_cons_succ] at H); (try clear hr_ hd_ ho_ hz_); have hr_ := H.rules; simp only [Rules, and_true] at hr_; have hd_ := H.dif; simp only [Dif, Neq, and_true] at hd_; obtain ⟨ho_, hz_⟩ := H.old0))
        clear hr_ hd_ ho_ hz_
        go_roundw
        case rel =>
          (repeat apply Exists.intro)
          refine ⟨⟨u.ks[0], _, _, _, _, Lib.hid (HS.out.symm.trans HM.out), HD.out, (H.arr (by (repeat (first | with_reducible exact Arr.nil | refine Arr.cons (by (repeat (first | with_reducible exact Pick.head | with_reducible apply Pick.tail))) ?_)) <;> exact Arr.of_subl (by (repeat (first | with_reducible exact Subl.refl _ | with_reducible apply Subl.drop)))))⟩, ?_⟩
          rfl
        case measure =>
          have e := deepAt_hp (g := w.heap.size) H (by (repeat (first | with_reducible exact Pick.head | with_reducible apply Pick.tail))) HD.out
          rw [e, HDP.out]
          exact HK.out
      · have HS := Lib.hid (cleanT_bad h6 h2 hg)
        rw [← HM.out, HS.out]
        by_cases hn : u.n = 0
        · by_cases ha : u.a = 0
          · have hl : ¬ u.ls.length = 0 := fun e => hg ⟨hn, ha, e⟩
            clear hg
            have hr_ := H.rules; simp only [Rules, and_true] at hr_; have hd_ := H.dif; simp only [Dif, Neq, and_true] at hd_; obtain ⟨ho_, hz_⟩ := H.old0
            go_wp2_with fail
            clear hr_ hd_ ho_ hz_
            go_ret
            exact ⟨rfl, H.ext⟩
          · clear hg
            have hr_ := H.rules; simp only [Rules, and_true] at hr_; have hd_ := H.dif; simp only [Dif, Neq, and_true] at hd_; obtain ⟨ho_, hz_⟩ := H.old0
            go_wp2_with fail
            clear hr_ hd_ ho_ hz_
            go_ret
            exact ⟨rfl, H.ext⟩
        · clear hg
          have hr_ := H.rules; simp only [Rules, and_true] at hr_; have hd_ := H.dif; simp only [Dif, Neq, and_true] at hd_; obtain ⟨ho_, hz_⟩ := H.old0
          go_wp2_with fail
          clear hr_ hd_ ho_ hz_
          go_ret
          exact ⟨rfl, H.ext⟩
    · have HS := Lib.hid (cleanT_stop h62)
      by_cases h6 : u.k = 6
      · have h2 : ¬ u.ks.length = 2 := fun e => h62 ⟨h6, e⟩
        clear h62
        have hr_ := H.rules; simp only [Rules, and_true] at hr_; have hd_ := H.dif; simp only [Dif, Neq, and_true] at hd_; obtain ⟨ho_, hz_⟩ := H.old0
        go_wp2_with fail
        clear hr_ hd_ ho_ hz_
        go_ret
        exact ⟨by rw [← HM.out, HS.out]; rfl, H.ext⟩
      · clear h62
        have hr_ := H.rules; simp only [Rules, and_true] at hr_; have hd_ := H.dif; simp only [Dif, Neq, and_true] at hd_; obtain ⟨ho_, hz_⟩ := H.old0
        go_wp2_with fail
        clear hr_ hd_ ho_ hz_
        go_ret
        exact ⟨by rw [← HM.out, HS.out]; rfl, H.ext⟩
end Go.Proofs.YteelplgdojjakaaDoor
