/- Reference 12: arg: contract. No statement of the seat is proved here. -/
import Derived.Test.YtgbokmphbimihaaDoorMgRef04c
import Derived.Test.YtgbokmphbimihaaDoorSplit2
namespace Go.Proofs.YtgbokmphbimihaaDoor
set_option linter.unusedSimpArgs false
set_option linter.unusedVariables false
open Go.RowKit

/-- What the reference's arg tells: an argument, or an error. -/
def PArgR (w : World) (r : Except Int Ar) (e : Ending) (w' : World) : Prop := match r with
  | .ok a => ∃ cs : List Value, e = .returned (.tuple #[.agg cs.toArray, .int .i64 0]) ∧ Hp no w w' [.dat a.d cs]
  | .error k => e = .returned (.tuple #[.agg #[.bool false, .int .i64 0, .int .i64 0, .int .i64 0, .slice none 0 0, .slice none 0 0, .slice none 0 0, .int .i64 0, .slice none 0 0], .int .i64 k]) ∧ Ext no w w' ∧ k ≠ 0
set_option maxRecDepth 100000 in
set_option maxHeartbeats 8000000 in
theorem refArg {S S1 : Nat → Prop} {d : Dc} {t : Tm} {w : World} {cs : List Value} {v : Value} (hd : RC w S1 d.d cs) (h : TV w S t v) (hb : sizeT t ≤ 4000000) :
    Calls Tryd.prog 157 #[.agg cs.toArray, v] w (PArgR w (argQ d.members t)) := by
  have HDD := Lib.hid hd
  obtain ⟨Aty, cty, Kty, kty, Abody, cbody, Kbody, kbody, Aparams, cparams, Asort, csort, Amembers, cmembers, Actors, cctors, rfl, hparts⟩ := RC.dc.1 hd
  have HPARTS := Lib.hid hparts
  have hM2 := hparts.2.2.2.2.2.2.1.lenM
  have HM2 := Lib.hid hM2
  clear hM2
  obtain ⟨A0, ca, K0, ck, rfl, hrc⟩ := h
  have HRC := Lib.hid hrc
  have HB := Lib.hid hb
  obtain ⟨R, hR⟩ : ∃ R, R = argQ d.members t := ⟨_, rfl⟩
  rw [← hR]
  have HR := Lib.hid hR
  clear hd hparts hrc hb hR
  go_enter Tryd.func157, Tryd.ntmps157
  have H := Hp.start no w
  go_wp2_with fail
  refine callsH (by (repeat (first | with_reducible exact H | with_reducible exact H0_ | with_reducible apply Hp.alloc | with_reducible apply Hp.allocMap | with_reducible apply Hp.drew | with_reducible apply Hp.drewN | with_reducible apply Hp.set)); (try any_goals (repeat (first | with_reducible exact Upd.head | with_reducible apply Upd.tail)))) ?_
  clear H; intro w1 H; (try simp only [size_drew_, size_drewN_, World.size_alloc, World.size_setCell, List.set_cons_zero, List.set_cons_succ] at H)
  obtain ⟨q, hq⟩ : ∃ q, q = selfT t := ⟨_, rfl⟩
  have hcall := refSelf_calls t _ _ _ ⟨_, _, _, _, rfl, HRC.out.ext0 H.ext⟩
  rw [← hq] at hcall
  have HQ := Lib.hid hq
  clear hq
  refine (hcall).mono ?_
  rintro e w_ ⟨rfl, hx⟩
  replace H := H.call hx
  clear hx
  clear hcall
  cases q
  · have HR2 : Hid (R = .ok ⟨false, t, [], 0, []⟩) := by
      unfold Hid
      rw [HR.out, argQ, if_pos HQ.out.symm]
    have hr_ := H.rules; simp only [Rules, and_true] at hr_; have hd_ := H.dif; simp only [Dif, Neq, and_true] at hd_; obtain ⟨ho_, hz_⟩ := H.old0
    go_wp2_with fail
    (try clear hr_ hd_ ho_ hz_)
    refine callsH (by (repeat (first | with_reducible exact H | with_reducible exact H0_ | with_reducible apply Hp.alloc | with_reducible apply Hp.allocMap | with_reducible apply Hp.drew | with_reducible apply Hp.drewN | with_reducible apply Hp.set)); (try any_goals (repeat (first | with_reducible exact Upd.head | with_reducible apply Upd.tail)))) ?_
    clear H; intro w2 H; (try simp only [size_drew_, size_drewN_, World.size_alloc, World.size_setCell, List.set_cons_zero, List.set_cons_succ] at H)
    refine (refLift0 (t := t) ⟨_, _, _, _, rfl, HRC.out.ext0 H.ext⟩).mono ?_
    rintro e w_ ⟨v, rfl, hto, hx⟩
    obtain ⟨D1, Dc, D2, Dk, rfl, H_⟩ := H.resTm hx hto
    clear H hx hto
    have H := H_
    clear H_
    dsimp only
    have hr_ := H.rules; simp only [Rules, and_true] at hr_; have hd_ := H.dif; simp only [Dif, Neq, and_true] at hd_; obtain ⟨ho_, hz_⟩ := H.old0
    go_wp2_with ((with_reducible refine atStore (t := 80) ?_); go_must (refine wpList_storeH (t := 80) rfl rfl (by go_simp <;> first | rfl | exact ⟨rfl, rfl⟩) (by go_simp <;> first | rfl | exact ⟨rfl, rfl⟩) (by exact Hp.norm (by (repeat (first | with_reducible exact H | with_reducible exact H0_ | with_reducible apply Hp.alloc | with_reducible apply Hp.allocMap | with_reducible apply Hp.drew | with_reducible apply Hp.drewN | with_reducible apply Hp.set)); (try any_goals (repeat (first | with_reducible exact Upd.head | with_reducible apply Upd.tail)))) (by ((try simp only [size_drew_, size_drewN_, World.size_alloc, World.size_setCell, List.set_cons_zero, List.set_cons_succ, List.nil_append, List.cons_append]) <;> rfl))) (by (repeat (first | with_reducible exact Upd.head | with_reducible apply Upd.tail))) (by exact aggArg) (by rfl) (by simp [Value.oneCell']) ?_; clear H; intro w3 H; (try simp only [size_drew_, size_drewN_, World.size_alloc, World.size_setCell, List.set_cons_zero, List.set_cons_succ] at H); (try clear hr_ hd_ ho_ hz_); have hr_ := H.rules; simp only [Rules, and_true] at hr_; have hd_ := H.dif; simp only [Dif, Neq, and_true] at hd_; obtain ⟨ho_, hz_⟩ := H.old0))
    (try clear hr_ hd_ ho_ hz_)
    refine bodyPost_ret (v := .tuple #[.agg #[_, _, _, _, _, _, _, _, _], .int .i64 0]) (Res.two Tryd.results157 (H.resBox (by (repeat (first | with_reducible exact Pick.head | with_reducible apply Pick.tail))) aggArg rfl rfl) rfl) rfl ?_
    rw [HR2.out]
    exact ⟨_, rfl, (H.arT (t := t) .head).only (.keep (by (repeat (first | with_reducible exact Subl.nil | with_reducible apply Subl.drop))))⟩
  · have hcs := countT_size t
    have hct : countT t ≤ 4000000 := Nat.le_trans hcs HB.out
    obtain ⟨N, hN⟩ : ∃ N, N = countT t := ⟨_, rfl⟩
    have hR2 : R = argQ d.members t := HR.out
    rw [argQ, if_neg (by rw [← HQ.out]; simp)] at hR2
    rw [← hN] at hct hR2
    have HR2 := Lib.hid hR2
    have HN := Lib.hid hN
    clear hR2 hcs
    have hr_ := H.rules; simp only [Rules, and_true] at hr_; have hd_ := H.dif; simp only [Dif, Neq, and_true] at hd_; obtain ⟨ho_, hz_⟩ := H.old0
    go_wp2_with fail
    (try clear hr_ hd_ ho_ hz_)
    refine callsH (by (repeat (first | with_reducible exact H | with_reducible exact H0_ | with_reducible apply Hp.alloc | with_reducible apply Hp.allocMap | with_reducible apply Hp.drew | with_reducible apply Hp.drewN | with_reducible apply Hp.set)); (try any_goals (repeat (first | with_reducible exact Upd.head | with_reducible apply Upd.tail)))) ?_
    clear H; intro w2 H; (try simp only [size_drew_, size_drewN_, World.size_alloc, World.size_setCell, List.set_cons_zero, List.set_cons_succ] at H)
    have hcall := refCount (t := t) ⟨_, _, _, _, rfl, HRC.out.ext0 H.ext⟩ (by omega)
    rw [← hN] at hcall
    clear hN
    refine (hcall).mono ?_
    rintro e w_ ⟨rfl, hx⟩
    replace H := H.call hx
    clear hx
    clear hcall
    by_cases h6 : (N : Int) ≤ 6
    · have hR3 := HR2.out
      rw [if_pos h6] at hR3
      have HR3 := Lib.hid hR3
      have hN6 : N ≤ 6 := by omega
      clear hR3
      have hr_ := H.rules; simp only [Rules, and_true] at hr_; have hd_ := H.dif; simp only [Dif, Neq, and_true] at hd_; obtain ⟨ho_, hz_⟩ := H.old0
      go_wp2_with fail
      (try clear hr_ hd_ ho_ hz_)
      clear h6
      refine callsH (by (repeat (first | with_reducible exact H | with_reducible exact H0_ | with_reducible apply Hp.alloc | with_reducible apply Hp.allocMap | with_reducible apply Hp.drew | with_reducible apply Hp.drewN | with_reducible apply Hp.set)); (try any_goals (repeat (first | with_reducible exact Upd.head | with_reducible apply Upd.tail)))) ?_
      clear H; intro w5 H; (try simp only [size_drew_, size_drewN_, World.size_alloc, World.size_setCell, List.set_cons_zero, List.set_cons_succ] at H)
      have hcall := refOpen (t := t) ⟨_, _, _, _, rfl, HRC.out.ext0 H.ext⟩ (by rw [← HN.out]; omega)
      rw [← HN.out] at hcall
      refine hcall.mono ?_
      clear hcall
      have hsz := openAll_size t
      obtain ⟨ls, e1⟩ : ∃ ls, ls = (openAll t).1 := ⟨_, rfl⟩
      obtain ⟨r, e2⟩ : ∃ r, r = (openAll t).2 := ⟨_, rfl⟩
      rw [← e1, ← e2] at hsz
      have hR4 := HR3.out
      rw [← e1, ← e2] at hR4
      rw [show openAll t = (ls, r) by rw [e1, e2]]
      clear e1 e2
      rintro e w6 ⟨B1, cb1, K1, kb1, A1, c1, rfl, H2⟩
      dsimp only at H2 ⊢
      have hsp := spineT_size r
      obtain ⟨hd, hhd⟩ : ∃ hd, hd = (spineT r).1 := ⟨_, rfl⟩
      obtain ⟨l, hl⟩ : ∃ l, l = (spineT r).2 := ⟨_, rfl⟩
      rw [← hhd, ← hl] at hR4 hsp
      obtain ⟨q1, hq1⟩ : ∃ q1, q1 = ls.any selfT := ⟨_, rfl⟩
      obtain ⟨q2, hq2⟩ : ∃ q2, q2 = l.any selfT := ⟨_, rfl⟩
      rw [← hq1, ← hq2] at hR4
      have HR4 := Lib.hid hR4
      have HQ1 := Lib.hid hq1
      have HQ2 := Lib.hid hq2
      have hb := HB.out
      have HHD := Lib.hid hhd
      have HL := Lib.hid hl
      have hll := length_sizes l
      have HLL := Lib.hid (show l.length ≤ 1000000000 by omega)
      clear hsz hsp hR4 hhd hl hb hll HR3 HR2 hq1 hq2
      replace H := H.res2 H2
      clear H2
      have hr_ := H.rules; simp only [Rules, and_true] at hr_; have hd_ := H.dif; simp only [Dif, Neq, and_true] at hd_; obtain ⟨ho_, hz_⟩ := H.old0
      go_wp2_with ((with_reducible refine atStore (t := 26) ?_); go_must (refine wpList_storeH (t := 26) rfl rfl (by go_simp <;> first | rfl | exact ⟨rfl, rfl⟩) (by go_simp <;> first | rfl | exact ⟨rfl, rfl⟩) (by exact Hp.norm (by (repeat (first | with_reducible exact H | with_reducible exact H0_ | with_reducible apply Hp.alloc | with_reducible apply Hp.allocMap | with_reducible apply Hp.drew | with_reducible apply Hp.drewN | with_reducible apply Hp.set)); (try any_goals (repeat (first | with_reducible exact Upd.head | with_reducible apply Upd.tail)))) (by ((try simp only [size_drew_, size_drewN_, World.size_alloc, World.size_setCell, List.set_cons_zero, List.set_cons_succ, List.nil_append, List.cons_append]) <;> rfl))) (by (repeat (first | with_reducible exact Upd.head | with_reducible apply Upd.tail))) (by exact aggTerm) (by rfl) (by simp [Value.oneCell']) ?_; clear H; intro w7 H; (try simp only [size_drew_, size_drewN_, World.size_alloc, World.size_setCell, List.set_cons_zero, List.set_cons_succ] at H); (try clear hr_ hd_ ho_ hz_); have hr_ := H.rules; simp only [Rules, and_true] at hr_; have hd_ := H.dif; simp only [Dif, Neq, and_true] at hd_; obtain ⟨ho_, hz_⟩ := H.old0))
      (try clear hr_ hd_ ho_ hz_)
      refine callsH (by (repeat (first | with_reducible exact H | with_reducible exact H0_ | with_reducible apply Hp.alloc | with_reducible apply Hp.allocMap | with_reducible apply Hp.drew | with_reducible apply Hp.drewN | with_reducible apply Hp.set)); (try any_goals (repeat (first | with_reducible exact Upd.head | with_reducible apply Upd.tail)))) ?_
      clear H; intro w8 H; (try simp only [size_drew_, size_drewN_, World.size_alloc, World.size_setCell, List.set_cons_zero, List.set_cons_succ] at H)
      refine (refSpine (t := r) ⟨_, _, _, _, rfl, H.rd (by (repeat (first | with_reducible exact Pick.head | with_reducible apply Pick.tail)))⟩ (by rw [← HL.out]; exact HLL.out)).mono ?_
      rw [show spineT r = (hd, l) by rw [HHD.out, HL.out]]
      rintro e w9 ⟨B2, cb2, K2, kb2, A3, c3, rfl, H2⟩
      dsimp only at H2 ⊢
      replace H := H.res2 H2
      clear H2
      have hr_ := H.rules; simp only [Rules, and_true] at hr_; have hd_ := H.dif; simp only [Dif, Neq, and_true] at hd_; obtain ⟨ho_, hz_⟩ := H.old0
      go_wp2_with ((with_reducible refine atStore (t := 26) ?_); go_must (refine wpList_storeH (t := 26) rfl rfl (by go_simp <;> first | rfl | exact ⟨rfl, rfl⟩) (by go_simp <;> first | rfl | exact ⟨rfl, rfl⟩) (by exact Hp.norm (by (repeat (first | with_reducible exact H | with_reducible exact H0_ | with_reducible apply Hp.alloc | with_reducible apply Hp.allocMap | with_reducible apply Hp.drew | with_reducible apply Hp.drewN | with_reducible apply Hp.set)); (try any_goals (repeat (first | with_reducible exact Upd.head | with_reducible apply Upd.tail)))) (by ((try simp only [size_drew_, size_drewN_, World.size_alloc, World.size_setCell, List.set_cons_zero, List.set_cons_succ, List.nil_append, List.cons_append]) <;> rfl))) (by (repeat (first | with_reducible exact Upd.head | with_reducible apply Upd.tail))) (by exact aggTerm) (by rfl) (by simp [Value.oneCell']) ?_; clear H; intro w10 H; (try simp only [size_drew_, size_drewN_, World.size_alloc, World.size_setCell, List.set_cons_zero, List.set_cons_succ] at H); (try clear hr_ hd_ ho_ hz_); have hr_ := H.rules; simp only [Rules, and_true] at hr_; have hd_ := H.dif; simp only [Dif, Neq, and_true] at hd_; obtain ⟨ho_, hz_⟩ := H.old0))
      (try clear hr_ hd_ ho_ hz_)
      refine callsH (by (repeat (first | with_reducible exact H | with_reducible exact H0_ | with_reducible apply Hp.alloc | with_reducible apply Hp.allocMap | with_reducible apply Hp.drew | with_reducible apply Hp.drewN | with_reducible apply Hp.set)); (try any_goals (repeat (first | with_reducible exact Upd.head | with_reducible apply Upd.tail)))) ?_
      clear H; intro w11 H; (try simp only [size_drew_, size_drewN_, World.size_alloc, World.size_setCell, List.set_cons_zero, List.set_cons_succ] at H)
      have hcall := refSome (ts := ls) (fun t _ => refSelf_calls t) (H.rd (by (repeat (first | with_reducible exact Pick.head | with_reducible apply Pick.tail))))
      rw [← HQ1.out] at hcall
      refine (hcall).mono ?_
      rintro e w_ ⟨rfl, hx⟩
      replace H := H.call hx
      clear hx
      clear hcall
      cases q1
      · by_cases hk : hd.k = 11
        · by_cases ha : 0 ≤ hd.a
          · obtain ⟨m, hm⟩ : ∃ m : Nat, hd.a = m := ⟨hd.a.toNat, by omega⟩
            rw [hm] at H ⊢
            by_cases hml : m < d.members.length
            · have hR5 := HR4.out
              simp only [hk, ha, hm, show ((m : Int) < (d.members.length : Int)) = True by simpa using hml, decide_true, Bool.not_false, Bool.true_and, Int.toNat_natCast, show d.members.getD m ⟨[]⟩ = d.members[m] by simp [List.getD, hml], show (0 : Int) ≤ (m : Int) by omega] at hR5
              have HR5 := Lib.hid hR5
              have g1 : (hd.k == 11) = true := by simpa using hk
              have g1' : (hd.k != 11) = false := by simpa using hk
              have hml' : ¬ ((d.members.length : Int) ≤ (m : Int)) := by omega
              have hm4 : (m : Int) ≤ 4294967296 := by have := HM2.out; omega
              have HM := Lib.hid hm
              clear hR5 hk ha hm
              obtain ⟨b, o, A5, c5, hAm, hb, hS, hdm, p0⟩ := HPARTS.out.2.2.2.2.2.2.1.atMb hml
              subst hAm
              obtain ⟨_, _, he, hix⟩ := RC.mb.1 hdm
              simp only [List.cons.injEq, Value.slice.injEq, and_true, true_and] at he
              obtain ⟨rfl, rfl⟩ := he
              have hM3 := hix.lenM
              clear hdm hix
              have hr_ := H.rules; simp only [Rules, and_true] at hr_; have hd_ := H.dif; simp only [Dif, Neq, and_true] at hd_; obtain ⟨ho_, hz_⟩ := H.old0
              go_wp2_with fail
              (try clear hr_ hd_ ho_ hz_)
              refine callsH (by (repeat (first | with_reducible exact H | with_reducible exact H0_ | with_reducible apply Hp.alloc | with_reducible apply Hp.allocMap | with_reducible apply Hp.drew | with_reducible apply Hp.drewN | with_reducible apply Hp.set)); (try any_goals (repeat (first | with_reducible exact Upd.head | with_reducible apply Upd.tail)))) ?_
              clear H; intro w12 H; (try simp only [size_drew_, size_drewN_, World.size_alloc, World.size_setCell, List.set_cons_zero, List.set_cons_succ] at H)
              have hcall := refSome (ts := l) (fun t _ => refSelf_calls t) (H.rd (by (repeat (first | with_reducible exact Pick.head | with_reducible apply Pick.tail))))
              rw [← HQ2.out] at hcall
              refine (hcall).mono ?_
              rintro e w_ ⟨rfl, hx⟩
              replace H := H.call hx
              clear hx
              clear hcall
              cases q2
              · by_cases h7 : l.length = d.members[m].index.length
                · have hR6 := HR5.out
                  simp only [h7, decide_true, Bool.not_false, if_true] at hR6
                  have HR6 := Lib.hid hR6
                  have g7 : ((l.length : Int) == (d.members[m].index.length : Int)) = true := by simp [h7]
                  have g7' : ((l.length : Int) != (d.members[m].index.length : Int)) = false := by simp [h7]
                  clear hR6 h7
                  have hr_ := H.rules; simp only [Rules, and_true] at hr_; have hd_ := H.dif; simp only [Dif, Neq, and_true] at hd_; obtain ⟨ho_, hz_⟩ := H.old0
                  go_wp2_with ((with_reducible refine atStore (t := 80) ?_); go_must (refine wpList_storeH (t := 80) rfl rfl (by go_simp <;> first | rfl | exact ⟨rfl, rfl⟩) (by go_simp <;> first | rfl | exact ⟨rfl, rfl⟩) (by exact Hp.norm (by (repeat (first | with_reducible exact H | with_reducible exact H0_ | with_reducible apply Hp.alloc | with_reducible apply Hp.allocMap | with_reducible apply Hp.drew | with_reducible apply Hp.drewN | with_reducible apply Hp.set)); (try any_goals (repeat (first | with_reducible exact Upd.head | with_reducible apply Upd.tail)))) (by ((try simp only [size_drew_, size_drewN_, World.size_alloc, World.size_setCell, List.set_cons_zero, List.set_cons_succ, List.nil_append, List.cons_append]) <;> rfl))) (by (repeat (first | with_reducible exact Upd.head | with_reducible apply Upd.tail))) (by exact aggArg) (by rfl) (by simp [Value.oneCell']) ?_; clear H; intro w14 H; (try simp only [size_drew_, size_drewN_, World.size_alloc, World.size_setCell, List.set_cons_zero, List.set_cons_succ] at H); (try clear hr_ hd_ ho_ hz_); have hr_ := H.rules; simp only [Rules, and_true] at hr_; have hd_ := H.dif; simp only [Dif, Neq, and_true] at hd_; obtain ⟨ho_, hz_⟩ := H.old0))
                  (try clear hr_ hd_ ho_ hz_)
                  refine bodyPost_ret (v := .tuple #[.agg #[_, _, _, _, _, _, _, _, _], .int .i64 0]) (Res.two Tryd.results157 (H.resBox (by (repeat (first | with_reducible exact Pick.head | with_reducible apply Pick.tail))) aggArg rfl rfl) rfl) rfl ?_
                  rw [HR6.out]
                  exact ⟨_, rfl, (H.arR (row := ls) (ix := l) (m := m) (by (repeat (first | with_reducible exact Pick.head | with_reducible apply Pick.tail))) (by (repeat (first | with_reducible exact Pick.head | with_reducible apply Pick.tail))) (by unfold inI; omega)).only (.keep (by (repeat (first | with_reducible exact Subl.nil | with_reducible apply Subl.drop))))⟩
                · have HZ : Hid (R = .error 17) := by
                    unfold Hid
                    rw [HR5.out]
                    simp [h7]
                  have g7 : ((l.length : Int) == (d.members[m].index.length : Int)) = false := by simpa using fun e => h7 (by omega)
                  have g7' : ((l.length : Int) != (d.members[m].index.length : Int)) = true := by simpa using fun e => h7 (by omega)
                  clear h7
                  have hr_ := H.rules; simp only [Rules, and_true] at hr_; have hd_ := H.dif; simp only [Dif, Neq, and_true] at hd_; obtain ⟨ho_, hz_⟩ := H.old0
                  go_wp2_with ((with_reducible refine atStore (t := 80) ?_); go_must (refine wpList_storeH (t := 80) rfl rfl (by go_simp <;> first | rfl | exact ⟨rfl, rfl⟩) (by go_simp <;> first | rfl | exact ⟨rfl, rfl⟩) (by exact Hp.norm (by (repeat (first | with_reducible exact H | with_reducible exact H0_ | with_reducible apply Hp.alloc | with_reducible apply Hp.allocMap | with_reducible apply Hp.drew | with_reducible apply Hp.drewN | with_reducible apply Hp.set)); (try any_goals (repeat (first | with_reducible exact Upd.head | with_reducible apply Upd.tail)))) (by ((try simp only [size_drew_, size_drewN_, World.size_alloc, World.size_setCell, List.set_cons_zero, List.set_cons_succ, List.nil_append, List.cons_append]) <;> rfl))) (by (repeat (first | with_reducible exact Upd.head | with_reducible apply Upd.tail))) (by exact aggArg) (by rfl) (by simp [Value.oneCell']) ?_; clear H; intro w14 H; (try simp only [size_drew_, size_drewN_, World.size_alloc, World.size_setCell, List.set_cons_zero, List.set_cons_succ] at H); (try clear hr_ hd_ ho_ hz_); have hr_ := H.rules; simp only [Rules, and_true] at hr_; have hd_ := H.dif; simp only [Dif, Neq, and_true] at hd_; obtain ⟨ho_, hz_⟩ := H.old0))
                  (try clear hr_ hd_ ho_ hz_)
                  refine bodyPost_ret (v := .tuple #[.agg #[_, _, _, _, _, _, _, _, _], .int .i64 17]) (Res.two Tryd.results157 (H.resBox (by (repeat (first | with_reducible exact Pick.head | with_reducible apply Pick.tail))) aggArg rfl rfl) rfl) rfl ?_
                  rw [HZ.out]
                  exact ⟨rfl, H.ext, by decide⟩
              · have HZ : Hid (R = .error 16) := by
                  unfold Hid
                  rw [HR5.out]
                  simp
                have hr_ := H.rules; simp only [Rules, and_true] at hr_; have hd_ := H.dif; simp only [Dif, Neq, and_true] at hd_; obtain ⟨ho_, hz_⟩ := H.old0
                go_wp2_with ((with_reducible refine atStore (t := 80) ?_); go_must (refine wpList_storeH (t := 80) rfl rfl (by go_simp <;> first | rfl | exact ⟨rfl, rfl⟩) (by go_simp <;> first | rfl | exact ⟨rfl, rfl⟩) (by exact Hp.norm (by (repeat (first | with_reducible exact H | with_reducible exact H0_ | with_reducible apply Hp.alloc | with_reducible apply Hp.allocMap | with_reducible apply Hp.drew | with_reducible apply Hp.drewN | with_reducible apply Hp.set)); (try any_goals (repeat (first | with_reducible exact Upd.head | with_reducible apply Upd.tail)))) (by ((try simp only [size_drew_, size_drewN_, World.size_alloc, World.size_setCell, List.set_cons_zero, List.set_cons_succ, List.nil_append, List.cons_append]) <;> rfl))) (by (repeat (first | with_reducible exact Upd.head | with_reducible apply Upd.tail))) (by exact aggArg) (by rfl) (by simp [Value.oneCell']) ?_; clear H; intro w14 H; (try simp only [size_drew_, size_drewN_, World.size_alloc, World.size_setCell, List.set_cons_zero, List.set_cons_succ] at H); (try clear hr_ hd_ ho_ hz_); have hr_ := H.rules; simp only [Rules, and_true] at hr_; have hd_ := H.dif; simp only [Dif, Neq, and_true] at hd_; obtain ⟨ho_, hz_⟩ := H.old0))
                (try clear hr_ hd_ ho_ hz_)
                refine bodyPost_ret (v := .tuple #[.agg #[_, _, _, _, _, _, _, _, _], .int .i64 16]) (Res.two Tryd.results157 (H.resBox (by (repeat (first | with_reducible exact Pick.head | with_reducible apply Pick.tail))) aggArg rfl rfl) rfl) rfl ?_
                rw [HZ.out]
                exact ⟨rfl, H.ext, by decide⟩
            · have HZ : Hid (R = .error 16) := by
                unfold Hid
                rw [HR4.out]
                simp [hm]
                omega
              have g1 : (hd.k == 11) = true := by simpa using hk
              have g1' : (hd.k != 11) = false := by simpa using hk
              have hml' : (d.members.length : Int) ≤ (m : Int) := by omega
              clear hk ha hm hml
              have hr_ := H.rules; simp only [Rules, and_true] at hr_; have hd_ := H.dif; simp only [Dif, Neq, and_true] at hd_; obtain ⟨ho_, hz_⟩ := H.old0
              go_wp2_with ((with_reducible refine atStore (t := 80) ?_); go_must (refine wpList_storeH (t := 80) rfl rfl (by go_simp <;> first | rfl | exact ⟨rfl, rfl⟩) (by go_simp <;> first | rfl | exact ⟨rfl, rfl⟩) (by exact Hp.norm (by (repeat (first | with_reducible exact H | with_reducible exact H0_ | with_reducible apply Hp.alloc | with_reducible apply Hp.allocMap | with_reducible apply Hp.drew | with_reducible apply Hp.drewN | with_reducible apply Hp.set)); (try any_goals (repeat (first | with_reducible exact Upd.head | with_reducible apply Upd.tail)))) (by ((try simp only [size_drew_, size_drewN_, World.size_alloc, World.size_setCell, List.set_cons_zero, List.set_cons_succ, List.nil_append, List.cons_append]) <;> rfl))) (by (repeat (first | with_reducible exact Upd.head | with_reducible apply Upd.tail))) (by exact aggArg) (by rfl) (by simp [Value.oneCell']) ?_; clear H; intro w14 H; (try simp only [size_drew_, size_drewN_, World.size_alloc, World.size_setCell, List.set_cons_zero, List.set_cons_succ] at H); (try clear hr_ hd_ ho_ hz_); have hr_ := H.rules; simp only [Rules, and_true] at hr_; have hd_ := H.dif; simp only [Dif, Neq, and_true] at hd_; obtain ⟨ho_, hz_⟩ := H.old0))
              (try clear hr_ hd_ ho_ hz_)
              refine bodyPost_ret (v := .tuple #[.agg #[_, _, _, _, _, _, _, _, _], .int .i64 16]) (Res.two Tryd.results157 (H.resBox (by (repeat (first | with_reducible exact Pick.head | with_reducible apply Pick.tail))) aggArg rfl rfl) rfl) rfl ?_
              rw [HZ.out]
              exact ⟨rfl, H.ext, by decide⟩
          · have HZ : Hid (R = .error 16) := by
              unfold Hid
              rw [HR4.out]
              simp [ha]
            have g1 : (hd.k == 11) = true := by simpa using hk
            have g1' : (hd.k != 11) = false := by simpa using hk
            have ha' : hd.a < 0 := by omega
            clear hk ha
            have hr_ := H.rules; simp only [Rules, and_true] at hr_; have hd_ := H.dif; simp only [Dif, Neq, and_true] at hd_; obtain ⟨ho_, hz_⟩ := H.old0
            go_wp2_with ((with_reducible refine atStore (t := 80) ?_); go_must (refine wpList_storeH (t := 80) rfl rfl (by go_simp <;> first | rfl | exact ⟨rfl, rfl⟩) (by go_simp <;> first | rfl | exact ⟨rfl, rfl⟩) (by exact Hp.norm (by (repeat (first | with_reducible exact H | with_reducible exact H0_ | with_reducible apply Hp.alloc | with_reducible apply Hp.allocMap | with_reducible apply Hp.drew | with_reducible apply Hp.drewN | with_reducible apply Hp.set)); (try any_goals (repeat (first | with_reducible exact Upd.head | with_reducible apply Upd.tail)))) (by ((try simp only [size_drew_, size_drewN_, World.size_alloc, World.size_setCell, List.set_cons_zero, List.set_cons_succ, List.nil_append, List.cons_append]) <;> rfl))) (by (repeat (first | with_reducible exact Upd.head | with_reducible apply Upd.tail))) (by exact aggArg) (by rfl) (by simp [Value.oneCell']) ?_; clear H; intro w14 H; (try simp only [size_drew_, size_drewN_, World.size_alloc, World.size_setCell, List.set_cons_zero, List.set_cons_succ] at H); (try clear hr_ hd_ ho_ hz_); have hr_ := H.rules; simp only [Rules, and_true] at hr_; have hd_ := H.dif; simp only [Dif, Neq, and_true] at hd_; obtain ⟨ho_, hz_⟩ := H.old0))
            (try clear hr_ hd_ ho_ hz_)
            refine bodyPost_ret (v := .tuple #[.agg #[_, _, _, _, _, _, _, _, _], .int .i64 16]) (Res.two Tryd.results157 (H.resBox (by (repeat (first | with_reducible exact Pick.head | with_reducible apply Pick.tail))) aggArg rfl rfl) rfl) rfl ?_
            rw [HZ.out]
            exact ⟨rfl, H.ext, by decide⟩
        · have HZ : Hid (R = .error 16) := by
            unfold Hid
            rw [HR4.out]
            simp [hk]
          have g1 : (hd.k == 11) = false := by simpa using hk
          have g1' : (hd.k != 11) = true := by simpa using hk
          clear hk
          have hr_ := H.rules; simp only [Rules, and_true] at hr_; have hd_ := H.dif; simp only [Dif, Neq, and_true] at hd_; obtain ⟨ho_, hz_⟩ := H.old0
          go_wp2_with ((with_reducible refine atStore (t := 80) ?_); go_must (refine wpList_storeH (t := 80) rfl rfl (by go_simp <;> first | rfl | exact ⟨rfl, rfl⟩) (by go_simp <;> first | rfl | exact ⟨rfl, rfl⟩) (by exact Hp.norm (by (repeat (first | with_reducible exact H | with_reducible exact H0_ | with_reducible apply Hp.alloc | with_reducible apply Hp.allocMap | with_reducible apply Hp.drew | with_reducible apply Hp.drewN | with_reducible apply Hp.set)); (try any_goals (repeat (first | with_reducible exact Upd.head | with_reducible apply Upd.tail)))) (by ((try simp only [size_drew_, size_drewN_, World.size_alloc, World.size_setCell, List.set_cons_zero, List.set_cons_succ, List.nil_append, List.cons_append]) <;> rfl))) (by (repeat (first | with_reducible exact Upd.head | with_reducible apply Upd.tail))) (by exact aggArg) (by rfl) (by simp [Value.oneCell']) ?_; clear H; intro w14 H; (try simp only [size_drew_, size_drewN_, World.size_alloc, World.size_setCell, List.set_cons_zero, List.set_cons_succ] at H); (try clear hr_ hd_ ho_ hz_); have hr_ := H.rules; simp only [Rules, and_true] at hr_; have hd_ := H.dif; simp only [Dif, Neq, and_true] at hd_; obtain ⟨ho_, hz_⟩ := H.old0))
          (try clear hr_ hd_ ho_ hz_)
          refine bodyPost_ret (v := .tuple #[.agg #[_, _, _, _, _, _, _, _, _], .int .i64 16]) (Res.two Tryd.results157 (H.resBox (by (repeat (first | with_reducible exact Pick.head | with_reducible apply Pick.tail))) aggArg rfl rfl) rfl) rfl ?_
          rw [HZ.out]
          exact ⟨rfl, H.ext, by decide⟩
      · have HZ : Hid (R = .error 16) := by
          unfold Hid
          rw [HR4.out]
          simp
        have hr_ := H.rules; simp only [Rules, and_true] at hr_; have hd_ := H.dif; simp only [Dif, Neq, and_true] at hd_; obtain ⟨ho_, hz_⟩ := H.old0
        go_wp2_with ((with_reducible refine atStore (t := 80) ?_); go_must (refine wpList_storeH (t := 80) rfl rfl (by go_simp <;> first | rfl | exact ⟨rfl, rfl⟩) (by go_simp <;> first | rfl | exact ⟨rfl, rfl⟩) (by exact Hp.norm (by (repeat (first | with_reducible exact H | with_reducible exact H0_ | with_reducible apply Hp.alloc | with_reducible apply Hp.allocMap | with_reducible apply Hp.drew | with_reducible apply Hp.drewN | with_reducible apply Hp.set)); (try any_goals (repeat (first | with_reducible exact Upd.head | with_reducible apply Upd.tail)))) (by ((try simp only [size_drew_, size_drewN_, World.size_alloc, World.size_setCell, List.set_cons_zero, List.set_cons_succ, List.nil_append, List.cons_append]) <;> rfl))) (by (repeat (first | with_reducible exact Upd.head | with_reducible apply Upd.tail))) (by exact aggArg) (by rfl) (by simp [Value.oneCell']) ?_; clear H; intro w14 H; (try simp only [size_drew_, size_drewN_, World.size_alloc, World.size_setCell, List.set_cons_zero, List.set_cons_succ] at H); (try clear hr_ hd_ ho_ hz_); have hr_ := H.rules; simp only [Rules, and_true] at hr_; have hd_ := H.dif; simp only [Dif, Neq, and_true] at hd_; obtain ⟨ho_, hz_⟩ := H.old0))
        (try clear hr_ hd_ ho_ hz_)
        refine bodyPost_ret (v := .tuple #[.agg #[_, _, _, _, _, _, _, _, _], .int .i64 16]) (Res.two Tryd.results157 (H.resBox (by (repeat (first | with_reducible exact Pick.head | with_reducible apply Pick.tail))) aggArg rfl rfl) rfl) rfl ?_
        rw [HZ.out]
        exact ⟨rfl, H.ext, by decide⟩
    · have HR3 : Hid (R = .error 3) := by
        unfold Hid
        rw [HR2.out, if_neg h6]
      have hr_ := H.rules; simp only [Rules, and_true] at hr_; have hd_ := H.dif; simp only [Dif, Neq, and_true] at hd_; obtain ⟨ho_, hz_⟩ := H.old0
      go_wp2_with ((with_reducible refine atStore (t := 80) ?_); go_must (refine wpList_storeH (t := 80) rfl rfl (by go_simp <;> first | rfl | exact ⟨rfl, rfl⟩) (by go_simp <;> first | rfl | exact ⟨rfl, rfl⟩) (by exact Hp.norm (by (repeat (first | with_reducible exact H | with_reducible exact H0_ | with_reducible apply Hp.alloc | with_reducible apply Hp.allocMap | with_reducible apply Hp.drew | with_reducible apply Hp.drewN | with_reducible apply Hp.set)); (try any_goals (repeat (first | with_reducible exact Upd.head | with_reducible apply Upd.tail)))) (by ((try simp only [size_drew_, size_drewN_, World.size_alloc, World.size_setCell, List.set_cons_zero, List.set_cons_succ, List.nil_append, List.cons_append]) <;> rfl))) (by (repeat (first | with_reducible exact Upd.head | with_reducible apply Upd.tail))) (by exact aggArg) (by rfl) (by simp [Value.oneCell']) ?_; clear H; intro w3 H; (try simp only [size_drew_, size_drewN_, World.size_alloc, World.size_setCell, List.set_cons_zero, List.set_cons_succ] at H); (try clear hr_ hd_ ho_ hz_); have hr_ := H.rules; simp only [Rules, and_true] at hr_; have hd_ := H.dif; simp only [Dif, Neq, and_true] at hd_; obtain ⟨ho_, hz_⟩ := H.old0))
      (try clear hr_ hd_ ho_ hz_)
      refine bodyPost_ret (v := .tuple #[.agg #[_, _, _, _, _, _, _, _, _], .int .i64 3]) (Res.two Tryd.results157 (H.resBox (by (repeat (first | with_reducible exact Pick.head | with_reducible apply Pick.tail))) aggArg rfl rfl) rfl) rfl ?_
      rw [HR3.out]
      exact ⟨rfl, H.ext, by decide⟩
end Go.Proofs.YtgbokmphbimihaaDoor
