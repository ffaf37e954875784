/- tele: Spine: contract. No statement of the seat is proved here. -/
import Derived.Test.YtmedomglemllnaaGreatDoorMgSpine
import Derived.Test.YtmedomglemllnaaGreatDoorMgTeleLaw
import Derived.Test.YtmedomglemllnaaGreatDoorHp
namespace Go.Proofs.YtmedomglemllnaaGreatDoor
set_option linter.unusedSimpArgs false
set_option linter.unusedVariables false
open Go.RowKit
attribute [local go_sem] Oper.semAt_some

section
variable {P : Program} {ops : Array Oper} {Q : Exit → Act → World → Prop} {X : Nat → Prop} {w0 w : World} {l l' : List Ch} {a : Act}
theorem regionRnH {L nn id : Nat} {lr : List Ch} {is : List Nat} (n : Nat) (l0 : List Bool) (late : List Nat) (H : Hp X w0 w l) (hs : Sel l is lr) (hd : ops.all noDefer = true) (hL : ¬ LetsOut Q) (hm : P.follows .mixedOrders = true) (hn : ops.size = n) (hl : List.replicate n false = l0)
    (h : Hp X w0 w.drew l → Rd X w0 w.drew lr → wpL P .any ops Q (fun w' => Rd X w0 w' lr) late n l0.toArray a w.drew) : (Code.region id ops true).wpIn (Rn L) nn P Q a w :=
  regionRnD late hd hL hm (by
    subst hn
    rw [← List.toArray_replicate, hl]
    exact h H.drew (H.drew.sel hs))
end
theorem spineT_step {t : Tm} (h6 : t.k = 6) (h2 : t.ks.length = 2) : spineT t = ((spineT (t.ks[0]'(by omega))).1, (spineT (t.ks[0]'(by omega))).2 ++ [t.ks[1]'(by omega)]) := by
  obtain ⟨k, n, a, ls, x, y, rfl⟩ := Tm.two h2
  simp only [Tm.k_mk] at h6
  rw [spineT, if_pos h6]
  rfl
theorem spineT_stop {t : Tm} (h : ¬ (t.k = 6 ∧ t.ks.length = 2)) : spineT t = (t, []) := by
  obtain ⟨k, n, a, ls, ks⟩ := t
  match ks with
  | [] => simp [spineT]
  | [_] => simp [spineT]
  | [x, y] =>
    rw [spineT, if_neg]
    intro e
    exact h ⟨e, rfl⟩
  | _ :: _ :: _ :: _ => simp [spineT]
theorem Hp.lastSet {w0 w : World} {l : List Ch} {us : List Tm} {x : Tm} {c1 sp : List Value} {a0 a1 a2 a3 a4 : Value} {g c : Nat} (H : Hp no w0 w (.box g 26 (c1 ++ (a0 :: a1 :: a2 :: a3 :: a4 :: sp)) :: .dat (.s (us.map Tm.d)) c1 :: .dat x.d [a0, a1, a2, a3, a4] :: l))
    (hl : c1.length = us.length * 5) (hc : c1.length + 5 + sp.length = c * 5) (h2 : c ≤ maxLen) (hM : us.length + 1 ≤ M) : Hp no w0 w (.dat (.l 26 5 ((us ++ [x]).map Tm.d)) [.slice (some ⟨g, 0, none⟩) (us.length + 1) c] :: l) := by
  have H1 := (H.pick (.tail (.tail .head))).one
  have H2 := H1.join (a := us.map Tm.d) (b := [x.d]) (c1 := c1) (c2 := [a0, a1, a2, a3, a4]) (.tail (.tail .head)) .head
  have e : c1 ++ (a0 :: a1 :: a2 :: a3 :: a4 :: sp) = (c1 ++ [a0, a1, a2, a3, a4]) ++ sp := by simp
  rw [e] at H2
  have H3 := H2.boxraw' (z := 5) (n := us.length + 1) (c := c) (.tail .head) (by simp; omega) (by simp; omega) (by omega) h2
  have H4 := H3.mkrow .head .head (by simp) (fun d hd => by
    simp only [List.mem_append, List.mem_map, List.mem_singleton] at hd
    rcases hd with ⟨t, _, rfl⟩ | rfl <;> exact Tm.size_d _) hM
  simpa using H4
theorem Hp.lastBox {w0 w : World} {l l' : List Ch} {us : List Tm} {x : Tm} {v : Value} (H : Hp no w0 w l) (p : Pick l (.dat (.l 26 5 (us.map Tm.d ++ [x.d])) [v]) l') :
    ∃ g c c1 sp z0 z1 z2 z3 z4, v = .slice (some ⟨g, 0, none⟩) (us.length + 1) c ∧ c1.length = us.length * 5 ∧ c1.length + 5 + List.length sp = c * 5 ∧ c ≤ maxLen ∧ us.length + 1 ≤ c ∧ us.length + 1 ≤ M ∧
      Hp no w0 w (.box g 26 (c1 ++ (z0 :: z1 :: z2 :: z3 :: z4 :: sp)) :: .dat (.s (us.map Tm.d)) c1 :: l') := by
  obtain ⟨_, _, _, _, _, hM⟩ := H.slice p
  obtain ⟨es, hes, H1⟩ := H.unrow p
  obtain ⟨g, c, rfl, hc, _⟩ := H1.rawAt .head (by simp)
  obtain ⟨sp, hl, hl2, _, hl4, H2⟩ := H1.rawbox .head
  obtain ⟨c1, c2, rfl, l1, l2, H3⟩ := H2.cut (.tail .head)
  rw [sizes_tms] at l1
  obtain ⟨z0, z1, z2, z3, z4, rfl⟩ := five_of (by rw [l2]; simp [D.sizes, Tm.size_d])
  have e : (c1 ++ [z0, z1, z2, z3, z4]) ++ sp = c1 ++ (z0 :: z1 :: z2 :: z3 :: z4 :: sp) := by simp
  simp only [List.length_append, List.length_map, List.length_cons, List.length_nil, Nat.zero_add] at hl2 hc hM
  refine ⟨g, c, c1, sp, z0, z1, z2, z3, z4, by simp, l1, by omega, hl4, hc, hM, ?_⟩
  rw [e] at H3
  exact H3.arr (.cons (.tail (.tail .head)) (.cons .head (Arr.of_subl (.drop (Subl.refl _)))))
def PSpine (w : World) (p : Tm × List Tm) (e : Ending) (w' : World) : Prop :=
  ∃ B cb K kb A c, e = .returned (.tuple #[.agg #[.int .i64 p.1.k, .int .i64 p.1.n, .int .i64 p.1.a, .slice B p.1.ls.length cb, .slice K p.1.ks.length kb], .slice A p.2.length c]) ∧
    Hp no w w' [.dat p.1.d [.int .i64 p.1.k, .int .i64 p.1.n, .int .i64 p.1.a, .slice B p.1.ls.length cb, .slice K p.1.ks.length kb], .dat (.l 26 5 (p.2.map Tm.d)) [.slice A p.2.length c]]
theorem last5 {c1 sp : List Value} {z0 z1 z2 z3 z4 : Value} {n : Nat} (h : c1.length = n * 5) : (c1 ++ (z0 :: z1 :: z2 :: z3 :: z4 :: sp))[n * 5]? = some z0 ∧ (c1 ++ (z0 :: z1 :: z2 :: z3 :: z4 :: sp))[n * 5 + 1]? = some z1 ∧ (c1 ++ (z0 :: z1 :: z2 :: z3 :: z4 :: sp))[n * 5 + 2]? = some z2 ∧ (c1 ++ (z0 :: z1 :: z2 :: z3 :: z4 :: sp))[n * 5 + 3]? = some z3 ∧ (c1 ++ (z0 :: z1 :: z2 :: z3 :: z4 :: sp))[n * 5 + 4]? = some z4 := by
  rw [← h]
  simp [List.getElem?_append_right]
set_option maxRecDepth 100000 in
set_option maxHeartbeats 8000000 in
theorem teleSpine {S : Nat → Prop} {t : Tm} {w : World} {v : Value} (hT : Tab w) (h : TV w S t v) (hb : (spineT t).2.length ≤ 4000000000) : Calls Tryz.prog 16 #[v] w (PSpine w (spineT t)) := by
  obtain ⟨A0, ca, K0, ck, rfl, hrc⟩ := h
  have HT := Lib.hid hT
  have HRC := Lib.hid hrc
  have HB := Lib.hid hb
  clear hT hrc hb
  have H := Hp.start no w
  refine enterM Tryz.func16 rfl ?_
  simp only [Tryz.ntmps16, List.size_toArray, List.length_cons, List.length_nil, Nat.reduceAdd, Nat.reduceSub, Array.replicate_succ, Array.replicate_zero, List.push_toArray, List.append_toArray, List.nil_append, List.cons_append]
  go_wp2_with fail
  refine callsH (by (repeat (first | with_reducible exact H | with_reducible exact H0_ | with_reducible apply Hp.alloc | with_reducible apply Hp.allocMap | with_reducible apply Hp.drew | with_reducible apply Hp.drewN | with_reducible apply Hp.set)); (try any_goals (repeat (first | with_reducible exact Upd.head | with_reducible apply Upd.tail)))) ?_
  clear H; intro w1 H; (try simp only [size_drew_, size_drewN_, World.size_alloc, World.size_setCell, List.set_cons_zero, List.set_cons_succ] at H)
  refine (spine_calls H).mono ?_
  rintro e w2 ⟨g1, rfl, H2⟩
  clear H
  have H := H2
  clear H2
  go_wp2_with fail
  refine wp_rangeH H rfl (enters_of Tryz.func139 (by kernel_rfl) rfl) ?_
  intro fn D L rc w3 hDL hrc H3
  clear H
  refine (spine1 (g := w.heap.size) (g1 := g1) (w0 := w) (S := S) (fun u l => ∃ (us : List Tm) (A : Option Addr) (c : Nat), Hid (spineT t = ((spineT u).1, (spineT u).2 ++ us.reverse)) ∧ l = [.obj L (.loop (rc .ready none)), .obj D (.deferred (some [])), .box (w.heap.size + 1 + 1) 22 [.slice A us.length c], .box (w.heap.size + 1) 26 [.int .i64 0, .int .i64 0, .int .i64 0, .slice none 0 0, .slice none 0 0], .dat (.l 26 5 (us.map Tm.d)) [.slice A us.length c]]) ?round
    (t := t) ⟨[], none, 0, Lib.hid (by simp), rfl⟩ HRC.out ?start).mono ?_
  case start =>
    have H := H3.nil 26 5
    simp only [List.length_nil, List.map_nil]
    exact (H.arr (by (repeat (first | with_reducible exact Arr.nil | refine Arr.cons (by (repeat (first | with_reducible exact Pick.head | with_reducible apply Pick.tail))) ?_)) <;> exact Arr.of_subl (by (repeat (first | with_reducible exact Subl.refl _ | with_reducible apply Subl.drop)))))
  case round =>
    rintro u h2 B K cb kb C D' cc kc l W h6 ⟨us, A, c, HS, rfl⟩ hd0 hd1 H
    clear H3
    have HRR := Lib.hid hrc
    have HD0 := Lib.hid hd0
    have HD1 := Lib.hid hd1
    have HSS := Lib.hid (spineT_step h6 h2)
    have HST := Lib.hid h2
    clear hd0 hd1 h6
    have H := H.pick (.tail (.tail .head))
    refine roundH hrc H rfl ?_
    clear hrc
    refine regionRn (by kernel_rfl) (no_letsThen fun ⟨_, _, h⟩ => h) ?_
    have hr_ := H.rules; simp only [Rules, and_true] at hr_; have hd_ := H.dif; simp only [Dif, Neq, and_true] at hd_; obtain ⟨ho_, hz_⟩ := H.old0
    go_wp2_with fail
    clear hr_ hd_ ho_ hz_
    refine ⟨_, (H.alloc [_, _, _, _, _] 26).swap, fun w5 H5 => ?_⟩
    clear H
    have H := H5
    clear H5
    refine wpIn_block ?_
    have hub : us.length + 1 ≤ 4000000000 := by
      have h1 := HB.out
      rw [HS.out, HSS.out] at h1
      simp at h1
      omega
    refine regionRnH 9 [false, false, false, false, false, false, false, false, false] [5, 7, 8] H (.cons (i := 1) rfl (.cons (i := 5) rfl .nil)) (by kernel_rfl) (fun ⟨_, _, h⟩ => h) (by kernel_rfl) rfl rfl (fun H_ hR_ => ?_)
    (try clear H0_); have H0_ := H; clear H; have H := H_; clear H_
    refine wpL_reads (is := [(0, ?v1_0), (1, ?v1_1), (3, ?v1_2)]) (by kernel_rfl) (Nat.le_of_ble_eq_true rfl) (by intro _ _ d_ _ _ h_; cases d_ <;> exact h_) (by kernel_rfl) hR_ (fun w_ hw_ => ?h1_) ?_
    case h1_ =>
      have ho_ := hw_.old0.1; have hz_ := hw_.old0.2; have hr_ := hw_.rules; clear hw_; simp only [Rules, and_true] at hr_; go_split_ands
      (repeat (first | with_reducible exact RdOps.nil | (refine RdOps.run rfl (by rfl) ?_ ?_; (focus (first | (go_simp; done) | (go_simp; with_reducible rfl))); simp only [List.getElem_toArray, List.getElem_cons_zero, List.getElem_cons_succ, Act.put, List.setIfInBounds_toArray, List.set_cons_zero, List.set_cons_succ]) | (refine RdOps.skip rfl (by rfl) ?_; simp only [List.getElem_toArray, List.getElem_cons_zero, List.getElem_cons_succ, Act.put, List.setIfInBounds_toArray, List.set_cons_zero, List.set_cons_succ])))
    simp only [rdMark, rdAct, List.map_cons, List.map_nil, List.length_cons, List.length_nil, Nat.reduceAdd, Nat.reduceSub, Nat.zero_add, List.getElem?_toArray, List.getElem?_cons_zero, List.getElem?_cons_succ, Option.bind_some, Act.put, List.setIfInBounds_toArray, List.set_cons_zero, List.set_cons_succ]
    refine wpL_many (is := [2, 4]) (by kernel_rfl) (by simp) ?_
    simp only [List.forall_mem_cons]
    refine ⟨?_, ?_, fun _ h => by cases h⟩
    · refine wpOp_do (i := 2) rfl (by rfl) (fun K_ hK_ => ?_)
      go_simp
      refine (teleOwn (HT.out.ext H.ext) ⟨_, _, _, _, rfl, HD1.out.ext0 H.ext⟩).mono ?_
      rintro e w_ ⟨v, rfl, hto, hx⟩
      obtain ⟨E1, Ec, E2, Ek, rfl, H_⟩ := H.resTm hx hto
      clear H hx hto
      have H := H_
      clear H_
      refine hK_ _ _ (fun _ => H.sub (by simp)) (fun hR_ => ?_)
      replace hR_ := hR_ (by decide)
      refine wpL_do (i := 4) rfl (by kernel_rfl) (by rfl) (fun K_ hK_ => ?_)
      go_simp
      refine kontH (by (repeat (first | with_reducible exact H | with_reducible exact H0_ | with_reducible apply Hp.alloc | with_reducible apply Hp.allocMap | with_reducible apply Hp.drew | with_reducible apply Hp.drewN | with_reducible apply Hp.set)); (try any_goals (repeat (first | with_reducible exact Upd.head | with_reducible apply Upd.tail)))) ?_
      clear H; intro wb H; (try simp only [size_drew_, size_drewN_, World.size_alloc, World.size_setCell, List.set_cons_zero, List.set_cons_succ] at H)
      refine hK_ _ _ (fun _ => H.sub (by simp)) (fun hR_ => ?_)
      replace hR_ := hR_ (by decide)
      simp only [List.getElem_toArray, List.getElem_cons_zero, List.getElem_cons_succ, Act.put, List.setIfInBounds_toArray, List.set_cons_zero, List.set_cons_succ]
      have H := (H.nil 26 5).nil 47 1
      have H := H.tm (k := 0) (n := 0) (a := 0) (ls := []) (ks := []) .head .head (by unfold inI; omega) (by unfold inI; omega) (by unfold inI; omega)
      refine wpL_do (i := 5) rfl (by kernel_rfl) (by rfl) (fun K_ hK_ => ?_)
      refine wp_pushH (.tmp 8) (.tmp 12) 22 rfl stTerms (by go_simp <;> first | rfl | exact ⟨rfl, rfl⟩) (by go_simp <;> first | rfl | exact ⟨rfl, rfl⟩) H (by (repeat (first | with_reducible exact Pick.head | with_reducible apply Pick.tail))) (by (repeat (first | with_reducible exact Pick.head | with_reducible apply Pick.tail))) (by (repeat (first | with_reducible exact Pick.head | with_reducible apply Pick.tail))) (Tm.size_d _) ?_ ?_
      focus (simp [M]; omega)
      clear H; intro v' w6 H
      obtain ⟨g', c', c1, sp, z0, z1, z2, z3, z4, rfl, hl1, hl2, hl3, hl4, hl5, H_⟩ := H.lastBox (x := .mk 0 0 0 [] []) (by (repeat (first | with_reducible exact Pick.head | with_reducible apply Pick.tail)))
      clear H
      have H := H_
      clear H_
      refine hK_ _ _ (fun h => absurd (by decide) h) (fun _ => ?_)
      have F := last5 (sp := sp) (z0 := z0) (z1 := z1) (z2 := z2) (z3 := z3) (z4 := z4) hl1
      have HL1 := Lib.hid hl1
      have HL2 := Lib.hid hl2
      clear hl1 hl2
      obtain ⟨F0, F1, F2, F3, F4⟩ := F
      refine wpL_takeF (i := 6) (v := .pointer (some ⟨g', us.length * 5, none⟩)) rfl (by kernel_rfl) (fun _ _ _ h => h) (by rfl) (fun w_ => by go_simp <;> (intro h; omega)) ?_
      simp only [List.getElem_toArray, List.getElem_cons_zero, List.getElem_cons_succ, Act.put, List.setIfInBounds_toArray, List.set_cons_zero, List.set_cons_succ]
      refine wpL_many (is := [7, 8]) (by kernel_rfl) (by simp) ?_
      simp only [List.forall_mem_cons]
      refine ⟨?_, ?_, fun _ h => by cases h⟩
      · refine wpOp_do (i := 7) rfl (by rfl) (fun K_ hK_ => ?_)
        have hrs_ := H.rules
        simp only [Rules, and_true] at hrs_
        go_simp
        clear hrs_ F0 F1 F2 F3 F4
        refine kontH (by (repeat (first | with_reducible exact H | with_reducible exact H0_ | with_reducible apply Hp.alloc | with_reducible apply Hp.allocMap | with_reducible apply Hp.drew | with_reducible apply Hp.drewN | with_reducible apply Hp.set)); (try any_goals (repeat (first | with_reducible exact Upd.head | with_reducible apply Upd.tail)))) ?_
        clear H; intro w7 H; (try simp only [size_drew_, size_drewN_, World.size_alloc, World.size_setCell, List.set_cons_zero, List.set_cons_succ] at H)
        rw [set5 HL1.out] at H
        refine hK_ _ _ (fun h => absurd (by decide) h) (fun _ => ?_)
        refine wpL_do (i := 8) rfl (by kernel_rfl) (by rfl) (fun K_ hK_ => ?_)
        have hrs_ := H.rules
        simp only [Rules, and_true] at hrs_
        go_simp
        clear hrs_
        refine kontH (by (repeat (first | with_reducible exact H | with_reducible exact H0_ | with_reducible apply Hp.alloc | with_reducible apply Hp.allocMap | with_reducible apply Hp.drew | with_reducible apply Hp.drewN | with_reducible apply Hp.set)); (try any_goals (repeat (first | with_reducible exact Upd.head | with_reducible apply Upd.tail)))) ?_
        clear H; intro w8 H; (try simp only [size_drew_, size_drewN_, World.size_alloc, World.size_setCell, List.set_cons_zero, List.set_cons_succ] at H)
        refine hK_ _ _ (fun h => absurd (by decide) h) (fun _ => ?_)
        refine wpL_done (by kernel_rfl) ?_ _
        have H := Hp.lastSet (x := u.ks[1]) (us := us) (((H.pick (c := .dat u.ks[1].d _) (by (repeat (first | with_reducible exact Pick.head | with_reducible apply Pick.tail)))).pick (c := .dat (.s (us.map Tm.d)) c1) (.tail (by (repeat (first | with_reducible exact Pick.head | with_reducible apply Pick.tail))))).pick (c := .box g' 26 _) (.tail (.tail (by (repeat (first | with_reducible exact Pick.head | with_reducible apply Pick.tail)))))) HL1.out HL2.out hl3 (by unfold M; omega)
        go_wp2_with fail
        refine endH (by (repeat (first | with_reducible exact H | with_reducible exact H0_ | with_reducible apply Hp.alloc | with_reducible apply Hp.allocMap | with_reducible apply Hp.drew | with_reducible apply Hp.drewN | with_reducible apply Hp.set)); (try any_goals (repeat (first | with_reducible exact Upd.head | with_reducible apply Upd.tail)))) ?_
        clear H; intro w9 H; (try simp only [size_drew_, size_drewN_, World.size_alloc, World.size_setCell, List.set_cons_zero, List.set_cons_succ] at H)
        refine roundNext HRR.out H (by (repeat (first | with_reducible exact Pick.head | with_reducible apply Pick.tail))) (fun w10 H10 => ?_)
        clear H
        have H := H10
        clear H10
        refine ⟨rfl, [.obj L (.loop (rc .ready none)), .obj D (.deferred (some [])), .box (w.heap.size + 1 + 1) 22 [.slice (some ⟨g', 0, none⟩) (us.length + 1) c'], .box (w.heap.size + 1) 26 [.int .i64 0, .int .i64 0, .int .i64 0, .slice none 0 0, .slice none 0 0], .dat (.l 26 5 ((us ++ [u.ks[1]]).map Tm.d)) [.slice (some ⟨g', 0, none⟩) (us.length + 1) c']], ⟨us ++ [u.ks[1]], Lib.hid ?_, some ⟨g', 0, none⟩, c', by simp⟩, ?_⟩
        · rw [HS.out, HSS.out]; simp
        · exact (H.arr (by (repeat (first | with_reducible exact Arr.nil | refine Arr.cons (by (repeat (first | with_reducible exact Pick.head | with_reducible apply Pick.tail))) ?_)) <;> exact Arr.of_subl (by (repeat (first | with_reducible exact Subl.refl _ | with_reducible apply Subl.drop)))))
      · refine wpOp_do (i := 8) rfl (by rfl) (fun K_ hK_ => ?_)
        have hrs_ := H.rules
        simp only [Rules, and_true] at hrs_
        go_simp
        clear hrs_
        refine kontH (by (repeat (first | with_reducible exact H | with_reducible exact H0_ | with_reducible apply Hp.alloc | with_reducible apply Hp.allocMap | with_reducible apply Hp.drew | with_reducible apply Hp.drewN | with_reducible apply Hp.set)); (try any_goals (repeat (first | with_reducible exact Upd.head | with_reducible apply Upd.tail)))) ?_
        clear H; intro w8 H; (try simp only [size_drew_, size_drewN_, World.size_alloc, World.size_setCell, List.set_cons_zero, List.set_cons_succ] at H)
        refine hK_ _ _ (fun h => absurd (by decide) h) (fun _ => ?_)
        refine wpL_do (i := 7) rfl (by kernel_rfl) (by rfl) (fun K_ hK_ => ?_)
        have hrs_ := H.rules
        simp only [Rules, and_true] at hrs_
        go_simp
        clear hrs_ F0 F1 F2 F3 F4
        refine kontH (by (repeat (first | with_reducible exact H | with_reducible exact H0_ | with_reducible apply Hp.alloc | with_reducible apply Hp.allocMap | with_reducible apply Hp.drew | with_reducible apply Hp.drewN | with_reducible apply Hp.set)); (try any_goals (repeat (first | with_reducible exact Upd.head | with_reducible apply Upd.tail)))) ?_
        clear H; intro w7 H; (try simp only [size_drew_, size_drewN_, World.size_alloc, World.size_setCell, List.set_cons_zero, List.set_cons_succ] at H)
        rw [set5 HL1.out] at H
        refine hK_ _ _ (fun h => absurd (by decide) h) (fun _ => ?_)
        refine wpL_done (by kernel_rfl) ?_ _
        have H := Hp.lastSet (x := u.ks[1]) (us := us) (((H.pick (c := .dat u.ks[1].d _) (by (repeat (first | with_reducible exact Pick.head | with_reducible apply Pick.tail)))).pick (c := .dat (.s (us.map Tm.d)) c1) (.tail (by (repeat (first | with_reducible exact Pick.head | with_reducible apply Pick.tail))))).pick (c := .box g' 26 _) (.tail (.tail (by (repeat (first | with_reducible exact Pick.head | with_reducible apply Pick.tail)))))) HL1.out HL2.out hl3 (by unfold M; omega)
        go_wp2_with fail
        refine endH (by (repeat (first | with_reducible exact H | with_reducible exact H0_ | with_reducible apply Hp.alloc | with_reducible apply Hp.allocMap | with_reducible apply Hp.drew | with_reducible apply Hp.drewN | with_reducible apply Hp.set)); (try any_goals (repeat (first | with_reducible exact Upd.head | with_reducible apply Upd.tail)))) ?_
        clear H; intro w9 H; (try simp only [size_drew_, size_drewN_, World.size_alloc, World.size_setCell, List.set_cons_zero, List.set_cons_succ] at H)
        refine roundNext HRR.out H (by (repeat (first | with_reducible exact Pick.head | with_reducible apply Pick.tail))) (fun w10 H10 => ?_)
        clear H
        have H := H10
        clear H10
        refine ⟨rfl, [.obj L (.loop (rc .ready none)), .obj D (.deferred (some [])), .box (w.heap.size + 1 + 1) 22 [.slice (some ⟨g', 0, none⟩) (us.length + 1) c'], .box (w.heap.size + 1) 26 [.int .i64 0, .int .i64 0, .int .i64 0, .slice none 0 0, .slice none 0 0], .dat (.l 26 5 ((us ++ [u.ks[1]]).map Tm.d)) [.slice (some ⟨g', 0, none⟩) (us.length + 1) c']], ⟨us ++ [u.ks[1]], Lib.hid ?_, some ⟨g', 0, none⟩, c', by simp⟩, ?_⟩
        · rw [HS.out, HSS.out]; simp
        · exact (H.arr (by (repeat (first | with_reducible exact Arr.nil | refine Arr.cons (by (repeat (first | with_reducible exact Pick.head | with_reducible apply Pick.tail))) ?_)) <;> exact Arr.of_subl (by (repeat (first | with_reducible exact Subl.refl _ | with_reducible apply Subl.drop)))))
    · refine wpOp_do (i := 4) rfl (by rfl) (fun K_ hK_ => ?_)
      go_simp
      refine kontH (by (repeat (first | with_reducible exact H | with_reducible exact H0_ | with_reducible apply Hp.alloc | with_reducible apply Hp.allocMap | with_reducible apply Hp.drew | with_reducible apply Hp.drewN | with_reducible apply Hp.set)); (try any_goals (repeat (first | with_reducible exact Upd.head | with_reducible apply Upd.tail)))) ?_
      clear H; intro wb H; (try simp only [size_drew_, size_drewN_, World.size_alloc, World.size_setCell, List.set_cons_zero, List.set_cons_succ] at H)
      refine hK_ _ _ (fun _ => H.sub (by simp)) (fun hR_ => ?_)
      replace hR_ := hR_ (by decide)
      refine wpL_do (i := 2) rfl (by kernel_rfl) (by rfl) (fun K_ hK_ => ?_)
      go_simp
      refine (teleOwn (HT.out.ext H.ext) ⟨_, _, _, _, rfl, HD1.out.ext0 H.ext⟩).mono ?_
      rintro e w_ ⟨v, rfl, hto, hx⟩
      obtain ⟨E1, Ec, E2, Ek, rfl, H_⟩ := H.resTm hx hto
      clear H hx hto
      have H := H_
      clear H_
      refine hK_ _ _ (fun _ => H.sub (by simp)) (fun hR_ => ?_)
      replace hR_ := hR_ (by decide)
      simp only [List.getElem_toArray, List.getElem_cons_zero, List.getElem_cons_succ, Act.put, List.setIfInBounds_toArray, List.set_cons_zero, List.set_cons_succ]
      have H := (H.nil 26 5).nil 47 1
      have H := H.tm (k := 0) (n := 0) (a := 0) (ls := []) (ks := []) .head .head (by unfold inI; omega) (by unfold inI; omega) (by unfold inI; omega)
      refine wpL_do (i := 5) rfl (by kernel_rfl) (by rfl) (fun K_ hK_ => ?_)
      refine wp_pushH (.tmp 8) (.tmp 12) 22 rfl stTerms (by go_simp <;> first | rfl | exact ⟨rfl, rfl⟩) (by go_simp <;> first | rfl | exact ⟨rfl, rfl⟩) H (by (repeat (first | with_reducible exact Pick.head | with_reducible apply Pick.tail))) (by (repeat (first | with_reducible exact Pick.head | with_reducible apply Pick.tail))) (by (repeat (first | with_reducible exact Pick.head | with_reducible apply Pick.tail))) (Tm.size_d _) ?_ ?_
      focus (simp [M]; omega)
      clear H; intro v' w6 H
      obtain ⟨g', c', c1, sp, z0, z1, z2, z3, z4, rfl, hl1, hl2, hl3, hl4, hl5, H_⟩ := H.lastBox (x := .mk 0 0 0 [] []) (by (repeat (first | with_reducible exact Pick.head | with_reducible apply Pick.tail)))
      clear H
      have H := H_
      clear H_
      refine hK_ _ _ (fun h => absurd (by decide) h) (fun _ => ?_)
      have F := last5 (sp := sp) (z0 := z0) (z1 := z1) (z2 := z2) (z3 := z3) (z4 := z4) hl1
      have HL1 := Lib.hid hl1
      have HL2 := Lib.hid hl2
      clear hl1 hl2
      obtain ⟨F0, F1, F2, F3, F4⟩ := F
      refine wpL_takeF (i := 6) (v := .pointer (some ⟨g', us.length * 5, none⟩)) rfl (by kernel_rfl) (fun _ _ _ h => h) (by rfl) (fun w_ => by go_simp <;> (intro h; omega)) ?_
      simp only [List.getElem_toArray, List.getElem_cons_zero, List.getElem_cons_succ, Act.put, List.setIfInBounds_toArray, List.set_cons_zero, List.set_cons_succ]
      refine wpL_many (is := [7, 8]) (by kernel_rfl) (by simp) ?_
      simp only [List.forall_mem_cons]
      refine ⟨?_, ?_, fun _ h => by cases h⟩
      · refine wpOp_do (i := 7) rfl (by rfl) (fun K_ hK_ => ?_)
        have hrs_ := H.rules
        simp only [Rules, and_true] at hrs_
        go_simp
        clear hrs_ F0 F1 F2 F3 F4
        refine kontH (by (repeat (first | with_reducible exact H | with_reducible exact H0_ | with_reducible apply Hp.alloc | with_reducible apply Hp.allocMap | with_reducible apply Hp.drew | with_reducible apply Hp.drewN | with_reducible apply Hp.set)); (try any_goals (repeat (first | with_reducible exact Upd.head | with_reducible apply Upd.tail)))) ?_
        clear H; intro w7 H; (try simp only [size_drew_, size_drewN_, World.size_alloc, World.size_setCell, List.set_cons_zero, List.set_cons_succ] at H)
        rw [set5 HL1.out] at H
        refine hK_ _ _ (fun h => absurd (by decide) h) (fun _ => ?_)
        refine wpL_do (i := 8) rfl (by kernel_rfl) (by rfl) (fun K_ hK_ => ?_)
        have hrs_ := H.rules
        simp only [Rules, and_true] at hrs_
        go_simp
        clear hrs_
        refine kontH (by (repeat (first | with_reducible exact H | with_reducible exact H0_ | with_reducible apply Hp.alloc | with_reducible apply Hp.allocMap | with_reducible apply Hp.drew | with_reducible apply Hp.drewN | with_reducible apply Hp.set)); (try any_goals (repeat (first | with_reducible exact Upd.head | with_reducible apply Upd.tail)))) ?_
        clear H; intro w8 H; (try simp only [size_drew_, size_drewN_, World.size_alloc, World.size_setCell, List.set_cons_zero, List.set_cons_succ] at H)
        refine hK_ _ _ (fun h => absurd (by decide) h) (fun _ => ?_)
        refine wpL_done (by kernel_rfl) ?_ _
        have H := Hp.lastSet (x := u.ks[1]) (us := us) (((H.pick (c := .dat u.ks[1].d _) (by (repeat (first | with_reducible exact Pick.head | with_reducible apply Pick.tail)))).pick (c := .dat (.s (us.map Tm.d)) c1) (.tail (by (repeat (first | with_reducible exact Pick.head | with_reducible apply Pick.tail))))).pick (c := .box g' 26 _) (.tail (.tail (by (repeat (first | with_reducible exact Pick.head | with_reducible apply Pick.tail)))))) HL1.out HL2.out hl3 (by unfold M; omega)
        go_wp2_with fail
        refine endH (by (repeat (first | with_reducible exact H | with_reducible exact H0_ | with_reducible apply Hp.alloc | with_reducible apply Hp.allocMap | with_reducible apply Hp.drew | with_reducible apply Hp.drewN | with_reducible apply Hp.set)); (try any_goals (repeat (first | with_reducible exact Upd.head | with_reducible apply Upd.tail)))) ?_
        clear H; intro w9 H; (try simp only [size_drew_, size_drewN_, World.size_alloc, World.size_setCell, List.set_cons_zero, List.set_cons_succ] at H)
        refine roundNext HRR.out H (by (repeat (first | with_reducible exact Pick.head | with_reducible apply Pick.tail))) (fun w10 H10 => ?_)
        clear H
        have H := H10
        clear H10
        refine ⟨rfl, [.obj L (.loop (rc .ready none)), .obj D (.deferred (some [])), .box (w.heap.size + 1 + 1) 22 [.slice (some ⟨g', 0, none⟩) (us.length + 1) c'], .box (w.heap.size + 1) 26 [.int .i64 0, .int .i64 0, .int .i64 0, .slice none 0 0, .slice none 0 0], .dat (.l 26 5 ((us ++ [u.ks[1]]).map Tm.d)) [.slice (some ⟨g', 0, none⟩) (us.length + 1) c']], ⟨us ++ [u.ks[1]], Lib.hid ?_, some ⟨g', 0, none⟩, c', by simp⟩, ?_⟩
        · rw [HS.out, HSS.out]; simp
        · exact (H.arr (by (repeat (first | with_reducible exact Arr.nil | refine Arr.cons (by (repeat (first | with_reducible exact Pick.head | with_reducible apply Pick.tail))) ?_)) <;> exact Arr.of_subl (by (repeat (first | with_reducible exact Subl.refl _ | with_reducible apply Subl.drop)))))
      · refine wpOp_do (i := 8) rfl (by rfl) (fun K_ hK_ => ?_)
        have hrs_ := H.rules
        simp only [Rules, and_true] at hrs_
        go_simp
        clear hrs_
        refine kontH (by (repeat (first | with_reducible exact H | with_reducible exact H0_ | with_reducible apply Hp.alloc | with_reducible apply Hp.allocMap | with_reducible apply Hp.drew | with_reducible apply Hp.drewN | with_reducible apply Hp.set)); (try any_goals (repeat (first | with_reducible exact Upd.head | with_reducible apply Upd.tail)))) ?_
        clear H; intro w8 H; (try simp only [size_drew_, size_drewN_, World.size_alloc, World.size_setCell, List.set_cons_zero, List.set_cons_succ] at H)
        refine hK_ _ _ (fun h => absurd (by decide) h) (fun _ => ?_)
        refine wpL_do (i := 7) rfl (by kernel_rfl) (by rfl) (fun K_ hK_ => ?_)
        have hrs_ := H.rules
        simp only [Rules, and_true] at hrs_
        go_simp
        clear hrs_ F0 F1 F2 F3 F4
        refine kontH (by (repeat (first | with_reducible exact H | with_reducible exact H0_ | with_reducible apply Hp.alloc | with_reducible apply Hp.allocMap | with_reducible apply Hp.drew | with_reducible apply Hp.drewN | with_reducible apply Hp.set)); (try any_goals (repeat (first | with_reducible exact Upd.head | with_reducible apply Upd.tail)))) ?_
        clear H; intro w7 H; (try simp only [size_drew_, size_drewN_, World.size_alloc, World.size_setCell, List.set_cons_zero, List.set_cons_succ] at H)
        rw [set5 HL1.out] at H
        refine hK_ _ _ (fun h => absurd (by decide) h) (fun _ => ?_)
        refine wpL_done (by kernel_rfl) ?_ _
        have H := Hp.lastSet (x := u.ks[1]) (us := us) (((H.pick (c := .dat u.ks[1].d _) (by (repeat (first | with_reducible exact Pick.head | with_reducible apply Pick.tail)))).pick (c := .dat (.s (us.map Tm.d)) c1) (.tail (by (repeat (first | with_reducible exact Pick.head | with_reducible apply Pick.tail))))).pick (c := .box g' 26 _) (.tail (.tail (by (repeat (first | with_reducible exact Pick.head | with_reducible apply Pick.tail)))))) HL1.out HL2.out hl3 (by unfold M; omega)
        go_wp2_with fail
        refine endH (by (repeat (first | with_reducible exact H | with_reducible exact H0_ | with_reducible apply Hp.alloc | with_reducible apply Hp.allocMap | with_reducible apply Hp.drew | with_reducible apply Hp.drewN | with_reducible apply Hp.set)); (try any_goals (repeat (first | with_reducible exact Upd.head | with_reducible apply Upd.tail)))) ?_
        clear H; intro w9 H; (try simp only [size_drew_, size_drewN_, World.size_alloc, World.size_setCell, List.set_cons_zero, List.set_cons_succ] at H)
        refine roundNext HRR.out H (by (repeat (first | with_reducible exact Pick.head | with_reducible apply Pick.tail))) (fun w10 H10 => ?_)
        clear H
        have H := H10
        clear H10
        refine ⟨rfl, [.obj L (.loop (rc .ready none)), .obj D (.deferred (some [])), .box (w.heap.size + 1 + 1) 22 [.slice (some ⟨g', 0, none⟩) (us.length + 1) c'], .box (w.heap.size + 1) 26 [.int .i64 0, .int .i64 0, .int .i64 0, .slice none 0 0, .slice none 0 0], .dat (.l 26 5 ((us ++ [u.ks[1]]).map Tm.d)) [.slice (some ⟨g', 0, none⟩) (us.length + 1) c']], ⟨us ++ [u.ks[1]], Lib.hid ?_, some ⟨g', 0, none⟩, c', by simp⟩, ?_⟩
        · rw [HS.out, HSS.out]; simp
        · exact (H.arr (by (repeat (first | with_reducible exact Arr.nil | refine Arr.cons (by (repeat (first | with_reducible exact Pick.head | with_reducible apply Pick.tail))) ?_)) <;> exact Arr.of_subl (by (repeat (first | with_reducible exact Subl.refl _ | with_reducible apply Subl.drop)))))
  · rintro e w8 ⟨⟨v, rfl⟩, u, B, K, cb, kb, l', hn, ⟨us, A, c, HS, rfl⟩, hd, H⟩
    have HD := Lib.hid hd
    have HN := Lib.hid (spineT_stop hn)
    clear hd hn H3
    have H := H.pick (.tail (.tail .head))
    refine ⟨v, rfl, .ready, none, _, by decide, H, fun w9 H => ?_⟩
    clear hrc
    dsimp only
    have hr_ := H.rules; simp only [Rules, and_true] at hr_; have hd_ := H.dif; simp only [Dif, Neq, and_true] at hd_; obtain ⟨ho_, hz_⟩ := H.old0
    go_wp2_with fail
    clear hr_ hd_ ho_ hz_
    refine (reverse_any H (by (repeat (first | with_reducible exact Pick.head | with_reducible apply Pick.tail))) rfl).mono ?_
    rintro e w10 ⟨rfl, H2⟩
    clear H
    have H := H2
    clear H2
    go_wp2_with fail
    refine onlyNormal ?_
    refine regionH (by (repeat (first | with_reducible exact H | with_reducible exact H0_ | with_reducible apply Hp.alloc | with_reducible apply Hp.allocMap | with_reducible apply Hp.drew | with_reducible apply Hp.drewN | with_reducible apply Hp.set)); (try any_goals (repeat (first | with_reducible exact Upd.head | with_reducible apply Upd.tail)))) ?_
    clear H; intro w11 H; (try simp only [size_drew_, size_drewN_, World.size_alloc, World.size_setCell, List.set_cons_zero, List.set_cons_succ] at H)
    refine wp_region_H 5 [false, false, false, false, false] [] H (.cons (i := 1) rfl (.cons (i := 4) rfl .nil)) (by kernel_rfl) rfl rfl (fun H_ hR_ => ?_)
    (try clear H0_); have H0_ := H; clear H; have H := H_; clear H_
    refine wpL_reads (is := [(0, ?v2_0), (2, ?v2_1)]) (by kernel_rfl) (Nat.le_of_ble_eq_true rfl) (by intro _ _ d_ _ _ h_; cases d_ <;> exact h_) (by kernel_rfl) hR_ (fun w_ hw_ => ?h2_) ?_
    case h2_ =>
      have ho_ := hw_.old0.1; have hz_ := hw_.old0.2; have hr_ := hw_.rules; clear hw_; simp only [Rules, and_true] at hr_; go_split_ands
      (repeat (first | with_reducible exact RdOps.nil | (refine RdOps.run rfl (by rfl) ?_ ?_; (focus (first | (go_simp; done) | (go_simp; with_reducible rfl))); simp only [List.getElem_toArray, List.getElem_cons_zero, List.getElem_cons_succ, Act.put, List.setIfInBounds_toArray, List.set_cons_zero, List.set_cons_succ]) | (refine RdOps.skip rfl (by rfl) ?_; simp only [List.getElem_toArray, List.getElem_cons_zero, List.getElem_cons_succ, Act.put, List.setIfInBounds_toArray, List.set_cons_zero, List.set_cons_succ])))
    simp only [rdMark, rdAct, List.map_cons, List.map_nil, List.length_cons, List.length_nil, Nat.reduceAdd, Nat.reduceSub, Nat.zero_add, List.getElem?_toArray, List.getElem?_cons_zero, List.getElem?_cons_succ, Option.bind_some, Act.put, List.setIfInBounds_toArray, List.set_cons_zero, List.set_cons_succ]
    refine wpL_do (i := 1) rfl (by kernel_rfl) (by rfl) (fun K_ hK_ => ?_)
    go_simp
    refine (teleOwn (HT.out.ext H.ext) ⟨_, _, _, _, rfl, HD.out.ext0 H.ext⟩).mono ?_
    rintro e w_ ⟨v, rfl, hto, hx⟩
    obtain ⟨E1, Ec, E2, Ek, rfl, H_⟩ := H.resTm hx hto
    clear H hx hto
    have H := H_
    clear H_
    refine hK_ _ _ (fun _ => H.sub (by simp)) (fun hR_ => ?_)
    replace hR_ := hR_ (by decide)
    refine wpL_do (i := 3) rfl (by kernel_rfl) (by rfl) (fun K_ hK_ => ?_)
    refine wp_storeH rfl (by go_simp <;> first | rfl | exact ⟨rfl, rfl⟩) (by go_simp <;> first | rfl | exact ⟨rfl, rfl⟩) H (by (repeat (first | with_reducible exact Upd.head | with_reducible apply Upd.tail))) (by exact aggTerm) (by rfl) (by simp [Value.oneCell']) (fun w12 H_ => ?_)
    clear H; have H := H_; clear H_
    refine hK_ _ _ (fun _ => H.sub (by simp)) (fun hR_ => ?_)
    replace hR_ := hR_ (by decide)
    refine wpL_reads (is := [(4, ?v3_0)]) (by kernel_rfl) (Nat.le_of_ble_eq_true rfl) (by intro _ _ d_ _ _ h_; cases d_ <;> exact h_) (by kernel_rfl) hR_ (fun w_ hw_ => ?h3_) ?_
    case h3_ =>
      have ho_ := hw_.old0.1; have hz_ := hw_.old0.2; have hr_ := hw_.rules; clear hw_; simp only [Rules, and_true] at hr_; go_split_ands
      (repeat (first | with_reducible exact RdOps.nil | (refine RdOps.run rfl (by rfl) ?_ ?_; (focus (first | (go_simp; done) | (go_simp; with_reducible rfl))); simp only [List.getElem_toArray, List.getElem_cons_zero, List.getElem_cons_succ, Act.put, List.setIfInBounds_toArray, List.set_cons_zero, List.set_cons_succ]) | (refine RdOps.skip rfl (by rfl) ?_; simp only [List.getElem_toArray, List.getElem_cons_zero, List.getElem_cons_succ, Act.put, List.setIfInBounds_toArray, List.set_cons_zero, List.set_cons_succ])))
    simp only [rdMark, rdAct, List.map_cons, List.map_nil, List.length_cons, List.length_nil, Nat.reduceAdd, Nat.reduceSub, Nat.zero_add, List.getElem?_toArray, List.getElem?_cons_zero, List.getElem?_cons_succ, Option.bind_some, Act.put, List.setIfInBounds_toArray, List.set_cons_zero, List.set_cons_succ]
    refine wpL_done (by kernel_rfl) ?_ _
    go_wp2_with fail
    refine endH (by (repeat (first | with_reducible exact H | with_reducible exact H0_ | with_reducible apply Hp.alloc | with_reducible apply Hp.allocMap | with_reducible apply Hp.drew | with_reducible apply Hp.drewN | with_reducible apply Hp.set)); (try any_goals (repeat (first | with_reducible exact Upd.head | with_reducible apply Upd.tail)))) ?_
    clear H; intro w13 H; (try simp only [size_drew_, size_drewN_, World.size_alloc, World.size_setCell, List.set_cons_zero, List.set_cons_succ] at H)
    refine leaveM (v := .tuple #[.agg #[_, _, _, _, _], .slice A us.length c]) H (by (repeat (first | with_reducible exact Pick.head | with_reducible apply Pick.tail))) (fun w14 H => ⟨Res.two Tryz.results16 (H.resBox (by (repeat (first | with_reducible exact Pick.head | with_reducible apply Pick.tail))) aggTerm rfl rfl) rfl, ?_⟩)
    have e : spineT t = (u, us.reverse) := by rw [HS.out, HN.out]; simp
    rw [e]
    unfold PSpine
    dsimp only
    simp only [List.length_reverse]
    exact ⟨_, _, _, _, _, _, rfl, (H.arr (by (repeat (first | with_reducible exact Arr.nil | refine Arr.cons (by (repeat (first | with_reducible exact Pick.head | with_reducible apply Pick.tail))) ?_)) <;> exact Arr.of_subl (by (repeat (first | with_reducible exact Subl.refl _ | with_reducible apply Subl.drop)))))⟩
end Go.Proofs.YtmedomglemllnaaGreatDoor
/- 'out = append(out, xs...)', the row xs of old memory. No statement of the seat is proved here. -/
namespace Go.Proofs.YtmedomglemllnaaGreatDoor
set_option linter.unusedSimpArgs false
set_option linter.unusedVariables false
open Go.RowKit

section
variable {X : Nat → Prop} {w0 w w1 : World} {l l' l1 l2 l3 : List Ch}
variable {P : Program} {ops : Array Oper} {rest : List Oper} {o : Oper} {a : Act} {Q : Exit → Act → World → Prop}
theorem wp_pushRs {K : Act → World → Prop} (s x : Operand) (t : TypeId) (ho : o.op = .call { callee := .builtin .append, args := #[s, x], argTypes := #[t, t] }) {e z : Nat} (hT : SlT P t e z)
    {ds ds' : List D} {out : Value} {A : Option Addr} {m c : Nat} (hs : a.eval s = out) (hx : a.eval x = .slice A m c) (H : Hp X w0 w l) (p1 : Pick l (.row e z ds out) l2)
    (hd : RC w (fun k => k < w0.heap.size ∧ ¬ X k) (.l e z ds') [.slice A m c]) (hM : ds.length + ds'.length ≤ M)
    (h : ∀ v' w', Hp X w0 w' (.row e z (ds ++ ds') v' :: l2) → K (a.put o.dst v') w') : o.wp P a w K Q := by
  obtain ⟨L, hL, hn⟩ := (H.pick p1).own
  simp only [Chs] at hL
  obtain ⟨_, L3, rfl, ⟨rfl, h1⟩, h3⟩ := hL
  have hB : ∀ k, out.ownBlock = some k → w0.heap.size ≤ k := by
    intro k hk
    obtain ⟨_, _, es, h4, _⟩ := h1
    exact (h4.lt k (by simp [hk])).1
  refine wp_pushS s x t ho hT h1 hd (fun k hk hS => ⟨hS, fun e => by have := hB k e.symm; have := hS.1; omega⟩) hM H.ext.size hs hx ?_
  intro v' w' g1 g2 g3
  refine h v' w' ⟨H.ext.grown g2 (fun k hk => .inr (hB k hk)), v'.ownBlock.toList ++ L3, ?_, ?_⟩
  · unfold Chs
    refine ⟨_, L3, rfl, ⟨rfl, g1⟩, h3.frame H.ext.size g2.size (fun k hk hx => g2.block k (Nat.lt_of_lt_of_le hk H.ext.size) (fun e => ?_)) (fun k hk => g2.block k (h3.lt k hk).2 (fun e => ?_))⟩
    · have := hB k e.symm; omega
    · exact (List.nodup_append.1 hn).2.2 k (by simp [← e]) k (by simp [hk]) rfl
  · have n2 := (List.nodup_append.1 hn).2.1
    refine List.nodup_append.2 ⟨by cases v'.ownBlock <;> simp, n2, fun x hx y hy e => ?_⟩
    subst e
    rcases g3 with g3 | g3
    · rw [g3] at hx
      exact (List.nodup_append.1 hn).2.2 x hx x (by simp [hy]) rfl
    · have hx' : x = w.heap.size := by rw [g3] at hx; simpa using hx
      have := (h3.lt x hy).2
      omega
theorem wpList_pushRs (hgd : o.guard = none) (s x : Operand) (t : TypeId) (ho : o.op = .call { callee := .builtin .append, args := #[s, x], argTypes := #[t, t] }) {e z : Nat} (hT : SlT P t e z)
    {ds ds' : List D} {out : Value} {A : Option Addr} {m c : Nat} (hs : a.eval s = out) (hx : a.eval x = .slice A m c) (H : Hp X w0 w l) (p1 : Pick l (.row e z ds out) l2)
    (hd : RC w (fun k => k < w0.heap.size ∧ ¬ X k) (.l e z ds') [.slice A m c]) (hM : ds.length + ds'.length ≤ M)
    (h : ∀ v' w', Hp X w0 w' (.row e z (ds ++ ds') v' :: l2) → wpList P ops Q rest (a.put o.dst v') w') : wpList P ops Q (o :: rest) a w :=
  wpList_plain hgd fun _ hK => wp_pushRs s x t ho hT hs hx H p1 hd hM fun v' w' h1 => hK _ _ (h v' w' h1)
theorem RCs.front {w : World} {S : Nat → Prop} {z : Nat} : ∀ {ds : List D} {d : D} {es : List Value}, RCs w S (ds ++ [d]) es → (∀ x ∈ ds ++ [d], x.size = z) → RCs w S ds (es.take (ds.length * z))
  | [], d, es, _, _ => by unfold RCs; simp
  | x :: ds, d, es, h, hz => by
    rw [List.cons_append] at h
    unfold RCs at h
    obtain ⟨c1, c2, rfl, h1, h2⟩ := h
    have hl : c1.length = z := (RC.len _ _ h1).trans (hz x (by simp))
    have ih := RCs.front h2 (fun y hy => hz y (by simp only [List.cons_append, List.mem_cons]; exact .inr hy))
    unfold RCs
    refine ⟨c1, _, ?_, h1, ih⟩
    rw [List.length_cons, Nat.add_mul, Nat.one_mul, Nat.add_comm, ← hl, List.take_length_add_append]
theorem Hp.rowCut {e z n c : Nat} {ds : List D} {d : D} {A : Option Addr} (H : Hp X w0 w l) (p : Pick l (.row e z (ds ++ [d]) (.slice A n c)) l') : Hp X w0 w (.row e z ds (.slice A ds.length c) :: l') := by
  obtain ⟨L, hL, hn⟩ := (H.pick p).own
  simp only [Chs] at hL
  obtain ⟨L1, L2, rfl, ⟨rfl, h1⟩, h2⟩ := hL
  obtain ⟨g1, g2, es, ⟨hes, g3⟩, g4⟩ := h1
  rw [List.length_append, List.length_singleton] at g3 hes g1
  rcases g3 with ⟨h, h'⟩ | ⟨g, cap, cur, q1, q2, q3, q4, q5, q6, q7⟩
  · exact absurd h' (by omega)
  · simp only [Value.slice.injEq] at q1
    obtain ⟨rfl, rfl, rfl⟩ := q1
    refine ⟨H.ext, _, ?_, hn⟩
    unfold Chs
    refine ⟨_, L2, rfl, ⟨rfl, ?_⟩, h2⟩
    refine ⟨by omega, fun x hx => g2 x (by simp [hx]), es.take (ds.length * z), ⟨?_, .inr ⟨g, c, cur, rfl, q2, q3, by omega, q5, q6, ?_⟩⟩, RCs.front g4 g2⟩
    · rw [List.length_take, hes, Nat.add_mul, Nat.one_mul]; omega
    · rw [← q7, List.take_take, Nat.add_mul, Nat.one_mul, Nat.min_eq_left (by omega)]
theorem Pick.app {c : Ch} {b : List Ch} : ∀ a : List Ch, Pick (a ++ c :: b) c (a ++ b)
  | [] => .head
  | x :: a => .tail (Pick.app a)
theorem Arr.self_ : ∀ l : List Ch, Arr l l
  | [] => .nil
  | c :: l => .cons .head (Arr.self_ l)
theorem Arr.comm : ∀ b a : List Ch, Arr (a ++ b) (b ++ a)
  | [], a => by simpa using Arr.self_ a
  | c :: b, a => .cons (Pick.app a) (Arr.comm b a)
theorem Hp.comm {a b : List Ch} (H : Hp X w0 w (a ++ b)) : Hp X w0 w (b ++ a) := H.arr (Arr.comm b a)
end
end Go.Proofs.YtmedomglemllnaaGreatDoor
/- split: nodes, Self: contracts; a measure for a row of terms that is worked off. No statement of the seat is proved here. -/
namespace Go.Proofs.YtmedomglemllnaaGreatDoor
set_option linter.unusedSimpArgs false
set_option linter.unusedVariables false
open Go.RowKit
attribute [local go_sem] Oper.semAt_some

mutual
def anyT (p : Int → Bool) : Tm → Bool
  | .mk k _ _ _ ks => p k || anyTs p ks
def anyTs (p : Int → Bool) : List Tm → Bool
  | [] => false
  | t :: ts => anyT p t || anyTs p ts
end
theorem anyTs_any (p : Int → Bool) (ts : List Tm) : anyTs p ts = ts.any (anyT p) := by
  induction ts with
  | nil => rfl
  | cons t ts ih => rw [anyTs, ih, List.any_cons]
theorem anyT_eq (p : Int → Bool) (t : Tm) : anyT p t = (p t.k || t.ks.any (anyT p)) := by
  obtain ⟨k, n, a, ls, ks⟩ := t
  rw [anyT, anyTs_any]
  rfl
def selfT (t : Tm) : Bool := anyT (fun k => decide (k = 11)) t
theorem sizesT_congr : ∀ (xs ys : List Tm), xs.length = ys.length → (∀ (i : Nat) (h : i < xs.length) (h' : i < ys.length), sizeT xs[i] = sizeT ys[i]) → sizesT xs = sizesT ys
  | [], [], _, _ => rfl
  | [], _ :: _, h, _ => by simp at h
  | _ :: _, [], h, _ => by simp at h
  | x :: xs, y :: ys, h, hi => by
    rw [sizesT, sizesT, sizesT_congr xs ys (by simpa using h) (fun i h1 h2 => by have := hi (i + 1) (by simpa using h1) (by simpa using h2); simpa using this)]
    have := hi 0 (by simp) (by simp)
    simp only [List.getElem_cons_zero] at this
    rw [this]
theorem RC.sizesEq_of {w : World} {S S' : Nat → Prop} {ks ks' : List Tm} {A : Option Addr} {n c n' c' : Nat} (ih : ∀ (i : Nat) (h : i < ks.length) {S S' : Nat → Prop} {u' : Tm} {cs : List Value}, RC w S ks[i].d cs → RC w S' u'.d cs → sizeT ks[i] = sizeT u')
    (hks : RC w S (.l 26 5 (ks.map Tm.d)) [.slice A n c]) (hks' : RC w S' (.l 26 5 (ks'.map Tm.d)) [.slice A n' c']) (hlen : ks.length = ks'.length) : sizesT ks = sizesT ks' := by
  refine sizesT_congr ks ks' hlen ?_
  intro i hi hi'
  obtain ⟨b, o, A1, ca1, K1, ck1, rfl, hb1, hS1, hd1, p0, p1, p2, p3, p4⟩ := hks.atTm hi
  obtain ⟨b', o', A2, ca2, K2, ck2, he2, hb2, hS2, hd2, q0, q1, q2, q3, q4⟩ := hks'.atTm hi'
  simp only [Option.some.injEq, Addr.mk.injEq, and_true] at he2
  obtain ⟨rfl, rfl⟩ := he2
  refine ih i hi (S' := S') (u' := ks'[i]) hd1 ?_
  rw [p0] at q0; rw [p1] at q1; rw [p2] at q2; rw [p3] at q3; rw [p4] at q4
  simp only [Option.some.injEq] at q0 q1 q2 q3 q4
  rw [q0, q1, q2, q3, q4]
  exact hd2
theorem RC.sizeEq : ∀ (u : Tm) {w : World} {S S' : Nat → Prop} {u' : Tm} {cs : List Value}, RC w S u.d cs → RC w S' u'.d cs → sizeT u = sizeT u' := by
  intro u
  induction u using Tm.ind_ with
  | h k n a ls ks ih =>
  intro w S S' u' cs h h'
  obtain ⟨A, ca, K, ck, rfl, _, _, _, _, hks⟩ := RC.tm.1 h
  obtain ⟨A', ca', K', ck', he, _, _, _, _, hks'⟩ := RC.tm.1 h'
  obtain ⟨k', n', a', ls', ks'⟩ := u'
  simp only [Tm.k_mk, Tm.n_mk, Tm.a_mk, Tm.ls_mk, Tm.ks_mk, List.cons.injEq, Value.slice.injEq, Value.int.injEq, and_true, true_and] at he hks hks'
  obtain ⟨_, _, _, _, rfl, hlen, rfl⟩ := he
  rw [sizeT, sizeT, RC.sizesEq_of (fun i hi _ _ _ _ g g' => ih ks[i] (by simp) g g') hks hks' hlen]
theorem RC.sizesEq {w : World} {S S' : Nat → Prop} {ks ks' : List Tm} {v : Value} (h : RC w S (.l 26 5 (ks.map Tm.d)) [v]) (h' : RC w S' (.l 26 5 (ks'.map Tm.d)) [v]) : sizesT ks = sizesT ks' := by
  obtain ⟨A, c, rfl, _, _, _⟩ := h.slice
  obtain ⟨A', c', he, _, _, _⟩ := h'.slice
  simp only [Value.slice.injEq, List.length_map] at he
  obtain ⟨rfl, hl, rfl⟩ := he
  exact RC.sizesEq_of (fun i hi _ _ _ _ g g' => RC.sizeEq _ g g') h h' hl
noncomputable def stackAt (v : Value) (wr : World) : Nat := sizesT (Classical.epsilon fun us : List Tm => ∃ S : Nat → Prop, RC wr S (.l 26 5 (us.map Tm.d)) [v])
theorem stackAt_eq {wr : World} {S : Nat → Prop} {us : List Tm} {v : Value} (h : RC wr S (.l 26 5 (us.map Tm.d)) [v]) : stackAt v wr = sizesT us := by
  unfold stackAt
  obtain ⟨S', h1⟩ := Classical.epsilon_spec (p := fun us : List Tm => ∃ S : Nat → Prop, RC wr S (.l 26 5 (us.map Tm.d)) [v]) ⟨us, S, h⟩
  exact RC.sizesEq h1 h
theorem split_nodes {X : Nat → Prop} {w0 w : World} {l : List Ch} {t : Tm} {B K : Option Addr} {cb kb : Nat} (H : Hp X w0 w l) :
    Calls Tryz.prog 259 #[.agg #[.int .i64 t.k, .int .i64 t.n, .int .i64 t.a, .slice B t.ls.length cb, .slice K t.ks.length kb]] w fun e w' => ∃ g, e = .returned (.func (.func 279) #[] #[.pointer (some ⟨g, 0, none⟩)]) ∧ Hp X w0 w' (.box g 26 [.int .i64 t.k, .int .i64 t.n, .int .i64 t.a, .slice B t.ls.length cb, .slice K t.ks.length kb] :: l) := by
  have hmf : ∀ (fn : Fn) (first cap : Array Value) (w : World), (Instr.makeFunc fn first cap).run Tryz.prog w = .ok (.func fn first cap) w := fun _ _ _ _ => rfl
  go_enter Tryz.func259, Tryz.ntmps259
  go_wp2_with fail
  go_ret
  exact ⟨_, rfl, H.alloc [.int .i64 t.k, .int .i64 t.n, .int .i64 t.a, .slice B t.ls.length cb, .slice K t.ks.length kb] _⟩
theorem atRegion5 {P : Program} {Q : Exit → Act → World → Prop} {a : Act} {w : World} {n : Nat} {ops : Array Oper} (h : (Code.region 5 ops false).wp P Q a w) : (Code.region 5 ops false).wpIn Fence.wide n P Q a w := wpIn_wide.2 h
theorem Hp.rowAt {w0 w : World} {l l' : List Ch} {e z i : Nat} {ds : List D} {v : Value} {d : D} (H : Hp no w0 w l) (p : Pick l (.row e z ds v) l') (hd : ds[i]? = some d) :
    ∃ g c cs, v = .slice (some ⟨g, 0, none⟩) ds.length c ∧ ds.length ≤ c ∧ c ≤ maxLen ∧ w0.heap.size ≤ g ∧ g < w.heap.size ∧ RC w0 (fun _ => True) d cs ∧ cs.length = z ∧ ∀ j u, cs[j]? = some u → w.cell? ⟨g, i * z + j, none⟩ = some u := by
  obtain ⟨L, hL, _⟩ := (H.pick p).own
  simp only [Chs] at hL
  obtain ⟨L1, _, rfl, ⟨rfl, h1⟩, _⟩ := hL
  obtain ⟨g1, g2, es, g3, g4⟩ := h1
  have hlt := g3.lt
  have hcells := fun g hg => g3.cells (g := g) hg
  obtain ⟨_, g3⟩ := g3
  rcases g3 with ⟨h, h'⟩ | ⟨g, cap, cur, rfl, q2, q3, q4, q5, q6, q7⟩
  · have := (List.getElem?_eq_some_iff.1 hd).1; omega
  · obtain ⟨cs, k1, k2, k3⟩ := g4.get g2 hd
    refine ⟨g, cap, cs, rfl, q4, q5, q2, (hlt g rfl).2, ?_, k2, fun j u hu => ?_⟩
    · exact RC.back (S := fun _ => True) H.ext _ _ (RC.frame (Nat.le_refl _) (fun k _ hS => ⟨trivial, hS.1.1⟩) (fun _ _ _ => rfl) _ _ k1)
    · have := hcells g rfl (i * z + j) u (k3 j u hu)
      rw [Addr.add_lit, Nat.zero_add] at this
      exact this
theorem Hp.boxRowO {w0 w : World} {l l' : List Ch} {g e z : Nat} {d : D} {cs : List Value} {S : Nat → Prop} (H : Hp no w0 w l) (p : Pick l (.box g e cs) l') (h : RC w0 S d cs) (hz : d.size = z) : Hp no w0 w (.row e z [d] (.slice (some ⟨g, 0, none⟩) 1 1) :: l') := by
  have hl := RC.len _ _ h
  have H1 := H.boxraw (z := z) (n := 1) p (by omega) (by unfold maxLen; omega)
  refine Hp.turn1 (ds' := [_]) H1 .head fun L hL => ?_
  obtain ⟨rfl, hown⟩ := hL
  simp only [Chs]
  refine ⟨_, [], by simp, ⟨rfl, by unfold M; simp, by simpa using hz, cs, hown, ?_⟩, rfl⟩
  have hg : w0.heap.size ≤ g := (hown.lt g (by simp [Value.ownBlock])).1
  unfold RCs
  refine ⟨cs, [], by simp, RC.frame (Nat.le_refl _) (fun k hk hS => ⟨hS, fun e => ?_⟩) (fun _ _ _ => rfl) _ _ (h.oldP H.ext), by unfold RCs; rfl⟩
  simp only [Value.ownBlock, Option.some.injEq] at e
  have := hS.1
  omega
theorem sizesT_last (us : List Tm) (x : Tm) : sizesT (us ++ [x]) = sizesT us + sizeT x := by rw [sizesT_append]; simp [sizesT]
theorem any_last {p : Int → Bool} {us : List Tm} {x : Tm} (h : p x.k = false) : (us ++ [x]).any (anyT p) = (us ++ x.ks).any (anyT p) := by
  rw [List.any_append, List.any_append, List.any_cons, List.any_nil, Bool.or_false, anyT_eq p x, h, Bool.false_or]
theorem any_last' {p : Int → Bool} {us : List Tm} {x : Tm} (h : p x.k = true) : (us ++ [x]).any (anyT p) = true := by
  rw [List.any_append, List.any_cons, anyT_eq p x, h]
  simp
set_option maxRecDepth 100000 in
set_option maxHeartbeats 8000000 in
theorem nodes1 {w0 : World} {S : Nat → Prop} {L g : Nat} {l ld : List Ch} {t : Tm} {B K : Option Addr} {cb kb : Nat} (bad : Int → Bool)
    (hY : ∀ (x : Tm) (B K : Option Addr) (cb kb : Nat) (lx : List Ch) (W : World), RC w0 (fun _ => True) x.d [.int .i64 x.k, .int .i64 x.n, .int .i64 x.a, .slice B x.ls.length cb, .slice K x.ks.length kb] → Hp no w0 W (l ++ lx) →
      YieldAt Fence.wide 0 Tryz.prog L #[.agg #[.int .i64 x.k, .int .i64 x.n, .int .i64 x.a, .slice B x.ls.length cb, .slice K x.ks.length kb]] W fun e W' => e = .returned (.bool (!bad x.k)) ∧ Hp no w0 W' ((if bad x.k then ld else l) ++ lx))
    (hbig : sizeT t ≤ 4000000000) (hrc : RC w0 S t.d [.int .i64 t.k, .int .i64 t.n, .int .i64 t.a, .slice B t.ls.length cb, .slice K t.ks.length kb]) {W : World} (H : Hp no w0 W (.box g 26 [.int .i64 t.k, .int .i64 t.n, .int .i64 t.a, .slice B t.ls.length cb, .slice K t.ks.length kb] :: l)) :
    CallsIn Fence.wide 0 Tryz.prog 279 #[.func (.yield L) #[] #[], .pointer (some ⟨g, 0, none⟩)] W fun e W' => (∃ v, e = .returned v) ∧ Hp no w0 W' (if anyT bad t then ld else l) := by
  have HRC := Lib.hid hrc
  have HY := Lib.hid hY
  have HB := Lib.hid hbig
  clear hrc hY hbig
  obtain ⟨Z, hZ⟩ : ∃ Z, Z = if anyT bad t then ld else l := ⟨_, rfl⟩
  rw [← hZ]
  have HZ := Lib.hid hZ
  clear hZ
  refine callsIn_of_wp Tryz.func279 rfl trivial ?_
  simp only [Tryz.ntmps279, List.size_toArray, List.length_cons, List.length_nil, Nat.reduceAdd, Nat.reduceSub, Array.replicate_succ, Array.replicate_zero, List.push_toArray, List.append_toArray, List.nil_append, List.cons_append]
  have hr_ := H.rules; simp only [Rules, and_true] at hr_; have hd_ := H.dif; simp only [Dif, Neq, and_true] at hd_; obtain ⟨ho_, hz_⟩ := H.old0
  gi_wp2
  (try clear hr_ hd_ ho_ hz_)
  gi_loopw [3] (fun q wr => ∃ (us : List Tm) (A : Option Addr) (c : Nat), q = .slice A us.length c ∧ Hid (anyT bad t = us.any (anyT bad)) ∧ sizesT us ≤ 4000000000 ∧ Hp no w0 wr (.row 26 5 (us.map Tm.d) (.slice A us.length c) :: l)) (fun q wr => stackAt q wr)
  case atStart =>
    have H0 := H.alloc [.int .i64 t.k, .int .i64 t.n, .int .i64 t.a, .slice B t.ls.length cb, .slice K t.ks.length kb] 26
    have H1 := H0.boxRowO (d := t.d) .head HRC.out (Tm.size_d t)
    exact ⟨[t], _, _, rfl, Lib.hid (by simp), by simpa [sizesT] using HB.out, H1.only (.keep (.drop (Subl.refl _)))⟩
  case round =>
    clear H HRC
    obtain ⟨us, A, c, rfl, HA, hb, H⟩ := hrel
    have HST := Lib.hid (stackAt_eq (us := us) (H.rowRd .head))
    rcases List.eq_nil_or_concat us with rfl | ⟨us', x, rfl⟩
    · gi_wp2
      go_end0
      refine ⟨⟨_, rfl⟩, ?_⟩
      have := H.tl
      rw [HZ.out, HA.out]
      simpa using this
    · rw [List.concat_eq_append] at *
      obtain ⟨gr, cr, cs, he, hcap, hcm, hgr, hgl, hx0, hcs, hcell⟩ := H.rowAt (i := us'.length) (d := x.d) .head (by simp)
      simp only [Value.slice.injEq, List.length_map] at he
      obtain ⟨rfl, _, rfl⟩ := he
      obtain ⟨B1, cb1, K1, kb1, rfl, _, _, _, hls, hks⟩ := RC.tm.1 hx0
      have p0 := hcell 0 _ rfl
      have p1 := hcell 1 _ rfl
      have p2 := hcell 2 _ rfl
      have p3 := hcell 3 _ rfl
      have p4 := hcell 4 _ rfl
      simp only [Nat.add_zero] at p0
      have HX := Lib.hid hx0
      have HKS := Lib.hid hks
      have HBS := Lib.hid hb
      have hlen : (us' ++ [x]).length = us'.length + 1 := by simp
      have hM := sizesT_last us' x
      have hsz : us'.length ≤ 4000000000 := by
        have h1 : ∀ l : List Tm, l.length ≤ sizesT l := fun l => by
          induction l with
          | nil => simp
          | cons t l ih => rw [sizesT, sizeT_eq, List.length_cons]; omega
        have := h1 us'
        omega
      have hlk : us'.length + x.ks.length ≤ 4000000000 := by
        have h1 : ∀ l : List Tm, l.length ≤ sizesT l := fun l => by
          induction l with
          | nil => simp
          | cons t l ih => rw [sizesT, sizeT_eq, List.length_cons]; omega
        have g1 := h1 us'
        have g2 := h1 x.ks
        rw [sizeT_eq] at hM
        omega
      clear hx0 hks hls hcs hcell hb hM
      rw [List.length_map, hlen] at hcap
      unfold maxLen at hcm
      rw [hlen] at H ⊢
      clear hlen
      have H1 := H.alloc [.int .i64 x.k, .int .i64 x.n, .int .i64 x.a, .slice B1 x.ls.length cb1, .slice K1 x.ks.length kb1] 26
      have e1 : (us' ++ [x]).map Tm.d = us'.map Tm.d ++ [x.d] := by simp
      rw [e1] at H1
      have H2 := Hp.rowCut H1 (.tail .head)
      rw [List.length_map] at H2
      clear H H1 e1
      have hy := HY.out x B1 K1 cb1 kb1 [_, _] _ HX.out (Hp.comm (a := [_, _]) H2)
      clear H2
      obtain ⟨fn, tmps, assign, body, hy, hR⟩ := hy
      gi_wp2
      refine ⟨rfl, hR.mono ?_⟩
      rintro e W3 ⟨rfl, H3⟩
      clear hy hR
      cases hbd : bad x.k
      · rw [hbd] at H3
        have H := Hp.comm (b := [_, _]) H3
        simp only [List.cons_append, List.nil_append, Bool.false_eq_true, if_false, if_true] at H
        dsimp only [Bool.not_false, Bool.not_true]
        clear H3
        have HBX := Lib.hid hbd
        clear hbd
        have hr_ := H.rules; simp only [Rules, and_true] at hr_; have hd_ := H.dif; simp only [Dif, Neq, and_true] at hd_; obtain ⟨ho_, hz_⟩ := H.old0
        repeat (first | with_reducible refine atRegion5 ?_ | gi_step | gi_guarded | gi_upon | gi_in | gi_back)
        go_wp2_with (at_builtin; go_must (refine wpList_pushRs rfl (.tmp 25) (.tmp 27) 22 rfl stTerms rfl rfl H .head (HKS.out.oldP H.ext) ?_ ?_; (focus (simp [M]; omega)); clear H; intro v' w5 H))
        (try clear hr_ hd_ ho_ hz_)
        rw [← List.map_append] at H
        obtain ⟨A', c', rfl, _, _, _⟩ := (H.rowRd .head).slice
        rw [List.length_map] at H ⊢
        have HST2 := Lib.hid (stackAt_eq (us := us' ++ x.ks) (H.rowRd .head))
        go_roundw
        case rel => exact ⟨us' ++ x.ks, A', c', rfl, Lib.hid (by rw [HA.out, any_last HBX.out]), by have := HBS.out; rw [sizesT_last, sizeT_eq] at this; rw [sizesT_append]; omega, H.only (.keep (.drop (Subl.refl _)))⟩
        case measure =>
          have e1 := HST.out
          have e2 := HST2.out
          rw [sizesT_last, sizeT_eq] at e1
          rw [sizesT_append] at e2
          simp only [List.length_append, List.length_singleton] at e1
          omega
      · rw [hbd] at H3
        have H := Hp.comm (b := [_, _]) H3
        simp only [List.cons_append, List.nil_append, Bool.false_eq_true, if_false, if_true] at H
        dsimp only [Bool.not_false, Bool.not_true]
        clear H3
        have HBX := Lib.hid hbd
        clear hbd
        gi_wp2
        refine bodyPost_ret (results_none rfl _ _ _) rfl ?_
        refine ⟨⟨_, rfl⟩, ?_⟩
        have h5 := H.tl.tl
        rw [HZ.out, HA.out, any_last' HBX.out]
        exact h5
set_option maxRecDepth 100000 in
set_option maxHeartbeats 8000000 in
theorem self_calls {S : Nat → Prop} {t : Tm} {w : World} {v : Value} (h : TV w S t v) (hb : sizeT t ≤ 4000000000) : Calls Tryz.prog 205 #[v] w (PV w (.bool (selfT t))) := by
  obtain ⟨A0, ca, K0, ck, rfl, hrc⟩ := h
  have HRC := Lib.hid hrc
  have HB := Lib.hid hb
  clear hrc hb
  have H := Hp.start no w
  refine enterM Tryz.func205 rfl ?_
  simp only [Tryz.ntmps205, List.size_toArray, List.length_cons, List.length_nil, Nat.reduceAdd, Nat.reduceSub, Array.replicate_succ, Array.replicate_zero, List.push_toArray, List.append_toArray, List.nil_append, List.cons_append]
  go_wp2_with fail
  refine callsH (by (repeat (first | with_reducible exact H | with_reducible exact H0_ | with_reducible apply Hp.alloc | with_reducible apply Hp.allocMap | with_reducible apply Hp.drew | with_reducible apply Hp.drewN | with_reducible apply Hp.set)); (try any_goals (repeat (first | with_reducible exact Upd.head | with_reducible apply Upd.tail)))) ?_
  clear H; intro w1 H; (try simp only [size_drew_, size_drewN_, World.size_alloc, World.size_setCell, List.set_cons_zero, List.set_cons_succ] at H)
  refine (split_nodes H).mono ?_
  rintro e w2 ⟨g1, rfl, H2⟩
  clear H
  have H := H2
  clear H2
  go_wp2_with fail
  refine wp_rangeH H rfl (enters_of Tryz.func279 (by kernel_rfl) rfl) ?_
  intro fn D L rc w3 hDL hrc H3
  clear H
  refine (nodes1 (L := L) (g := g1) (w0 := w) (S := S) (t := t) (l := [.obj L (.loop (rc .ready none)), .obj D (.deferred (some [])), .box (w.heap.size + 1) 4 [.bool false]]) (ld := [.obj L (.loop (rc .done (some .ret))), .obj D (.deferred (some [])), .box (w.heap.size + 1) 4 [.bool true]]) (fun k => decide (k = 11)) ?round HB.out HRC.out ?start).mono ?_
  case start =>
    exact (H3.pick (.tail (.tail .head))).only (.keep (.keep (.keep (.keep (.drop .nil)))))
  case round =>
    rintro x B K cb kb lx W hx H
    clear H3
    have HRR := Lib.hid hrc
    have HX := Lib.hid hx
    clear hx
    by_cases hk : x.k = 11
    · have hd : decide (x.k = 11) = true := by simpa using hk
      have hk2 : (x.k == 11) = true := by simpa using hk
      simp only [hd, Bool.not_true, Bool.not_false, if_true, if_false, Bool.false_eq_true, List.cons_append, List.nil_append] at H ⊢
      clear hk hd
      refine roundH hrc H rfl ?_
      clear hrc
      refine regionRn (by kernel_rfl) (no_letsThen fun ⟨_, _, h⟩ => h) ?_
      have hr_ := H.rules; simp only [Rules, and_true] at hr_; have hd_ := H.dif; simp only [Dif, Neq, and_true] at hd_; obtain ⟨ho_, hz_⟩ := H.old0
      go_wp2_with fail
      clear hr_ hd_ ho_ hz_
      refine ⟨_, (H.alloc [_, _, _, _, _] 26).swap, fun w5 H5 => ?_⟩
      clear H
      have H := H5
      clear H5
      refine wpIn_block ?_
      refine wpIn_seq ?_
      refine regionRn (by kernel_rfl) (no_letsThen fun ⟨_, _, h⟩ => h) ?_
      have hr_ := H.rules; simp only [Rules, and_true] at hr_; have hd_ := H.dif; simp only [Dif, Neq, and_true] at hd_; obtain ⟨ho_, hz_⟩ := H.old0
      go_wp2_with fail
      clear hr_ hd_ ho_ hz_
      refine wpIn_cond_true rfl ?_
      refine wpIn_seq ?_
      refine regionRn (by kernel_rfl) (no_letsThen fun ⟨_, _, h⟩ => h) ?_
      have hr_ := H.rules; simp only [Rules, and_true] at hr_; have hd_ := H.dif; simp only [Dif, Neq, and_true] at hd_; obtain ⟨ho_, hz_⟩ := H.old0
      go_wp2_with fail
      clear hr_ hd_ ho_ hz_
      refine wpIn_ret ?_
      refine endH (by (repeat (first | with_reducible exact H | with_reducible exact H0_ | with_reducible apply Hp.alloc | with_reducible apply Hp.allocMap | with_reducible apply Hp.drew | with_reducible apply Hp.drewN | with_reducible apply Hp.set)); (try any_goals (repeat (first | with_reducible exact Upd.head | with_reducible apply Upd.tail)))) ?_
      clear H; intro w6 H; (try simp only [size_drew_, size_drewN_, World.size_alloc, World.size_setCell, List.set_cons_zero, List.set_cons_succ] at H)
      simp only [Exit.inBlock]
      refine roundRet HRR.out H (by (repeat (first | with_reducible exact Pick.head | with_reducible apply Pick.tail))) (fun w10 H10 => ?_)
      refine ⟨rfl, ?_⟩
      exact H10.only (.keep (.drop (Subl.refl _)))
    · have hd : decide (x.k = 11) = false := by simpa using hk
      have hk2 : (x.k == 11) = false := by simpa using hk
      simp only [hd, Bool.not_true, Bool.not_false, if_true, if_false, Bool.false_eq_true, List.cons_append, List.nil_append] at H ⊢
      clear hk hd
      refine roundH hrc H rfl ?_
      clear hrc
      refine regionRn (by kernel_rfl) (no_letsThen fun ⟨_, _, h⟩ => h) ?_
      have hr_ := H.rules; simp only [Rules, and_true] at hr_; have hd_ := H.dif; simp only [Dif, Neq, and_true] at hd_; obtain ⟨ho_, hz_⟩ := H.old0
      go_wp2_with fail
      clear hr_ hd_ ho_ hz_
      refine ⟨_, (H.alloc [_, _, _, _, _] 26).swap, fun w5 H5 => ?_⟩
      clear H
      have H := H5
      clear H5
      refine wpIn_block ?_
      refine wpIn_seq ?_
      refine regionRn (by kernel_rfl) (no_letsThen fun ⟨_, _, h⟩ => h) ?_
      have hr_ := H.rules; simp only [Rules, and_true] at hr_; have hd_ := H.dif; simp only [Dif, Neq, and_true] at hd_; obtain ⟨ho_, hz_⟩ := H.old0
      go_wp2_with fail
      clear hr_ hd_ ho_ hz_
      refine wpIn_cond_false rfl ?_
      refine wpIn_skip ?_
      simp only [Exit.inBlock]
      refine roundNext HRR.out H (by (repeat (first | with_reducible exact Pick.head | with_reducible apply Pick.tail))) (fun w10 H10 => ?_)
      refine ⟨rfl, ?_⟩
      exact H10.only (.keep (.drop (Subl.refl _)))
  · rintro e w8 ⟨⟨v, rfl⟩, H⟩
    cases hq : anyT (fun k => decide (k = 11)) t
    · rw [hq] at H
      simp only [Bool.false_eq_true, if_false] at H
      refine ⟨v, rfl, .ready, none, _, by decide, H, fun w9 H => ?_⟩
      clear hrc
      dsimp only
      have HQ := Lib.hid hq
      clear hq
      have hr_ := H.rules; simp only [Rules, and_true] at hr_; have hd_ := H.dif; simp only [Dif, Neq, and_true] at hd_; obtain ⟨ho_, hz_⟩ := H.old0
      go_wp2_with fail
      clear hr_ hd_ ho_ hz_
      refine endH (by (repeat (first | with_reducible exact H | with_reducible exact H0_ | with_reducible apply Hp.alloc | with_reducible apply Hp.allocMap | with_reducible apply Hp.drew | with_reducible apply Hp.drewN | with_reducible apply Hp.set)); (try any_goals (repeat (first | with_reducible exact Upd.head | with_reducible apply Upd.tail)))) ?_
      clear H; intro w10 H; (try simp only [size_drew_, size_drewN_, World.size_alloc, World.size_setCell, List.set_cons_zero, List.set_cons_succ] at H)
      refine leaveM (v := .bool (selfT t)) H (by (repeat (first | with_reducible exact Pick.head | with_reducible apply Pick.tail))) (fun w14 H => ⟨?_, rfl, H.ext⟩)
      have e : selfT t = false := HQ.out
      rw [e]
      have hr_ := H.rules
      simp only [Rules, and_true] at hr_
      simp [results, Tryz.results205, go_sem, hr_]
    · rw [hq] at H
      simp only [if_true] at H
      refine ⟨v, rfl, .done, some .ret, _, by decide, H, fun w9 H => ?_⟩
      clear hrc
      dsimp only
      have HQ := Lib.hid hq
      clear hq
      have hr_ := H.rules; simp only [Rules, and_true] at hr_; have hd_ := H.dif; simp only [Dif, Neq, and_true] at hd_; obtain ⟨ho_, hz_⟩ := H.old0
      go_wp2_with fail
      clear hr_ hd_ ho_ hz_
      refine leaveM (v := .bool (selfT t)) H (by (repeat (first | with_reducible exact Pick.head | with_reducible apply Pick.tail))) (fun w14 H => ⟨?_, rfl, H.ext⟩)
      have e : selfT t = true := HQ.out
      rw [e]
      have hr_ := H.rules
      simp only [Rules, and_true] at hr_
      simp [results, Tryz.results205, go_sem, hr_]
end Go.Proofs.YtmedomglemllnaaGreatDoor
