/- split: a constructor read: contract. No statement of the seat is proved here. -/
import Derived.Deep.DeepCutAuto
import Derived.Test.YtmedomglemllnaaGreatDoorSplit3
namespace Go.Proofs.YtmedomglemllnaaGreatDoor
set_option linter.unusedSimpArgs false
set_option linter.unusedVariables false
open Go.RowKit

def argsQ (ms : List Mb) : List Tm → Except Int (List Ar)
  | [] => .ok []
  | t :: ts => match argQ ms t with
    | .error c => .error c
    | .ok a => (argsQ ms ts).map (a :: ·)
def endQ (ms : List Mb) (m : Int) (s : Tm × List Tm) : Bool := (s.1.k == 11) && ((s.1.a == m) && (decide (0 ≤ s.1.a) && (decide (s.1.a < ms.length) && !(s.2.any selfT))))
def readQ (ms : List Mb) (c : Ct) : Except Int Ru :=
  if (countT c.ty : Int) ≤ 10 then
    match argsQ ms (openAll c.ty).1 with
    | .error k => .error k
    | .ok as_ => if endQ ms c.member (spineT (openAll c.ty).2) = true then
        (if decide ((spineT (openAll c.ty).2).2.length = ((ms.getD (spineT (openAll c.ty).2).1.a.toNat ⟨[]⟩).index).length) = true then
          (if linQ ⟨true, zT, [], 0, (spineT (openAll c.ty).2).2⟩ as_ = true then .ok ⟨c.member, as_, (spineT (openAll c.ty).2).2⟩ else .error 16) else .error 17)
      else .error 17
  else .error 3
theorem argsQ_drop {ms : List Mb} {ts : List Tm} {j : Nat} (h : j < ts.length) : argsQ ms (ts.drop j) = match argQ ms ts[j] with
    | .error c => .error c
    | .ok a => (argsQ ms (ts.drop (j + 1))).map (a :: ·) := by
  rw [List.drop_eq_getElem_cons h, argsQ]
theorem argQ_tele {ms : List Mb} {t : Tm} {a : Ar} (h : argQ ms t = .ok a) : a.tele.length ≤ 6 := by
  unfold argQ at h
  split at h
  · cases h; simp
  · split at h
    · rename_i h6
      split at h
      · split at h
        · cases h
          have := (openAll_size t).2
          simp only
          omega
        · cases h
      · cases h
    · cases h
theorem argsQ_tele {ms : List Mb} : ∀ {ts : List Tm} {as_ : List Ar}, argsQ ms ts = .ok as_ → (∀ a ∈ as_, a.tele.length ≤ 6) ∧ as_.length = ts.length
  | [], as_, h => by cases h; simp
  | t :: ts, as_, h => by
    rw [argsQ] at h
    cases ha : argQ ms t with
    | error c => rw [ha] at h; cases h
    | ok a =>
      rw [ha] at h
      cases hr : argsQ ms ts with
      | error c => rw [hr] at h; cases h
      | ok r =>
        rw [hr] at h
        cases h
        have := argsQ_tele hr
        refine ⟨fun x hx => ?_, by simp [this.2]⟩
        rcases List.mem_cons.1 hx with rfl | hx
        · exact argQ_tele ha
        · exact this.1 x hx
theorem map_none (r : Except Int (List Ar)) : r = r.map ([] ++ ·) := by
  cases r <;> simp [Except.map]
theorem map_step {r : Except Int (List Ar)} {got : List Ar} {a : Ar} : (r.map (a :: ·)).map (got ++ ·) = r.map ((got ++ [a]) ++ ·) := by
  cases r <;> simp [Except.map]
def PRead (w0 : World) (l : List Ch) (gw : Nat) (M : Value) (r : Except Int Ru) (e : Ending) (w' : World) : Prop := match r with
  | .ok u => e = .returned (.tuple #[]) ∧ ∃ v1 v2, Hp no w0 w' (.box gw 151 [.int .i64 u.member, v1, v2, M] :: .dat u.d [.int .i64 u.member, v1, v2] :: l)
  | .error k => e = .panicked (errP k) ∧ Hp no w0 w' l
section
variable {X : Nat → Prop} {w0 w : World} {l l1 l2 : List Ch}
theorem Hp.ru {m : Int} {as_ : List Ar} {ix : List Tm} {v1 v2 : Value} (H : Hp X w0 w l) (p1 : Pick l (.dat (.l 145 9 (as_.map Ar.d)) [v1]) l1) (p2 : Pick l1 (.dat (.l 26 5 (ix.map Tm.d)) [v2]) l2) (i : inI m) :
    Hp X w0 w (.dat (Ru.mk m as_ ix).d [.int .i64 m, v1, v2] :: l2) := by
  have H2 := ((H.pick p1).pick (.tail p2)).swap
  refine Hp.turn (ds := [_, _]) (ds' := [_]) H2 ?_
  intro L h
  simp only [Chs] at h ⊢
  obtain ⟨L1, _, rfl, h1, L2, _, rfl, h2, rfl⟩ := h
  exact ⟨L1 ++ L2, [], by simp, RO.ru.2 ⟨v1, L1, v2, L2, rfl, rfl, i, h1, h2⟩, rfl⟩
theorem RCs.elAt {S : Nat → Prop} {ds : List D} {es cs : List Value} {z i : Nat} {d : D} (h : RCs w S ds es) (hz : ∀ x ∈ ds, x.size = z) (hd : ds[i]? = some d) (hl : cs.length = z) (hc : ∀ j u, cs[j]? = some u → es[i * z + j]? = some u) : RC w S d cs := by
  obtain ⟨cs', g1, g2, g3⟩ := h.get hz hd
  have e : cs = cs' := by
    refine List.ext_getElem (by omega) fun j h1 h2 => ?_
    have e1 := hc j _ (List.getElem?_eq_getElem h1)
    have e2 := g3 j _ (List.getElem?_eq_getElem h2)
    rw [e1] at e2
    exact Option.some.inj e2
  rw [e]
  exact g1
theorem bodyPost_mono {P : Program} {fn : Func} {R R' : Ending → World → Prop} (h : ∀ e w, R e w → R' e w) (e : Exit) (a : Act) (w : World) (hb : bodyPost P fn R e a w) : bodyPost P fn R' e a w := by
  cases e <;> simp only [bodyPost] at hb ⊢ <;> first
    | exact ⟨hb.1, hb.2.elim fun v hv => ⟨v, hv.1, h _ _ hv.2⟩⟩
    | exact ⟨hb.1, h _ _ hb.2⟩
    | exact h _ _ hb
end
set_option maxRecDepth 100000 in
set_option maxHeartbeats 8000000 in
theorem read_calls {S1 S2 : Nat → Prop} {c : Ct} {w0 w : World} {l : List Ch} {cs : List Value} {ms : List Mb} {Am : Option Addr} {cm gw : Nat} (hT : Tab w0) (hms : RC w0 S1 (.l 73 1 (ms.map Mb.d)) [.slice Am ms.length cm]) (hc : RC w0 S2 c.d cs) (hb : sizeT c.ty ≤ 4000000)
    (H : Hp no w0 w (.box gw 151 [.int .i64 0, .slice none 0 0, .slice none 0 0, .slice Am ms.length cm] :: l)) :
    Calls Tryz.prog 116 #[.pointer (some ⟨gw, 0, none⟩), .agg cs.toArray] w (PRead w0 l gw (.slice Am ms.length cm) (readQ ms c)) := by
  obtain ⟨A0, ca, K0, ck, rfl, im, hty⟩ := RC.ct.1 hc
  have hM := hms.lenM
  have HT := Lib.hid hT
  have HMS := Lib.hid hms
  have HTY := Lib.hid hty
  have HB := Lib.hid hb
  have HIM := Lib.hid im
  obtain ⟨R, hR⟩ : ∃ R, R = readQ ms c := ⟨_, rfl⟩
  rw [← hR]
  have HR := Lib.hid hR
  clear hT hms hty hb hR hc im
  go_enter Tryz.func116, Tryz.ntmps116
  have hr_ := H.rules; simp only [Rules, and_true] at hr_; have hd_ := H.dif; simp only [Dif, Neq, and_true] at hd_; obtain ⟨ho_, hz_⟩ := H.old0
  go_wp2_with fail
  clear hr_ hd_ ho_ hz_
  refine callsH (by (repeat (first | with_reducible exact H | with_reducible exact H0_ | with_reducible apply Hp.alloc | with_reducible apply Hp.allocMap | with_reducible apply Hp.drew | with_reducible apply Hp.drewN | with_reducible apply Hp.set)); (try any_goals (repeat (first | with_reducible exact Upd.head | with_reducible apply Upd.tail)))) ?_
  clear H; intro w1 H; (try simp only [size_drew_, size_drewN_, World.size_alloc, World.size_setCell, List.set_cons_zero, List.set_cons_succ] at H)
  obtain ⟨N, hN⟩ : ∃ N, N = countT c.ty := ⟨_, rfl⟩
  have hct : N ≤ 4000000 := by rw [hN]; exact Nat.le_trans (countT_size c.ty) HB.out
  have hR2 := HR.out
  rw [readQ, ← hN] at hR2
  have HR2 := Lib.hid hR2
  have hcall := teleCount (t := c.ty) ⟨_, _, _, _, rfl, HTY.out.ext0 H.ext⟩ (by omega)
  rw [← hN] at hcall
  have HN := Lib.hid hN
  clear hR2 hN
  refine (hcall).mono ?_
  rintro e w_ ⟨rfl, hx⟩
  replace H := H.call hx
  clear hx
  clear hcall
  go_wp2_with fail
  refine callsH (by (repeat (first | with_reducible exact H | with_reducible exact H0_ | with_reducible apply Hp.alloc | with_reducible apply Hp.allocMap | with_reducible apply Hp.drew | with_reducible apply Hp.drewN | with_reducible apply Hp.set)); (try any_goals (repeat (first | with_reducible exact Upd.head | with_reducible apply Upd.tail)))) ?_
  clear H; intro w3 H; (try simp only [size_drew_, size_drewN_, World.size_alloc, World.size_setCell, List.set_cons_zero, List.set_cons_succ] at H)
  refine (xmust1 3 H (by (repeat (first | with_reducible exact Pick.head | with_reducible apply Pick.tail)))).mono ?_
  rintro e_ w4_ hm
  have hx := hm.2
  have HM := Lib.hid hm
  clear hm
  replace H := H.call hx
  clear hx
  by_cases h6 : (N : Int) ≤ 10
  · obtain rfl := HM.out.yes (by simpa using h6)
    have hR3 := HR2.out
    rw [if_pos h6] at hR3
    have HR3 := Lib.hid hR3
    have hN10 : N ≤ 10 := by omega
    clear hR3 h6 HM
    have hr_ := H.rules; simp only [Rules, and_true] at hr_; have hd_ := H.dif; simp only [Dif, Neq, and_true] at hd_; obtain ⟨ho_, hz_⟩ := H.old0
    go_wp2_with fail
    clear hr_ hd_ ho_ hz_
    refine callsH (by (repeat (first | with_reducible exact H | with_reducible exact H0_ | with_reducible apply Hp.alloc | with_reducible apply Hp.allocMap | with_reducible apply Hp.drew | with_reducible apply Hp.drewN | with_reducible apply Hp.set)); (try any_goals (repeat (first | with_reducible exact Upd.head | with_reducible apply Upd.tail)))) ?_
    clear H; intro w5 H; (try simp only [size_drew_, size_drewN_, World.size_alloc, World.size_setCell, List.set_cons_zero, List.set_cons_succ] at H)
    refine (teleOpen (t := c.ty) (HT.out.ext H.ext) ⟨_, _, _, _, rfl, HTY.out.ext0 H.ext⟩ (N : Int) (.inr (by omega)) (by unfold inI; omega)).mono ?_
    rintro e w6 ⟨A1, c1, B1, cb1, K1, kb1, ts, r, hlr, rfl, H2⟩
    have ho : openN (N : Int) c.ty = some (openAll c.ty) := by
      unfold openN
      rw [if_neg (by omega), Int.toNat_natCast, HN.out]
      exact openAll_eq c.ty
    rw [ho] at hlr ⊢
    simp only [Option.getD_some, Option.isSome_some] at hlr ⊢
    have e1 : ts = (openAll c.ty).1 := congrArg Prod.fst hlr
    have e2 : r = (openAll c.ty).2 := congrArg Prod.snd hlr
    have hsz := openAll_size c.ty
    rw [← e1, ← e2, ← HN.out] at hsz
    have hsp := spineT_size r
    have hR4 := HR3.out
    rw [← e1, ← e2] at hR4
    obtain ⟨hd, hhd⟩ : ∃ hd, hd = (spineT r).1 := ⟨_, rfl⟩
    obtain ⟨ix, hl⟩ : ∃ ix, ix = (spineT r).2 := ⟨_, rfl⟩
    rw [show spineT r = (hd, ix) by rw [hhd, hl]] at hR4 hsp
    have HR4 := Lib.hid hR4
    have hb := HB.out
    have HSL := Lib.hid (show sizesT ix ≤ 4000000 by dsimp only at hsp; omega)
    have HST := Lib.hid (show sizesT ts ≤ 4000000 by omega)
    have hts : ts.length = N := hsz.2
    have HHD := Lib.hid (show spineT r = (hd, ix) by rw [hhd, hl])
    have hll := length_sizes ix
    have HLL := Lib.hid (show ix.length ≤ 4000000000 by have := HSL.out; omega)
    clear ho hlr e1 e2 hsz hsp hR4 hhd hl hb hll HR3 HR2
    replace H := H.res2 H2
    clear H2
    have hr_ := H.rules; simp only [Rules, and_true] at hr_; have hd_ := H.dif; simp only [Dif, Neq, and_true] at hd_; obtain ⟨ho_, hz_⟩ := H.old0
    go_wp2_with ((with_reducible refine atStore (t := 26) ?_); go_must (refine wpList_storeH (t := 26) rfl rfl (by go_simp <;> first | rfl | exact ⟨rfl, rfl⟩) (by go_simp <;> first | rfl | exact ⟨rfl, rfl⟩) (by exact Hp.norm (by (repeat (first | with_reducible exact H | with_reducible exact H0_ | with_reducible apply Hp.alloc | with_reducible apply Hp.allocMap | with_reducible apply Hp.drew | with_reducible apply Hp.drewN | with_reducible apply Hp.set)); (try any_goals (repeat (first | with_reducible exact Upd.head | with_reducible apply Upd.tail)))) (by ((try simp only [size_drew_, size_drewN_, World.size_alloc, World.size_setCell, List.set_cons_zero, List.set_cons_succ, List.nil_append, List.cons_append]) <;> rfl))) (by (repeat (first | with_reducible exact Upd.head | with_reducible apply Upd.tail))) (by exact aggTerm) (by rfl) (by simp [Value.oneCell']) ?_; clear H; intro w7 H; (try simp only [size_drew_, size_drewN_, World.size_alloc, World.size_setCell, List.set_cons_zero, List.set_cons_succ] at H); (try clear hr_ hd_ ho_ hz_); have hr_ := H.rules; simp only [Rules, and_true] at hr_; have hd_ := H.dif; simp only [Dif, Neq, and_true] at hd_; obtain ⟨ho_, hz_⟩ := H.old0))
    (try clear hr_ hd_ ho_ hz_)
    refine codeH (by (repeat (first | with_reducible exact H | with_reducible exact H0_ | with_reducible apply Hp.alloc | with_reducible apply Hp.allocMap | with_reducible apply Hp.drew | with_reducible apply Hp.drewN | with_reducible apply Hp.set)); (try any_goals (repeat (first | with_reducible exact Upd.head | with_reducible apply Upd.tail)))) ?_
    clear H; intro w8 H; (try simp only [size_drew_, size_drewN_, World.size_alloc, World.size_setCell, List.set_cons_zero, List.set_cons_succ] at H)
    obtain ⟨es, hes, H2⟩ := H.unrow (e := 26) (z := 5) (ds := ts.map Tm.d) (v := .slice A1 ts.length c1) (by (repeat (first | with_reducible exact Pick.head | with_reducible apply Pick.tail)))
    rw [List.length_map] at H2
    clear H hes
    have H := H2.nil 145 9
    clear H2
    rw [show ([] : List D) = ([] : List Ar).map Ar.d from rfl] at H
    go_loopw [34] (fun i wr => ∃ (j : Nat) (got : List Ar) (v1 : Value), j ≤ ts.length ∧ i = .int .i64 j ∧ Hid (argsQ ms ts = (argsQ ms (ts.drop j)).map (got ++ ·)) ∧ got.length = j ∧ Hp no w0 wr (.box gw 151 [.int .i64 0, v1, .slice none 0 0, .slice Am ms.length cm] :: .dat (.l 145 9 (got.map Ar.d)) [v1] :: .raw 26 5 ts.length (.slice A1 ts.length c1) es :: .dat (.s (ts.map Tm.d)) es :: .dat r.d [.int .i64 r.k, .int .i64 r.n, .int .i64 r.a, .slice B1 r.ls.length cb1, .slice K1 r.ks.length kb1] :: .box w6.heap.size 26 [.int .i64 r.k, .int .i64 r.n, .int .i64 r.a, .slice B1 r.ls.length cb1, .slice K1 r.ks.length kb1] :: .box w.heap.size 148 [.int .i64 c.member, .int .i64 c.ty.k, .int .i64 c.ty.n, .int .i64 c.ty.a, .slice A0 c.ty.ls.length ca, .slice K0 c.ty.ks.length ck] :: l)) (fun i _ => ts.length - (intOf i).toNat)
    case atStart => exact ⟨0, [], .slice none 0 0, Nat.zero_le _, rfl, Lib.hid (map_none _), rfl, (H.arr (by (repeat (first | with_reducible exact Arr.nil | refine Arr.cons (by (repeat (first | with_reducible exact Pick.head | with_reducible apply Pick.tail))) ?_)) <;> exact Arr.of_subl (by (repeat (first | with_reducible exact Subl.refl _ | with_reducible apply Subl.drop)))))⟩
    case round =>
      clear H
      obtain ⟨j, got, v1, hj, rfl, HS, hgl, H⟩ := hrel
      by_cases hlt : j < ts.length
      · obtain ⟨g5, c5, he5, hc5, hcell, hg5⟩ := H.rawAt (e := 26) (z := 5) (n := ts.length) (v := .slice A1 ts.length c1) (es := es) (by (repeat (first | with_reducible exact Pick.head | with_reducible apply Pick.tail))) (by omega)
        simp only [Value.slice.injEq, true_and] at he5
        obtain ⟨rfl, rfl⟩ := he5
        have hrs := H.rd (d := .s (ts.map Tm.d)) (cs := es) (by (repeat (first | with_reducible exact Pick.head | with_reducible apply Pick.tail)))
        unfold RC at hrs
        obtain ⟨A3f, A4f, c3f, c4f, hel⟩ := RCs.tms hrs
        obtain ⟨q0, q1, q2, q3, q4⟩ := hel j hlt
        have p0 := hcell _ _ q0
        have p1 := hcell _ _ q1
        have p2 := hcell _ _ q2
        have p3 := hcell _ _ q3
        have p4 := hcell _ _ q4
        have HQS := Lib.hid (hel j hlt)
        have HG := Lib.hid (show (ts.map Tm.d)[j]? = some ts[j].d by simp [hlt])
        have HAD := Lib.hid (argsQ_drop (ms := ms) hlt)
        have HSZ := Lib.hid (Nat.le_trans (sizesT_mem (List.getElem_mem hlt)) HST.out)
        clear q0 q1 q2 q3 q4 hel hcell hrs
        generalize ts[j] = t at p0 p1 p2 p3 p4 HQS HG HAD HSZ
        generalize A3f j = D3 at p3 HQS
        generalize A4f j = D4 at p4 HQS
        generalize c3f j = d3 at p3 HQS
        generalize c4f j = d4 at p4 HQS
        have hr_ := H.rules; simp only [Rules, and_true] at hr_; have hd_ := H.dif; simp only [Dif, Neq, and_true] at hd_; obtain ⟨ho_, hz_⟩ := H.old0
        go_wp2_with ((with_reducible refine atStore (t := 26) ?_); go_must (refine wpList_storeH (t := 26) rfl rfl (by go_simp <;> first | rfl | exact ⟨rfl, rfl⟩) (by go_simp <;> first | rfl | exact ⟨rfl, rfl⟩) (by exact Hp.norm (by (repeat (first | with_reducible exact H | with_reducible exact H0_ | with_reducible apply Hp.alloc | with_reducible apply Hp.allocMap | with_reducible apply Hp.drew | with_reducible apply Hp.drewN | with_reducible apply Hp.set)); (try any_goals (repeat (first | with_reducible exact Upd.head | with_reducible apply Upd.tail)))) (by ((try simp only [size_drew_, size_drewN_, World.size_alloc, World.size_setCell, List.set_cons_zero, List.set_cons_succ, List.nil_append, List.cons_append]) <;> rfl))) (by (repeat (first | with_reducible exact Upd.head | with_reducible apply Upd.tail))) (by exact aggTerm) (by rfl) (by simp [Value.oneCell']) ?_; clear H; intro w9 H; (try simp only [size_drew_, size_drewN_, World.size_alloc, World.size_setCell, List.set_cons_zero, List.set_cons_succ] at H); (try clear hr_ hd_ ho_ hz_); have hr_ := H.rules; simp only [Rules, and_true] at hr_; have hd_ := H.dif; simp only [Dif, Neq, and_true] at hd_; obtain ⟨ho_, hz_⟩ := H.old0))
        (try clear hr_ hd_ ho_ hz_)
        refine regionH (by (repeat (first | with_reducible exact H | with_reducible exact H0_ | with_reducible apply Hp.alloc | with_reducible apply Hp.allocMap | with_reducible apply Hp.drew | with_reducible apply Hp.drewN | with_reducible apply Hp.set)); (try any_goals (repeat (first | with_reducible exact Upd.head | with_reducible apply Upd.tail)))) ?_
        clear H; intro w10 H; (try simp only [size_drew_, size_drewN_, World.size_alloc, World.size_setCell, List.set_cons_zero, List.set_cons_succ] at H)
        refine wp_region_H 15 [false, false, false, false, false, false, false, false, false, false, false, false, false, false, false] [14] H (.cons (i := 0) rfl (.cons (i := 1) rfl .nil)) (by kernel_rfl) rfl rfl (fun H_ hR_ => ?_)
        (try clear H0_); have H0_ := H; clear H; have H := H_; clear H_
        refine wpL_reads (is := [(0, ?v1_0), (1, ?v1_1), (2, ?v1_2), (3, ?v1_3), (4, ?v1_4), (5, ?v1_5), (6, ?v1_6), (7, ?v1_7)]) (by kernel_rfl) (Nat.le_of_ble_eq_true rfl) (by intro _ _ d_ _ _ h_; cases d_ <;> exact h_) (by kernel_rfl) hR_ (fun w_ hw_ => ?h1_) ?_
        case h1_ =>
          have ho_ := hw_.old0.1; have hz_ := hw_.old0.2; have hr_ := hw_.rules; clear hw_; simp only [Rules, and_true] at hr_; go_split_ands
          (repeat (first | with_reducible exact RdOps.nil | (refine RdOps.run rfl (by rfl) ?_ ?_; (focus (first | (go_simp; done) | (go_simp; with_reducible rfl))); simp only [List.getElem_toArray, List.getElem_cons_zero, List.getElem_cons_succ, Act.put, List.setIfInBounds_toArray, List.set_cons_zero, List.set_cons_succ]) | (refine RdOps.skip rfl (by rfl) ?_ ?_; (focus (with_reducible rfl)); simp only [List.getElem_toArray, List.getElem_cons_zero, List.getElem_cons_succ, Act.put, List.setIfInBounds_toArray, List.set_cons_zero, List.set_cons_succ])))
        simp only [rdMark, rdAct, List.map_cons, List.map_nil, List.length_cons, List.length_nil, Nat.reduceAdd, Nat.reduceSub, Nat.zero_add, List.getElem?_toArray, List.getElem?_cons_zero, List.getElem?_cons_succ, Option.bind_some, Act.put, List.setIfInBounds_toArray, List.set_cons_zero, List.set_cons_succ]
        refine wpL_do (i := 8) rfl (by kernel_rfl) (by rfl) (fun K_ hK_ => ?_)
        go_simp
        have hrs := H.rd (d := .s (ts.map Tm.d)) (cs := es) (by (repeat (first | with_reducible exact Pick.head | with_reducible apply Pick.tail)))
        unfold RC at hrs
        have helt := RCs.elAt (cs := [.int .i64 t.k, .int .i64 t.n, .int .i64 t.a, .slice D3 t.ls.length d3, .slice D4 t.ks.length d4]) hrs (by simp [Tm.size_d]) HG.out rfl (fun i u hu => by
          obtain ⟨q0, q1, q2, q3, q4⟩ := HQS.out
          match i, hu with
          | 0, hu => cases hu; exact q0
          | 1, hu => cases hu; exact q1
          | 2, hu => cases hu; exact q2
          | 3, hu => cases hu; exact q3
          | 4, hu => cases hu; exact q4)
        obtain ⟨ra, hra⟩ : ∃ ra, ra = argQ ms t := ⟨_, rfl⟩
        have hcall := arg_calls (t := t) (gw := gw) (HT.out.ext H.ext) ⟨_, _, _, _, rfl, helt⟩ (HMS.out.ext0 H.ext) ((H.blk (g := gw) (cs := [.int .i64 0, v1, .slice none 0 0, .slice Am ms.length cm]) (by (repeat (first | with_reducible exact Pick.head | with_reducible apply Pick.tail)))).cells 3) HSZ.out
        rw [← hra] at hcall
        have HRA := Lib.hid hra
        clear hra hrs helt
        refine hcall.mono ?_
        clear hcall
        cases ra with
        | error k =>
          rintro e_ w_ ⟨rfl, hx⟩
          replace H := H.call hx
          have hz : R = .error k := by
            have h4 := HR4.out
            rw [HS.out, HAD.out, ← HRA.out] at h4
            exact h4
          exact ⟨rfl, by rw [hz]; exact ⟨rfl, H.only (by (repeat (first | with_reducible exact Subl.refl _ | with_reducible apply Subl.drop)))⟩⟩
        | ok a =>
          rintro e_ w_ ⟨cs, rfl, H2⟩
          obtain ⟨E1, f1, E2, f2, E3, f3, E4, f4, rfl, -⟩ := RC.ar.1 (H2.rd .head)
          replace H := H.res1 H2
          clear H2
          refine hK_ _ _ (fun _ => H.sub (by simp)) (fun hR_ => ?_)
          replace hR_ := hR_ (by decide)
          refine wpL_do (i := 9) rfl (by kernel_rfl) (by rfl) (fun K_ hK_ => ?_)
          go_simp
          refine kontH (by (repeat (first | with_reducible exact H | with_reducible exact H0_ | with_reducible apply Hp.alloc | with_reducible apply Hp.allocMap | with_reducible apply Hp.drew | with_reducible apply Hp.drewN | with_reducible apply Hp.set)); (try any_goals (repeat (first | with_reducible exact Upd.head | with_reducible apply Upd.tail)))) ?_
          clear H; intro wb_ H; (try simp only [size_drew_, size_drewN_, World.size_alloc, World.size_setCell, List.set_cons_zero, List.set_cons_succ] at H)
          refine hK_ _ _ (fun _ => H.sub (by simp)) (fun hR_ => ?_)
          replace hR_ := hR_ (by decide)
          refine wpL_do (i := 10) rfl (by kernel_rfl) (by rfl) (fun K_ hK_ => ?_)
          refine wp_pushH (.tmp 43) (.tmp 47) 141 rfl stArs (by go_simp <;> first | rfl | exact ⟨rfl, rfl⟩) (by go_simp <;> first | rfl | exact ⟨rfl, rfl⟩) H (by (repeat (first | with_reducible exact Pick.head | with_reducible apply Pick.tail))) (by (repeat (first | with_reducible exact Pick.head | with_reducible apply Pick.tail))) (by (repeat (first | with_reducible exact Pick.head | with_reducible apply Pick.tail))) (Ar.size_d _) ?_ ?_
          focus (simp [M]; omega)
          clear H; intro v2 w11 H
          obtain ⟨A5, c6, rfl, _, _, _⟩ := H.slice (e := 145) (z := 9) (v := v2) (by (repeat (first | with_reducible exact Pick.head | with_reducible apply Pick.tail)))
          rw [show (got.map Ar.d ++ [a.d]).length = j + 1 by simp [hgl]] at H ⊢
          refine hK_ _ _ (fun _ => H.sub (by simp)) (fun hR_ => ?_)
          replace hR_ := hR_ (by decide)
          simp only [List.getElem_toArray, List.getElem_cons_zero, List.getElem_cons_succ, Act.put, List.setIfInBounds_toArray, List.set_cons_zero, List.set_cons_succ]
          refine wpL_reads (is := [(11, ?v2_0), (12, ?v2_1), (13, ?v2_2)]) (by kernel_rfl) (Nat.le_of_ble_eq_true rfl) (by intro _ _ d_ _ _ h_; cases d_ <;> exact h_) (by kernel_rfl) hR_ (fun w_ hw_ => ?h2_) ?_
          case h2_ =>
            have ho_ := hw_.old0.1; have hz_ := hw_.old0.2; have hr_ := hw_.rules; clear hw_; simp only [Rules, and_true] at hr_; go_split_ands
            (repeat (first | with_reducible exact RdOps.nil | (refine RdOps.run rfl (by rfl) ?_ ?_; (focus (first | (go_simp; done) | (go_simp; with_reducible rfl))); simp only [List.getElem_toArray, List.getElem_cons_zero, List.getElem_cons_succ, Act.put, List.setIfInBounds_toArray, List.set_cons_zero, List.set_cons_succ]) | (refine RdOps.skip rfl (by rfl) ?_ ?_; (focus (with_reducible rfl)); simp only [List.getElem_toArray, List.getElem_cons_zero, List.getElem_cons_succ, Act.put, List.setIfInBounds_toArray, List.set_cons_zero, List.set_cons_succ])))
          simp only [rdMark, rdAct, List.map_cons, List.map_nil, List.length_cons, List.length_nil, Nat.reduceAdd, Nat.reduceSub, Nat.zero_add, List.getElem?_toArray, List.getElem?_cons_zero, List.getElem?_cons_succ, Option.bind_some, Act.put, List.setIfInBounds_toArray, List.set_cons_zero, List.set_cons_succ]
          refine wpL_do (i := 14) rfl (by kernel_rfl) (by rfl) (fun K_ hK_ => ?_)
          have hrs_ := H.rules
          simp only [Rules, and_true] at hrs_
          go_simp
          clear hrs_
          refine kontH (by (repeat (first | with_reducible exact H | with_reducible exact H0_ | with_reducible apply Hp.alloc | with_reducible apply Hp.allocMap | with_reducible apply Hp.drew | with_reducible apply Hp.drewN | with_reducible apply Hp.set)); (try any_goals (repeat (first | with_reducible exact Upd.head | with_reducible apply Upd.tail)))) ?_
          clear H; intro w12 H; (try simp only [size_drew_, size_drewN_, World.size_alloc, World.size_setCell, List.set_cons_zero, List.set_cons_succ] at H)
          refine hK_ _ _ (fun h => absurd (by decide) h) (fun _ => ?_)
          refine wpL_done (by kernel_rfl) ?_ _
          have HS2 : Hid (argsQ ms ts = (argsQ ms (ts.drop (j + 1))).map ((got ++ [a]) ++ ·)) := by
            unfold Hid
            rw [HS.out, HAD.out, ← HRA.out]
            exact map_step
          rw [show got.map Ar.d ++ [a.d] = (got ++ [a]).map Ar.d by simp] at H
          go_wp2_with fail
          go_roundw
          case rel => exact ⟨j + 1, got ++ [a], _, by omega, by first | go_num | rfl | simp, HS2, by simp [hgl], (H.arr (by (repeat (first | with_reducible exact Arr.nil | refine Arr.cons (by (repeat (first | with_reducible exact Pick.head | with_reducible apply Pick.tail))) ?_)) <;> exact Arr.of_subl (by (repeat (first | with_reducible exact Subl.refl _ | with_reducible apply Subl.drop)))))⟩
          case measure => simp [intOf]; omega
      · have hR5 := HR4.out
        rw [HS.out, List.drop_eq_nil_of_le (by omega), argsQ] at hR5
        simp only [Except.map, List.append_nil] at hR5
        have HR5 := Lib.hid hR5
        have HGT := Lib.hid (show argsQ ms ts = .ok got by rw [HS.out, List.drop_eq_nil_of_le (by omega), argsQ]; simp [Except.map])
        clear hR5
        have hr_ := H.rules; simp only [Rules, and_true] at hr_; have hd_ := H.dif; simp only [Dif, Neq, and_true] at hd_; obtain ⟨ho_, hz_⟩ := H.old0
        go_wp2_with fail
        (try clear hr_ hd_ ho_ hz_)
        refine callsH (by (repeat (first | with_reducible exact H | with_reducible exact H0_ | with_reducible apply Hp.alloc | with_reducible apply Hp.allocMap | with_reducible apply Hp.drew | with_reducible apply Hp.drewN | with_reducible apply Hp.set)); (try any_goals (repeat (first | with_reducible exact Upd.head | with_reducible apply Upd.tail)))) ?_
        clear H; intro w9 H; (try simp only [size_drew_, size_drewN_, World.size_alloc, World.size_setCell, List.set_cons_zero, List.set_cons_succ] at H)
        refine (teleSpine (t := r) (HT.out.ext H.ext) ⟨_, _, _, _, rfl, H.rd (by (repeat (first | with_reducible exact Pick.head | with_reducible apply Pick.tail)))⟩ (by rw [HHD.out]; exact HLL.out)).mono ?_
        rw [HHD.out]
        rintro e w10 ⟨B2, cb2, K2, kb2, A3, c3, rfl, H2⟩
        replace H := H.res2 H2
        clear H2
        dsimp only at H ⊢
        obtain ⟨A4, c4, rfl, _, _, _⟩ := H.slice (e := 145) (z := 9) (v := v1) (by (repeat (first | with_reducible exact Pick.head | with_reducible apply Pick.tail)))
        rw [List.length_map] at H
        have hr_ := H.rules; simp only [Rules, and_true] at hr_; have hd_ := H.dif; simp only [Dif, Neq, and_true] at hd_; obtain ⟨ho_, hz_⟩ := H.old0
        go_wp2_with ((with_reducible refine atStore (t := 26) ?_); go_must (refine wpList_storeH (t := 26) rfl rfl (by go_simp <;> first | rfl | exact ⟨rfl, rfl⟩) (by go_simp <;> first | rfl | exact ⟨rfl, rfl⟩) (by exact Hp.norm (by (repeat (first | with_reducible exact H | with_reducible exact H0_ | with_reducible apply Hp.alloc | with_reducible apply Hp.allocMap | with_reducible apply Hp.drew | with_reducible apply Hp.drewN | with_reducible apply Hp.set)); (try any_goals (repeat (first | with_reducible exact Upd.head | with_reducible apply Upd.tail)))) (by ((try simp only [size_drew_, size_drewN_, World.size_alloc, World.size_setCell, List.set_cons_zero, List.set_cons_succ, List.nil_append, List.cons_append]) <;> rfl))) (by (repeat (first | with_reducible exact Upd.head | with_reducible apply Upd.tail))) (by exact aggTerm) (by rfl) (by simp [Value.oneCell']) ?_; clear H; intro w11 H; (try simp only [size_drew_, size_drewN_, World.size_alloc, World.size_setCell, List.set_cons_zero, List.set_cons_succ] at H); (try clear hr_ hd_ ho_ hz_); have hr_ := H.rules; simp only [Rules, and_true] at hr_; have hd_ := H.dif; simp only [Dif, Neq, and_true] at hd_; obtain ⟨ho_, hz_⟩ := H.old0))
        (try clear hr_ hd_ ho_ hz_)
        refine regionH (by (repeat (first | with_reducible exact H | with_reducible exact H0_ | with_reducible apply Hp.alloc | with_reducible apply Hp.allocMap | with_reducible apply Hp.drew | with_reducible apply Hp.drewN | with_reducible apply Hp.set)); (try any_goals (repeat (first | with_reducible exact Upd.head | with_reducible apply Upd.tail)))) ?_
        clear H; intro w12 H; (try simp only [size_drew_, size_drewN_, World.size_alloc, World.size_setCell, List.set_cons_zero, List.set_cons_succ] at H)
        refine wp_region_H 23 [false, false, false, false, false, false, false, false, false, false, false, false, false, false, false, false, false, false, false, false, false, false, false] [] H (.cons (i := 0) rfl (.cons (i := 3) rfl (.cons (i := 9) rfl .nil))) (by kernel_rfl) rfl rfl (fun H_ hR_ => ?_)
        (try clear H0_); have H0_ := H; clear H; have H := H_; clear H_
        refine wpL_reads (is := [(0, ?v3_0), (1, ?v3_1), (2, ?v3_2), (3, ?v3_3), (4, ?v3_4), (5, ?v3_5), (6, ?v3_6), (7, ?v3_7), (8, ?v3_8), (9, ?v3_9), (10, ?v3_10), (11, ?v3_11), (12, ?v3_12), (13, ?v3_13), (14, ?v3_14), (15, ?v3_15), (16, ?v3_16), (17, ?v3_17), (18, ?v3_18), (19, ?v3_19)]) (by kernel_rfl) (Nat.le_of_ble_eq_true rfl) (by intro _ _ d_ _ _ h_; cases d_ <;> exact h_) (by kernel_rfl) hR_ (fun w_ hw_ => ?h3_) ?_
        case h3_ =>
          have ho_ := hw_.old0.1; have hz_ := hw_.old0.2; have hr_ := hw_.rules; clear hw_; simp only [Rules, and_true] at hr_; go_split_ands
          (repeat (first | with_reducible exact RdOps.nil | (refine RdOps.run rfl (by rfl) ?_ ?_; (focus (first | (go_simp; done) | (go_simp; with_reducible rfl))); simp only [List.getElem_toArray, List.getElem_cons_zero, List.getElem_cons_succ, Act.put, List.setIfInBounds_toArray, List.set_cons_zero, List.set_cons_succ]) | (refine RdOps.skip rfl (by rfl) ?_ ?_; (focus (with_reducible rfl)); simp only [List.getElem_toArray, List.getElem_cons_zero, List.getElem_cons_succ, Act.put, List.setIfInBounds_toArray, List.set_cons_zero, List.set_cons_succ])))
        simp only [rdMark, rdAct, List.map_cons, List.map_nil, List.length_cons, List.length_nil, Nat.reduceAdd, Nat.reduceSub, Nat.zero_add, List.getElem?_toArray, List.getElem?_cons_zero, List.getElem?_cons_succ, Option.bind_some, Act.put, List.setIfInBounds_toArray, List.set_cons_zero, List.set_cons_succ]
        refine wpL_do (i := 20) rfl (by kernel_rfl) (by rfl) (fun K_ hK_ => ?_)
        go_simp
        obtain ⟨q, hq⟩ : ∃ q, q = ix.any selfT := ⟨_, rfl⟩
        have hcall := sfree_calls (xs := ix) (H.rd (by (repeat (first | with_reducible exact Pick.head | with_reducible apply Pick.tail)))) rfl (Nat.le_trans HSL.out (by omega))
        rw [← hq] at hcall
        have HQ := Lib.hid hq
        clear hq
        refine (hcall).mono ?_
        rintro e w_ ⟨rfl, hx⟩
        replace H := H.call hx
        clear hx
        clear hcall
        refine hK_ _ _ (fun _ => H.sub (by simp)) (fun hR_ => ?_)
        replace hR_ := hR_ (by decide)
        refine wpL_do (i := 21) rfl (by kernel_rfl) (by rfl) (fun K_ hK_ => ?_)
        go_simp
        refine kontH (by (repeat (first | with_reducible exact H | with_reducible exact H0_ | with_reducible apply Hp.alloc | with_reducible apply Hp.allocMap | with_reducible apply Hp.drew | with_reducible apply Hp.drewN | with_reducible apply Hp.set)); (try any_goals (repeat (first | with_reducible exact Upd.head | with_reducible apply Upd.tail)))) ?_
        clear H; intro wb_ H; (try simp only [size_drew_, size_drewN_, World.size_alloc, World.size_setCell, List.set_cons_zero, List.set_cons_succ] at H)
        refine hK_ _ _ (fun _ => H.sub (by simp)) (fun hR_ => ?_)
        replace hR_ := hR_ (by decide)
        refine wpL_do (i := 22) rfl (by kernel_rfl) (by rfl) (fun K_ hK_ => ?_)
        go_simp
        refine (xmust5 17 H (by (repeat (first | with_reducible exact Pick.head | with_reducible apply Pick.tail)))).mono ?_
        rintro e_ w4_ hm
        have hx := hm.2
        have HM := Lib.hid hm
        clear hm
        replace H := H.call hx
        clear hx
        have h4 := HR5.out
        unfold endQ at h4
        rw [← HQ.out] at h4
        cases hz : (hd.k == 11 && (hd.a == c.member && (decide (0 ≤ hd.a) && (decide (hd.a < ms.length) && !q))))
        · obtain rfl := HM.out.no hz
          rw [hz] at h4
          simp only [Bool.false_eq_true, if_false] at h4
          exact ⟨rfl, by rw [h4]; exact ⟨rfl, H.only (by (repeat (first | with_reducible exact Subl.refl _ | with_reducible apply Subl.drop)))⟩⟩
        · obtain rfl := HM.out.yes hz
          rw [hz, if_pos rfl] at h4
          simp only [Bool.and_eq_true, decide_eq_true_eq, beq_iff_eq] at hz
          obtain ⟨m, hm⟩ : ∃ m : Nat, hd.a = m := ⟨hd.a.toNat, by omega⟩
          have hml : m < ms.length := by omega
          rw [hm, Int.toNat_natCast, show ms.getD m ⟨[]⟩ = ms[m] by simp [List.getD, hml]] at h4
          have H4 := Lib.hid h4
          have hm4 : (m : Int) ≤ 4294967296 := by omega
          clear h4 hz HM
          refine hK_ _ _ (fun _ => H.sub (by simp)) (fun _ => ?_)
          refine wpL_done (by kernel_rfl) ?_ _
          have hr_ := H.rules; simp only [Rules, and_true] at hr_; have hd_ := H.dif; simp only [Dif, Neq, and_true] at hd_; obtain ⟨ho_, hz_⟩ := H.old0
          go_wp2_with fail
          (try clear hr_ hd_ ho_ hz_)
          rw [hm] at H ⊢
          refine callsH (by (repeat (first | with_reducible exact H | with_reducible exact H0_ | with_reducible apply Hp.alloc | with_reducible apply Hp.allocMap | with_reducible apply Hp.drew | with_reducible apply Hp.drewN | with_reducible apply Hp.set)); (try any_goals (repeat (first | with_reducible exact Upd.head | with_reducible apply Upd.tail)))) ?_
          clear H; intro w13 H; (try simp only [size_drew_, size_drewN_, World.size_alloc, World.size_setCell, List.set_cons_zero, List.set_cons_succ] at H)
          obtain ⟨q3, hq3⟩ : ∃ q3, q3 = decide (ix.length = ms[m].index.length) := ⟨_, rfl⟩
          have hcall := fits_calls (gw := gw) (n := ix.length) (c := c3) (A := A3) (HMS.out.ext0 H.ext) ((H.blk (g := gw) (cs := [.int .i64 0, .slice A4 got.length c4, .slice none 0 0, .slice Am ms.length cm]) (by (repeat (first | with_reducible exact Pick.head | with_reducible apply Pick.tail)))).cells 3) hml
          rw [← hq3] at hcall
          have HQ3 := Lib.hid hq3
          clear hq3
          refine (hcall).mono ?_
          rintro e w_ ⟨rfl, hx⟩
          replace H := H.call hx
          clear hx
          clear hcall
          go_wp2_with fail
          refine callsH (by (repeat (first | with_reducible exact H | with_reducible exact H0_ | with_reducible apply Hp.alloc | with_reducible apply Hp.allocMap | with_reducible apply Hp.drew | with_reducible apply Hp.drewN | with_reducible apply Hp.set)); (try any_goals (repeat (first | with_reducible exact Upd.head | with_reducible apply Upd.tail)))) ?_
          clear H; intro w14 H; (try simp only [size_drew_, size_drewN_, World.size_alloc, World.size_setCell, List.set_cons_zero, List.set_cons_succ] at H)
          refine (xmust1 17 H (by (repeat (first | with_reducible exact Pick.head | with_reducible apply Pick.tail)))).mono ?_
          rintro e_ w4_ hm
          have hx := hm.2
          have HM := Lib.hid hm
          clear hm
          replace H := H.call hx
          clear hx
          have h5 := H4.out
          rw [← HQ3.out] at h5
          cases q3
          · obtain rfl := HM.out.no rfl
            exact ⟨rfl, by rw [h5]; exact ⟨rfl, H.only (by (repeat (first | with_reducible exact Subl.refl _ | with_reducible apply Subl.drop)))⟩⟩
          · obtain rfl := HM.out.yes rfl
            rw [if_pos rfl] at h5
            have H5 := Lib.hid h5
            clear h5 HM
            have hr_ := H.rules; simp only [Rules, and_true] at hr_; have hd_ := H.dif; simp only [Dif, Neq, and_true] at hd_; obtain ⟨ho_, hz_⟩ := H.old0
            dsimp only
            repeat ((fail_if_success (with_reducible (show Code.wp _ (Code.seq (Code.region 14 _ _) _) _ _ _))); (first | ((with_reducible refine atStore (t := 145) ?_); go_must (refine wpList_storeH (t := 145) rfl rfl (by go_simp <;> first | rfl | exact ⟨rfl, rfl⟩) (by go_simp <;> first | rfl | exact ⟨rfl, rfl⟩) (by exact Hp.norm (by (repeat (first | with_reducible exact H | with_reducible exact H0_ | with_reducible apply Hp.alloc | with_reducible apply Hp.allocMap | with_reducible apply Hp.drew | with_reducible apply Hp.drewN | with_reducible apply Hp.set)); (try any_goals (repeat (first | with_reducible exact Upd.head | with_reducible apply Upd.tail)))) (by ((try simp only [size_drew_, size_drewN_, World.size_alloc, World.size_setCell, List.set_cons_zero, List.set_cons_succ, List.nil_append, List.cons_append]) <;> rfl))) (by (repeat (first | with_reducible exact Upd.head | with_reducible apply Upd.tail))) (by exact aggArg) (by rfl) (by simp [Value.oneCell']) ?_; clear H; intro w15 H; (try simp only [size_drew_, size_drewN_, World.size_alloc, World.size_setCell, List.set_cons_zero, List.set_cons_succ] at H); (try clear hr_ hd_ ho_ hz_); have hr_ := H.rules; simp only [Rules, and_true] at hr_; have hd_ := H.dif; simp only [Dif, Neq, and_true] at hd_; obtain ⟨ho_, hz_⟩ := H.old0)) | go_step))
            (try clear hr_ hd_ ho_ hz_)
            refine codeH (by (repeat (first | with_reducible exact H | with_reducible exact H0_ | with_reducible apply Hp.alloc | with_reducible apply Hp.allocMap | with_reducible apply Hp.drew | with_reducible apply Hp.drewN | with_reducible apply Hp.set)); (try any_goals (repeat (first | with_reducible exact Upd.head | with_reducible apply Upd.tail)))) ?_
            clear H; intro w16 H; (try simp only [size_drew_, size_drewN_, World.size_alloc, World.size_setCell, List.set_cons_zero, List.set_cons_succ] at H)
            have hargs := H.rd (d := .l 145 9 (got.map Ar.d)) (cs := [.slice A4 got.length c4]) (by (repeat (first | with_reducible exact Pick.head | with_reducible apply Pick.tail)))
            have hix := H.rd (d := .l 26 5 (ix.map Tm.d)) (cs := [.slice A3 ix.length c3]) (by (repeat (first | with_reducible exact Pick.head | with_reducible apply Pick.tail)))
            have b0 := H.blk (g := gw) (cs := [.int .i64 c.member, .slice A4 got.length c4, .slice A3 ix.length c3, .slice Am ms.length cm]) (by (repeat (first | with_reducible exact Pick.head | with_reducible apply Pick.tail)))
            have b1 := H.blk (g := w4_.heap.size) (cs := [.bool true, .int .i64 0, .int .i64 0, .int .i64 0, .slice none 0 0, .slice none 0 0, .slice none 0 0, .int .i64 0, .slice A3 ix.length c3]) (by (repeat (first | with_reducible exact Pick.head | with_reducible apply Pick.tail)))
            have htl := argsQ_tele HGT.out
            refine Code.wp_mono (bodyPost_mono fun e_ w_ h_ => ?_) (read14 (W := w16) (xs := got) (e := ⟨true, zT, [], 0, ix⟩) (gw := gw) (ge := w4_.heap.size) (HT.out.ext H.ext) hargs (b0.cells 1)
              (RC.ar.2 ⟨none, 0, none, 0, none, 0, A3, c3, rfl, RC.tm.2 ⟨none, 0, none, 0, rfl, inIz, inIz, inIz, RC.nil, RC.nil⟩, RC.nil, inIz, hix⟩) b1 (by rw [htl.2, hts]; omega)
              (fun a ha => by
                rcases List.mem_append.1 ha with ha | ha
                · have := htl.1 a ha; omega
                · obtain rfl := List.mem_singleton.1 ha; simp) rfl)
            obtain ⟨he, hx⟩ := h_
            replace H := H.call hx
            have h6 := H5.out
            cases hq : linQ ⟨true, zT, [], 0, ix⟩ got
            · rw [hq] at he h6
              simp only [Bool.false_eq_true, if_false] at he h6
              rw [h6]
              exact ⟨he, H.only (by (repeat (first | with_reducible exact Subl.refl _ | with_reducible apply Subl.drop)))⟩
            · rw [hq] at he h6
              simp only [if_true] at he h6
              rw [h6]
              have H7 := H.ru (m := c.member) (as_ := got) (ix := ix) (v1 := .slice A4 got.length c4) (v2 := .slice A3 ix.length c3) (by (repeat (first | with_reducible exact Pick.head | with_reducible apply Pick.tail))) (by (repeat (first | with_reducible exact Pick.head | with_reducible apply Pick.tail))) HIM.out
              exact ⟨he, _, _, (H7.arr (by (repeat (first | with_reducible exact Arr.nil | refine Arr.cons (by (repeat (first | with_reducible exact Pick.head | with_reducible apply Pick.tail))) ?_)) <;> exact Arr.of_subl (by (repeat (first | with_reducible exact Subl.refl _ | with_reducible apply Subl.drop)))))⟩
  · obtain rfl := HM.out.no (by simpa using h6)
    have HR3 : Hid (R = .error 3) := by
      unfold Hid
      rw [HR2.out, if_neg h6]
    exact ⟨rfl, by rw [HR3.out]; exact ⟨rfl, H.only (by (repeat (first | with_reducible exact Subl.refl _ | with_reducible apply Subl.drop)))⟩⟩
end Go.Proofs.YtmedomglemllnaaGreatDoor
