/- tele: Count, Lifts; term: Size: contracts. What is appended of old memory. No statement of the seat is proved here. -/
import Derived.Test.YtmedomglemllnaaDoorMgTele2
import Derived.Test.YtmedomglemllnaaDoorMgWalkG
namespace Go.Proofs.YtmedomglemllnaaDoor
set_option linter.unusedSimpArgs false
set_option linter.unusedVariables false
open Go.RowKit

section
variable {X : Nat → Prop} {w0 w w1 : World} {l l' l1 l2 l3 : List Ch}
variable {P : Program} {ops : Array Oper} {rest : List Oper} {o : Oper} {a : Act} {Q : Exit → Act → World → Prop}
/-- 'out = append(out, x)', x of the old memory. -/
theorem wp_pushR {K : Act → World → Prop} (s x : Operand) (t : TypeId) (ho : o.op = .call { callee := .builtin .append, args := #[s, x], argTypes := #[t, t] }) {e z : Nat} (hT : SlT P t e z)
    {ds : List D} {d : D} {out : Value} {cs : List Value} {g c e1 : Nat} (hs : a.eval s = out) (hx : a.eval x = .slice (some ⟨g, 0, none⟩) 1 c) (H : Hp X w0 w l) (p3 : Pick l (.box g e1 cs) l1) (p1 : Pick l1 (.row e z ds out) l2)
    (hd : RC w (fun k => k < w0.heap.size ∧ ¬ X k) d cs) (hz : d.size = z) (hM : ds.length + 1 ≤ M)
    (h : ∀ v' w', Hp X w0 w' (.row e z (ds ++ [d]) v' :: l2) → K (a.put o.dst v') w') : o.wp P a w K Q := by
  have hcell := H.boxlies p3
  obtain ⟨L, hL, hn⟩ := ((H.pick p3).pick (.tail p1)).own
  simp only [Chs] at hL
  obtain ⟨L1, _, rfl, ⟨rfl, h1⟩, L2, L3, rfl, h2, h3⟩ := hL
  have hB : ∀ k, out.ownBlock = some k → w0.heap.size ≤ k := by
    intro k hk
    obtain ⟨_, _, es, h4, _⟩ := h1
    exact (h4.lt k (by simp [hk])).1
  refine wp_pushC s x t ho hT (ds' := [d]) (cs := cs) (m := 1) hs hx h1 ?_ (by simpa using hz) rfl hcell (by simpa using hM) H.ext.size ?_
  · unfold RCs
    refine ⟨cs, [], by simp, RC.frame (Nat.le_refl _) (fun k hk hS => ⟨hS, fun e => ?_⟩) (fun _ _ _ => rfl) _ _ hd, by unfold RCs; rfl⟩
    have := hB k e.symm
    omega
  · intro v' w' g1 g2 g3
    refine h v' w' ⟨H.ext.grown g2 (fun k hk => .inr (hB k hk)), v'.ownBlock.toList ++ L3, ?_, ?_⟩
    · unfold Chs
      refine ⟨_, L3, rfl, ⟨rfl, g1⟩, h3.frame H.ext.size g2.size (fun k hk hx => g2.block k (Nat.lt_of_lt_of_le hk H.ext.size) (fun e => ?_)) (fun k hk => g2.block k (h3.lt k hk).2 (fun e => ?_))⟩
      · have := hB k e.symm; omega
      · exact (List.nodup_append.1 hn).2.2 k (by simp [← e]) k (by simp [hk]) rfl
    · have n2 := (List.nodup_append.1 (List.nodup_append.1 hn).2.1).2.1
      refine List.nodup_append.2 ⟨by cases v'.ownBlock <;> simp, n2, fun x hx y hy e => ?_⟩
      subst e
      rcases g3 with g3 | g3
      · rw [g3] at hx
        exact (List.nodup_append.1 hn).2.2 x hx x (by simp [hy]) rfl
      · have hx' : x = w.heap.size := by rw [g3] at hx; simpa using hx
        have := (h3.lt x hy).2
        omega
theorem wpList_pushR (hgd : o.guard = none) (s x : Operand) (t : TypeId) (ho : o.op = .call { callee := .builtin .append, args := #[s, x], argTypes := #[t, t] }) {e z : Nat} (hT : SlT P t e z)
    {ds : List D} {d : D} {out : Value} {cs : List Value} {g c e1 : Nat} (hs : a.eval s = out) (hx : a.eval x = .slice (some ⟨g, 0, none⟩) 1 c) (H : Hp X w0 w l) (p3 : Pick l (.box g e1 cs) l1) (p1 : Pick l1 (.row e z ds out) l2)
    (hd : RC w (fun k => k < w0.heap.size ∧ ¬ X k) d cs) (hz : d.size = z) (hM : ds.length + 1 ≤ M)
    (h : ∀ v' w', Hp X w0 w' (.row e z (ds ++ [d]) v' :: l2) → wpList P ops Q rest (a.put o.dst v') w') : wpList P ops Q (o :: rest) a w :=
  wpList_plain hgd fun _ hK => wp_pushR s x t ho hT hs hx H p3 p1 hd hz hM fun v' w' h1 => hK _ _ (h v' w' h1)
theorem Hp.rowNil (H : Hp X w0 w l) (e z : Nat) : Hp X w0 w (.row e z [] (.slice none 0 0) :: l) := by
  obtain ⟨L, h, hn⟩ := H.own
  exact ⟨H.ext, L, by unfold Chs; exact ⟨[], L, rfl, ⟨by simp [Value.ownBlock], RG.nil⟩, h⟩, hn⟩
/-- A row of old elements is read. -/
theorem Hp.rowRd {e z : Nat} {ds : List D} {v : Value} (H : Hp X w0 w l) (p : Pick l (.row e z ds v) l') : RC w (fun k => (k < w0.heap.size ∧ ¬ X k) ∨ w0.heap.size ≤ k) (.l e z ds) [v] := by
  obtain ⟨L, hL, _⟩ := (H.pick p).own
  simp only [Chs] at hL
  obtain ⟨L1, _, rfl, ⟨rfl, h1⟩, _⟩ := hL
  exact h1.rc
end

/-- How many binders Open may take off. -/
def countT : Tm → Nat
  | .mk k _ _ _ [_, b] => if k = 4 then countT b + 1 else 0
  | _ => 0
theorem Tm.two {t : Tm} (h : t.ks.length = 2) : ∃ k n a ls x y, t = .mk k n a ls [x, y] := by
  obtain ⟨k, n, a, ls, ks⟩ := t
  match ks, h with
  | [x, y], _ => exact ⟨k, n, a, ls, x, y, rfl⟩
theorem countT_step {t : Tm} (h4 : t.k = 4) (h2 : t.ks.length = 2) : countT t = countT (t.ks[1]'(by omega)) + 1 := by
  obtain ⟨k, n, a, ls, x, y, rfl⟩ := Tm.two h2
  simp only [Tm.k_mk] at h4
  rw [countT, if_pos h4]
  rfl
theorem countT_stop {t : Tm} (h : ¬ (t.k = 4 ∧ t.ks.length = 2)) : countT t = 0 := by
  obtain ⟨k, n, a, ls, ks⟩ := t
  match ks with
  | [] => simp [countT]
  | [_] => simp [countT]
  | [x, y] =>
    rw [countT, if_neg]
    intro e
    exact h ⟨e, rfl⟩
  | _ :: _ :: _ :: _ => simp [countT]
set_option maxRecDepth 100000 in
set_option maxHeartbeats 2000000 in
theorem teleCount {S : Nat → Prop} {t : Tm} {w : World} {v : Value} (h : TV w S t v) (hb : countT t ≤ 1000000000000) : Calls Tryd.prog 104 #[v] w (PV w (.int .i64 (countT t))) := by
  obtain ⟨A0, ca, K0, ck, rfl, hrc⟩ := h
  have HRC := Lib.hid hrc
  clear hrc
  go_enter Tryd.func104, Tryd.ntmps104
  go_wp2_with fail
  have H := Hp.start no w
  go_loopw [2] (fun n wr => ∃ (u : Tm) (m : Nat) (B K : Option Addr) (cb kb : Nat), n = .int .i64 m ∧ countT u + m = countT t ∧ RC w S u.d [.int .i64 u.k, .int .i64 u.n, .int .i64 u.a, .slice B u.ls.length cb, .slice K u.ks.length kb] ∧ Hp no w wr [.box w.heap.size 26 [.int .i64 u.k, .int .i64 u.n, .int .i64 u.a, .slice B u.ls.length cb, .slice K u.ks.length kb]]) (fun n _ => countT t - (intOf n).toNat)
  case atStart => exact ⟨t, 0, _, _, _, _, rfl, rfl, HRC.out, by (repeat (first | with_reducible exact H | with_reducible exact H0_ | with_reducible apply Hp.alloc | with_reducible apply Hp.allocMap | with_reducible apply Hp.drew | with_reducible apply Hp.drewN | with_reducible apply Hp.set)); (try any_goals (repeat (first | with_reducible exact Upd.head | with_reducible apply Upd.tail)))⟩
  case round =>
    clear H
    obtain ⟨u, m, B, K, cb, kb, rfl, hm, hrc, H⟩ := hrel
    have HM := Lib.hid hm
    have HR := Lib.hid hrc
    have hmb : m ≤ 1000000000000 := by omega
    clear hm hrc
    by_cases h4 : u.k = 4
    · by_cases h2 : u.ks.length = 2
      · obtain ⟨_, _, _, _, he, _, _, _, _, hks⟩ := RC.tm.1 HR.out
        simp only [List.cons.injEq, Value.slice.injEq, and_true, true_and] at he
        obtain ⟨⟨rfl, rfl⟩, rfl, rfl⟩ := he
        obtain ⟨b, o, A1, ca1, K1, ck1, rfl, hb, hS, hd, p0, p1, p2, p3, p4⟩ := hks.atTm (k := 1) (by omega)
        have HD := Lib.hid hd
        have HS := Lib.hid (countT_step h4 h2)
        clear hd hks
        simp only [Nat.one_mul] at p0 p1 p2 p3 p4
        have hr_ := H.rules; simp only [Rules, and_true] at hr_; have hd_ := H.dif; simp only [Dif, Neq, and_true] at hd_; obtain ⟨ho_, hz_⟩ := H.old0
        go_wp2_with ((with_reducible refine atStore (t := 26) ?_); go_must (refine wpList_storeH (t := 26) rfl rfl (by go_simp <;> first | rfl | exact ⟨rfl, rfl⟩) (by go_simp <;> first | rfl | exact ⟨rfl, rfl⟩) (by exact Hp.norm (by (repeat (first | with_reducible exact H | with_reducible exact H0_ | with_reducible apply Hp.alloc | with_reducible apply Hp.allocMap | with_reducible apply Hp.drew | with_reducible apply Hp.drewN | with_reducible apply Hp.set)); (try any_goals (repeat (first | with_reducible exact Upd.head | with_reducible apply Upd.tail)))) (by ((try simp only [size_drew_, size_drewN_, World.size_alloc, World.size_setCell, List.set_cons_zero, List.set_cons_succ, List.nil_append, List.cons_append]) <;> rfl))) (by (repeat (first | with_reducible exact Upd.head | with_reducible apply Upd.tail))) (by exact aggTerm) (by rfl) (by simp [Value.oneCell']) ?_; clear H; intro w7 H; (try simp only [size_drew_, size_drewN_, World.size_alloc, World.size_setCell, List.set_cons_zero, List.set_cons_succ] at H); (try clear hr_ hd_ ho_ hz_); have hr_ := H.rules; simp only [Rules, and_true] at hr_; have hd_ := H.dif; simp only [Dif, Neq, and_true] at hd_; obtain ⟨ho_, hz_⟩ := H.old0))
        clear hr_ hd_ ho_ hz_
        go_roundw
        case rel => exact ⟨u.ks[1], m + 1, _, _, _, _, by go_num, by have h1 := HM.out; have h5 := HS.out; omega, HD.out, H⟩
        case measure => have h1 := HM.out; have h5 := HS.out; simp [intOf]; omega
      · have HS := Lib.hid (countT_stop (t := u) (fun h => h2 h.2))
        have hr_ := H.rules; simp only [Rules, and_true] at hr_; have hd_ := H.dif; simp only [Dif, Neq, and_true] at hd_; obtain ⟨ho_, hz_⟩ := H.old0
        go_wp2_with fail
        clear hr_ hd_ ho_ hz_
        go_ret
        exact ⟨by have h1 := HM.out; have h5 := HS.out; rw [show countT t = m by omega]; rfl, H.ext⟩
    · have HS := Lib.hid (countT_stop (t := u) (fun h => h4 h.1))
      have hr_ := H.rules; simp only [Rules, and_true] at hr_; have hd_ := H.dif; simp only [Dif, Neq, and_true] at hd_; obtain ⟨ho_, hz_⟩ := H.old0
      go_wp2_with fail
      clear hr_ hd_ ho_ hz_
      go_ret
      exact ⟨by have h1 := HM.out; have h5 := HS.out; rw [show countT t = m by omega]; rfl, H.ext⟩
/-- A row lifted: each behind those ahead. -/
def liftsT (ts : List Tm) (n fr : Int) : List Tm := List.ofFn fun i : Fin ts.length => liftT ts[i] n (wrap64 (fr + (i.1 : Nat)))
theorem liftsT_len (ts : List Tm) (n fr : Int) : (liftsT ts n fr).length = ts.length := by simp [liftsT]
theorem liftsT_take {ts : List Tm} {n fr : Int} {j : Nat} (h : j < ts.length) : ((liftsT ts n fr).take (j + 1)).map Tm.d = ((liftsT ts n fr).take j).map Tm.d ++ [(liftT ts[j] n (wrap64 (fr + (j : Nat)))).d] := by
  have h' : j < (liftsT ts n fr).length := by rw [liftsT_len]; exact h
  rw [List.take_succ_eq_append_getElem h', List.map_append]
  simp [liftsT]
set_option maxRecDepth 100000 in
set_option maxHeartbeats 2000000 in
theorem teleLifts {S : Nat → Prop} {ts : List Tm} {w : World} {A : Option Addr} {n c : Nat} (hT : Tab w) (h : RC w S (.l 26 5 (ts.map Tm.d)) [.slice A n c]) (hn : n = ts.length) (by_ fr : Int) : Calls Tryd.prog 106 #[.slice A n c, .int .i64 by_, .int .i64 fr] w (PSl w 26 5 ((liftsT ts by_ fr).map Tm.d)) := by
  subst hn
  have hM := h.lenM
  have HT := Lib.hid hT
  clear hT
  go_enter Tryd.func106, Tryd.ntmps106
  go_wp2_with fail
  have H := Hp.start no w
  replace H := H.nil 26 5
  go_loopw [6, 11] (fun out i wr => ∃ j : Nat, j ≤ ts.length ∧ i = .int .i64 j ∧ Hp no w wr [.dat (.l 26 5 (((liftsT ts by_ fr).take j).map Tm.d)) [out]]) (fun _ i _ => ts.length - (intOf i).toNat)
  case atStart => exact ⟨0, Nat.zero_le _, rfl, H⟩
  case round =>
    clear H
    obtain ⟨j, hj, rfl, H⟩ := hrel
    by_cases hlt : j < ts.length
    · obtain ⟨b, o, A1, ca, K1, ck, rfl, hb, hS, hd, p0, p1, p2, p3, p4⟩ := h.atTm hlt
      have HD := Lib.hid hd
      have HL := Lib.hid (liftsT_take (n := by_) (fr := fr) hlt)
      have hlen := liftsT_len ts by_ fr
      clear hd
      have hr_ := H.rules; simp only [Rules, and_true] at hr_; have hd_ := H.dif; simp only [Dif, Neq, and_true] at hd_; obtain ⟨ho_, hz_⟩ := H.old0
      go_wp2_with ((with_reducible refine atStore (t := 26) ?_); go_must (refine wpList_storeH (t := 26) rfl rfl (by go_simp <;> first | rfl | exact ⟨rfl, rfl⟩) (by go_simp <;> first | rfl | exact ⟨rfl, rfl⟩) (by exact Hp.norm (by (repeat (first | with_reducible exact H | with_reducible exact H0_ | with_reducible apply Hp.alloc | with_reducible apply Hp.allocMap | with_reducible apply Hp.drew | with_reducible apply Hp.drewN | with_reducible apply Hp.set)); (try any_goals (repeat (first | with_reducible exact Upd.head | with_reducible apply Upd.tail)))) (by ((try simp only [size_drew_, size_drewN_, World.size_alloc, World.size_setCell, List.set_cons_zero, List.set_cons_succ, List.nil_append, List.cons_append]) <;> rfl))) (by (repeat (first | with_reducible exact Upd.head | with_reducible apply Upd.tail))) (by exact aggTerm) (by rfl) (by simp [Value.oneCell']) ?_; clear H; intro w7 H; (try simp only [size_drew_, size_drewN_, World.size_alloc, World.size_setCell, List.set_cons_zero, List.set_cons_succ] at H); (try clear hr_ hd_ ho_ hz_); have hr_ := H.rules; simp only [Rules, and_true] at hr_; have hd_ := H.dif; simp only [Dif, Neq, and_true] at hd_; obtain ⟨ho_, hz_⟩ := H.old0))
      clear hr_ hd_ ho_ hz_
      refine callsH (by (repeat (first | with_reducible exact H | with_reducible exact H0_ | with_reducible apply Hp.alloc | with_reducible apply Hp.allocMap | with_reducible apply Hp.drew | with_reducible apply Hp.drewN | with_reducible apply Hp.set)); (try any_goals (repeat (first | with_reducible exact Upd.head | with_reducible apply Upd.tail)))) ?_
      clear H; intro w2 H; (try simp only [size_drew_, size_drewN_, World.size_alloc, World.size_setCell, List.set_cons_zero, List.set_cons_succ] at H)
      refine (lift_calls (HT.out.ext H.ext) _ _ ⟨_, _, _, _, rfl, HD.out.ext0 H.ext⟩).mono ?_
      rintro e w_ ⟨v, rfl, hto, hx⟩
      obtain ⟨B1, Bc, B2, Bk, rfl, H_⟩ := H.resTm hx hto
      clear H hx hto
      have H := H_
      clear H_
      go_wp2_with (at_builtin; go_must (refine wpList_pushH rfl (.tmp 16) (.tmp 23) 24 rfl stTerms (by go_simp <;> first | rfl | exact ⟨rfl, rfl⟩) (by go_simp <;> first | rfl | exact ⟨rfl, rfl⟩) (by exact Hp.norm (by (repeat (first | with_reducible exact H | with_reducible exact H0_ | with_reducible apply Hp.alloc | with_reducible apply Hp.allocMap | with_reducible apply Hp.drew | with_reducible apply Hp.drewN | with_reducible apply Hp.set)); (try any_goals (repeat (first | with_reducible exact Upd.head | with_reducible apply Upd.tail)))) (by ((try simp only [size_drew_, size_drewN_, World.size_alloc, World.size_setCell, List.set_cons_zero, List.set_cons_succ, List.nil_append, List.cons_append]) <;> rfl))) (by (repeat (first | with_reducible exact Pick.head | with_reducible apply Pick.tail))) (by (repeat (first | with_reducible exact Pick.head | with_reducible apply Pick.tail))) (by (repeat (first | with_reducible exact Pick.head | with_reducible apply Pick.tail))) (Tm.size_d _) ?_ ?_; (focus (simp [M]; omega)); clear H; intro v' w4 H))
      go_roundw
      case rel => exact ⟨j + 1, by omega, by go_num, by rw [HL.out]; exact (H.arr (by (repeat (first | with_reducible exact Arr.nil | refine Arr.cons (by (repeat (first | with_reducible exact Pick.head | with_reducible apply Pick.tail))) ?_)) <;> exact Arr.of_subl (by (repeat (first | with_reducible exact Subl.refl _ | with_reducible apply Subl.drop)))))⟩
      case measure => simp [intOf]; omega
    · go_wp2_with fail
      go_ret
      rw [take_all (by rw [liftsT_len]; exact hlt)] at H
      exact H.psl .head
end Go.Proofs.YtmedomglemllnaaDoor
/- tele: open: contract. No statement of the seat is proved here. -/
namespace Go.Proofs.YtmedomglemllnaaDoor
set_option linter.unusedSimpArgs false
set_option linter.unusedVariables false
open Go.RowKit

theorem RC.oldP {w w' : World} {S : Nat → Prop} {d : D} {cs : List Value} (h : RC w S d cs) (hx : Ext no w w') : RC w' (fun k => k < w.heap.size ∧ ¬ no k) d cs :=
  RC.frame hx.size (fun k _ hS => ⟨hS.2, no_not⟩) (fun k hk _ => hx.block k hk no_not) _ _ h.bd
/-- So many binders taken off. -/
def openT : Nat → Tm → Option (List Tm × Tm)
  | 0, t => some ([], t)
  | n + 1, .mk k _ _ _ [a, b] => if k = 4 then (openT n b).map fun p => (a :: p.1, p.2) else none
  | _ + 1, _ => none
theorem openT_step {n : Nat} {t : Tm} (h4 : t.k = 4) (h2 : t.ks.length = 2) : openT (n + 1) t = (openT n (t.ks[1]'(by omega))).map fun p => (t.ks[0]'(by omega) :: p.1, p.2) := by
  obtain ⟨k, m, a, ls, x, y, rfl⟩ := Tm.two h2
  simp only [Tm.k_mk] at h4
  rw [openT, if_pos h4]
  rfl
theorem openT_stop {n : Nat} {t : Tm} (h : ¬ (t.k = 4 ∧ t.ks.length = 2)) : openT (n + 1) t = none := by
  obtain ⟨k, m, a, ls, ks⟩ := t
  match ks with
  | [] => simp [openT]
  | [_] => simp [openT]
  | [x, y] =>
    rw [openT, if_neg]
    intro e
    exact h ⟨e, rfl⟩
  | _ :: _ :: _ :: _ => simp [openT]
def fewP : List PanicEntry := [{ v := .iface 177 (.agg #[]), recovered := false }]
/-- A row and a term, fresh both; or few thrown. -/
def POpen (w : World) (o : Option (List Tm × Tm)) (e : Ending) (w' : World) : Prop :=
  match o with
  | none => e = .panicked fewP ∧ Ext no w w'
  | some (ls, r) => ∃ A c B cb K kb, e = .returned (.tuple #[.slice A ls.length c, .agg #[.int .i64 r.k, .int .i64 r.n, .int .i64 r.a, .slice B r.ls.length cb, .slice K r.ks.length kb]]) ∧
    Hp no w w' [.dat (.l 26 5 (ls.map Tm.d)) [.slice A ls.length c], .dat r.d [.int .i64 r.k, .int .i64 r.n, .int .i64 r.a, .slice B r.ls.length cb, .slice K r.ks.length kb]]
def openN (n : Int) (t : Tm) : Option (List Tm × Tm) := if n < 0 then none else openT n.toNat t
set_option maxRecDepth 100000 in
set_option maxHeartbeats 4000000 in
theorem open_calls {S : Nat → Prop} {t : Tm} {w : World} {v : Value} (hT : Tab w) (h : TV w S t v) (n : Int) (hb : countT t ≤ 1000000000 ∨ n ≤ 1000000000) (hn : inI n) : Calls Tryd.prog 150 #[v, .int .i64 n] w (POpen w (openN n t)) := by
  obtain ⟨A0, ca, K0, ck, rfl, hrc⟩ := h
  have HRC := Lib.hid hrc
  have HT := Lib.hid hT
  have HBB := Lib.hid hb
  clear hrc hT hb
  go_enter Tryd.func150, Tryd.ntmps150
  by_cases h0 : n < 0
  · have HO : Hid (openN n t = none) := by unfold Hid openN; rw [if_pos h0]
    have H := Hp.start no w
    go_wp2_with fail
    rw [HO.out]
    exact ⟨rfl, rfl, (show Hp no w _ _ from (by (repeat (first | with_reducible exact H | with_reducible exact H0_ | with_reducible apply Hp.alloc | with_reducible apply Hp.allocMap | with_reducible apply Hp.drew | with_reducible apply Hp.drewN | with_reducible apply Hp.set)); (try any_goals (repeat (first | with_reducible exact Upd.head | with_reducible apply Upd.tail))))).ext⟩
  · have HO : Hid (openN n t = openT n.toNat t) := by unfold Hid openN; rw [if_neg h0]
    have hn2 : n ≤ 9223372036854775807 := hn.2
    clear hn
    go_wp2_with fail
    have H := (Hp.start no w).rowNil 26 5
    go_loopw [4, 11] (fun out i wr => ∃ (j : Nat) (u : Tm) (ls : List Tm) (B K : Option Addr) (cb kb : Nat), (j : Int) ≤ n ∧ i = .int .i64 j ∧ countT u + j = countT t ∧ ls.length = j ∧ openT n.toNat t = (openT (n.toNat - j) u).map (fun p => (ls ++ p.1, p.2)) ∧
      RC w S u.d [.int .i64 u.k, .int .i64 u.n, .int .i64 u.a, .slice B u.ls.length cb, .slice K u.ks.length kb] ∧
      Hp no w wr [.box (w.heap.size + 1) 26 [.int .i64 0, .int .i64 0, .int .i64 0, .slice none 0 0, .slice none 0 0], .box w.heap.size 26 [.int .i64 u.k, .int .i64 u.n, .int .i64 u.a, .slice B u.ls.length cb, .slice K u.ks.length kb], .row 26 5 (ls.map Tm.d) out]) (fun _ i _ => countT t - (intOf i).toNat)
    case atStart => exact ⟨0, t, [], _, _, _, _, by omega, rfl, rfl, rfl, by simp, HRC.out, by rw [List.map_nil]; exact Hp.norm (by (repeat (first | with_reducible exact H | with_reducible exact H0_ | with_reducible apply Hp.alloc | with_reducible apply Hp.allocMap | with_reducible apply Hp.drew | with_reducible apply Hp.drewN | with_reducible apply Hp.set)); (try any_goals (repeat (first | with_reducible exact Upd.head | with_reducible apply Upd.tail)))) (by ((try simp only [size_drew_, size_drewN_, World.size_alloc, World.size_setCell, List.set_cons_zero, List.set_cons_succ, List.nil_append, List.cons_append]) <;> rfl))⟩
    case round =>
      clear H
      obtain ⟨j, u, ls, B, K, cb, kb, hj, rfl, hm, hls, hop, hrc, H⟩ := hrel
      have HM := Lib.hid hm
      have HR := Lib.hid hrc
      have HP := Lib.hid hop
      have hmb : j ≤ 1000000000 := by have := HBB.out; omega
      clear hm hrc hop
      by_cases hlt : (j : Int) < n
      · by_cases h42 : u.k = 4 ∧ u.ks.length = 2
        · obtain ⟨h4, h2⟩ := h42
          obtain ⟨_, _, _, _, he, _, _, _, _, hks⟩ := RC.tm.1 HR.out
          simp only [List.cons.injEq, Value.slice.injEq, and_true, true_and] at he
          obtain ⟨⟨rfl, rfl⟩, rfl, rfl⟩ := he
          obtain ⟨b, o, A1, ca1, K1, ck1, rfl, hb1, hS, hd, p0, p1, p2, p3, p4⟩ := hks.atTm (k := 0) (by omega)
          obtain ⟨b', o', A2, ca2, K2, ck2, he, hb2, hS2, hd2, q0, q1, q2, q3, q4⟩ := hks.atTm (k := 1) (by omega)
          simp only [Option.some.injEq, Addr.mk.injEq, and_true] at he
          obtain ⟨rfl, rfl⟩ := he
          have HA := Lib.hid hd
          have HD := Lib.hid hd2
          have HS := Lib.hid (countT_step h4 h2)
          have HN := Lib.hid (openT_step (n := n.toNat - (j + 1)) h4 h2)
          clear hd hd2 hks
          simp only [Nat.one_mul, Nat.zero_mul, Nat.add_zero] at p0 p1 p2 p3 p4 q0 q1 q2 q3 q4
          have hr_ := H.rules; simp only [Rules, and_true] at hr_; have hd_ := H.dif; simp only [Dif, Neq, and_true] at hd_; obtain ⟨ho_, hz_⟩ := H.old0
          go_wp2_with (first | (at_builtin; go_must (refine wpList_pushR (d := u.ks[0].d) rfl (.tmp 24) (.tmp 29) 24 rfl stTerms (by go_simp <;> first | rfl | exact ⟨rfl, rfl⟩) (by go_simp <;> first | rfl | exact ⟨rfl, rfl⟩) (by exact Hp.norm (by (repeat (first | with_reducible exact H | with_reducible exact H0_ | with_reducible apply Hp.alloc | with_reducible apply Hp.allocMap | with_reducible apply Hp.drew | with_reducible apply Hp.drewN | with_reducible apply Hp.set)); (try any_goals (repeat (first | with_reducible exact Upd.head | with_reducible apply Upd.tail)))) (by ((try simp only [size_drew_, size_drewN_, World.size_alloc, World.size_setCell, List.set_cons_zero, List.set_cons_succ, List.nil_append, List.cons_append]) <;> rfl))) (by (repeat (first | with_reducible exact Pick.head | with_reducible apply Pick.tail))) (by (repeat (first | with_reducible exact Pick.head | with_reducible apply Pick.tail))) ?_ ?_ ?_ ?_; (focus (exact HA.out.oldP (H.ext.alloc _))); (focus (exact Tm.size_d _)); (focus (simp only [M, List.length_map]; omega)); clear H; intro v' w4 H; (try clear hr_ hd_ ho_ hz_); have hr_ := H.rules; simp only [Rules, and_true] at hr_; have hd_ := H.dif; simp only [Dif, Neq, and_true] at hd_; obtain ⟨ho_, hz_⟩ := H.old0)) | ((with_reducible refine atStore (t := 26) ?_); go_must (refine wpList_storeH (t := 26) rfl rfl (by go_simp <;> first | rfl | exact ⟨rfl, rfl⟩) (by go_simp <;> first | rfl | exact ⟨rfl, rfl⟩) (by exact Hp.norm (by (repeat (first | with_reducible exact H | with_reducible exact H0_ | with_reducible apply Hp.alloc | with_reducible apply Hp.allocMap | with_reducible apply Hp.drew | with_reducible apply Hp.drewN | with_reducible apply Hp.set)); (try any_goals (repeat (first | with_reducible exact Upd.head | with_reducible apply Upd.tail)))) (by ((try simp only [size_drew_, size_drewN_, World.size_alloc, World.size_setCell, List.set_cons_zero, List.set_cons_succ, List.nil_append, List.cons_append]) <;> rfl))) (by (repeat (first | with_reducible exact Upd.head | with_reducible apply Upd.tail))) (by exact aggTerm) (by rfl) (by simp [Value.oneCell']) ?_; clear H; intro w7 H; (try simp only [size_drew_, size_drewN_, World.size_alloc, World.size_setCell, List.set_cons_zero, List.set_cons_succ] at H); (try clear hr_ hd_ ho_ hz_); have hr_ := H.rules; simp only [Rules, and_true] at hr_; have hd_ := H.dif; simp only [Dif, Neq, and_true] at hd_; obtain ⟨ho_, hz_⟩ := H.old0)))
          clear hr_ hd_ ho_ hz_
          go_roundw
          case rel => exact ⟨j + 1, u.ks[1], ls ++ [u.ks[0]], _, _, _, _, by omega, by go_num, by have h1 := HM.out; have h5 := HS.out; omega, by simp [hls], by have e := HN.out; rw [show n.toNat - (j + 1) + 1 = n.toNat - j by omega] at e; rw [HP.out, e]; simp [Option.map_map, Function.comp_def], HD.out, by simp only [List.map_append, List.map_cons, List.map_nil]; exact (H.arr (by (repeat (first | with_reducible exact Arr.nil | refine Arr.cons (by (repeat (first | with_reducible exact Pick.head | with_reducible apply Pick.tail))) ?_)) <;> exact Arr.of_subl (by (repeat (first | with_reducible exact Subl.refl _ | with_reducible apply Subl.drop)))))⟩
          case measure => have h1 := HM.out; have h5 := HS.out; simp [intOf]; omega
        · have HN := Lib.hid (openT_stop (n := n.toNat - (j + 1)) h42)
          have HO2 : Hid (openN n t = none) := by
            unfold Hid
            have e := HN.out
            rw [show n.toNat - (j + 1) + 1 = n.toNat - j by omega] at e
            rw [HO.out, HP.out, e]
            rfl
          by_cases h4 : u.k = 4
          · have h2 : ¬ u.ks.length = 2 := fun e => h42 ⟨h4, e⟩
            clear h42
            have hr_ := H.rules; simp only [Rules, and_true] at hr_; have hd_ := H.dif; simp only [Dif, Neq, and_true] at hd_; obtain ⟨ho_, hz_⟩ := H.old0
            go_wp2_with fail
            clear hr_ hd_ ho_ hz_
            rw [HO2.out]
            exact ⟨rfl, rfl, (show Hp no w _ _ from (by (repeat (first | with_reducible exact H | with_reducible exact H0_ | with_reducible apply Hp.alloc | with_reducible apply Hp.allocMap | with_reducible apply Hp.drew | with_reducible apply Hp.drewN | with_reducible apply Hp.set)); (try any_goals (repeat (first | with_reducible exact Upd.head | with_reducible apply Upd.tail))))).ext⟩
          · clear h42
            have hr_ := H.rules; simp only [Rules, and_true] at hr_; have hd_ := H.dif; simp only [Dif, Neq, and_true] at hd_; obtain ⟨ho_, hz_⟩ := H.old0
            go_wp2_with fail
            clear hr_ hd_ ho_ hz_
            rw [HO2.out]
            exact ⟨rfl, rfl, (show Hp no w _ _ from (by (repeat (first | with_reducible exact H | with_reducible exact H0_ | with_reducible apply Hp.alloc | with_reducible apply Hp.allocMap | with_reducible apply Hp.drew | with_reducible apply Hp.drewN | with_reducible apply Hp.set)); (try any_goals (repeat (first | with_reducible exact Upd.head | with_reducible apply Upd.tail))))).ext⟩
      · have HO2 : Hid (openN n t = some (ls, u)) := by
          unfold Hid
          rw [HO.out, HP.out, show n.toNat - j = 0 by omega]
          simp [openT]
        subst hls
        obtain ⟨E1, e1, rfl, _⟩ := (H.rowRd (e := 26) (by (repeat (first | with_reducible exact Pick.head | with_reducible apply Pick.tail)))).slice
        simp only [List.length_map] at H ⊢
        have hr_ := H.rules; simp only [Rules, and_true] at hr_; have hd_ := H.dif; simp only [Dif, Neq, and_true] at hd_; obtain ⟨ho_, hz_⟩ := H.old0
        go_wp2_with fail
        clear hr_ hd_ ho_ hz_
        refine regionH (by (repeat (first | with_reducible exact H | with_reducible exact H0_ | with_reducible apply Hp.alloc | with_reducible apply Hp.allocMap | with_reducible apply Hp.drew | with_reducible apply Hp.drewN | with_reducible apply Hp.set)); (try any_goals (repeat (first | with_reducible exact Upd.head | with_reducible apply Upd.tail)))) ?_
        clear H; intro w3 H; (try simp only [size_drew_, size_drewN_, World.size_alloc, World.size_setCell, List.set_cons_zero, List.set_cons_succ] at H)
        refine wp_region_H 6 [false, false, false, false, false, false] [5] H (.cons (i := 1) rfl .nil) (by kernel_rfl) rfl rfl (fun H_ hR_ => ?_)
        (try clear H0_); have H0_ := H; clear H; have H := H_; clear H_
        refine wpL_reads (is := [(0, ?v1_0), (2, ?v1_1)]) (by kernel_rfl) (Nat.le_of_ble_eq_true rfl) (by intro _ _ d_ _ _ h_; cases d_ <;> exact h_) (by kernel_rfl) hR_ (fun w_ hw_ => ?h1_) ?_
        case h1_ =>
          have ho_ := hw_.old0.1; have hz_ := hw_.old0.2; have hr_ := hw_.rules; clear hw_; simp only [Rules, and_true] at hr_; go_split_ands
          (repeat (first | with_reducible exact RdOps.nil | (refine RdOps.run rfl (by rfl) ?_ ?_; (focus (first | (go_simp; done) | (go_simp; with_reducible rfl))); simp only [List.getElem_toArray, List.getElem_cons_zero, List.getElem_cons_succ, Act.put, List.setIfInBounds_toArray, List.set_cons_zero, List.set_cons_succ]) | (refine RdOps.skip rfl (by rfl) ?_; simp only [List.getElem_toArray, List.getElem_cons_zero, List.getElem_cons_succ, Act.put, List.setIfInBounds_toArray, List.set_cons_zero, List.set_cons_succ])))
        simp only [rdMark, rdAct, List.map_cons, List.map_nil, List.length_cons, List.length_nil, Nat.reduceAdd, Nat.reduceSub, Nat.zero_add, List.getElem?_toArray, List.getElem?_cons_zero, List.getElem?_cons_succ, Option.bind_some, Act.put, List.setIfInBounds_toArray, List.set_cons_zero, List.set_cons_succ]
        refine wpL_do (i := 1) rfl (by kernel_rfl) (by rfl) (fun K_ hK_ => ?_)
        go_simp
        have hrow := H.rowRd (e := 26) (z := 5) (ds := ls.map Tm.d) (v := .slice E1 ls.length e1) (by (repeat (first | with_reducible exact Pick.head | with_reducible apply Pick.tail)))
        have hcall := teleOwns (HT.out.ext H.ext) hrow rfl
        clear hrow
        refine hcall.mono ?_
        clear hcall
        rintro e w_ ⟨B1, Bc, rfl, hacc, hx⟩
        replace H := H.resSl hx hacc
        clear hx hacc
        refine hK_ _ _ (fun _ => H.sub (by simp)) (fun hR_ => ?_)
        replace hR_ := hR_ (by decide)
        refine wpL_do (i := 3) rfl (by kernel_rfl) (by rfl) (fun K_ hK_ => ?_)
        go_simp
        refine (teleOwn (HT.out.ext H.ext) ⟨_, _, _, _, rfl, HR.out.ext0 H.ext⟩).mono ?_
        rintro e w_ ⟨v, rfl, hto, hx⟩
        obtain ⟨C1, Cc, C2, Ck, rfl, H_⟩ := H.resTm hx hto
        clear H hx hto
        have H := H_
        clear H_
        refine hK_ _ _ (fun _ => H.sub (by simp)) (fun hR_ => ?_)
        replace hR_ := hR_ (by decide)
        refine wpL_reads (is := [(4, ?v2_0)]) (by kernel_rfl) (Nat.le_of_ble_eq_true rfl) (by intro _ _ d_ _ _ h_; cases d_ <;> exact h_) (by kernel_rfl) hR_ (fun w_ hw_ => ?h2_) ?_
        case h2_ =>
          have ho_ := hw_.old0.1; have hz_ := hw_.old0.2; have hr_ := hw_.rules; clear hw_; simp only [Rules, and_true] at hr_; go_split_ands
          (repeat (first | with_reducible exact RdOps.nil | (refine RdOps.run rfl (by rfl) ?_ ?_; (focus (first | (go_simp; done) | (go_simp; with_reducible rfl))); simp only [List.getElem_toArray, List.getElem_cons_zero, List.getElem_cons_succ, Act.put, List.setIfInBounds_toArray, List.set_cons_zero, List.set_cons_succ]) | (refine RdOps.skip rfl (by rfl) ?_; simp only [List.getElem_toArray, List.getElem_cons_zero, List.getElem_cons_succ, Act.put, List.setIfInBounds_toArray, List.set_cons_zero, List.set_cons_succ])))
        simp only [rdMark, rdAct, List.map_cons, List.map_nil, List.length_cons, List.length_nil, Nat.reduceAdd, Nat.reduceSub, Nat.zero_add, List.getElem?_toArray, List.getElem?_cons_zero, List.getElem?_cons_succ, Option.bind_some, Act.put, List.setIfInBounds_toArray, List.set_cons_zero, List.set_cons_succ]
        refine wpL_do (i := 5) rfl (by kernel_rfl) (by rfl) (fun K_ hK_ => ?_)
        refine wp_storeH rfl (by go_simp <;> first | rfl | exact ⟨rfl, rfl⟩) (by go_simp <;> first | rfl | exact ⟨rfl, rfl⟩) H (by (repeat (first | with_reducible exact Upd.head | with_reducible apply Upd.tail))) (by exact aggTerm) (by rfl) (by simp [Value.oneCell']) (fun w9 H_ => ?_)
        clear H; have H := H_; clear H_
        refine hK_ _ _ (fun h => absurd (by decide) h) (fun _ => ?_)
        refine wpL_done (by kernel_rfl) ?_ _
        go_wp2_with fail
        refine endH (by (repeat (first | with_reducible exact H | with_reducible exact H0_ | with_reducible apply Hp.alloc | with_reducible apply Hp.allocMap | with_reducible apply Hp.drew | with_reducible apply Hp.drewN | with_reducible apply Hp.set)); (try any_goals (repeat (first | with_reducible exact Upd.head | with_reducible apply Upd.tail)))) ?_
        clear H; intro w8 H; (try simp only [size_drew_, size_drewN_, World.size_alloc, World.size_setCell, List.set_cons_zero, List.set_cons_succ] at H)
        simp only [List.length_map] at H
        have hr_ := H.rules; simp only [Rules, and_true] at hr_; have hd_ := H.dif; simp only [Dif, Neq, and_true] at hd_; obtain ⟨ho_, hz_⟩ := H.old0
        refine bodyPost_ret (v := .tuple #[.slice B1 ls.length Bc, .agg #[.int .i64 u.k, .int .i64 u.n, .int .i64 u.a, .slice C1 u.ls.length Cc, .slice C2 u.ks.length Ck]]) (by simp [results, Tryd.results150, go_sem, hr_]) rfl ?_
        rw [HO2.out]
        exact ⟨_, _, _, _, _, _, rfl, (H.arr (by (repeat (first | with_reducible exact Arr.nil | refine Arr.cons (by (repeat (first | with_reducible exact Pick.head | with_reducible apply Pick.tail))) ?_)) <;> exact Arr.of_subl (by (repeat (first | with_reducible exact Subl.refl _ | with_reducible apply Subl.drop)))))⟩
end Go.Proofs.YtmedomglemllnaaDoor
/- term: Put: the turning function; contract. No statement of the seat is proved here. -/
namespace Go.Proofs.YtmedomglemllnaaDoor
set_option linter.unusedSimpArgs false
set_option linter.unusedVariables false
open Go.RowKit

mutual
/-- How deep a term is. -/
def depthT : Tm → Nat
  | .mk _ _ _ _ ks => depthsT ks + 1
def depthsT : List Tm → Nat
  | [] => 0
  | t :: ts => max (depthT t) (depthsT ts)
end
theorem depthsT_get {ts : List Tm} {i : Nat} (h : i < ts.length) : depthT ts[i] ≤ depthsT ts := by
  induction ts generalizing i with
  | nil => simp at h
  | cons t ts ih =>
    rw [depthsT]
    cases i with
    | zero => simp; omega
    | succ i => have := ih (i := i) (by simpa using h); simp; omega
/-- Binders and terms that a walk from no binder meets. -/
def GPut (b : Int) (t : Tm) : Prop := 0 ≤ b ∧ b + depthT t ≤ 4611686018427387904
theorem GPut.kid : ∀ b k n a ls ks, GPut b (.mk k n a ls ks) → ∀ (i : Nat) (h : i < ks.length), GPut (downI k i b) ks[i] := by
  rintro b k n a ls ks ⟨h0, h1⟩ i h
  have h2 := depthsT_get h
  rw [depthT] at h1
  push_cast at h1
  unfold GPut downI
  split
  · unfold wrap64; omega
  · omega
/-- What becomes of a node where terms are put. -/
def putF (by_ : List Tm) : Turn := fun b t => if t.k = 1 ∧ b ≤ t.n then (if h : (t.n - b).toNat < by_.length then .inl (liftT (by_[by_.length - 1 - (t.n - b).toNat]'(by omega)) b 0) else .inr (t.k, wrap64 (t.n - by_.length), t.a, t.ls)) else .inr (t.k, t.n, t.a, t.ls)
def putT (t : Tm) (by_ : List Tm) : Tm := walkT (putF by_) 0 t
/-- The terms that are put, in their box. -/
def ByAt (bp : Nat) (A : Option Addr) (c : Nat) (Sb : Nat → Prop) (by_ : List Tm) (w : World) : Prop := w.cell? ⟨bp, 0, none⟩ = some (.slice A by_.length c) ∧ RC w Sb (.l 26 5 (by_.map Tm.d)) [.slice A by_.length c]
set_option maxRecDepth 100000 in
set_option maxHeartbeats 4000000 in
theorem put1_calls (bp : Nat) (by_ : List Tm) (Sb : Nat → Prop) (A : Option Addr) (c : Nat) : TurnG 72 #[.pointer (some ⟨bp, 0, none⟩)] (ByAt bp A c Sb by_) GPut (putF by_) := by
  refine ⟨fun w w' h hx => ⟨hx.keep h.1, h.2.ext0 hx⟩, fun args w => run_enter Tryd.func72 (by kernel_rfl) args w, ?_⟩
  rintro w S b t v ⟨hc, hby⟩ hT ⟨hb0, hbd⟩ ⟨A0, ca, K0, ck, rfl, hrc⟩
  have lc := cell_lt hc
  obtain ⟨_, _, _, _, he, i1, i2, i3, hls, hks⟩ := RC.tm.1 hrc
  clear he hls hks
  have HRC := Lib.hid hrc
  have HBY := Lib.hid hby
  have HT := Lib.hid hT
  have hM := hby.lenM
  have hi2 : t.n ≤ 9223372036854775807 := i2.2
  clear hrc hby hT i1 i2 i3 hbd
  show Calls Tryd.prog 72 #[.agg #[.int .i64 b, .func (.func 72) #[] #[.pointer (some ⟨bp, 0, none⟩)]], _, .pointer (some ⟨bp, 0, none⟩)] w _
  go_enter Tryd.func72, Tryd.ntmps72
  go_wp2_with fail
  have H := Hp.start no w
  refine callsH (by (repeat (first | with_reducible exact H | with_reducible exact H0_ | with_reducible apply Hp.alloc | with_reducible apply Hp.allocMap | with_reducible apply Hp.drew | with_reducible apply Hp.drewN | with_reducible apply Hp.set)); (try any_goals (repeat (first | with_reducible exact Upd.head | with_reducible apply Upd.tail)))) ?_
  clear H; intro w1 H; (try simp only [size_drew_, size_drewN_, World.size_alloc, World.size_setCell, List.set_cons_zero, List.set_cons_succ] at H)
  refine (means_calls b t.n).mono ?_
  rintro e w_ ⟨rfl, hx⟩
  replace H := H.call hx
  clear hx
  by_cases h1 : t.k = 1 ∧ b ≤ t.n
  · obtain ⟨hk1, hle⟩ := h1
    obtain ⟨K, hK⟩ : ∃ K : Nat, t.n - b = (K : Int) := ⟨(t.n - b).toNat, by omega⟩
    have hwk : wrap64 (t.n - b) = (K : Int) := by unfold wrap64; omega
    rw [hwk]
    have HK := Lib.hid hK
    have hKb : K ≤ 9223372036854775807 := by omega
    clear hwk hK
    by_cases hlt : K < by_.length
    · obtain ⟨m, hm⟩ : ∃ m : Nat, (by_.length : Int) - 1 - (K : Int) = (m : Int) := ⟨by_.length - 1 - K, by omega⟩
      have hmL : m < by_.length := by omega
      have hwr1 : IntKind.i64.wrap ((by_.length : Int) - 1) = (by_.length : Int) - 1 := by rw [IntKind.wrap_i64]; omega
      have hwr4 : IntKind.i64.wrap (m : Int) = (m : Int) := by rw [IntKind.wrap_i64]; omega
      obtain ⟨bb, o, A1, ca1, K1, ck1, rfl, hb1, hS1, hd, p0, p1, p2, p3, p4⟩ := HBY.out.atTm hmL
      have HD := Lib.hid hd
      clear hd
      have hr_ := H.rules; simp only [Rules, and_true] at hr_; have hd_ := H.dif; simp only [Dif, Neq, and_true] at hd_; obtain ⟨ho_, hz_⟩ := H.old0
      go_wp2_with fail
      clear hr_ hd_ ho_ hz_
      have HP : Hid (putF by_ b t = .inl (liftT by_[m] b 0)) := by
        unfold Hid putF
        rw [if_pos ⟨hk1, hle⟩, dif_pos (by have := HK.out; omega)]
        have e : by_.length - 1 - (t.n - b).toNat = m := by have := HK.out; omega
        simp only [e]
      refine regionH (by (repeat (first | with_reducible exact H | with_reducible exact H0_ | with_reducible apply Hp.alloc | with_reducible apply Hp.allocMap | with_reducible apply Hp.drew | with_reducible apply Hp.drewN | with_reducible apply Hp.set)); (try any_goals (repeat (first | with_reducible exact Upd.head | with_reducible apply Upd.tail)))) ?_
      clear H; intro w3 H; (try simp only [size_drew_, size_drewN_, World.size_alloc, World.size_setCell, List.set_cons_zero, List.set_cons_succ] at H)
      refine wp_region_H 14 [false, false, false, false, false, false, false, false, false, false, false, false, false, false] [] H (.cons (i := 2) rfl .nil) (by kernel_rfl) rfl rfl (fun H_ hR_ => ?_)
      (try clear H0_); have H0_ := H; clear H; have H := H_; clear H_
      refine wpL_reads (is := [(0, ?v1_0), (1, ?v1_1), (2, ?v1_2), (3, ?v1_3), (4, ?v1_4), (5, ?v1_5), (6, ?v1_6), (7, ?v1_7), (8, ?v1_8), (9, ?v1_9), (10, ?v1_10)]) (by kernel_rfl) (Nat.le_of_ble_eq_true rfl) (by intro _ _ d_ _ _ h_; cases d_ <;> exact h_) (by kernel_rfl) hR_ (fun w_ hw_ => ?h1_) ?_
      case h1_ =>
        have ho_ := hw_.old0.1; have hz_ := hw_.old0.2; have hr_ := hw_.rules; clear hw_; simp only [Rules, and_true] at hr_; go_split_ands
        (repeat (first | with_reducible exact RdOps.nil | (refine RdOps.run rfl (by rfl) ?_ ?_; (focus (first | (go_simp; done) | (go_simp; with_reducible rfl))); simp only [List.getElem_toArray, List.getElem_cons_zero, List.getElem_cons_succ, Act.put, List.setIfInBounds_toArray, List.set_cons_zero, List.set_cons_succ]) | (refine RdOps.skip rfl (by rfl) ?_; simp only [List.getElem_toArray, List.getElem_cons_zero, List.getElem_cons_succ, Act.put, List.setIfInBounds_toArray, List.set_cons_zero, List.set_cons_succ])))
      simp only [rdMark, rdAct, List.map_cons, List.map_nil, List.length_cons, List.length_nil, Nat.reduceAdd, Nat.reduceSub, Nat.zero_add, List.getElem?_toArray, List.getElem?_cons_zero, List.getElem?_cons_succ, Option.bind_some, Act.put, List.setIfInBounds_toArray, List.set_cons_zero, List.set_cons_succ]
      refine wpL_do (i := 11) rfl (by kernel_rfl) (by rfl) (fun K_ hK_ => ?_)
      go_simp
      refine (lift_calls (HT.out.ext H.ext) b 0 ⟨_, _, _, _, rfl, HD.out.ext0 H.ext⟩).mono ?_
      rintro e w_ ⟨v, rfl, hto, hx⟩
      obtain ⟨D1, Dc, D2, Dk, rfl, H_⟩ := H.resTm hx hto
      clear H hx hto
      have H := H_
      clear H_
      refine hK_ _ _ (fun _ => H.sub (by simp)) (fun hR_ => ?_)
      replace hR_ := hR_ (by decide)
      refine wpL_do (i := 12) rfl (by kernel_rfl) (by rfl) (fun K_ hK_ => ?_)
      refine wp_storeH rfl (by go_simp <;> first | rfl | exact ⟨rfl, rfl⟩) (by go_simp <;> first | rfl | exact ⟨rfl, rfl⟩) H (by (repeat (first | with_reducible exact Upd.head | with_reducible apply Upd.tail))) (by exact aggTerm) (by rfl) (by simp [Value.oneCell']) (fun w9 H_ => ?_)
      clear H; have H := H_; clear H_
      refine hK_ _ _ (fun _ => H.sub (by simp)) (fun hR_ => ?_)
      replace hR_ := hR_ (by decide)
      refine wpL_reads (is := [(13, ?v2_0)]) (by kernel_rfl) (Nat.le_of_ble_eq_true rfl) (by intro _ _ d_ _ _ h_; cases d_ <;> exact h_) (by kernel_rfl) hR_ (fun w_ hw_ => ?h2_) ?_
      case h2_ =>
        have ho_ := hw_.old0.1; have hz_ := hw_.old0.2; have hr_ := hw_.rules; clear hw_; simp only [Rules, and_true] at hr_; go_split_ands
        (repeat (first | with_reducible exact RdOps.nil | (refine RdOps.run rfl (by rfl) ?_ ?_; (focus (first | (go_simp; done) | (go_simp; with_reducible rfl))); simp only [List.getElem_toArray, List.getElem_cons_zero, List.getElem_cons_succ, Act.put, List.setIfInBounds_toArray, List.set_cons_zero, List.set_cons_succ]) | (refine RdOps.skip rfl (by rfl) ?_; simp only [List.getElem_toArray, List.getElem_cons_zero, List.getElem_cons_succ, Act.put, List.setIfInBounds_toArray, List.set_cons_zero, List.set_cons_succ])))
      simp only [rdMark, rdAct, List.map_cons, List.map_nil, List.length_cons, List.length_nil, Nat.reduceAdd, Nat.reduceSub, Nat.zero_add, List.getElem?_toArray, List.getElem?_cons_zero, List.getElem?_cons_succ, Option.bind_some, Act.put, List.setIfInBounds_toArray, List.set_cons_zero, List.set_cons_succ]
      refine wpL_done (by kernel_rfl) ?_ _
      go_wp2_with fail
      refine endH (by (repeat (first | with_reducible exact H | with_reducible exact H0_ | with_reducible apply Hp.alloc | with_reducible apply Hp.allocMap | with_reducible apply Hp.drew | with_reducible apply Hp.drewN | with_reducible apply Hp.set)); (try any_goals (repeat (first | with_reducible exact Upd.head | with_reducible apply Upd.tail)))) ?_
      clear H; intro w8 H; (try simp only [size_drew_, size_drewN_, World.size_alloc, World.size_setCell, List.set_cons_zero, List.set_cons_succ] at H)
      have hr_ := H.rules; simp only [Rules, and_true] at hr_; have hd_ := H.dif; simp only [Dif, Neq, and_true] at hd_; obtain ⟨ho_, hz_⟩ := H.old0
      rw [HP.out]
      refine bodyPost_ret (v := .tuple #[.agg #[.int .i64 (liftT by_[m] b 0).k, .int .i64 (liftT by_[m] b 0).n, .int .i64 (liftT by_[m] b 0).a, .slice D1 (liftT by_[m] b 0).ls.length Dc, .slice D2 (liftT by_[m] b 0).ks.length Dk], .bool true]) (by simp [results, Tryd.results72, go_sem, hr_]) rfl ?_
      obtain ⟨v', he, hto, hx⟩ := H.ptm (t := liftT by_[m] b 0) (by (repeat (first | with_reducible exact Pick.head | with_reducible apply Pick.tail)))
      obtain rfl := Ending.returned.inj he
      exact ⟨_, rfl, hto, hx⟩
    · have HP : Hid (putF by_ b t = .inr (1, t.n - by_.length, t.a, t.ls)) := by
        unfold Hid putF
        rw [if_pos ⟨hk1, hle⟩, dif_neg (by have := HK.out; omega), hk1, show wrap64 (t.n - by_.length) = t.n - by_.length by have := HK.out; unfold wrap64; omega]
      have hge : (by_.length : Int) ≤ t.n := by have := HK.out; omega
      obtain ⟨_, _, _, _, he, i1, i2, i3, hls, hks⟩ := RC.tm.1 HRC.out
      simp only [List.cons.injEq, Value.slice.injEq, and_true, true_and] at he
      obtain ⟨⟨rfl, rfl⟩, rfl, rfl⟩ := he
      have HLS := Lib.hid hls
      have HKK := Lib.hid hks
      have HI3 := Lib.hid i3
      clear hls hks i1 i2 i3
      have hr_ := H.rules; simp only [Rules, and_true] at hr_; have hd_ := H.dif; simp only [Dif, Neq, and_true] at hd_; obtain ⟨ho_, hz_⟩ := H.old0
      go_wp2_with fail
      clear hr_ hd_ ho_ hz_
      refine callsH (by (repeat (first | with_reducible exact H | with_reducible exact H0_ | with_reducible apply Hp.alloc | with_reducible apply Hp.allocMap | with_reducible apply Hp.drew | with_reducible apply Hp.drewN | with_reducible apply Hp.set)); (try any_goals (repeat (first | with_reducible exact Upd.head | with_reducible apply Upd.tail)))) ?_
      clear H; intro w3 H; (try simp only [size_drew_, size_drewN_, World.size_alloc, World.size_setCell, List.set_cons_zero, List.set_cons_succ] at H)
      refine (own_calls (t := .mk 1 (t.n - by_.length) t.a t.ls t.ks) (S := fun x => S x ∧ x < w.heap.size) ⟨A0, ca, K0, ck, rfl, RC.tm.2 ⟨_, _, _, _, rfl, (by simp only [Tm.k_mk]; unfold inI; omega), (by simp only [Tm.n_mk]; unfold inI; omega), HI3.out, HLS.out.bd.ext0 H.ext, HKK.out.bd.ext0 H.ext⟩⟩).mono ?_
      rintro e w4 ⟨v, rfl, ⟨A4, c4, L, K4, k4, rfl, j1, j2, j3, hro, hnd, hks4⟩, hx⟩
      simp only [Tm.k_mk, Tm.n_mk, Tm.a_mk, Tm.ls_mk, Tm.ks_mk] at j1 j2 j3 hro hks4 ⊢
      replace H := H.res hx hro hnd
      clear hx hro hnd
      have HKS := Lib.hid (RC.back H.ext _ _ hks4)
      have HJ := Lib.hid (And.intro j1 (And.intro j2 j3))
      clear hks4 j1 j2 j3
      have hr_ := H.rules; simp only [Rules, and_true] at hr_; have hd_ := H.dif; simp only [Dif, Neq, and_true] at hd_; obtain ⟨ho_, hz_⟩ := H.old0
      go_wp2_with ((with_reducible refine atStore (t := 26) ?_); go_must (refine wpList_storeH (t := 26) rfl rfl (by go_simp <;> first | rfl | exact ⟨rfl, rfl⟩) (by go_simp <;> first | rfl | exact ⟨rfl, rfl⟩) (by exact Hp.norm (by (repeat (first | with_reducible exact H | with_reducible exact H0_ | with_reducible apply Hp.alloc | with_reducible apply Hp.allocMap | with_reducible apply Hp.drew | with_reducible apply Hp.drewN | with_reducible apply Hp.set)); (try any_goals (repeat (first | with_reducible exact Upd.head | with_reducible apply Upd.tail)))) (by ((try simp only [size_drew_, size_drewN_, World.size_alloc, World.size_setCell, List.set_cons_zero, List.set_cons_succ, List.nil_append, List.cons_append]) <;> rfl))) (by (repeat (first | with_reducible exact Upd.head | with_reducible apply Upd.tail))) (by exact aggTerm) (by rfl) (by simp [Value.oneCell']) ?_; clear H; intro w7 H; (try simp only [size_drew_, size_drewN_, World.size_alloc, World.size_setCell, List.set_cons_zero, List.set_cons_succ] at H); (try clear hr_ hd_ ho_ hz_); have hr_ := H.rules; simp only [Rules, and_true] at hr_; have hd_ := H.dif; simp only [Dif, Neq, and_true] at hd_; obtain ⟨ho_, hz_⟩ := H.old0))
      (try clear hr_ hd_ ho_ hz_)
      have hr_ := H.rules; simp only [Rules, and_true] at hr_; have hd_ := H.dif; simp only [Dif, Neq, and_true] at hd_; obtain ⟨ho_, hz_⟩ := H.old0
      refine bodyPost_ret (v := .tuple #[.agg #[.int .i64 1, .int .i64 (t.n - by_.length), .int .i64 t.a, .slice A4 t.ls.length c4, .slice K4 t.ks.length k4], .bool false]) (by simp [results, Tryd.results72, go_sem, hr_]) rfl ?_
      rw [HP.out]
      obtain ⟨L2, hro2, hnd2⟩ := H.acc (e := 33) (z := 1) (ds := t.ls.map lvD) (v := .slice A4 t.ls.length c4) (by (repeat (first | with_reducible exact Pick.head | with_reducible apply Pick.tail)))
      exact ⟨_, rfl, ⟨A4, c4, L2, K4, k4, rfl, HJ.out.1, HJ.out.2.1, HJ.out.2.2, hro2, hnd2, HKS.out.ext0 H.ext⟩, H.ext⟩
  · have HP : Hid (putF by_ b t = .inr (t.k, t.n, t.a, t.ls)) := by
      unfold Hid putF
      rw [if_neg h1]
    have hkk : ∃ kk, kk = wrap64 (t.n - b) := ⟨_, rfl⟩
    obtain ⟨kk, hkk⟩ := hkk
    rw [← hkk]
    clear hkk
    by_cases hk1 : t.k = 1
    · have hdec : decide (b ≤ t.n) = false := by simpa using fun e => h1 ⟨hk1, e⟩
      rw [hdec]
      clear h1 hdec
      have HP1 : Hid (putF by_ b t = .inr (1, t.n, t.a, t.ls)) := by unfold Hid; rw [HP.out, hk1]
      clear HP
      have HP := HP1
      clear HP1
      have hrc1 := HRC.out
      rw [hk1] at hrc1
      obtain ⟨_, _, _, _, he, i1, i2, i3, hls, hks⟩ := RC.tm.1 HRC.out
      simp only [List.cons.injEq, Value.slice.injEq, and_true, true_and] at he
      obtain ⟨⟨rfl, rfl⟩, rfl, rfl⟩ := he
      have HLS := Lib.hid hls
      have HKK := Lib.hid hks
      have HI3 := Lib.hid i3
      have HI2 := Lib.hid i2
      clear hls hks i1 i2 i3 hrc1
      have hr_ := H.rules; simp only [Rules, and_true] at hr_; have hd_ := H.dif; simp only [Dif, Neq, and_true] at hd_; obtain ⟨ho_, hz_⟩ := H.old0
      go_wp2_with fail
      clear hr_ hd_ ho_ hz_
      refine callsH (by (repeat (first | with_reducible exact H | with_reducible exact H0_ | with_reducible apply Hp.alloc | with_reducible apply Hp.allocMap | with_reducible apply Hp.drew | with_reducible apply Hp.drewN | with_reducible apply Hp.set)); (try any_goals (repeat (first | with_reducible exact Upd.head | with_reducible apply Upd.tail)))) ?_
      clear H; intro w3 H; (try simp only [size_drew_, size_drewN_, World.size_alloc, World.size_setCell, List.set_cons_zero, List.set_cons_succ] at H)
      refine (own_calls (t := .mk 1 (t.n) t.a t.ls t.ks) (S := fun x => S x ∧ x < w.heap.size) ⟨A0, ca, K0, ck, rfl, RC.tm.2 ⟨_, _, _, _, rfl, (by simp only [Tm.k_mk]; unfold inI; omega), HI2.out, HI3.out, HLS.out.bd.ext0 H.ext, HKK.out.bd.ext0 H.ext⟩⟩).mono ?_
      rintro e w4 ⟨v, rfl, ⟨A4, c4, L, K4, k4, rfl, j1, j2, j3, hro, hnd, hks4⟩, hx⟩
      simp only [Tm.k_mk, Tm.n_mk, Tm.a_mk, Tm.ls_mk, Tm.ks_mk] at j1 j2 j3 hro hks4 ⊢
      replace H := H.res hx hro hnd
      clear hx hro hnd
      have HKS := Lib.hid (RC.back H.ext _ _ hks4)
      have HJ := Lib.hid (And.intro j1 (And.intro j2 j3))
      clear hks4 j1 j2 j3
      have hr_ := H.rules; simp only [Rules, and_true] at hr_; have hd_ := H.dif; simp only [Dif, Neq, and_true] at hd_; obtain ⟨ho_, hz_⟩ := H.old0
      go_wp2_with ((with_reducible refine atStore (t := 26) ?_); go_must (refine wpList_storeH (t := 26) rfl rfl (by go_simp <;> first | rfl | exact ⟨rfl, rfl⟩) (by go_simp <;> first | rfl | exact ⟨rfl, rfl⟩) (by exact Hp.norm (by (repeat (first | with_reducible exact H | with_reducible exact H0_ | with_reducible apply Hp.alloc | with_reducible apply Hp.allocMap | with_reducible apply Hp.drew | with_reducible apply Hp.drewN | with_reducible apply Hp.set)); (try any_goals (repeat (first | with_reducible exact Upd.head | with_reducible apply Upd.tail)))) (by ((try simp only [size_drew_, size_drewN_, World.size_alloc, World.size_setCell, List.set_cons_zero, List.set_cons_succ, List.nil_append, List.cons_append]) <;> rfl))) (by (repeat (first | with_reducible exact Upd.head | with_reducible apply Upd.tail))) (by exact aggTerm) (by rfl) (by simp [Value.oneCell']) ?_; clear H; intro w7 H; (try simp only [size_drew_, size_drewN_, World.size_alloc, World.size_setCell, List.set_cons_zero, List.set_cons_succ] at H); (try clear hr_ hd_ ho_ hz_); have hr_ := H.rules; simp only [Rules, and_true] at hr_; have hd_ := H.dif; simp only [Dif, Neq, and_true] at hd_; obtain ⟨ho_, hz_⟩ := H.old0))
      (try clear hr_ hd_ ho_ hz_)
      have hr_ := H.rules; simp only [Rules, and_true] at hr_; have hd_ := H.dif; simp only [Dif, Neq, and_true] at hd_; obtain ⟨ho_, hz_⟩ := H.old0
      refine bodyPost_ret (v := .tuple #[.agg #[.int .i64 1, .int .i64 (t.n), .int .i64 t.a, .slice A4 t.ls.length c4, .slice K4 t.ks.length k4], .bool false]) (by simp [results, Tryd.results72, go_sem, hr_]) rfl ?_
      rw [HP.out]
      obtain ⟨L2, hro2, hnd2⟩ := H.acc (e := 33) (z := 1) (ds := t.ls.map lvD) (v := .slice A4 t.ls.length c4) (by (repeat (first | with_reducible exact Pick.head | with_reducible apply Pick.tail)))
      exact ⟨_, rfl, ⟨A4, c4, L2, K4, k4, rfl, HJ.out.1, HJ.out.2.1, HJ.out.2.2, hro2, hnd2, HKS.out.ext0 H.ext⟩, H.ext⟩
    · clear h1
      obtain ⟨_, _, _, _, he, i1, i2, i3, hls, hks⟩ := RC.tm.1 HRC.out
      simp only [List.cons.injEq, Value.slice.injEq, and_true, true_and] at he
      obtain ⟨⟨rfl, rfl⟩, rfl, rfl⟩ := he
      have HLS := Lib.hid hls
      have HKK := Lib.hid hks
      have HI3 := Lib.hid i3
      have HI2 := Lib.hid i2
      have HI1 := Lib.hid i1
      clear hls hks i1 i2 i3
      have hr_ := H.rules; simp only [Rules, and_true] at hr_; have hd_ := H.dif; simp only [Dif, Neq, and_true] at hd_; obtain ⟨ho_, hz_⟩ := H.old0
      go_wp2_with fail
      clear hr_ hd_ ho_ hz_
      refine callsH (by (repeat (first | with_reducible exact H | with_reducible exact H0_ | with_reducible apply Hp.alloc | with_reducible apply Hp.allocMap | with_reducible apply Hp.drew | with_reducible apply Hp.drewN | with_reducible apply Hp.set)); (try any_goals (repeat (first | with_reducible exact Upd.head | with_reducible apply Upd.tail)))) ?_
      clear H; intro w3 H; (try simp only [size_drew_, size_drewN_, World.size_alloc, World.size_setCell, List.set_cons_zero, List.set_cons_succ] at H)
      refine (own_calls (t := .mk t.k (t.n) t.a t.ls t.ks) (S := fun x => S x ∧ x < w.heap.size) ⟨A0, ca, K0, ck, rfl, RC.tm.2 ⟨_, _, _, _, rfl, HI1.out, HI2.out, HI3.out, HLS.out.bd.ext0 H.ext, HKK.out.bd.ext0 H.ext⟩⟩).mono ?_
      rintro e w4 ⟨v, rfl, ⟨A4, c4, L, K4, k4, rfl, j1, j2, j3, hro, hnd, hks4⟩, hx⟩
      simp only [Tm.k_mk, Tm.n_mk, Tm.a_mk, Tm.ls_mk, Tm.ks_mk] at j1 j2 j3 hro hks4 ⊢
      replace H := H.res hx hro hnd
      clear hx hro hnd
      have HKS := Lib.hid (RC.back H.ext _ _ hks4)
      have HJ := Lib.hid (And.intro j1 (And.intro j2 j3))
      clear hks4 j1 j2 j3
      have hr_ := H.rules; simp only [Rules, and_true] at hr_; have hd_ := H.dif; simp only [Dif, Neq, and_true] at hd_; obtain ⟨ho_, hz_⟩ := H.old0
      go_wp2_with ((with_reducible refine atStore (t := 26) ?_); go_must (refine wpList_storeH (t := 26) rfl rfl (by go_simp <;> first | rfl | exact ⟨rfl, rfl⟩) (by go_simp <;> first | rfl | exact ⟨rfl, rfl⟩) (by exact Hp.norm (by (repeat (first | with_reducible exact H | with_reducible exact H0_ | with_reducible apply Hp.alloc | with_reducible apply Hp.allocMap | with_reducible apply Hp.drew | with_reducible apply Hp.drewN | with_reducible apply Hp.set)); (try any_goals (repeat (first | with_reducible exact Upd.head | with_reducible apply Upd.tail)))) (by ((try simp only [size_drew_, size_drewN_, World.size_alloc, World.size_setCell, List.set_cons_zero, List.set_cons_succ, List.nil_append, List.cons_append]) <;> rfl))) (by (repeat (first | with_reducible exact Upd.head | with_reducible apply Upd.tail))) (by exact aggTerm) (by rfl) (by simp [Value.oneCell']) ?_; clear H; intro w7 H; (try simp only [size_drew_, size_drewN_, World.size_alloc, World.size_setCell, List.set_cons_zero, List.set_cons_succ] at H); (try clear hr_ hd_ ho_ hz_); have hr_ := H.rules; simp only [Rules, and_true] at hr_; have hd_ := H.dif; simp only [Dif, Neq, and_true] at hd_; obtain ⟨ho_, hz_⟩ := H.old0))
      (try clear hr_ hd_ ho_ hz_)
      have hr_ := H.rules; simp only [Rules, and_true] at hr_; have hd_ := H.dif; simp only [Dif, Neq, and_true] at hd_; obtain ⟨ho_, hz_⟩ := H.old0
      refine bodyPost_ret (v := .tuple #[.agg #[.int .i64 t.k, .int .i64 (t.n), .int .i64 t.a, .slice A4 t.ls.length c4, .slice K4 t.ks.length k4], .bool false]) (by simp [results, Tryd.results72, go_sem, hr_]) rfl ?_
      rw [HP.out]
      obtain ⟨L2, hro2, hnd2⟩ := H.acc (e := 33) (z := 1) (ds := t.ls.map lvD) (v := .slice A4 t.ls.length c4) (by (repeat (first | with_reducible exact Pick.head | with_reducible apply Pick.tail)))
      exact ⟨_, rfl, ⟨A4, c4, L2, K4, k4, rfl, HJ.out.1, HJ.out.2.1, HJ.out.2.2, hro2, hnd2, HKS.out.ext0 H.ext⟩, H.ext⟩
set_option maxRecDepth 100000 in
set_option maxHeartbeats 2000000 in
theorem put_calls {S Sb : Nat → Prop} {t : Tm} {w : World} {v : Value} {by_ : List Tm} {A : Option Addr} {n c : Nat} (hT : Tab w) (h : TV w S t v) (hby : RC w Sb (.l 26 5 (by_.map Tm.d)) [.slice A n c]) (hn : n = by_.length) (hd : depthT t ≤ 4611686018427387904) : Calls Tryd.prog 29 #[v, .slice A n c] w (PTm w (putT t by_)) := by
  subst hn
  obtain ⟨A0, ca, K0, ck, rfl, hrc⟩ := h
  have HT := Lib.hid hT
  have HRC := Lib.hid hrc
  have HBY := Lib.hid hby
  have HD := Lib.hid hd
  clear hT hrc hby hd
  have hmf : ∀ (fn : Fn) (first cap : Array Value) (w : World), (Instr.makeFunc fn first cap).run Tryd.prog w = .ok (.func fn first cap) w := fun _ _ _ _ => rfl
  go_enter Tryd.func29, Tryd.ntmps29
  go_wp2_with fail
  have H := Hp.start no w
  refine callsH (by (repeat (first | with_reducible exact H | with_reducible exact H0_ | with_reducible apply Hp.alloc | with_reducible apply Hp.allocMap | with_reducible apply Hp.drew | with_reducible apply Hp.drewN | with_reducible apply Hp.set)); (try any_goals (repeat (first | with_reducible exact Upd.head | with_reducible apply Upd.tail)))) ?_
  clear H; intro w1 H; (try simp only [size_drew_, size_drewN_, World.size_alloc, World.size_setCell, List.set_cons_zero, List.set_cons_succ] at H)
  refine (walkG_calls GPut.kid (put1_calls (w.heap.size + 1) by_ Sb A c) t _ S 0 _ ⟨(H.blk (g := w.heap.size + 1) (by (repeat (first | with_reducible exact Pick.head | with_reducible apply Pick.tail)))).cells 0, HBY.out.ext0 H.ext⟩ (HT.out.ext H.ext) ⟨by omega, by have := HD.out; omega⟩ ⟨_, _, _, _, rfl, HRC.out.ext0 H.ext⟩).mono ?_
  rintro e w_ ⟨v, rfl, hto, hx⟩
  obtain ⟨D1, Dc, D2, Dk, rfl, H_⟩ := H.resTm hx hto
  clear H hx hto
  have H := H_
  clear H_
  have hr_ := H.rules; simp only [Rules, and_true] at hr_; have hd_ := H.dif; simp only [Dif, Neq, and_true] at hd_; obtain ⟨ho_, hz_⟩ := H.old0
  go_wp2_with ((with_reducible refine atStore (t := 26) ?_); go_must (refine wpList_storeH (t := 26) rfl rfl (by go_simp <;> first | rfl | exact ⟨rfl, rfl⟩) (by go_simp <;> first | rfl | exact ⟨rfl, rfl⟩) (by exact Hp.norm (by (repeat (first | with_reducible exact H | with_reducible exact H0_ | with_reducible apply Hp.alloc | with_reducible apply Hp.allocMap | with_reducible apply Hp.drew | with_reducible apply Hp.drewN | with_reducible apply Hp.set)); (try any_goals (repeat (first | with_reducible exact Upd.head | with_reducible apply Upd.tail)))) (by ((try simp only [size_drew_, size_drewN_, World.size_alloc, World.size_setCell, List.set_cons_zero, List.set_cons_succ, List.nil_append, List.cons_append]) <;> rfl))) (by (repeat (first | with_reducible exact Upd.head | with_reducible apply Upd.tail))) (by exact aggTerm) (by rfl) (by simp [Value.oneCell']) ?_; clear H; intro w7 H; (try simp only [size_drew_, size_drewN_, World.size_alloc, World.size_setCell, List.set_cons_zero, List.set_cons_succ] at H); (try clear hr_ hd_ ho_ hz_); have hr_ := H.rules; simp only [Rules, and_true] at hr_; have hd_ := H.dif; simp only [Dif, Neq, and_true] at hd_; obtain ⟨ho_, hz_⟩ := H.old0))
  clear hr_ hd_ ho_ hz_
  refine endH (by (repeat (first | with_reducible exact H | with_reducible exact H0_ | with_reducible apply Hp.alloc | with_reducible apply Hp.allocMap | with_reducible apply Hp.drew | with_reducible apply Hp.drewN | with_reducible apply Hp.set)); (try any_goals (repeat (first | with_reducible exact Upd.head | with_reducible apply Upd.tail)))) ?_
  clear H; intro w8 H; (try simp only [size_drew_, size_drewN_, World.size_alloc, World.size_setCell, List.set_cons_zero, List.set_cons_succ] at H)
  unfold putT
  exact bodyPost_ret (v := .agg #[_, _, _, _, _]) (Res.one Tryd.results29 (H.resBox (by (repeat (first | with_reducible exact Pick.head | with_reducible apply Pick.tail))) aggTerm rfl rfl)) rfl (H.ptm (by (repeat (first | with_reducible exact Pick.head | with_reducible apply Pick.tail))))
end Go.Proofs.YtmedomglemllnaaDoor
