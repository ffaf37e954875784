/- source.Decl and reference 11's Decl: what they compute, and that they tell the same; no program in sight. No statement of the seat is proved here. -/
import Derived.Test.YtgbokmphbimihaaDoorSrcSpec
import Derived.Test.YtgbokmphbimihaaDoorMgSrcBare
import Derived.Test.YtgbokmphbimihaaDoorMgMap
import Derived.Test.YtgbokmphbimihaaDoorFst
namespace Go.Proofs.YtgbokmphbimihaaDoor
set_option linter.unusedSimpArgs false
set_option linter.unusedVariables false
open Go.RowKit

/-- What over.row asks. -/
def rowQ (ds : List Dc) (n sc sf : Int) : Nat → List Tm → Bool
  | _, [] => true
  | i, t :: ts => srcQ ds n (wrap64 (sc + (i : Int))) sf t && rowQ ds n sc sf (i + 1) ts
theorem rowQ_drop {ds : List Dc} {n sc sf : Int} {ts : List Tm} {j : Nat} (h : j < ts.length) : rowQ ds n sc sf j (ts.drop j) = (srcQ ds n (wrap64 (sc + (j : Int))) sf ts[j] && rowQ ds n sc sf (j + 1) (ts.drop (j + 1))) := by
  rw [List.drop_eq_getElem_cons h, rowQ]
def mbQ (ds : List Dc) (n : Int) (np : Nat) (m : Mb) : Bool := decide ((m.index.length : Int) ≤ 6) && rowQ ds n (np : Int) 0 0 m.index
def ctQ (ds : List Dc) (n : Int) (np nm : Nat) (c : Ct) : Bool := decide (0 ≤ c.member) && decide (c.member < nm) && srcQ ds n (np : Int) (nm : Int) c.ty
def headQ (n : Int) (d : Dc) : Bool := decide ((d.params.length : Int) ≤ 6) && lvRight n d.sort && decide ((0 : Int) < d.members.length) && decide ((d.members.length : Int) ≤ 8) && decide ((d.ctors.length : Int) ≤ 16) && bareQ d.ty && bareQ d.body
/-- What over.block asks. -/
def blockQ (ds : List Dc) (n : Int) (d : Dc) : Bool := headQ n d && (rowQ ds n 0 0 0 d.params && ((d.members.all (mbQ ds n d.params.length)) && d.ctors.all (ctQ ds n d.params.length d.members.length)))
def noneQ (d : Dc) : Bool := decide ((d.params.length : Int) + d.sort.length + d.members.length + d.ctors.length = 0)
/-- What source.Decl tells. -/
def declQ (ds : List Dc) (d : Dc) : Bool := decide (0 ≤ d.levels ∧ d.levels < 8) && (if d.kind = 3 then blockQ ds d.levels d else noneQ d && (srcQ ds d.levels 0 0 d.ty && (if d.kind = 1 then bareQ d.body else decide (d.kind = 2) && srcQ ds d.levels 0 0 d.body)))
/-- What reference 11's block tells. -/
def blockR (ds : List Dc) (d : Dc) : Bool := decide ((d.params.length : Int) ≤ 6) && (rowQ ds d.levels 0 0 0 d.params && (lvRight d.levels d.sort && (decide ((1 : Int) ≤ d.members.length) && (decide ((d.members.length : Int) ≤ 8) && (decide ((d.ctors.length : Int) ≤ 16) && ((d.members.all (mbQ ds d.levels d.params.length)) && ((d.ctors.all (ctQ ds d.levels d.params.length d.members.length)) && (bareQ d.ty && bareQ d.body))))))))
/-- What reference 11's Decl tells. -/
def declR (ds : List Dc) (d : Dc) : Bool := decide (0 ≤ d.levels ∧ d.levels ≤ 7) && (if d.kind = 3 then blockR ds d else noneQ d && (srcQ ds d.levels 0 0 d.ty && (if d.kind = 1 then bareQ d.body else decide (d.kind = 2) && srcQ ds d.levels 0 0 d.body)))
theorem block_eq (ds : List Dc) (d : Dc) : blockQ ds d.levels d = blockR ds d := by
  have e : decide ((0 : Int) < d.members.length) = decide ((1 : Int) ≤ d.members.length) := by
    by_cases h : (0 : Int) < d.members.length
    · rw [decide_eq_true h, decide_eq_true (by omega)]
    · rw [decide_eq_false h, decide_eq_false (by omega)]
  unfold blockQ blockR headQ
  rw [e]
  generalize decide ((d.params.length : Int) ≤ 6) = a
  generalize rowQ ds d.levels 0 0 0 d.params = b
  generalize lvRight d.levels d.sort = c
  generalize decide ((1 : Int) ≤ d.members.length) = x
  generalize decide ((d.members.length : Int) ≤ 8) = f
  generalize decide ((d.ctors.length : Int) ≤ 16) = g
  generalize d.members.all _ = i
  generalize d.ctors.all _ = j
  generalize bareQ d.ty = k
  generalize bareQ d.body = l
  cases a <;> cases b <;> cases c <;> cases x <;> cases f <;> cases g <;> cases i <;> cases j <;> cases k <;> cases l <;> rfl
theorem decl_eq (ds : List Dc) (d : Dc) : declQ ds d = declR ds d := by
  have e : decide (0 ≤ d.levels ∧ d.levels < 8) = decide (0 ≤ d.levels ∧ d.levels ≤ 7) := by
    by_cases h : 0 ≤ d.levels ∧ d.levels < 8
    · rw [decide_eq_true h, decide_eq_true (by omega)]
    · rw [decide_eq_false h, decide_eq_false (by omega)]
  unfold declQ declR
  rw [e, block_eq]
end Go.Proofs.YtgbokmphbimihaaDoor
/- source: over.asks, over.row, Right: contracts. No statement of the seat is proved here. -/
namespace Go.Proofs.YtgbokmphbimihaaDoor
set_option linter.unusedSimpArgs false
set_option linter.unusedVariables false
open Go.RowKit

abbrev overV (A : Option Addr) (nd c : Nat) (n sf : Int) : Value := .agg #[.slice A nd c, .int .i64 n, .int .i64 sf]
set_option maxRecDepth 100000 in
set_option maxHeartbeats 4000000 in
theorem asks_calls {w : World} {S S1 : Nat → Prop} {ds : List Dc} {t : Tm} {v : Value} {A : Option Addr} {c : Nat} {n sf sc : Int} (hT : Tab w) (h : RC w S (.l 37 16 (ds.map Dc.d)) [.slice A ds.length c]) (ht : TV w S1 t v) :
    Calls Tryd.prog 66 #[overV A ds.length c n sf, .int .i64 sc, v] w (PWr w (srcQ ds n sc sf t)) := by
  obtain ⟨A0, ca, K0, ck, rfl, hrc⟩ := ht
  have HV := Lib.hid hrc
  have HT := Lib.hid hT
  have HH := Lib.hid h
  obtain ⟨s1, hs1⟩ : ∃ s1 : Int, s1 = if sc < 0 then 0 else sc := ⟨_, rfl⟩
  obtain ⟨s2, hs2⟩ : ∃ s2 : Int, s2 = if s1 < 1099511627776 then s1 else 1099511627776 := ⟨_, rfl⟩
  have HC : Hid (clamp sc = s2) := by unfold Hid clamp; rw [hs2, hs1]
  have m1 : (if (0 : Int) < sc then sc else 0) = s1 := by rw [hs1]; split <;> split <;> omega
  have m2 : (if sc < (0 : Int) then 0 else sc) = s1 := hs1.symm
  have m3 : (if sc ≤ (0 : Int) then 0 else sc) = s1 := by rw [hs1]; split <;> split <;> omega
  have m4 : (if (0 : Int) ≤ sc then sc else 0) = s1 := by rw [hs1]; split <;> split <;> omega
  have k1 : (if s1 < (1099511627776 : Int) then s1 else 1099511627776) = s2 := hs2.symm
  have k2 : (if (1099511627776 : Int) < s1 then 1099511627776 else s1) = s2 := by rw [hs2]; split <;> split <;> omega
  have k3 : (if s1 ≤ (1099511627776 : Int) then s1 else 1099511627776) = s2 := by rw [hs2]; split <;> split <;> omega
  have k4 : (if (1099511627776 : Int) ≤ s1 then 1099511627776 else s1) = s2 := by rw [hs2]; split <;> split <;> omega
  clear hrc hT h hs1 hs2
  cases hr : rightQ t
  · have HE : Hid (srcQ ds n sc sf t = false) := by unfold Hid srcQ; rw [hr]; rfl
    have HR := Lib.hid hr
    clear hr m1 m2 m3 m4 k1 k2 k3 k4
    rw [HE.out]
    go_enter Tryd.func66, Tryd.ntmps66
    go_wp2_with fail
    have H := Hp.start no w
    refine callsH (by (repeat (first | with_reducible exact H | with_reducible exact H0_ | with_reducible apply Hp.alloc | with_reducible apply Hp.allocMap | with_reducible apply Hp.drew | with_reducible apply Hp.drewN | with_reducible apply Hp.set)); (try any_goals (repeat (first | with_reducible exact Upd.head | with_reducible apply Upd.tail)))) ?_
    clear H; intro w1 H; (try simp only [size_drew_, size_drewN_, World.size_alloc, World.size_setCell, List.set_cons_zero, List.set_cons_succ] at H)
    refine (tmRight_calls (HT.out.ext H.ext) ⟨A0, ca, K0, ck, rfl, HV.out.ext0 H.ext⟩).mono ?_
    rw [HR.out]
    rintro e w_ ⟨rfl, hx⟩
    replace H := H.call hx
    clear hx
    have hr_ := H.rules; simp only [Rules, and_true] at hr_; have hd_ := H.dif; simp only [Dif, Neq, and_true] at hd_; obtain ⟨ho_, hz_⟩ := H.old0
    go_wp2_with fail
    clear hr_ hd_ ho_ hz_
    refine callsH (by (repeat (first | with_reducible exact H | with_reducible exact H0_ | with_reducible apply Hp.alloc | with_reducible apply Hp.allocMap | with_reducible apply Hp.drew | with_reducible apply Hp.drewN | with_reducible apply Hp.set)); (try any_goals (repeat (first | with_reducible exact Upd.head | with_reducible apply Upd.tail)))) ?_
    clear H; intro w2 H; (try simp only [size_drew_, size_drewN_, World.size_alloc, World.size_setCell, List.set_cons_zero, List.set_cons_succ] at H)
    refine (smust1 H).mono ?_
    rintro e w3 hm
    have hx := hm.2
    obtain rfl := hm.no rfl
    clear hm
    replace H := H.call hx
    exact ⟨rfl, rfl, H.ext⟩
  · have HE : Hid (srcQ ds n sc sf t = allQ ds n sf s2 t) := by unfold Hid srcQ; rw [hr, HC.out]; rfl
    have HN := Lib.hid (ok_nn t 1 (rightQ_ok hr))
    have HR := Lib.hid hr
    clear hr
    rw [HE.out]
    go_enter Tryd.func66, Tryd.ntmps66
    go_wp2_with fail
    have H := Hp.start no w
    refine callsH (by (repeat (first | with_reducible exact H | with_reducible exact H0_ | with_reducible apply Hp.alloc | with_reducible apply Hp.allocMap | with_reducible apply Hp.drew | with_reducible apply Hp.drewN | with_reducible apply Hp.set)); (try any_goals (repeat (first | with_reducible exact Upd.head | with_reducible apply Upd.tail)))) ?_
    clear H; intro w1 H; (try simp only [size_drew_, size_drewN_, World.size_alloc, World.size_setCell, List.set_cons_zero, List.set_cons_succ] at H)
    refine (tmRight_calls (HT.out.ext H.ext) ⟨A0, ca, K0, ck, rfl, HV.out.ext0 H.ext⟩).mono ?_
    rw [HR.out]
    rintro e w_ ⟨rfl, hx⟩
    replace H := H.call hx
    clear hx
    have hr_ := H.rules; simp only [Rules, and_true] at hr_; have hd_ := H.dif; simp only [Dif, Neq, and_true] at hd_; obtain ⟨ho_, hz_⟩ := H.old0
    go_wp2_with fail
    clear hr_ hd_ ho_ hz_
    refine callsH (by (repeat (first | with_reducible exact H | with_reducible exact H0_ | with_reducible apply Hp.alloc | with_reducible apply Hp.allocMap | with_reducible apply Hp.drew | with_reducible apply Hp.drewN | with_reducible apply Hp.set)); (try any_goals (repeat (first | with_reducible exact Upd.head | with_reducible apply Upd.tail)))) ?_
    clear H; intro w2 H; (try simp only [size_drew_, size_drewN_, World.size_alloc, World.size_setCell, List.set_cons_zero, List.set_cons_succ] at H)
    refine (smust1 H).mono ?_
    rintro e w3 hm
    have hx := hm.2
    obtain rfl := hm.yes rfl
    clear hm
    replace H := H.call hx
    clear hx
    have hr_ := H.rules; simp only [Rules, and_true] at hr_; have hd_ := H.dif; simp only [Dif, Neq, and_true] at hd_; obtain ⟨ho_, hz_⟩ := H.old0
    go_wp2_with fail
    clear hr_ hd_ ho_ hz_
    refine callsH (by (repeat (first | with_reducible exact H | with_reducible exact H0_ | with_reducible apply Hp.alloc | with_reducible apply Hp.allocMap | with_reducible apply Hp.drew | with_reducible apply Hp.drewN | with_reducible apply Hp.set)); (try any_goals (repeat (first | with_reducible exact Upd.head | with_reducible apply Upd.tail)))) ?_
    clear H; intro w5 H; (try simp only [size_drew_, size_drewN_, World.size_alloc, World.size_setCell, List.set_cons_zero, List.set_cons_succ] at H)
    refine (all_calls t _ _ _ ds _ A c n sf s2 (HT.out.ext H.ext) (HH.out.ext0 H.ext) ⟨A0, ca, K0, ck, rfl, HV.out.ext0 H.ext⟩ HN.out).mono ?_
    rintro e w6 hm
    have hx := hm.2
    have HM := Lib.hid hm
    clear hm
    replace H := H.call hx
    clear hx
    cases hq : allQ ds n sf s2 t
    · obtain rfl := HM.out.no hq
      exact ⟨rfl, by first | rfl | (rw [hq]; rfl), H.ext⟩
    · obtain rfl := HM.out.yes hq
      have HQ := Lib.hid hq
      clear hq
      go_wp2_with fail
      go_end0
      exact ⟨by first | (rw [HQ.out]; rfl) | rfl, H.ext⟩
theorem aggOver : AggT Tryd.prog 100 3 := ⟨_, Tryd.underlying100, rfl, by kernel_rfl⟩
set_option maxRecDepth 100000 in
set_option maxHeartbeats 4000000 in
theorem row11_calls {w : World} {S S1 : Nat → Prop} {ds : List Dc} {ts : List Tm} {A B : Option Addr} {c k cb : Nat} {n sf sc : Int} (hT : Tab w) (h : RC w S (.l 37 16 (ds.map Dc.d)) [.slice A ds.length c]) (hb : RC w S1 (.l 26 5 (ts.map Tm.d)) [.slice B k cb]) (hk : k = ts.length) :
    Calls Tryd.prog 135 #[overV A ds.length c n sf, .int .i64 sc, .slice B k cb] w (PWr w (rowQ ds n sc sf 0 ts)) := by
  subst hk
  have hM := hb.lenM
  have HT := Lib.hid hT
  have HH := Lib.hid h
  clear hT h
  go_enter Tryd.func135, Tryd.ntmps135
  go_wp2_with fail
  have H := Hp.start no w
  go_loopw [10] (fun i wr => ∃ j : Nat, j ≤ ts.length ∧ i = .int .i64 j ∧ Hid (rowQ ds n sc sf j (ts.drop j) = rowQ ds n sc sf 0 ts) ∧ Hp no w wr [.box w.heap.size 100 [.slice A ds.length c, .int .i64 n, .int .i64 sf]]) (fun i _ => ts.length - (intOf i).toNat)
  case atStart => exact ⟨0, Nat.zero_le _, rfl, Lib.hid (by simp), by (repeat (first | with_reducible exact H | with_reducible exact H0_ | with_reducible apply Hp.alloc | with_reducible apply Hp.allocMap | with_reducible apply Hp.drew | with_reducible apply Hp.drewN | with_reducible apply Hp.set)); (try any_goals (repeat (first | with_reducible exact Upd.head | with_reducible apply Upd.tail)))⟩
  case round =>
    clear H
    obtain ⟨j, hj, rfl, HS, H⟩ := hrel
    by_cases hlt : j < ts.length
    · obtain ⟨b, o, A1, ca1, K1, ck1, rfl, hb1, hS, hd, p0, p1, p2, p3, p4⟩ := hb.atTm hlt
      have HD := Lib.hid hd
      have HE := Lib.hid (rowQ_drop (ds := ds) (n := n) (sc := sc) (sf := sf) hlt)
      clear hd
      have hr_ := H.rules; simp only [Rules, and_true] at hr_; have hd_ := H.dif; simp only [Dif, Neq, and_true] at hd_; obtain ⟨ho_, hz_⟩ := H.old0
      go_wp2_with ((with_reducible refine atStore (t := 26) ?_); go_must (refine wpList_storeH (t := 26) rfl rfl (by go_simp <;> first | rfl | exact ⟨rfl, rfl⟩) (by go_simp <;> first | rfl | exact ⟨rfl, rfl⟩) (by exact Hp.norm (by (repeat (first | with_reducible exact H | with_reducible exact H0_ | with_reducible apply Hp.alloc | with_reducible apply Hp.allocMap | with_reducible apply Hp.drew | with_reducible apply Hp.drewN | with_reducible apply Hp.set)); (try any_goals (repeat (first | with_reducible exact Upd.head | with_reducible apply Upd.tail)))) (by ((try simp only [size_drew_, size_drewN_, World.size_alloc, World.size_setCell, List.set_cons_zero, List.set_cons_succ, List.nil_append, List.cons_append]) <;> rfl))) (by (repeat (first | with_reducible exact Upd.head | with_reducible apply Upd.tail))) (by exact aggTerm) (by rfl) (by simp [Value.oneCell']) ?_; clear H; intro w7 H; (try simp only [size_drew_, size_drewN_, World.size_alloc, World.size_setCell, List.set_cons_zero, List.set_cons_succ] at H); (try clear hr_ hd_ ho_ hz_); have hr_ := H.rules; simp only [Rules, and_true] at hr_; have hd_ := H.dif; simp only [Dif, Neq, and_true] at hd_; obtain ⟨ho_, hz_⟩ := H.old0))
      (try clear hr_ hd_ ho_ hz_)
      refine callsH (by (repeat (first | with_reducible exact H | with_reducible exact H0_ | with_reducible apply Hp.alloc | with_reducible apply Hp.allocMap | with_reducible apply Hp.drew | with_reducible apply Hp.drewN | with_reducible apply Hp.set)); (try any_goals (repeat (first | with_reducible exact Upd.head | with_reducible apply Upd.tail)))) ?_
      clear H; intro w9 H; (try simp only [size_drew_, size_drewN_, World.size_alloc, World.size_setCell, List.set_cons_zero, List.set_cons_succ] at H)
      refine (asks_calls (t := ts[j]) (HT.out.ext H.ext) (HH.out.ext0 H.ext) ⟨_, _, _, _, rfl, HD.out.ext0 H.ext⟩).mono ?_
      rintro e w2 hm
      have hx := hm.2
      have HM := Lib.hid hm
      clear hm
      replace H := H.call hx
      clear hx
      cases hq : srcQ ds n (wrap64 (sc + (j : Int))) sf ts[j]
      · obtain rfl := HM.out.no hq
        exact ⟨rfl, by rw [← HS.out, HE.out, hq]; rfl, H.ext⟩
      · obtain rfl := HM.out.yes hq
        have HQ := Lib.hid hq
        clear hq
        go_wp2_with fail
        go_roundw
        case rel => exact ⟨j + 1, by omega, by first | go_num | rfl | simp, Lib.hid (by rw [← HS.out, HE.out, HQ.out]; rfl), (H.arr (by (repeat (first | with_reducible exact Arr.nil | refine Arr.cons (by (repeat (first | with_reducible exact Pick.head | with_reducible apply Pick.tail))) ?_)) <;> exact Arr.of_subl (by (repeat (first | with_reducible exact Subl.refl _ | with_reducible apply Subl.drop)))))⟩
        case measure => simp [intOf]; omega
    · go_wp2_with fail
      go_end0
      have e : rowQ ds n sc sf 0 ts = true := by rw [← HS.out, List.drop_eq_nil_of_le (by omega), rowQ]
      exact ⟨by rw [e]; rfl, H.ext⟩
set_option maxRecDepth 100000 in
set_option maxHeartbeats 4000000 in
theorem srcRight1_calls {w : World} {S S1 : Nat → Prop} {ds : List Dc} {t : Tm} {A A0 K0 : Option Addr} {c ca ck g0 g1 g2 g3 g4 : Nat} {n sf sc : Int} (hT : Tab w) (h : RC w S (.l 37 16 (ds.map Dc.d)) [.slice A ds.length c]) (ht : RC w S1 t.d [.int .i64 t.k, .int .i64 t.n, .int .i64 t.a, .slice A0 t.ls.length ca, .slice K0 t.ks.length ck])
    (c0 : Blk w g0 44 #[.slice A ds.length c]) (c1 : Blk w g1 3 #[.int .i64 n]) (c2 : Blk w g2 3 #[.int .i64 sf]) (c3 : Blk w g3 3 #[.int .i64 sc]) (c4 : Blk w g4 26 #[.int .i64 t.k, .int .i64 t.n, .int .i64 t.a, .slice A0 t.ls.length ca, .slice K0 t.ks.length ck]) :
    Calls Tryd.prog 65 #[.pointer (some ⟨g0, 0, none⟩), .pointer (some ⟨g1, 0, none⟩), .pointer (some ⟨g2, 0, none⟩), .pointer (some ⟨g3, 0, none⟩), .pointer (some ⟨g4, 0, none⟩)] w (PWr w (srcQ ds n sc sf t)) := by
  have d0 := c0.cells
  have d1 := c1.cells
  have d2 := c2.cells
  have d3 := c3.cells
  have d4 := c4.cells
  have HT := Lib.hid hT
  have HH := Lib.hid h
  have HV := Lib.hid ht
  clear hT h ht c0 c1 c2 c3 c4
  go_enter Tryd.func65, Tryd.ntmps65
  go_wp2_with fail
  refine (asks_calls (t := t) HT.out HH.out ⟨_, _, _, _, rfl, HV.out⟩).mono ?_
  rintro e w2 hm
  cases hq : srcQ ds n sc sf t
  · obtain rfl := hm.no hq
    exact ⟨rfl, by first | rfl | (rw [hq]; rfl), hm.2⟩
  · obtain rfl := hm.yes hq
    have hx := hm.2
    have HQ := Lib.hid hq
    clear hq hm
    go_wp2_with fail
    go_end0
    exact ⟨by first | (rw [HQ.out]; rfl) | rfl, hx⟩
set_option maxRecDepth 100000 in
set_option maxHeartbeats 4000000 in
theorem srcRight_calls {w : World} {S S1 : Nat → Prop} {ds : List Dc} {t : Tm} {v : Value} {A : Option Addr} {k c : Nat} {n sf sc : Int} (hT : Tab w) (h : RC w S (.l 37 16 (ds.map Dc.d)) [.slice A k c]) (hk : k = ds.length) (ht : TV w S1 t v) :
    Calls Tryd.prog 25 #[.slice A k c, .int .i64 n, .int .i64 sc, .int .i64 sf, v] w (PV w (.bool (srcQ ds n sc sf t))) := by
  subst hk
  obtain ⟨A0, ca, K0, ck, rfl, hrc⟩ := ht
  have HV := Lib.hid hrc
  have HT := Lib.hid hT
  have HH := Lib.hid h
  have hmf : ∀ (fn : Fn) (first cap : Array Value) (w : World), (Instr.makeFunc fn first cap).run Tryd.prog w = .ok (.func fn first cap) w := fun _ _ _ _ => rfl
  clear hrc hT h
  go_enter Tryd.func25, Tryd.ntmps25
  go_wp2_with fail
  have H := Hp.start no w
  refine callsH (by (repeat (first | with_reducible exact H | with_reducible exact H0_ | with_reducible apply Hp.alloc | with_reducible apply Hp.allocMap | with_reducible apply Hp.drew | with_reducible apply Hp.drewN | with_reducible apply Hp.set)); (try any_goals (repeat (first | with_reducible exact Upd.head | with_reducible apply Upd.tail)))) ?_
  clear H; intro w1 H; (try simp only [size_drew_, size_drewN_, World.size_alloc, World.size_setCell, List.set_cons_zero, List.set_cons_succ] at H)
  refine (held_calls (q := srcQ ds n sc sf t) (enters_of Tryd.func65 (by kernel_rfl) rfl) (fun w' hx => srcRight1_calls (HT.out.ext (H.ext.seq hx)) (HH.out.ext0 (H.ext.seq hx)) (HV.out.ext0 (H.ext.seq hx)) (((H.call hx).blk (by (repeat (first | with_reducible exact Pick.head | with_reducible apply Pick.tail))))) (((H.call hx).blk (by (repeat (first | with_reducible exact Pick.head | with_reducible apply Pick.tail))))) (((H.call hx).blk (by (repeat (first | with_reducible exact Pick.head | with_reducible apply Pick.tail))))) (((H.call hx).blk (by (repeat (first | with_reducible exact Pick.head | with_reducible apply Pick.tail))))) (((H.call hx).blk (by (repeat (first | with_reducible exact Pick.head | with_reducible apply Pick.tail))))))).mono ?_
  rintro e w_ ⟨rfl, hx⟩
  replace H := H.call hx
  clear hx
  obtain ⟨q, hq⟩ : ∃ q, q = srcQ ds n sc sf t := ⟨_, rfl⟩
  rw [← hq]
  have HQQ := Lib.hid hq
  clear hq
  go_wp2_with fail
  go_ret
  exact ⟨by rw [← HQQ.out]; rfl, H.ext⟩
end Go.Proofs.YtgbokmphbimihaaDoor
/- source: over.block, its loops: contract. No statement of the seat is proved here. -/
namespace Go.Proofs.YtgbokmphbimihaaDoor
set_option linter.unusedSimpArgs false
set_option linter.unusedVariables false
open Go.RowKit

/-- The cells of a declaration, one by one. -/
theorem RC.dc16 {w : World} {S : Nat → Prop} {d : Dc} {cs : List Value} (h : RC w S d.d cs) : ∃ Aty cty Kty kty Abody cbody Kbody kbody Aparams cparams Asort csort Amembers cmembers Actors cctors, cs.length = 16 ∧ cs[0]? = some (.int .i64 d.kind) ∧ cs[1]? = some (.int .i64 d.levels) ∧ cs[2]? = some (.int .i64 d.ty.k) ∧ cs[3]? = some (.int .i64 d.ty.n) ∧ cs[4]? = some (.int .i64 d.ty.a) ∧ cs[5]? = some (.slice Aty d.ty.ls.length cty) ∧ cs[6]? = some (.slice Kty d.ty.ks.length kty) ∧ cs[7]? = some (.int .i64 d.body.k) ∧ cs[8]? = some (.int .i64 d.body.n) ∧ cs[9]? = some (.int .i64 d.body.a) ∧ cs[10]? = some (.slice Abody d.body.ls.length cbody) ∧ cs[11]? = some (.slice Kbody d.body.ks.length kbody) ∧ cs[12]? = some (.slice Aparams d.params.length cparams) ∧ cs[13]? = some (.slice Asort d.sort.length csort) ∧ cs[14]? = some (.slice Amembers d.members.length cmembers) ∧ cs[15]? = some (.slice Actors d.ctors.length cctors) ∧ inI d.levels ∧ RC w S d.ty.d [.int .i64 d.ty.k, .int .i64 d.ty.n, .int .i64 d.ty.a, .slice Aty d.ty.ls.length cty, .slice Kty d.ty.ks.length kty] ∧ RC w S d.body.d [.int .i64 d.body.k, .int .i64 d.body.n, .int .i64 d.body.a, .slice Abody d.body.ls.length cbody, .slice Kbody d.body.ks.length kbody] ∧ RC w S (.l 26 5 (d.params.map Tm.d)) [.slice Aparams d.params.length cparams] ∧ RC w S (.l 117 2 (d.sort.map ptD)) [.slice Asort d.sort.length csort] ∧ RC w S (.l 42 1 (d.members.map Mb.d)) [.slice Amembers d.members.length cmembers] ∧ RC w S (.l 40 6 (d.ctors.map Ct.d)) [.slice Actors d.ctors.length cctors] := by
  obtain ⟨Aty, cty, Kty, kty, Abody, cbody, Kbody, kbody, Aparams, cparams, Asort, csort, Amembers, cmembers, Actors, cctors, rfl, hr⟩ := RC.dc.1 h
  exact ⟨_, _, _, _, _, _, _, _, _, _, _, _, _, _, _, _, rfl, rfl, rfl, rfl, rfl, rfl, rfl, rfl, rfl, rfl, rfl, rfl, rfl, rfl, rfl, rfl, rfl, hr.2.1, hr.2.2.1, hr.2.2.2.1, hr.2.2.2.2.1, hr.2.2.2.2.2.1, hr.2.2.2.2.2.2.1, hr.2.2.2.2.2.2.2⟩
theorem alls_take {α : Type} {p : α → Bool} {xs : List α} {k : Nat} (hk : k < xs.length) (h : (xs.take k).all p = true) (e : p xs[k] = true) : (xs.take (k + 1)).all p = true := by
  rw [List.take_succ_eq_append_getElem hk, List.all_append, h]; simp [e]
theorem alls_not {α : Type} {p : α → Bool} {xs : List α} {k : Nat} (hk : k < xs.length) (e : p xs[k] = false) : xs.all p = false := by
  rw [Bool.eq_false_iff]
  intro h
  rw [List.all_eq_true] at h
  have := h _ (List.getElem_mem hk)
  rw [e] at this
  cases this
theorem aggCtor : AggT Tryd.prog 40 6 := ⟨_, Tryd.underlying40, rfl, by kernel_rfl⟩
theorem aggMember : AggT Tryd.prog 42 1 := ⟨_, Tryd.underlying42, rfl, by kernel_rfl⟩
abbrev ovC (A : Option Addr) (nd c : Nat) (n sf : Int) : List Value := [.slice A nd c, .int .i64 n, .int .i64 sf]
set_option maxRecDepth 100000 in
set_option maxHeartbeats 8000000 in
/-- The constructors. -/
theorem block10 {w W : World} {S S1 : Nat → Prop} {ds : List Dc} {d : Dc} {cs : List Value} {A : Option Addr} {c gO gD : Nat} {n sf : Int} {x0 x1 x5 x6 x7 x8 x9 x10 x11 x12 x13 x14 x15 x16 x17 x18 x19 x20 x21 x22 x23 x24 x25 x26 x27 x28 x29 x30 x31 x32 x33 x34 x35 x36 x37 x38 x39 x40 x41 x42 x43 x44 x45 x46 x47 x48 x49 x50 x51 x52 x53 x54 x55 x56 x57 x58 x59 x60 x61 x62 x63 x64 x65 x66 x67 x68 x69 x70 x71 x72 x73 x74 x75 x76 x77 x78 x79 x80 x81 x82 x83 x84 x85 x86 x87 x88 x89 : Value} (hT : Tab w) (h : RC w S (.l 37 16 (ds.map Dc.d)) [.slice A ds.length c]) (hd : RC w S1 d.d cs)
    (H : Hp no w W [.box gO 100 (ovC A ds.length c n sf), .box gD 37 cs]) :
    (fromN 10 (Tryd.f75.body.getD .skip)).wp Tryd.prog (bodyPost Tryd.prog Tryd.f75 (PWr w (d.ctors.all (ctQ ds n d.params.length d.members.length)))) { tmps := #[x0, x1, .pointer (some ⟨gO, 0, none⟩), .pointer (some ⟨gD, 0, none⟩), .int .i64 d.params.length, x5, x6, x7, x8, x9, x10, x11, x12, x13, x14, x15, x16, x17, x18, x19, x20, x21, x22, x23, x24, x25, x26, x27, x28, x29, x30, x31, x32, x33, x34, x35, x36, x37, x38, x39, x40, x41, x42, x43, x44, x45, x46, x47, x48, x49, x50, x51, x52, x53, x54, x55, x56, x57, x58, x59, x60, x61, x62, x63, x64, x65, x66, x67, x68, x69, x70, x71, x72, x73, x74, x75, x76, x77, x78, x79, x80, x81, x82, x83, x84, x85, x86, x87, x88, x89], defers := [] } W := by
  obtain ⟨Aty, cty, Kty, kty, Abody, cbody, Kbody, kbody, Aparams, cparams, Asort, csort, Amembers, cmembers, Actors, cctors, hl, f0, f1, f2, f3, f4, f5, f6, f7, f8, f9, f10, f11, f12, f13, f14, f15, hiL, r1, r2, r3, r4, r5, r6⟩ := hd.dc16
  have hM5 := r5.lenM.1
  have hM6 := r6.lenM.1
  have HT := Lib.hid hT
  have HH := Lib.hid h
  have HL := Lib.hid hl
  clear hT h hl hd f0 f1 f2 f3 f4 f5 f6 f7 f8 f9 f10 f11 f12 f13 r1 r2 r3 r4 r5
  conv => arg 2; whnf
  have hr_ := H.rules; simp only [Rules, and_true] at hr_; have hd_ := H.dif; simp only [Dif, Neq, and_true] at hd_; obtain ⟨ho_, hz_⟩ := H.old0
  go_wp2_with fail
  (try clear hr_ hd_ ho_ hz_)
  refine codeH (by (repeat (first | with_reducible exact H | with_reducible exact H0_ | with_reducible apply Hp.alloc | with_reducible apply Hp.allocMap | with_reducible apply Hp.drew | with_reducible apply Hp.drewN | with_reducible apply Hp.set)); (try any_goals (repeat (first | with_reducible exact Upd.head | with_reducible apply Upd.tail)))) ?_
  clear H; intro w3 H; (try simp only [size_drew_, size_drewN_, World.size_alloc, World.size_setCell, List.set_cons_zero, List.set_cons_succ] at H)
  go_loopw [69] (fun i wr => ∃ j : Nat, j ≤ d.ctors.length ∧ i = .int .i64 j ∧ Hid ((d.ctors.take j).all (ctQ ds n d.params.length d.members.length) = true) ∧ Hp no w wr [.box gO 100 (ovC A ds.length c n d.members.length), .box gD 37 cs]) (fun i _ => d.ctors.length - (intOf i).toNat)
  case atStart => exact ⟨0, Nat.zero_le _, rfl, Lib.hid (by simp), (H.arr (by (repeat (first | with_reducible exact Arr.nil | refine Arr.cons (by (repeat (first | with_reducible exact Pick.head | with_reducible apply Pick.tail))) ?_)) <;> exact Arr.of_subl (by (repeat (first | with_reducible exact Subl.refl _ | with_reducible apply Subl.drop)))))⟩
  case round =>
    clear H
    obtain ⟨j, hj, rfl, HS, H⟩ := hrel
    by_cases hlt : j < d.ctors.length
    · obtain ⟨b, o, A1, ca1, K1, ck1, rfl, hb1, hS, hd, p0, p1, p2, p3, p4, p5⟩ := r6.atCt hlt
      have HTY : Hid (RC w S1 d.ctors[j].ty.d [.int .i64 d.ctors[j].ty.k, .int .i64 d.ctors[j].ty.n, .int .i64 d.ctors[j].ty.a, .slice A1 d.ctors[j].ty.ls.length ca1, .slice K1 d.ctors[j].ty.ks.length ck1]) := by
        obtain ⟨A2, ca2, K2, ck2, he, _, h2⟩ := RC.ct.1 hd
        simp only [List.cons.injEq, Value.slice.injEq, and_true, true_and] at he
        obtain ⟨⟨rfl, rfl⟩, rfl, rfl⟩ := he
        exact Lib.hid h2
      clear hd
      have hr_ := H.rules; simp only [Rules, and_true] at hr_; have hd_ := H.dif; simp only [Dif, Neq, and_true] at hd_; obtain ⟨ho_, hz_⟩ := H.old0
      go_wp2_with ((with_reducible refine atStore (t := 40) ?_); go_must (refine wpList_storeH (t := 40) rfl rfl (by go_simp <;> first | rfl | exact ⟨rfl, rfl⟩) (by go_simp <;> first | rfl | exact ⟨rfl, rfl⟩) (by exact Hp.norm (by (repeat (first | with_reducible exact H | with_reducible exact H0_ | with_reducible apply Hp.alloc | with_reducible apply Hp.allocMap | with_reducible apply Hp.drew | with_reducible apply Hp.drewN | with_reducible apply Hp.set)); (try any_goals (repeat (first | with_reducible exact Upd.head | with_reducible apply Upd.tail)))) (by ((try simp only [size_drew_, size_drewN_, World.size_alloc, World.size_setCell, List.set_cons_zero, List.set_cons_succ, List.nil_append, List.cons_append]) <;> rfl))) (by (repeat (first | with_reducible exact Upd.head | with_reducible apply Upd.tail))) (by exact aggCtor) (by rfl) (by simp [Value.oneCell']) ?_; clear H; intro w7 H; (try simp only [size_drew_, size_drewN_, World.size_alloc, World.size_setCell, List.set_cons_zero, List.set_cons_succ] at H); (try clear hr_ hd_ ho_ hz_); have hr_ := H.rules; simp only [Rules, and_true] at hr_; have hd_ := H.dif; simp only [Dif, Neq, and_true] at hd_; obtain ⟨ho_, hz_⟩ := H.old0))
      (try clear hr_ hd_ ho_ hz_)
      refine callsH (by (repeat (first | with_reducible exact H | with_reducible exact H0_ | with_reducible apply Hp.alloc | with_reducible apply Hp.allocMap | with_reducible apply Hp.drew | with_reducible apply Hp.drewN | with_reducible apply Hp.set)); (try any_goals (repeat (first | with_reducible exact Upd.head | with_reducible apply Upd.tail)))) ?_
      clear H; intro w8 H; (try simp only [size_drew_, size_drewN_, World.size_alloc, World.size_setCell, List.set_cons_zero, List.set_cons_succ] at H)
      refine (smust2 H).mono ?_
      rintro e w2 hm
      have hx := hm.2
      have HM := Lib.hid hm
      clear hm
      replace H := H.call hx
      clear hx
      by_cases q : 0 ≤ d.ctors[j].member ∧ d.ctors[j].member < d.members.length
      · obtain rfl := HM.out.yes (by simp [q.1, q.2])
        have HQ := Lib.hid q
        clear q
        have hr_ := H.rules; simp only [Rules, and_true] at hr_; have hd_ := H.dif; simp only [Dif, Neq, and_true] at hd_; obtain ⟨ho_, hz_⟩ := H.old0
        go_wp2_with fail
        (try clear hr_ hd_ ho_ hz_)
        refine callsH (by (repeat (first | with_reducible exact H | with_reducible exact H0_ | with_reducible apply Hp.alloc | with_reducible apply Hp.allocMap | with_reducible apply Hp.drew | with_reducible apply Hp.drewN | with_reducible apply Hp.set)); (try any_goals (repeat (first | with_reducible exact Upd.head | with_reducible apply Upd.tail)))) ?_
        clear H; intro w9 H; (try simp only [size_drew_, size_drewN_, World.size_alloc, World.size_setCell, List.set_cons_zero, List.set_cons_succ] at H)
        refine (asks_calls (t := d.ctors[j].ty) (HT.out.ext H.ext) (HH.out.ext0 H.ext) ⟨_, _, _, _, rfl, HTY.out.ext0 H.ext⟩).mono ?_
        clear HM
        rintro e w2 hm
        have hx := hm.2
        have HM := Lib.hid hm
        clear hm
        replace H := H.call hx
        clear hx
        have HC : Hid (ctQ ds n d.params.length d.members.length d.ctors[j] = srcQ ds n (d.params.length : Int) (d.members.length : Int) d.ctors[j].ty) := by
          unfold Hid ctQ
          rw [decide_eq_true HQ.out.1, decide_eq_true HQ.out.2]
          rfl
        cases hq : srcQ ds n (d.params.length : Int) (d.members.length : Int) d.ctors[j].ty
        · obtain rfl := HM.out.no hq
          exact ⟨rfl, by rw [alls_not hlt (HC.out.trans hq)]; rfl, H.ext⟩
        · obtain rfl := HM.out.yes hq
          have HQ2 := Lib.hid hq
          clear hq
          go_wp2_with fail
          go_roundw
          case rel => exact ⟨j + 1, by omega, by first | go_num | rfl | simp, Lib.hid (alls_take hlt HS.out (HC.out.trans HQ2.out)), (H.arr (by (repeat (first | with_reducible exact Arr.nil | refine Arr.cons (by (repeat (first | with_reducible exact Pick.head | with_reducible apply Pick.tail))) ?_)) <;> exact Arr.of_subl (by (repeat (first | with_reducible exact Subl.refl _ | with_reducible apply Subl.drop)))))⟩
          case measure => simp [intOf]; omega
      · have hno : (decide (0 ≤ d.ctors[j].member) && decide (d.ctors[j].member < d.members.length)) = false := by
          rw [Bool.eq_false_iff]
          intro h
          simp only [Bool.and_eq_true, decide_eq_true_eq] at h
          exact q h
        obtain rfl := HM.out.no hno
        refine ⟨rfl, ?_, H.ext⟩
        rw [alls_not (p := ctQ ds n d.params.length d.members.length) hlt (by unfold ctQ; rw [hno]; rfl)]
        rfl
    · go_wp2_with fail
      go_end0
      have e := HS.out
      rw [take_all hlt] at e
      exact ⟨by rw [e]; rfl, H.ext⟩
set_option maxRecDepth 100000 in
set_option maxHeartbeats 8000000 in
/-- The members, the constructors. -/
theorem block4 {w W : World} {S S1 : Nat → Prop} {ds : List Dc} {d : Dc} {cs : List Value} {A : Option Addr} {c gO gD : Nat} {n : Int} {x0 x1 x5 x6 x7 x8 x9 x10 x11 x12 x13 x14 x15 x16 x17 x18 x19 x20 x21 x22 x23 x24 x25 x26 x27 x28 x29 x30 x31 x32 x33 x34 x35 x36 x37 x38 x39 x40 x41 x42 x43 x44 x45 x46 x47 x48 x49 x50 x51 x52 x53 x54 x55 x56 x57 x58 x59 x60 x61 x62 x63 x64 x65 x66 x67 x68 x69 x70 x71 x72 x73 x74 x75 x76 x77 x78 x79 x80 x81 x82 x83 x84 x85 x86 x87 x88 x89 : Value} (hT : Tab w) (h : RC w S (.l 37 16 (ds.map Dc.d)) [.slice A ds.length c]) (hd : RC w S1 d.d cs) {K K1 : Act → World → Prop} {R : Bool} (hR : R = (d.members.all (mbQ ds n d.params.length) && d.ctors.all (ctQ ds n d.params.length d.members.length)))
    (hK1 : ∀ a w', (sndC (fromN 4 (Tryd.f75.body.getD .skip))).wp Tryd.prog (bodyPost Tryd.prog Tryd.f75 (PWr w R)) a w' → K1 a w')
    (hK : ∀ a w', (sndC (fstC (fromN 4 (Tryd.f75.body.getD .skip)))).wp Tryd.prog (Exit.then K1 (bodyPost Tryd.prog Tryd.f75 (PWr w R))) a w' → K a w')
    (H : Hp no w W [.box gO 100 (ovC A ds.length c n 0), .box gD 37 cs]) :
    (fstC (fstC (fromN 4 (Tryd.f75.body.getD .skip)))).wp Tryd.prog (Exit.then K (Exit.then K1 (bodyPost Tryd.prog Tryd.f75 (PWr w R)))) { tmps := #[x0, x1, .pointer (some ⟨gO, 0, none⟩), .pointer (some ⟨gD, 0, none⟩), .int .i64 d.params.length, x5, x6, x7, x8, x9, x10, x11, x12, x13, x14, x15, x16, x17, x18, x19, x20, x21, x22, x23, x24, x25, x26, x27, x28, x29, x30, x31, x32, x33, x34, x35, x36, x37, x38, x39, x40, x41, x42, x43, x44, x45, x46, x47, x48, x49, x50, x51, x52, x53, x54, x55, x56, x57, x58, x59, x60, x61, x62, x63, x64, x65, x66, x67, x68, x69, x70, x71, x72, x73, x74, x75, x76, x77, x78, x79, x80, x81, x82, x83, x84, x85, x86, x87, x88, x89], defers := [] } W := by
  obtain ⟨Aty, cty, Kty, kty, Abody, cbody, Kbody, kbody, Aparams, cparams, Asort, csort, Amembers, cmembers, Actors, cctors, hl, f0, f1, f2, f3, f4, f5, f6, f7, f8, f9, f10, f11, f12, f13, f14, f15, hiL, r1, r2, r3, r4, r5, r6⟩ := hd.dc16
  have hM5 := r5.lenM.1
  have HT := Lib.hid hT
  have HH := Lib.hid h
  have HL := Lib.hid hl
  have HD := Lib.hid hd
  clear hT h hl hd f0 f1 f2 f3 f4 f5 f6 f7 f8 f9 f10 f11 f12 f13 f15 r1 r2 r3 r4 r6
  have HR := Lib.hid hR
  clear hR
  conv => arg 2; whnf
  conv at hK1 => intro a w; arg 1; arg 2; whnf
  conv at hK => intro a w; arg 1; arg 2; whnf
  have hr_ := H.rules; simp only [Rules, and_true] at hr_; have hd_ := H.dif; simp only [Dif, Neq, and_true] at hd_; obtain ⟨ho_, hz_⟩ := H.old0
  go_wp2_with fail
  (try clear hr_ hd_ ho_ hz_)
  go_loopw [46] (fun i wr => ∃ j : Nat, j ≤ d.members.length ∧ i = .int .i64 j ∧ Hid ((d.members.take j).all (mbQ ds n d.params.length) = true) ∧ Hp no w wr [.box gO 100 (ovC A ds.length c n 0), .box gD 37 cs]) (fun i _ => d.members.length - (intOf i).toNat)
  case atStart => exact ⟨0, Nat.zero_le _, rfl, Lib.hid (by simp), (H.arr (by (repeat (first | with_reducible exact Arr.nil | refine Arr.cons (by (repeat (first | with_reducible exact Pick.head | with_reducible apply Pick.tail))) ?_)) <;> exact Arr.of_subl (by (repeat (first | with_reducible exact Subl.refl _ | with_reducible apply Subl.drop)))))⟩
  case round =>
    clear H
    obtain ⟨j, hj, rfl, HS, H⟩ := hrel
    by_cases hlt : j < d.members.length
    · obtain ⟨b, o, A1, ca1, rfl, hb1, hS, hdm, p0⟩ := r5.atMb hlt
      have HIX : Hid (RC w S1 (.l 26 5 (d.members[j].index.map Tm.d)) [.slice A1 d.members[j].index.length ca1]) := by
        obtain ⟨A2, ca2, he, h2⟩ := RC.mb.1 hdm
        simp only [List.cons.injEq, Value.slice.injEq, and_true, true_and] at he
        obtain ⟨rfl, rfl⟩ := he
        exact Lib.hid h2
      have hMi := HIX.out.lenM.1
      clear hdm
      have hr_ := H.rules; simp only [Rules, and_true] at hr_; have hd_ := H.dif; simp only [Dif, Neq, and_true] at hd_; obtain ⟨ho_, hz_⟩ := H.old0
      go_wp2_with fail
      (try clear hr_ hd_ ho_ hz_)
      refine callsH (by (repeat (first | with_reducible exact H | with_reducible exact H0_ | with_reducible apply Hp.alloc | with_reducible apply Hp.allocMap | with_reducible apply Hp.drew | with_reducible apply Hp.drewN | with_reducible apply Hp.set)); (try any_goals (repeat (first | with_reducible exact Upd.head | with_reducible apply Upd.tail)))) ?_
      clear H; intro w8 H; (try simp only [size_drew_, size_drewN_, World.size_alloc, World.size_setCell, List.set_cons_zero, List.set_cons_succ] at H)
      refine (smust1 H).mono ?_
      rintro e w2 hm
      have hx := hm.2
      have HM := Lib.hid hm
      clear hm
      replace H := H.call hx
      clear hx
      by_cases q : (d.members[j].index.length : Int) ≤ 6
      · obtain rfl := HM.out.yes (by simpa using q)
        have HQ := Lib.hid q
        clear q
        have hr_ := H.rules; simp only [Rules, and_true] at hr_; have hd_ := H.dif; simp only [Dif, Neq, and_true] at hd_; obtain ⟨ho_, hz_⟩ := H.old0
        go_wp2_with fail
        (try clear hr_ hd_ ho_ hz_)
        refine callsH (by (repeat (first | with_reducible exact H | with_reducible exact H0_ | with_reducible apply Hp.alloc | with_reducible apply Hp.allocMap | with_reducible apply Hp.drew | with_reducible apply Hp.drewN | with_reducible apply Hp.set)); (try any_goals (repeat (first | with_reducible exact Upd.head | with_reducible apply Upd.tail)))) ?_
        clear H; intro w9 H; (try simp only [size_drew_, size_drewN_, World.size_alloc, World.size_setCell, List.set_cons_zero, List.set_cons_succ] at H)
        refine (row11_calls (ts := d.members[j].index) (HT.out.ext H.ext) (HH.out.ext0 H.ext) (HIX.out.ext0 H.ext) rfl).mono ?_
        clear HM
        rintro e w2 hm
        have hx := hm.2
        have HM := Lib.hid hm
        clear hm
        replace H := H.call hx
        clear hx
        have HC : Hid (mbQ ds n d.params.length d.members[j] = rowQ ds n (d.params.length : Int) 0 0 d.members[j].index) := by
          unfold Hid mbQ
          rw [decide_eq_true HQ.out]
          rfl
        cases hq : rowQ ds n (d.params.length : Int) 0 0 d.members[j].index
        · obtain rfl := HM.out.no hq
          exact ⟨rfl, by rw [HR.out, alls_not hlt (HC.out.trans hq)]; rfl, H.ext⟩
        · obtain rfl := HM.out.yes hq
          have HQ2 := Lib.hid hq
          clear hq
          go_wp2_with fail
          go_roundw
          case rel => exact ⟨j + 1, by omega, by first | go_num | rfl | simp, Lib.hid (alls_take hlt HS.out (HC.out.trans HQ2.out)), (H.arr (by (repeat (first | with_reducible exact Arr.nil | refine Arr.cons (by (repeat (first | with_reducible exact Pick.head | with_reducible apply Pick.tail))) ?_)) <;> exact Arr.of_subl (by (repeat (first | with_reducible exact Subl.refl _ | with_reducible apply Subl.drop)))))⟩
          case measure => simp [intOf]; omega
      · obtain rfl := HM.out.no (by simpa using q)
        refine ⟨rfl, ?_, H.ext⟩
        rw [HR.out, alls_not (p := mbQ ds n d.params.length) hlt (by unfold mbQ; rw [decide_eq_false q]; rfl)]
        rfl
    · have e := HS.out
      rw [take_all hlt] at e
      have hr_ := H.rules; simp only [Rules, and_true] at hr_; have hd_ := H.dif; simp only [Dif, Neq, and_true] at hd_; obtain ⟨ho_, hz_⟩ := H.old0
      repeat ((fail_if_success (with_reducible (show Code.wp _ (Code.seq (Code.region 10 _ _) _) _ _ _))); go_step)
      (try clear hr_ hd_ ho_ hz_)
      rw [HR.out, e, Bool.true_and]
      exact block10 HT.out HH.out HD.out H
end Go.Proofs.YtgbokmphbimihaaDoor
