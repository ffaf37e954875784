/- A region that draws its order: several operations that only read, taken at once. No statement of the seat is proved here. -/
import Derived.Test.YtgbokmphbimihaaDoorHp
import Derived.Test.YtgbokmphbimihaaDoorMgMust0
import Derived.Shelf.Abstract
namespace Go.Proofs.YtgbokmphbimihaaDoor
set_option linter.unusedSimpArgs false
set_option linter.unusedVariables false
open Go.RowKit

section
variable {P : Program} {ops : Array Oper} {Q : Exit → Act → World → Prop} {md : Region.Mode} {S : World → Prop} {late : List Nat}
/-- Operations that only read, one behind the other: each yields its value, or its guard says no. -/
def RdOps (P : Program) (ops : Array Oper) (w : World) : List (Nat × Value) → Act → Prop
  | [], _ => True
  | x :: is, a => ∃ o, ops[x.1]? = some o ∧ ((Region.wanted o (yielded ops a.tmps) = true ∧ (execOp a.eval o).run P w = .ok (.value x.2) w) ∨ (Region.wanted o (yielded ops a.tmps) = false ∧ x.2 = undef)) ∧ RdOps P ops w is (a.put o.dst x.2)
/-- What has become of the slots. -/
def rdAct (ops : Array Oper) : List (Nat × Value) → Act → Act
  | [], a => a
  | x :: is, a => rdAct ops is (a.put ((ops[x.1]?).bind (·.dst)) x.2)
def rdMark : List Nat → Array Bool → Array Bool
  | [], l => l
  | i :: is, l => rdMark is (l.setIfInBounds i true)
def rdOK (md : Region.Mode) (ops : Array Oper) (late : List Nat) : List Nat → Array Bool → Bool
  | [], _ => true
  | i :: is, l => Region.free md ops l i && (Region.ready md ops l).contains i && waits md ops late i && closedB md ops l && rdOK md ops late is (l.setIfInBounds i true)
theorem RdOps.nil {w : World} {a : Act} : RdOps P ops w [] a := trivial
theorem RdOps.run {w : World} {a : Act} {i : Nat} {v : Value} {is : List (Nat × Value)} {o : Oper} (hi : ops[i]? = some o) (hw : Region.wanted o (yielded ops a.tmps) = true) (hr : (execOp a.eval o).run P w = .ok (.value v) w) (h : RdOps P ops w is (a.put o.dst v)) : RdOps P ops w ((i, v) :: is) a := ⟨o, hi, .inl ⟨hw, hr⟩, h⟩
theorem RdOps.skip {w : World} {a : Act} {i : Nat} {v : Value} {is : List (Nat × Value)} {o : Oper} (hi : ops[i]? = some o) (hw : Region.wanted o (yielded ops a.tmps) = false) (hv : v = undef) (h : RdOps P ops w is (a.put o.dst v)) : RdOps P ops w ((i, v) :: is) a := ⟨o, hi, .inr ⟨hw, hv⟩, h⟩
theorem wpL_reads_ {fuel : Nat} (hn : Region.noSelect ops = true) (hQ : ∀ c a d v w, Q (.panic c) (Act.put a d v) w → Q (.panic c) a w) : ∀ (is : List (Nat × Value)) (listed : Array Bool) (a : Act) (w : World),
    rdOK md ops late (is.map (·.1)) listed = true → S w → (∀ w, S w → RdOps P ops w is a) → wpL P md ops Q S late fuel (rdMark (is.map (·.1)) listed) (rdAct ops is a) w → wpL P md ops Q S late (fuel + is.length) listed a w
  | [], _, _, _, _, _, _, h => h
  | (i, v) :: is, listed, a, w, hk, hS, hr, h => by
    simp only [List.map_cons, rdOK, Bool.and_eq_true] at hk
    obtain ⟨⟨⟨⟨k1, k2⟩, k3⟩, k4⟩, k5⟩ := hk
    obtain ⟨o, ho, hv, hrest⟩ := hr w hS
    have hall : ∀ w, S w → ((Region.wanted o (yielded ops a.tmps) = true ∧ (execOp a.eval o).run P w = .ok (.value v) w) ∨ (Region.wanted o (yielded ops a.tmps) = false ∧ v = undef)) ∧ RdOps P ops w is (a.put o.dst v) := fun w hS => by
      obtain ⟨o', ho', h1, h2⟩ := hr w hS
      obtain rfl : o = o' := Option.some.inj (ho.symm.trans ho')
      exact ⟨h1, h2⟩
    have hgo : wpL P md ops Q S late (fuel + is.length) (listed.setIfInBounds i true) (a.put o.dst v) w := by
      refine wpL_reads_ hn hQ is _ _ w k5 hS (fun w hS => (hall w hS).2) ?_
      have e : rdAct ops ((i, v) :: is) a = rdAct ops is (a.put o.dst v) := by simp only [rdAct, ho, Option.bind_some]
      rw [← e]
      exact h
    rcases hv with ⟨hw, _⟩ | ⟨hw, rfl⟩
    · refine wpL_take ho (by simp only [hn, k1, k2, k3, k4, Bool.and_self]) (fun c a w => hQ c a _ _ w) hS hw (fun w hS => ?_) hgo
      rcases (hall w hS).1 with ⟨_, h1⟩ | ⟨h1, _⟩
      · exact h1
      · rw [hw] at h1; cases h1
    · exact wpL_skip ho (by simp only [hn, k1, k2, k3, k4, Bool.and_self]) (fun c a w => hQ c a _ _ w) hS hw hgo
/-- Operations that only read are taken, all at once. -/
theorem wpL_reads {n : Nat} {is : List (Nat × Value)} {listed : Array Bool} {a : Act} {w : World} (hn : Region.noSelect ops = true) (hl : is.length ≤ n) (hQ : ∀ c a d v w, Q (.panic c) (Act.put a d v) w → Q (.panic c) a w)
    (hk : rdOK md ops late (is.map (·.1)) listed = true) (hS : S w) (hr : ∀ w, S w → RdOps P ops w is a) (h : wpL P md ops Q S late (n - is.length) (rdMark (is.map (·.1)) listed) (rdAct ops is a) w) : wpL P md ops Q S late n listed a w := by
  have := wpL_reads_ hn hQ is listed a w hk hS hr h
  rwa [Nat.sub_add_cancel hl] at this
end
end Go.Proofs.YtgbokmphbimihaaDoor
/- level.Right: contract; the library's searches over parts. No statement of the seat is proved here. -/
namespace Go.Proofs.YtgbokmphbimihaaDoor
set_option linter.unusedSimpArgs false
set_option linter.unusedVariables false
open Go.RowKit

theorem any_take {α : Type} {p : α → Bool} {xs : List α} {k : Nat} (hk : k < xs.length) (h : (xs.take k).any p = false) (e : p xs[k] = false) : (xs.take (k + 1)).any p = false := by
  rw [List.take_succ_eq_append_getElem hk, List.any_append, h]; simp [e]
theorem any_at {α : Type} {p : α → Bool} {xs : List α} {k : Nat} (hk : k < xs.length) (e : p xs[k] = true) : xs.any p = true := List.any_eq_true.2 ⟨_, List.getElem_mem hk, e⟩
set_option maxRecDepth 100000 in
set_option maxHeartbeats 1000000 in
theorem index_parts {w : World} {S : Nat → Prop} {xs : List (Int × Int)} {A : Option Addr} {n c F bn : Nat} {p : Int × Int → Bool} (h : RC w S (.l 117 2 (xs.map ptD)) [.slice A n c]) (hn : n = xs.length)
    (eg : ∀ args w, (callFunc F args).run Tryd.prog w = .ok (.enter F args) w) (hf : ∀ x ∈ xs, ∀ w', Ext no w w' → Calls Tryd.prog F #[.agg #[.int .i64 x.1, .int .i64 x.2], .pointer (some ⟨bn, 0, none⟩)] w' (PV w' (.bool (p x)))) :
    Calls Tryd.prog 201 #[.slice A n c, .func (.func F) #[] #[.pointer (some ⟨bn, 0, none⟩)]] w fun e w' => ∃ i : Int, e = .returned (.int .i64 i) ∧ ((0 ≤ i) = (xs.any p = true)) ∧ Ext no w w' := by
  subst hn
  have hM := h.lenM
  have HF := Lib.hid hf
  clear hf
  go_enter Tryd.func201, Tryd.ntmps201
  go_wp2_with fail
  go_loopw [5, 8] (fun u i wr => ∃ k : Nat, k ≤ xs.length ∧ i = .int .i64 k ∧ (xs.take k).any p = false ∧ Ext no w wr) (fun _ i _ => xs.length - (intOf i).toNat)
  case atStart => exact ⟨0, Nat.zero_le _, rfl, by simp, Ext.refl _ _⟩
  case round =>
    obtain ⟨k, hk, rfl, hall, hext⟩ := hrel
    have HA := Lib.hid hall
    clear hall
    by_cases hlt : k < xs.length
    · obtain ⟨b, o, rfl, hb, hS, p0, p1⟩ := (h.ext0 hext).atPt hlt
      go_wp2_with fail
      refine (HF.out xs[k] (List.getElem_mem hlt) _ hext).mono ?_
      rintro e w1 ⟨rfl, hx⟩
      cases hq : p xs[k]
      · have HQ := Lib.hid hq
        clear hq
        go_wp2_with fail
        go_roundw
        case rel => exact ⟨k + 1, by omega, by first | go_num | rfl | simp, any_take hlt HA.out HQ.out, hext.seq hx⟩
        case measure => simp [intOf]; omega
      · have HQ := Lib.hid hq
        clear hq
        go_wp2_with fail
        go_ret
        exact ⟨k, rfl, by simp [any_at hlt HQ.out], hext.seq hx⟩
    · go_wp2_with fail
      go_ret
      refine ⟨-1, rfl, ?_, hext⟩
      have h1 := HA.out
      rw [take_all hlt] at h1
      simp [h1]
set_option maxRecDepth 100000 in
set_option maxHeartbeats 2000000 in
theorem contains_parts {w : World} {S : Nat → Prop} {xs : List (Int × Int)} {A : Option Addr} {n c F bn : Nat} {p : Int × Int → Bool} (h : RC w S (.l 117 2 (xs.map ptD)) [.slice A n c]) (hn : n = xs.length)
    (eg : ∀ args w, (callFunc F args).run Tryd.prog w = .ok (.enter F args) w) (hf : ∀ x ∈ xs, ∀ w', Ext no w w' → Calls Tryd.prog F #[.agg #[.int .i64 x.1, .int .i64 x.2], .pointer (some ⟨bn, 0, none⟩)] w' (PV w' (.bool (p x)))) :
    Calls Tryd.prog 182 #[.slice A n c, .func (.func F) #[] #[.pointer (some ⟨bn, 0, none⟩)]] w (PV w (.bool (xs.any p))) := by
  subst hn
  have hidx := index_parts h rfl eg hf
  have HI := Lib.hid hidx
  clear hidx hf
  go_enter Tryd.func182, Tryd.ntmps182
  go_wp2_with fail
  refine HI.out.mono ?_
  rintro e w1 ⟨i, rfl, hi, hx1⟩
  cases hq : xs.any p
  · have g : decide (0 ≤ i) = false := by rw [hq] at hi; simpa using hi
    have HQ := Lib.hid hq
    clear hi hq
    go_wp2_with fail
    go_ret
    exact ⟨by rw [HQ.out]; rfl, hx1⟩
  · have g : decide (0 ≤ i) = true := by rw [hq] at hi; simpa using hi
    have HQ := Lib.hid hq
    clear hi hq
    go_wp2_with fail
    go_ret
    exact ⟨by rw [HQ.out]; rfl, hx1⟩
theorem nan_calls {w : World} (a : Int) : Calls Tryd.prog 200 #[.int .i64 a] w (PV w (.bool false)) := by
  go_enter Tryd.func200, Tryd.ntmps200
  go_wp2_with fail
  go_ret
  exact ⟨by simp, Ext.refl _ _⟩
def cmpI (a b : Int) : Int := if a < b then -1 else if b < a then 1 else 0
set_option maxHeartbeats 1000000 in
theorem compare_calls {w : World} (a b : Int) : Calls Tryd.prog 181 #[.int .i64 a, .int .i64 b] w (PV w (.int .i64 (cmpI a b))) := by
  by_cases h1 : a < b
  · have HC : Hid (cmpI a b = -1) := by unfold Hid cmpI; rw [if_pos h1]
    go_enter Tryd.func181, Tryd.ntmps181
    go_wp2_with fail
    refine (nan_calls a).mono ?_
    rintro e w1 ⟨rfl, hx1⟩
    go_wp2_with fail
    refine (nan_calls b).mono ?_
    rintro e w2 ⟨rfl, hx2⟩
    go_wp2_with fail
    go_ret
    exact ⟨by rw [HC.out]; rfl, hx1.seq hx2⟩
  · by_cases h2 : b < a
    · have HC : Hid (cmpI a b = 1) := by unfold Hid cmpI; rw [if_neg h1, if_pos h2]
      go_enter Tryd.func181, Tryd.ntmps181
      go_wp2_with fail
      refine (nan_calls a).mono ?_
      rintro e w1 ⟨rfl, hx1⟩
      go_wp2_with fail
      refine (nan_calls b).mono ?_
      rintro e w2 ⟨rfl, hx2⟩
      go_wp2_with fail
      go_ret
      exact ⟨by rw [HC.out]; rfl, hx1.seq hx2⟩
    · have HC : Hid (cmpI a b = 0) := by unfold Hid cmpI; rw [if_neg h1, if_neg h2]
      go_enter Tryd.func181, Tryd.ntmps181
      go_wp2_with fail
      refine (nan_calls a).mono ?_
      rintro e w1 ⟨rfl, hx1⟩
      go_wp2_with fail
      refine (nan_calls b).mono ?_
      rintro e w2 ⟨rfl, hx2⟩
      go_wp2_with fail
      go_ret
      exact ⟨by rw [HC.out]; rfl, hx1.seq hx2⟩
set_option maxRecDepth 100000 in
set_option maxHeartbeats 1000000 in
/-- The first number that is not 0: of two in a row. -/
theorem or_calls {w : World} {g : Nat} {a b r : Int} (hr : Hid (r = if a = 0 then b else a)) (p0 : w.cell? ⟨g, 0, none⟩ = some (.int .i64 a)) (p1 : w.cell? ⟨g, 1, none⟩ = some (.int .i64 b)) :
    Calls Tryd.prog 180 #[.slice (some ⟨g, 0, none⟩) 2 2] w (PV w (.int .i64 r)) := by
  go_enter Tryd.func180, Tryd.ntmps180
  go_wp2_with fail
  have HP0 := Lib.hid p0
  have HP1 := Lib.hid p1
  clear p0 p1
  go_loopw [5, 8] (fun u i wr => ∃ k : Nat, k ≤ 2 ∧ i = .int .i64 k ∧ Hid (0 < k → a = 0) ∧ Hid (1 < k → b = 0) ∧ Ext no w wr) (fun _ i _ => 2 - (intOf i).toNat)
  case atStart => exact ⟨0, by omega, rfl, Lib.hid (by omega), Lib.hid (by omega), Ext.refl _ _⟩
  case round =>
    obtain ⟨k, hk, rfl, HA, HB, hext⟩ := hrel
    have q0 := hext.keep HP0.out
    have q1 := hext.keep HP1.out
    match k, hk with
    | 0, _ =>
      by_cases h0 : a = 0
      · have H0 := Lib.hid h0
        have hnn : (a != 0) = false := by simp [h0]
        clear h0
        go_wp2_with fail
        go_roundw
        case rel => exact ⟨1, by omega, by first | go_num | rfl | simp, Lib.hid fun _ => H0.out, Lib.hid (by omega), hext⟩
        case measure => simp [intOf]
      · have hnn : (a != 0) = true := by simpa using h0
        have H0 := Lib.hid h0
        clear h0
        go_wp2_with fail
        go_ret
        exact ⟨by rw [hr.out, if_neg H0.out]; rfl, hext⟩
    | 1, _ =>
      by_cases h1 : b = 0
      · have H1 := Lib.hid h1
        have hnn : (b != 0) = false := by simp [h1]
        clear h1
        go_wp2_with fail
        go_roundw
        case rel => exact ⟨2, by omega, by first | go_num | rfl | simp, Lib.hid fun _ => HA.out (by omega), Lib.hid fun _ => H1.out, hext⟩
        case measure => simp [intOf]
      · have hnn : (b != 0) = true := by simpa using h1
        clear h1
        go_wp2_with fail
        go_ret
        exact ⟨by rw [hr.out, if_pos (HA.out (by omega))]; rfl, hext⟩
    | 2, _ =>
      go_wp2_with fail
      go_ret
      exact ⟨by rw [hr.out, if_pos (HA.out (by omega)), HB.out (by omega)]; rfl, hext⟩
/-- One part ahead of another. -/
def ordP (a b : Int) : Int := if b < a then 1 else -1
set_option maxRecDepth 100000 in
set_option maxHeartbeats 1000000 in
theorem right1_calls {w : World} {a a' b b' : Int} : Calls Tryd.prog 179 #[.agg #[.int .i64 a, .int .i64 a'], .agg #[.int .i64 b, .int .i64 b']] w (PV w (.int .i64 (ordP a b))) := by
  go_enter Tryd.func179, Tryd.ntmps179
  go_wp2_with fail
  have H := Hp.start no w
  refine callsH (by (repeat (first | with_reducible exact H | with_reducible exact H0_ | with_reducible apply Hp.alloc | with_reducible apply Hp.allocMap | with_reducible apply Hp.drew | with_reducible apply Hp.drewN | with_reducible apply Hp.set)); (try any_goals (repeat (first | with_reducible exact Upd.head | with_reducible apply Upd.tail)))) ?_
  clear H; intro w1 H; (try simp only [size_drew_, size_drewN_, World.size_alloc, World.size_setCell, List.set_cons_zero, List.set_cons_succ] at H)
  refine (compare_calls a b).mono ?_
  rintro e w_ ⟨rfl, hx⟩
  replace H := H.call hx
  clear hx
  go_wp2_with fail
  refine callsH (by (repeat (first | with_reducible exact H | with_reducible exact H0_ | with_reducible apply Hp.alloc | with_reducible apply Hp.allocMap | with_reducible apply Hp.drew | with_reducible apply Hp.drewN | with_reducible apply Hp.set)); (try any_goals (repeat (first | with_reducible exact Upd.head | with_reducible apply Upd.tail)))) ?_
  clear H; intro w2 H; (try simp only [size_drew_, size_drewN_, World.size_alloc, World.size_setCell, List.set_cons_zero, List.set_cons_succ] at H)
  have hv : (if cmpI a b = 0 then (-1 : Int) else cmpI a b) = ordP a b := by
    unfold cmpI ordP
    by_cases h1 : a < b
    · rw [if_pos h1, if_neg (by omega), if_neg (by omega)]
    · rw [if_neg h1]
      by_cases h2 : b < a
      · rw [if_pos h2, if_neg (by omega), if_pos h2]
      · rw [if_neg h2, if_pos rfl, if_neg h2]
  refine (or_calls (r := ordP a b) (Lib.hid hv.symm) ((H.blk .head).cells 0) ((H.blk .head).cells 1)).mono ?_
  clear hv
  rintro e w3 ⟨rfl, hx⟩
  replace H := H.call hx
  clear hx
  go_wp2_with fail
  go_ret
  exact ⟨rfl, H.ext⟩
/-- Do parts rise, by their variables? -/
def rising : List (Int × Int) → Bool
  | a :: b :: r => decide (a.1 < b.1) && rising (b :: r)
  | _ => true
theorem rising_drop {xs : List (Int × Int)} {k : Nat} (h : k + 1 < xs.length) : rising (xs.drop k) = (decide ((xs[k]'(by omega)).1 < xs[k + 1].1) && rising (xs.drop (k + 1))) := by
  rw [List.drop_eq_getElem_cons h]
  conv => lhs; rw [List.drop_eq_getElem_cons (show k < xs.length by omega), List.drop_eq_getElem_cons h, rising]
theorem rising_not : ∀ {xs : List (Int × Int)} {k : Nat}, rising (xs.drop k) = false → rising xs = false
  | xs, 0, h => by simpa using h
  | [], k + 1, h => by simpa using h
  | [a], k + 1, h => by simp [rising] at h
  | a :: b :: r, k + 1, h => by
    rw [rising, rising_not (xs := b :: r) (k := k) (by simpa using h)]
    simp
theorem rising_one {xs : List (Int × Int)} {k : Nat} (h : xs.length ≤ k + 1) : rising (xs.drop k) = true := by
  have hl : (xs.drop k).length ≤ 1 := by simp; omega
  match hd : xs.drop k, hl with
  | [], _ => rfl
  | [a], _ => rfl
  | _ :: _ :: _, hl => exact absurd hl (by simp)
set_option maxRecDepth 100000 in
set_option maxHeartbeats 2000000 in
theorem sorted_parts {w : World} {S : Nat → Prop} {xs : List (Int × Int)} {A : Option Addr} {n c : Nat} (h : RC w S (.l 117 2 (xs.map ptD)) [.slice A n c]) (hn : n = xs.length) :
    Calls Tryd.prog 178 #[.slice A n c, .func (.func 179) #[] #[]] w (PV w (.bool (rising xs))) := by
  subst hn
  have hM := h.lenM
  go_enter Tryd.func178, Tryd.ntmps178
  go_wp2_with fail
  have H := Hp.start no w
  go_loopw [5] (fun i wr => ∃ j : Int, -1 ≤ j ∧ j < xs.length ∧ i = .int .i64 j ∧ rising (xs.drop j.toNat) = true ∧ Hp no w wr []) (fun i _ => (intOf i + 1).toNat)
  case atStart => exact ⟨(xs.length : Int) - 1, by omega, by omega, by first | go_num | rfl | simp, rising_one (by omega), H⟩
  case round =>
    clear H
    obtain ⟨j, h1, h2, rfl, hr, H⟩ := hrel
    have HR := Lib.hid hr
    clear hr
    by_cases h0 : 0 < j
    · obtain ⟨K, rfl⟩ : ∃ K : Nat, j = (K : Int) := ⟨j.toNat, by omega⟩
      obtain ⟨k, hk1⟩ : ∃ k : Nat, (K : Int) - 1 = (k : Int) := ⟨K - 1, by omega⟩
      have hK : K < xs.length := by omega
      have hk : k < xs.length := by omega
      have HK : Hid (K = k + 1) := by unfold Hid; omega
      obtain ⟨b, o, rfl, hb, hS, _, _, p0, p1⟩ := h.atPt hK
      obtain ⟨b', o', he, hb', hS', _, _, q0, q1⟩ := h.atPt hk
      simp only [Option.some.injEq, Addr.mk.injEq, and_true] at he
      obtain ⟨rfl, rfl⟩ := he
      have HD : Hid (rising (xs.drop k) = (decide (xs[k].1 < xs[K].1) && rising (xs.drop K))) := by
        have e := HK.out
        subst e
        exact rising_drop hK
      have HX : Hid (rising (xs.drop K) = true) := by
        have := HR.out
        rwa [show (K : Int).toNat = K by omega] at this
      clear HR
      have hwk : IntKind.i64.wrap (k : Int) = (k : Int) := by rw [IntKind.wrap_i64]; omega
      have hwk2 : IntKind.i64.wrap ((K : Int) - 1) = (k : Int) := by rw [IntKind.wrap_i64]; omega
      have hr_ := H.rules; simp only [Rules, and_true] at hr_; have hd_ := H.dif; simp only [Dif, Neq, and_true] at hd_; obtain ⟨ho_, hz_⟩ := H.old0
      go_wp2_with fail
      clear hr_ hd_ ho_ hz_
      refine regionH (by (repeat (first | with_reducible exact H | with_reducible exact H0_ | with_reducible apply Hp.alloc | with_reducible apply Hp.allocMap | with_reducible apply Hp.drew | with_reducible apply Hp.drewN | with_reducible apply Hp.set)); (try any_goals (repeat (first | with_reducible exact Upd.head | with_reducible apply Upd.tail)))) ?_
      clear H; intro w3 H; (try simp only [size_drew_, size_drewN_, World.size_alloc, World.size_setCell, List.set_cons_zero, List.set_cons_succ] at H)
      refine wp_region_H 12 [false, false, false, false, false, false, false, false, false, false, false, false] [] H .nil (by kernel_rfl) rfl rfl (fun H_ hR_ => ?_)
      (try clear H0_); have H0_ := H; clear H; have H := H_; clear H_
      refine wpL_reads (is := [(0, ?v1_0), (1, ?v1_1), (2, ?v1_2), (3, ?v1_3), (4, ?v1_4), (5, ?v1_5), (6, ?v1_6), (7, ?v1_7), (8, ?v1_8), (9, ?v1_9)]) (by kernel_rfl) (Nat.le_of_ble_eq_true rfl) (by intro _ _ d_ _ _ h_; cases d_ <;> exact h_) (by kernel_rfl) hR_ (fun w_ hw_ => ?h1_) ?_
      case h1_ =>
        have ho_ := hw_.old0.1; have hz_ := hw_.old0.2; have hr_ := hw_.rules; clear hw_; simp only [Rules, and_true] at hr_; go_split_ands
        (repeat (first | with_reducible exact RdOps.nil | (refine RdOps.run rfl (by rfl) ?_ ?_; (focus (first | (go_simp; done) | (go_simp; with_reducible rfl))); simp only [List.getElem_toArray, List.getElem_cons_zero, List.getElem_cons_succ, Act.put, List.setIfInBounds_toArray, List.set_cons_zero, List.set_cons_succ]) | (refine RdOps.skip rfl (by rfl) ?_ ?_; (focus (with_reducible rfl)); simp only [List.getElem_toArray, List.getElem_cons_zero, List.getElem_cons_succ, Act.put, List.setIfInBounds_toArray, List.set_cons_zero, List.set_cons_succ])))
      simp only [rdMark, rdAct, List.map_cons, List.map_nil, List.length_cons, List.length_nil, Nat.reduceAdd, Nat.reduceSub, Nat.zero_add, List.getElem?_toArray, List.getElem?_cons_zero, List.getElem?_cons_succ, Option.bind_some, Act.put, List.setIfInBounds_toArray, List.set_cons_zero, List.set_cons_succ]
      refine wpL_do (i := 10) rfl (by kernel_rfl) (by rfl) (fun K_ hK_ => ?_)
      go_simp
      refine (right1_calls).mono ?_
      rintro e w_ ⟨rfl, hx⟩
      replace H := H.call hx
      clear hx
      by_cases hlt : xs[k].1 < xs[K].1
      · have ho : ordP xs[K].1 xs[k].1 = 1 := by unfold ordP; rw [if_pos hlt]
        rw [ho]
        have HL : Hid (rising (xs.drop k) = true) := by
          unfold Hid
          rw [HD.out, HX.out, decide_eq_true hlt]
          rfl
        clear ho hlt HD HX
        refine hK_ _ _ (fun _ => H.sub (by simp)) (fun hR_ => ?_)
        replace hR_ := hR_ (by decide)
        refine wpL_reads (is := [(11, ?v2_0)]) (by kernel_rfl) (Nat.le_of_ble_eq_true rfl) (by intro _ _ d_ _ _ h_; cases d_ <;> exact h_) (by kernel_rfl) hR_ (fun w_ hw_ => ?h2_) ?_
        case h2_ =>
          have ho_ := hw_.old0.1; have hz_ := hw_.old0.2; have hr_ := hw_.rules; clear hw_; simp only [Rules, and_true] at hr_; go_split_ands
          (repeat (first | with_reducible exact RdOps.nil | (refine RdOps.run rfl (by rfl) ?_ ?_; (focus (first | (go_simp; done) | (go_simp; with_reducible rfl))); simp only [List.getElem_toArray, List.getElem_cons_zero, List.getElem_cons_succ, Act.put, List.setIfInBounds_toArray, List.set_cons_zero, List.set_cons_succ]) | (refine RdOps.skip rfl (by rfl) ?_ ?_; (focus (with_reducible rfl)); simp only [List.getElem_toArray, List.getElem_cons_zero, List.getElem_cons_succ, Act.put, List.setIfInBounds_toArray, List.set_cons_zero, List.set_cons_succ])))
        simp only [rdMark, rdAct, List.map_cons, List.map_nil, List.length_cons, List.length_nil, Nat.reduceAdd, Nat.reduceSub, Nat.zero_add, List.getElem?_toArray, List.getElem?_cons_zero, List.getElem?_cons_succ, Option.bind_some, Act.put, List.setIfInBounds_toArray, List.set_cons_zero, List.set_cons_succ]
        refine wpL_done (by kernel_rfl) ?_ _
        go_wp2_with fail
        go_roundw
        case rel => exact ⟨k, by omega, by omega, by first | go_num | rfl | simp, HL.out, H⟩
        case measure => simp [intOf]; omega
      · have ho : ordP xs[K].1 xs[k].1 = -1 := by unfold ordP; rw [if_neg hlt]
        rw [ho]
        have HL : Hid (rising xs = false) := by
          refine rising_not (k := k) ?_
          rw [HD.out, decide_eq_false hlt]
          rfl
        clear ho hlt HD HX
        refine hK_ _ _ (fun _ => H.sub (by simp)) (fun hR_ => ?_)
        replace hR_ := hR_ (by decide)
        refine wpL_reads (is := [(11, ?v3_0)]) (by kernel_rfl) (Nat.le_of_ble_eq_true rfl) (by intro _ _ d_ _ _ h_; cases d_ <;> exact h_) (by kernel_rfl) hR_ (fun w_ hw_ => ?h3_) ?_
        case h3_ =>
          have ho_ := hw_.old0.1; have hz_ := hw_.old0.2; have hr_ := hw_.rules; clear hw_; simp only [Rules, and_true] at hr_; go_split_ands
          (repeat (first | with_reducible exact RdOps.nil | (refine RdOps.run rfl (by rfl) ?_ ?_; (focus (first | (go_simp; done) | (go_simp; with_reducible rfl))); simp only [List.getElem_toArray, List.getElem_cons_zero, List.getElem_cons_succ, Act.put, List.setIfInBounds_toArray, List.set_cons_zero, List.set_cons_succ]) | (refine RdOps.skip rfl (by rfl) ?_ ?_; (focus (with_reducible rfl)); simp only [List.getElem_toArray, List.getElem_cons_zero, List.getElem_cons_succ, Act.put, List.setIfInBounds_toArray, List.set_cons_zero, List.set_cons_succ])))
        simp only [rdMark, rdAct, List.map_cons, List.map_nil, List.length_cons, List.length_nil, Nat.reduceAdd, Nat.reduceSub, Nat.zero_add, List.getElem?_toArray, List.getElem?_cons_zero, List.getElem?_cons_succ, Option.bind_some, Act.put, List.setIfInBounds_toArray, List.set_cons_zero, List.set_cons_succ]
        refine wpL_done (by kernel_rfl) ?_ _
        go_wp2_with fail
        go_ret
        exact ⟨by rw [HL.out]; rfl, H.ext⟩
    · go_wp2_with fail
      go_ret
      have e : j.toNat = 0 := by omega
      have h3 := HR.out
      rw [e, List.drop_zero] at h3
      exact ⟨by rw [h3]; rfl, H.ext⟩
/-- Is a part no right one? -/
def badP (n : Int) (x : Int × Int) : Bool := decide (x.1 < 0) || decide (n < x.1) || decide (x.2 < 0) || decide (1000 < x.2)
set_option maxRecDepth 100000 in
set_option maxHeartbeats 1000000 in
theorem right2_calls {w : World} {bn : Nat} {n a b : Int} (hc : w.cell? ⟨bn, 0, none⟩ = some (.int .i64 n)) : Calls Tryd.prog 183 #[.agg #[.int .i64 a, .int .i64 b], .pointer (some ⟨bn, 0, none⟩)] w (PV w (.bool (badP n (a, b)))) := by
  have lc := cell_lt hc
  by_cases h1 : a < 0
  · have HB : Hid (badP n (a, b) = true) := by unfold Hid badP; simp [h1]
    go_enter Tryd.func183, Tryd.ntmps183
    go_wp2_with fail
    go_ret
    exact ⟨by rw [HB.out]; rfl, (Ext.refl _ _).alloc _⟩
  · by_cases h2 : n < a
    · have HB : Hid (badP n (a, b) = true) := by unfold Hid badP; simp [h2]
      go_enter Tryd.func183, Tryd.ntmps183
      go_wp2_with fail
      go_ret
      exact ⟨by rw [HB.out]; rfl, (Ext.refl _ _).alloc _⟩
    · by_cases h3 : b < 0
      · have HB : Hid (badP n (a, b) = true) := by unfold Hid badP; simp [h3]
        go_enter Tryd.func183, Tryd.ntmps183
        go_wp2_with fail
        go_ret
        exact ⟨by rw [HB.out]; rfl, (Ext.refl _ _).alloc _⟩
      · by_cases h4 : 1000 < b
        · have HB : Hid (badP n (a, b) = true) := by unfold Hid badP; simp [h4]
          go_enter Tryd.func183, Tryd.ntmps183
          go_wp2_with fail
          go_ret
          exact ⟨by rw [HB.out]; rfl, (Ext.refl _ _).alloc _⟩
        · have HB : Hid (badP n (a, b) = false) := by unfold Hid badP; simp [h1, h2, h3, h4]
          go_enter Tryd.func183, Tryd.ntmps183
          go_wp2_with fail
          go_ret
          exact ⟨by rw [HB.out]; rfl, (Ext.refl _ _).alloc _⟩
/-- Is a level right among so many variables? -/
def lvRight (n : Int) (x : Lv) : Bool := rising x && decide (x.length ≤ 9) && !(x.any (badP n))
set_option maxRecDepth 100000 in
set_option maxHeartbeats 1000000 in
theorem lvRight_calls {w : World} {S : Nat → Prop} {x : Lv} {A : Option Addr} {c : Nat} {n : Int} (h : RC w S (.l 117 2 (x.map ptD)) [.slice A x.length c]) :
    Calls Tryd.prog 134 #[.agg #[.slice A x.length c], .int .i64 n] w (PV w (.bool (lvRight n x))) := by
  have hM := h.lenM
  have HH := Lib.hid h
  clear h
  have hmf : ∀ (fn : Fn) (first cap : Array Value) (w : World), (Instr.makeFunc fn first cap).run Tryd.prog w = .ok (.func fn first cap) w := fun _ _ _ _ => rfl
  go_enter Tryd.func134, Tryd.ntmps134
  go_wp2_with fail
  have H := Hp.start no w
  refine callsH (by (repeat (first | with_reducible exact H | with_reducible exact H0_ | with_reducible apply Hp.alloc | with_reducible apply Hp.allocMap | with_reducible apply Hp.drew | with_reducible apply Hp.drewN | with_reducible apply Hp.set)); (try any_goals (repeat (first | with_reducible exact Upd.head | with_reducible apply Upd.tail)))) ?_
  clear H; intro w1 H; (try simp only [size_drew_, size_drewN_, World.size_alloc, World.size_setCell, List.set_cons_zero, List.set_cons_succ] at H)
  refine (sorted_parts (HH.out.ext0 H.ext) rfl).mono ?_
  rintro e w_ ⟨rfl, hx⟩
  replace H := H.call hx
  clear hx
  cases hr : rising x
  · have HB : Hid (lvRight n x = false) := by unfold Hid lvRight; simp [hr]
    clear hr
    have hr_ := H.rules; simp only [Rules, and_true] at hr_; have hd_ := H.dif; simp only [Dif, Neq, and_true] at hd_; obtain ⟨ho_, hz_⟩ := H.old0
    go_wp2_with fail
    go_ret
    exact ⟨by rw [HB.out]; rfl, H.ext⟩
  · by_cases h9 : x.length ≤ 9
    · have HB : Hid (lvRight n x = !(x.any (badP n))) := by unfold Hid lvRight; simp [hr, h9]
      clear hr
      have hr_ := H.rules; simp only [Rules, and_true] at hr_; have hd_ := H.dif; simp only [Dif, Neq, and_true] at hd_; obtain ⟨ho_, hz_⟩ := H.old0
      go_wp2_with fail
      clear hr_ hd_ ho_ hz_
      refine (contains_parts (p := badP n) (HH.out.ext0 H.ext) rfl (enters_of Tryd.func183 (by kernel_rfl) rfl) (fun p _ w' hx => right2_calls (hx.keep ((H.blk (g := w.heap.size + 1) (by (repeat (first | with_reducible exact Pick.head | with_reducible apply Pick.tail)))).cells 0)))).mono ?_
      rintro e w_ ⟨rfl, hx⟩
      replace H := H.call hx
      clear hx
      cases hq : x.any (badP n)
      · have HQ := Lib.hid hq
        clear hq
        go_wp2_with fail
        go_ret
        exact ⟨by rw [HB.out, HQ.out]; rfl, H.ext⟩
      · have HQ := Lib.hid hq
        clear hq
        go_wp2_with fail
        go_ret
        exact ⟨by rw [HB.out, HQ.out]; rfl, H.ext⟩
    · have HB : Hid (lvRight n x = false) := by unfold Hid lvRight; simp [h9]
      clear hr
      have hr_ := H.rules; simp only [Rules, and_true] at hr_; have hd_ := H.dif; simp only [Dif, Neq, and_true] at hd_; obtain ⟨ho_, hz_⟩ := H.old0
      go_wp2_with fail
      go_ret
      exact ⟨by rw [HB.out]; rfl, H.ext⟩
end Go.Proofs.YtgbokmphbimihaaDoor
/- source: must, and what asks a node: contracts. No statement of the seat is proved here. -/
namespace Go.Proofs.YtgbokmphbimihaaDoor
set_option linter.unusedSimpArgs false
set_option linter.unusedVariables false
open Go.RowKit

/-- What source's must throws. -/
def wrongP : List PanicEntry := [{ v := .iface 148 (.agg #[]), recovered := false }]
/-- It comes back if so, throws else. -/
def PWr (w : World) (q : Bool) (e : Ending) (w' : World) : Prop := e = (if q then .returned (.tuple #[]) else .panicked wrongP) ∧ Ext no w w'
theorem smust_calls {w : World} {S : Nat → Prop} {bs : List Bool} {A : Option Addr} {n c : Nat} (h : RC w S (.l 4 1 (bs.map D.b)) [.slice A n c]) (hn : n = bs.length) :
    Calls Tryd.prog 74 #[.slice A n c] w (PWr w (bs.all id)) := by
  subst hn
  go_enter Tryd.func74, Tryd.ntmps74
  go_wp2_with fail
  refine (contains_false h rfl).mono ?_
  rintro e w1 ⟨rfl, hx1⟩
  cases hq : bs.all id
  · have HQ := Lib.hid hq
    clear hq
    go_wp2_with fail
    exact ⟨rfl, by rw [HQ.out]; rfl, hx1⟩
  · have HQ := Lib.hid hq
    clear hq
    go_wp2_with fail
    go_end0
    exact ⟨by rw [HQ.out]; rfl, hx1⟩
/-- must of one. -/
theorem smust1 {w0 w : World} {l : List Ch} {g e : Nat} {a : Bool} (H : Hp no w0 w (.box g e [.bool a] :: l)) : Calls Tryd.prog 74 #[.slice (some ⟨g, 0, none⟩) 1 1] w (PWr w a) := by
  have h := smust_calls (bs := [a]) (Blk.truths1 (H.blk .head)) rfl
  simpa using h
/-- must of two. -/
theorem smust2 {w0 w : World} {l : List Ch} {g e : Nat} {a b : Bool} (H : Hp no w0 w (.box g e [.bool a, .bool b] :: l)) : Calls Tryd.prog 74 #[.slice (some ⟨g, 0, none⟩) 2 2] w (PWr w (a && b)) := by
  have h := smust_calls (bs := [a, b]) (Blk.truths (bs := [a, b]) (H.blk .head) rfl (by simp)) rfl
  simpa using h
theorem PWr.yes {w w' : World} {q : Bool} {e : Ending} (h : PWr w q e w') (hq : q = true) : e = .returned (.tuple #[]) := by rw [h.1, hq]; rfl
theorem PWr.no {w w' : World} {q : Bool} {e : Ending} (h : PWr w q e w') (hq : q = false) : e = .panicked wrongP := by rw [h.1, hq]; rfl
/-- A walk's cells. -/
abbrev wkV (A : Option Addr) (nd c : Nat) (n sf sc : Int) : Value := .agg #[.slice A nd c, .int .i64 n, .int .i64 sf, .int .i64 sc]
set_option maxRecDepth 100000 in
set_option maxHeartbeats 1000000 in
theorem variable_calls {w : World} {S : Nat → Prop} {t : Tm} {v : Value} {A : Option Addr} {nd c : Nat} {n sf sc : Int} (h : TV w S t v) : Calls Tryd.prog 166 #[wkV A nd c n sf sc, v] w (PWr w (decide (t.n < sc))) := by
  obtain ⟨A0, ca, K0, ck, rfl, hrc⟩ := h
  clear hrc
  go_enter Tryd.func166, Tryd.ntmps166
  go_wp2_with fail
  have H := Hp.start no w
  refine callsH (by (repeat (first | with_reducible exact H | with_reducible exact H0_ | with_reducible apply Hp.alloc | with_reducible apply Hp.allocMap | with_reducible apply Hp.drew | with_reducible apply Hp.drewN | with_reducible apply Hp.set)); (try any_goals (repeat (first | with_reducible exact Upd.head | with_reducible apply Upd.tail)))) ?_
  clear H; intro w1 H; (try simp only [size_drew_, size_drewN_, World.size_alloc, World.size_setCell, List.set_cons_zero, List.set_cons_succ] at H)
  refine (smust1 H).mono ?_
  rintro e w2 hm
  have hx := hm.2
  have HM := Lib.hid hm
  clear hm
  replace H := H.call hx
  clear hx
  by_cases hq : t.n < sc
  · obtain rfl := HM.out.yes (by simp [hq])
    have HQ := Lib.hid hq
    clear hq
    go_wp2_with fail
    go_end0
    exact ⟨by simp [HQ.out], H.ext⟩
  · obtain rfl := HM.out.no (by simp [hq])
    have HQ := Lib.hid hq
    clear hq
    go_wp2_with fail
    exact ⟨rfl, by simp [HQ.out], H.ext⟩
set_option maxRecDepth 100000 in
set_option maxHeartbeats 1000000 in
theorem own11_calls {w : World} {S : Nat → Prop} {t : Tm} {v : Value} {A : Option Addr} {nd c : Nat} {n sf sc : Int} (h : TV w S t v) : Calls Tryd.prog 171 #[wkV A nd c n sf sc, v] w (PWr w (decide (t.a < sf))) := by
  obtain ⟨A0, ca, K0, ck, rfl, hrc⟩ := h
  clear hrc
  go_enter Tryd.func171, Tryd.ntmps171
  go_wp2_with fail
  have H := Hp.start no w
  refine callsH (by (repeat (first | with_reducible exact H | with_reducible exact H0_ | with_reducible apply Hp.alloc | with_reducible apply Hp.allocMap | with_reducible apply Hp.drew | with_reducible apply Hp.drewN | with_reducible apply Hp.set)); (try any_goals (repeat (first | with_reducible exact Upd.head | with_reducible apply Upd.tail)))) ?_
  clear H; intro w1 H; (try simp only [size_drew_, size_drewN_, World.size_alloc, World.size_setCell, List.set_cons_zero, List.set_cons_succ] at H)
  refine (smust1 H).mono ?_
  rintro e w2 hm
  have hx := hm.2
  have HM := Lib.hid hm
  clear hm
  replace H := H.call hx
  clear hx
  by_cases hq : t.a < sf
  · obtain rfl := HM.out.yes (by simp [hq])
    have HQ := Lib.hid hq
    clear hq
    go_wp2_with fail
    go_end0
    exact ⟨by simp [HQ.out], H.ext⟩
  · obtain rfl := HM.out.no (by simp [hq])
    have HQ := Lib.hid hq
    clear hq
    go_wp2_with fail
    exact ⟨rfl, by simp [HQ.out], H.ext⟩
end Go.Proofs.YtgbokmphbimihaaDoor
