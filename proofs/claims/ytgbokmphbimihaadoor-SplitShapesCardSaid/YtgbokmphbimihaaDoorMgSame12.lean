/- Reference 12: mentions: contract. No statement of the seat is proved here. -/
import Derived.Test.YtgbokmphbimihaaDoorRef12a
import Derived.Test.YtgbokmphbimihaaDoorMgWalkG
import Derived.BigQuiet
import Derived.Laws.StructEq
import Derived.Test.YtgbokmphbimihaaDoorSplit3
import Derived.Test.YtgbokmphbimihaaDoorMgRow
namespace Go.Proofs.YtgbokmphbimihaaDoor
set_option linter.unusedSimpArgs false
set_option linter.unusedVariables false
open Go.RowKit

/-- A plain argument has a type alone. -/
def ArOK (a : Ar) : Prop := a.rc = false → a.tele = [] ∧ a.index = []
theorem argQ_ok {ms : List Mb} {t : Tm} {a : Ar} (h : argQ ms t = .ok a) : ArOK a := by
  unfold argQ at h
  intro hr
  split at h
  · cases h; exact ⟨rfl, rfl⟩
  · split at h
    · split at h
      · split at h
        · cases h; cases hr
        · cases h
      · cases h
    · cases h
/-- Does a row mention a variable? -/
def anyFr (f : Nat) (ts : List Tm) : Bool := ts.any fun t => freeT (f : Int) ((f : Int) + 1) 0 t
theorem anyFr_drop {ts : List Tm} {f j : Nat} (h : j < ts.length) : anyFr f (ts.drop j) = (freeT (f : Int) ((f : Int) + 1) 0 ts[j] || anyFr f (ts.drop (j + 1))) := by
  unfold anyFr
  rw [List.drop_eq_getElem_cons h, List.any_cons]
set_option maxRecDepth 100000 in
set_option maxHeartbeats 4000000 in
theorem refMent {S : Nat → Prop} {a : Ar} {w : World} {cs : List Value} {f : Nat} (h : RC w S a.d cs) (hok : ArOK a) (hf : f ≤ 1000000) (hl : a.tele.length ≤ 1000000000) :
    Calls Tryd.prog 159 #[.agg cs.toArray, .int .i64 (f : Int)] w (PV w (.bool (mentT a f))) := by
  obtain ⟨A1, c1, K1, k1, A2, c2, A3, c3, rfl, hty, hte, hm, hix⟩ := RC.ar.1 h
  have HTY := Lib.hid hty
  have HIX := Lib.hid hix
  have hM := hte.lenM
  have hM2 := hix.lenM
  obtain ⟨q, hq⟩ : ∃ q, q = mentT a f := ⟨_, rfl⟩
  rw [← hq]
  have HQ := Lib.hid hq
  have HOK := Lib.hid hok
  clear h hty hm hq hok
  cases hrc : a.rc
  · have HE : Hid (q = freeT f ((f : Int) + 1) 0 a.ty) := by
      unfold Hid
      rw [HQ.out, mentT, (HOK.out hrc).1, (HOK.out hrc).2, hrc, anyIx]
      simp
    clear hrc
    go_enter Tryd.func159, Tryd.ntmps159
    have H := Hp.start no w
    have hr_ := H.rules; simp only [Rules, and_true] at hr_; have hd_ := H.dif; simp only [Dif, Neq, and_true] at hd_; obtain ⟨ho_, hz_⟩ := H.old0
    go_wp2_with fail
    (try clear hr_ hd_ ho_ hz_)
    refine callsH (by (repeat (first | with_reducible exact H | with_reducible exact H0_ | with_reducible apply Hp.alloc | with_reducible apply Hp.allocMap | with_reducible apply Hp.drew | with_reducible apply Hp.drewN | with_reducible apply Hp.set)); (try any_goals (repeat (first | with_reducible exact Upd.head | with_reducible apply Upd.tail)))) ?_
    clear H; intro w1 H; (try simp only [size_drew_, size_drewN_, World.size_alloc, World.size_setCell, List.set_cons_zero, List.set_cons_succ] at H)
    refine (refFree_calls (f : Int) ((f : Int) + 1) ⟨_, _, _, _, rfl, HTY.out.ext0 H.ext⟩).mono ?_
    rintro e w_ ⟨rfl, hx⟩
    replace H := H.call hx
    clear hx
    go_wp2_with fail
    go_ret
    exact ⟨by rw [HE.out]; rfl, H.ext⟩
  · have HE : Hid (q = (anyIx f a.tele || anyFr (f + a.tele.length) a.index)) := by
      unfold Hid
      rw [HQ.out, mentT, hrc]
      unfold anyFr
      push_cast
      simp
    clear hrc HQ
    go_enter Tryd.func159, Tryd.ntmps159
    have H := Hp.start no w
    have hr_ := H.rules; simp only [Rules, and_true] at hr_; have hd_ := H.dif; simp only [Dif, Neq, and_true] at hd_; obtain ⟨ho_, hz_⟩ := H.old0
    go_wp2_with fail
    (try clear hr_ hd_ ho_ hz_)
    go_loopw [5] (fun i wr => ∃ j : Nat, j ≤ a.tele.length ∧ i = .int .i64 j ∧ Hid (anyIx (f + j) (a.tele.drop j) = anyIx f a.tele) ∧ Hp no w wr [.box w.heap.size 80 [.bool true, .int .i64 a.ty.k, .int .i64 a.ty.n, .int .i64 a.ty.a, .slice A1 a.ty.ls.length c1, .slice K1 a.ty.ks.length k1, .slice A2 a.tele.length c2, .int .i64 a.member, .slice A3 a.index.length c3]]) (fun i _ => a.tele.length - (intOf i).toNat)
    case atStart => exact ⟨0, Nat.zero_le _, rfl, Lib.hid (by simp), by (repeat (first | with_reducible exact H | with_reducible exact H0_ | with_reducible apply Hp.alloc | with_reducible apply Hp.allocMap | with_reducible apply Hp.drew | with_reducible apply Hp.drewN | with_reducible apply Hp.set)); (try any_goals (repeat (first | with_reducible exact Upd.head | with_reducible apply Upd.tail)))⟩
    case round =>
      clear H
      obtain ⟨j, hj, rfl, HS, H⟩ := hrel
      by_cases hlt : j < a.tele.length
      · obtain ⟨b_, o, B1, ca1, L1, ck1, rfl, hb, hS, hd, p0, p1, p2, p3, p4⟩ := hte.atTm hlt
        have HD := Lib.hid hd
        have HE2 := Lib.hid (anyIx_drop (f := f) hlt)
        clear hd
        have hr_ := H.rules; simp only [Rules, and_true] at hr_; have hd_ := H.dif; simp only [Dif, Neq, and_true] at hd_; obtain ⟨ho_, hz_⟩ := H.old0
        go_wp2_with fail
        (try clear hr_ hd_ ho_ hz_)
        refine callsH (by (repeat (first | with_reducible exact H | with_reducible exact H0_ | with_reducible apply Hp.alloc | with_reducible apply Hp.allocMap | with_reducible apply Hp.drew | with_reducible apply Hp.drewN | with_reducible apply Hp.set)); (try any_goals (repeat (first | with_reducible exact Upd.head | with_reducible apply Upd.tail)))) ?_
        clear H; intro w9 H; (try simp only [size_drew_, size_drewN_, World.size_alloc, World.size_setCell, List.set_cons_zero, List.set_cons_succ] at H)
        obtain ⟨z, hz⟩ : ∃ z, z = freeT ((f : Int) + j) ((f : Int) + j + 1) 0 a.tele[j] := ⟨_, rfl⟩
        have hcall := refFree_calls ((f : Int) + j) ((f : Int) + j + 1) ⟨_, _, _, _, rfl, HD.out.ext0 H.ext⟩
        rw [← hz] at hcall
        have HZ := Lib.hid hz
        clear hz
        refine (hcall).mono ?_
        rintro e w_ ⟨rfl, hx⟩
        replace H := H.call hx
        clear hx
        clear hcall
        cases z
        · go_wp2_with fail
          go_roundw
          case rel => exact ⟨j + 1, by omega, by first | go_num | rfl | simp, Lib.hid (by rw [← HS.out, HE2.out, ← HZ.out]; rfl), (H.arr (by (repeat (first | with_reducible exact Arr.nil | refine Arr.cons (by (repeat (first | with_reducible exact Pick.head | with_reducible apply Pick.tail))) ?_)) <;> exact Arr.of_subl (by (repeat (first | with_reducible exact Subl.refl _ | with_reducible apply Subl.drop)))))⟩
          case measure => simp [intOf]; omega
        · go_wp2_with fail
          go_ret
          exact ⟨by rw [HE.out, ← HS.out, HE2.out, ← HZ.out]; rfl, H.ext⟩
      · have HN : Hid (anyIx f a.tele = false) := by
          unfold Hid
          rw [← HS.out, List.drop_eq_nil_of_le (by omega), anyIx]
        have HE3 : Hid (q = anyFr (f + a.tele.length) a.index) := by
          unfold Hid
          rw [HE.out, HN.out, Bool.false_or]
        clear HE HN HS
        have hr_ := H.rules; simp only [Rules, and_true] at hr_; have hd_ := H.dif; simp only [Dif, Neq, and_true] at hd_; obtain ⟨ho_, hz_⟩ := H.old0
        go_wp2_with fail
        (try clear hr_ hd_ ho_ hz_)
        have H0_ := H
        clear H
        go_loopw [6] (fun i wr => ∃ j : Nat, j ≤ a.index.length ∧ i = .int .i64 j ∧ Hid (anyFr (f + a.tele.length) (a.index.drop j) = anyFr (f + a.tele.length) a.index) ∧ Hp no w wr [.box w.heap.size 80 [.bool true, .int .i64 a.ty.k, .int .i64 a.ty.n, .int .i64 a.ty.a, .slice A1 a.ty.ls.length c1, .slice K1 a.ty.ks.length k1, .slice A2 a.tele.length c2, .int .i64 a.member, .slice A3 a.index.length c3]]) (fun i _ => a.index.length - (intOf i).toNat)
        case atStart => exact ⟨0, Nat.zero_le _, rfl, Lib.hid (by simp), H0_⟩
        case round =>
          clear H0_
          obtain ⟨i, hi, rfl, HS, H⟩ := hrel
          by_cases hli : i < a.index.length
          · obtain ⟨b_, o, B1, ca1, L1, ck1, rfl, hb, hS, hd, p0, p1, p2, p3, p4⟩ := HIX.out.atTm hli
            have HD := Lib.hid hd
            have HE2 := Lib.hid (anyFr_drop (f := f + a.tele.length) hli)
            clear hd
            have hr_ := H.rules; simp only [Rules, and_true] at hr_; have hd_ := H.dif; simp only [Dif, Neq, and_true] at hd_; obtain ⟨ho_, hz_⟩ := H.old0
            go_wp2_with fail
            (try clear hr_ hd_ ho_ hz_)
            refine callsH (by (repeat (first | with_reducible exact H | with_reducible exact H0_ | with_reducible apply Hp.alloc | with_reducible apply Hp.allocMap | with_reducible apply Hp.drew | with_reducible apply Hp.drewN | with_reducible apply Hp.set)); (try any_goals (repeat (first | with_reducible exact Upd.head | with_reducible apply Upd.tail)))) ?_
            clear H; intro w9 H; (try simp only [size_drew_, size_drewN_, World.size_alloc, World.size_setCell, List.set_cons_zero, List.set_cons_succ] at H)
            obtain ⟨z, hz⟩ : ∃ z, z = freeT ((f : Int) + (a.tele.length : Int)) ((f : Int) + (a.tele.length : Int) + 1) 0 a.index[i] := ⟨_, rfl⟩
            have hcall := refFree_calls ((f : Int) + (a.tele.length : Int)) ((f : Int) + (a.tele.length : Int) + 1) ⟨_, _, _, _, rfl, HD.out.ext0 H.ext⟩
            rw [← hz] at hcall
            have hz2 := HE2.out
            push_cast at hz2
            rw [← hz] at hz2
            have HZ2 := Lib.hid hz2
            clear hz hz2 HE2
            refine (hcall).mono ?_
            rintro e w_ ⟨rfl, hx⟩
            replace H := H.call hx
            clear hx
            clear hcall
            cases z
            · go_wp2_with fail
              go_roundw
              case rel => exact ⟨i + 1, by omega, by first | go_num | rfl | simp, Lib.hid (by rw [← HS.out, HZ2.out]; rfl), (H.arr (by (repeat (first | with_reducible exact Arr.nil | refine Arr.cons (by (repeat (first | with_reducible exact Pick.head | with_reducible apply Pick.tail))) ?_)) <;> exact Arr.of_subl (by (repeat (first | with_reducible exact Subl.refl _ | with_reducible apply Subl.drop)))))⟩
              case measure => simp [intOf]; omega
            · go_wp2_with fail
              go_ret
              exact ⟨by rw [HE3.out, ← HS.out, HZ2.out]; rfl, H.ext⟩
          · have HN : Hid (anyFr (f + a.tele.length) a.index = false) := by
              unfold Hid
              rw [← HS.out, List.drop_eq_nil_of_le (by omega)]
              rfl
            have hr_ := H.rules; simp only [Rules, and_true] at hr_; have hd_ := H.dif; simp only [Dif, Neq, and_true] at hd_; obtain ⟨ho_, hz_⟩ := H.old0
            go_wp2_with fail
            go_ret
            exact ⟨by rw [HE3.out, HN.out]; rfl, H.ext⟩
end Go.Proofs.YtgbokmphbimihaaDoor
/- Kit: whether two things are the same, element by element: contracts. -/
namespace Go.Proofs.YtgbokmphbimihaaDoor
set_option linter.unusedSimpArgs false
set_option linter.unusedVariables false
open Go.RowKit

/-- A call tells whether p. -/
def PB (w : World) (p : Prop) (e : Ending) (w' : World) : Prop := ∃ q : Bool, e = .returned (.bool q) ∧ (q = true ↔ p) ∧ Ext no w w'
theorem PB.t {w w' : World} {p : Prop} (h : p) (hx : Ext no w w') : PB w p (.returned (.bool true)) w' := ⟨true, rfl, by simp [h], hx⟩
theorem PB.f {w w' : World} {p : Prop} (h : ¬ p) (hx : Ext no w w') : PB w p (.returned (.bool false)) w' := ⟨false, rfl, by simp [h], hx⟩
theorem take_eq_succ {α : Type} {xs ys : List α} {j : Nat} (h1 : j < xs.length) (h2 : j < ys.length) (h : xs.take j = ys.take j) (e : xs[j] = ys[j]) : xs.take (j + 1) = ys.take (j + 1) := by
  rw [List.take_succ_eq_append_getElem h1, List.take_succ_eq_append_getElem h2, h, e]
theorem take_eq_all {α : Type} {xs ys : List α} {j : Nat} (hl : xs.length = ys.length) (h1 : ¬ j < xs.length) (h : xs.take j = ys.take j) : xs = ys := by
  rwa [List.take_of_length_le (by omega), List.take_of_length_le (by omega)] at h
theorem ne_of_get {α : Type} {xs ys : List α} {j : Nat} (h1 : j < xs.length) (h2 : j < ys.length) (e : ¬ xs[j] = ys[j]) : ¬ xs = ys := fun h => e (by subst h; rfl)
theorem len_ne {α : Type} {xs ys : List α} (h : ¬ xs.length = ys.length) : ¬ xs = ys := fun e => h (by rw [e])
theorem lenB {n m : Nat} (h : n = m) : (((n : Int)) == (m : Int)) = true := by simp [h]
theorem lenB' {n m : Nat} (h : ¬ n = m) : (((n : Int)) == (m : Int)) = false := by simp; omega

set_option maxHeartbeats 1000000 in
theorem sameParts {w : World} {S1 S2 : Nat → Prop} {xs ys : List (Int × Int)} {A B : Option Addr} {c1 c2 : Nat} (h : RC w S1 (.l 117 2 (xs.map ptD)) [.slice A xs.length c1]) (k : RC w S2 (.l 117 2 (ys.map ptD)) [.slice B ys.length c2]) :
    Calls Tryd.prog 186 #[.slice A xs.length c1, .slice B ys.length c2] w (PB w (xs = ys)) := by
  have hM := h.lenM
  have kM := k.lenM
  by_cases hl : xs.length = ys.length
  · have hn := lenB hl
    go_enter Tryd.func186, Tryd.ntmps186
    go_wp2_with fail
    go_loopw [5] (fun i wr => ∃ j : Nat, j ≤ xs.length ∧ i = .int .i64 j ∧ xs.take j = ys.take j ∧ Ext no w wr) (fun i _ => xs.length - (intOf i).toNat)
    case atStart => exact ⟨0, Nat.zero_le _, rfl, by simp, Ext.refl _ _⟩
    case round =>
      obtain ⟨j, hj, rfl, heq, hext⟩ := hrel
      by_cases hlt : j < xs.length
      · have hlt2 : j < ys.length := by omega
        obtain ⟨b, o, rfl, hb, hS, i1, i2, p1, p2⟩ := (h.ext0 hext).atPt hlt
        obtain ⟨b', o', rfl, hb', hS', j1, j2, q1, q2⟩ := (k.ext0 hext).atPt hlt2
        by_cases h1 : xs[j].1 = ys[j].1
        · have e1 : (xs[j].1 == ys[j].1) = true := by simp [h1]
          by_cases h2 : xs[j].2 = ys[j].2
          · have e2 : (xs[j].2 == ys[j].2) = true := by simp [h2]
            have H := Lib.hid (Prod.ext h1 h2)
            clear h1 h2
            go_wp2_with fail
            go_quiet (fail)
            go_wp2_with fail
            go_roundw
            case rel => exact ⟨j + 1, by omega, by go_num, take_eq_succ hlt hlt2 heq H.out, (by repeat (first | with_reducible assumption | with_reducible exact Ext.refl _ _ | with_reducible refine Ext.alloc ?_ _ | with_reducible refine Ext.drew ?_ | with_reducible refine Ext.drewN ?_ _ | with_reducible refine Ext.setR ?_ ?_ _ | (dsimp only; omega) | (simp; done) | (simp; omega)))⟩
            case measure => simp [intOf]; omega
          · have e2 : (xs[j].2 == ys[j].2) = false := by simpa using h2
            have H := Lib.hid (show ¬ xs[j] = ys[j] from fun e => h2 (by rw [e]))
            clear h1 h2
            go_wp2_with fail
            go_quiet (fail)
            go_wp2_with fail
            go_ret
            exact PB.f (ne_of_get hlt hlt2 H.out) (by repeat (first | with_reducible assumption | with_reducible exact Ext.refl _ _ | with_reducible refine Ext.alloc ?_ _ | with_reducible refine Ext.drew ?_ | with_reducible refine Ext.drewN ?_ _ | with_reducible refine Ext.setR ?_ ?_ _ | (dsimp only; omega) | (simp; done) | (simp; omega)))
        · have e1 : (xs[j].1 == ys[j].1) = false := by simpa using h1
          have H := Lib.hid (show ¬ xs[j] = ys[j] from fun e => h1 (by rw [e]))
          clear h1
          go_wp2_with fail
          go_quiet (fail)
          go_wp2_with fail
          go_ret
          exact PB.f (ne_of_get hlt hlt2 H.out) (by repeat (first | with_reducible assumption | with_reducible exact Ext.refl _ _ | with_reducible refine Ext.alloc ?_ _ | with_reducible refine Ext.drew ?_ | with_reducible refine Ext.drewN ?_ _ | with_reducible refine Ext.setR ?_ ?_ _ | (dsimp only; omega) | (simp; done) | (simp; omega)))
      · go_wp2_with fail
        go_ret
        exact PB.t (take_eq_all hl hlt heq) hext
  · have hn := lenB' hl
    go_enter Tryd.func186, Tryd.ntmps186
    go_wp2_with fail
    go_ret
    exact PB.f (len_ne hl) (Ext.refl _ _)

theorem sameLevel {w : World} {S1 S2 : Nat → Prop} {x y : Lv} {A B : Option Addr} {c1 c2 : Nat} (h : RC w S1 (.l 117 2 (x.map ptD)) [.slice A x.length c1]) (k : RC w S2 (.l 117 2 (y.map ptD)) [.slice B y.length c2]) :
    Calls Tryd.prog 146 #[.agg #[.slice A x.length c1], .agg #[.slice B y.length c2]] w (PB w (x = y)) := by
  go_enter Tryd.func146, Tryd.ntmps146
  go_wp2_with fail
  refine (sameParts (h.ext0 (by repeat (first | with_reducible assumption | with_reducible exact Ext.refl _ _ | with_reducible refine Ext.alloc ?_ _ | with_reducible refine Ext.drew ?_ | with_reducible refine Ext.drewN ?_ _ | with_reducible refine Ext.setR ?_ ?_ _ | (dsimp only; omega) | (simp; done) | (simp; omega)))) (k.ext0 (by repeat (first | with_reducible assumption | with_reducible exact Ext.refl _ _ | with_reducible refine Ext.alloc ?_ _ | with_reducible refine Ext.drew ?_ | with_reducible refine Ext.drewN ?_ _ | with_reducible refine Ext.setR ?_ ?_ _ | (dsimp only; omega) | (simp; done) | (simp; omega))))).mono ?_
  rintro e w1 ⟨q, rfl, hq, hx1⟩
  have hx0 : Ext no w w1 := Ext.seq (by repeat (first | with_reducible assumption | with_reducible exact Ext.refl _ _ | with_reducible refine Ext.alloc ?_ _ | with_reducible refine Ext.drew ?_ | with_reducible refine Ext.drewN ?_ _ | with_reducible refine Ext.setR ?_ ?_ _ | (dsimp only; omega) | (simp; done) | (simp; omega))) hx1
  have HQ := Lib.hid hq
  clear hq
  go_wp2_with fail
  go_ret
  exact ⟨q, rfl, HQ.out, hx0⟩
set_option maxHeartbeats 1000000 in
theorem sameLevels {w : World} {S1 S2 : Nat → Prop} {xs ys : List Lv} {A B : Option Addr} {c1 c2 : Nat} (h : RC w S1 (.l 33 1 (xs.map lvD)) [.slice A xs.length c1]) (k : RC w S2 (.l 33 1 (ys.map lvD)) [.slice B ys.length c2]) :
    Calls Tryd.prog 89 #[.slice A xs.length c1, .slice B ys.length c2] w (PB w (xs = ys)) := by
  have hM := h.lenM
  have kM := k.lenM
  by_cases hl : xs.length = ys.length
  · have hn := lenB hl
    have HL := Lib.hid hl
    go_enter Tryd.func89, Tryd.ntmps89
    go_wp2_with fail
    go_loopw [5] (fun i wr => ∃ j : Nat, j ≤ xs.length ∧ i = .int .i64 j ∧ xs.take j = ys.take j ∧ Ext no w wr) (fun i _ => xs.length - (intOf i).toNat)
    case atStart => exact ⟨0, Nat.zero_le _, rfl, by simp, Ext.refl _ _⟩
    case round =>
      obtain ⟨j, hj, rfl, heq, hext⟩ := hrel
      by_cases hlt : j < xs.length
      · have hlt2 : j < ys.length := by omega
        obtain ⟨b, o, A1, e1, rfl, hb, hS, r1, p1⟩ := (h.ext0 hext).atLv hlt
        obtain ⟨b', o', A2, e2, rfl, hb', hS', r2, q1⟩ := (k.ext0 hext).atLv hlt2
        go_wp2_with fail
        refine wp_region_L (fun w' => Cells w' [(⟨b, o + j, none⟩, .slice A1 xs[j].length e1), (⟨b', o' + j, none⟩, .slice A2 ys[j].length e2)]) [] (by kernel_rfl) ?_
        have hS_ : Cells wr.drew [(⟨b, o + j, none⟩, .slice A1 xs[j].length e1), (⟨b', o' + j, none⟩, .slice A2 ys[j].length e2)] := ⟨p1, q1, trivial⟩
        have HC := Lib.hid hS_
        clear hS_ p1 q1
        refine wpL_take (i := 0) (v := ?v1_) rfl (by kernel_rfl) (fun _ _ _ h => h) HC.out (by rfl) (fun w_ hw_ => ?h1_) ?_
        case h1_ => (try simp only [Cells_cons, Cells_nil, and_true] at hw_); go_split_ands; go_simp; try with_reducible rfl
        simp only [List.getElem_toArray, List.getElem_cons_zero, List.getElem_cons_succ, Act.put, List.setIfInBounds_toArray, List.set_cons_zero, List.set_cons_succ]
        refine wpL_take (i := 1) (v := ?v2_) rfl (by kernel_rfl) (fun _ _ _ h => h) HC.out (by rfl) (fun w_ hw_ => ?h2_) ?_
        case h2_ => (try simp only [Cells_cons, Cells_nil, and_true] at hw_); go_split_ands; go_simp; try with_reducible rfl
        simp only [List.getElem_toArray, List.getElem_cons_zero, List.getElem_cons_succ, Act.put, List.setIfInBounds_toArray, List.set_cons_zero, List.set_cons_succ]
        refine wpL_take (i := 2) (v := ?v3_) rfl (by kernel_rfl) (fun _ _ _ h => h) HC.out (by rfl) (fun w_ hw_ => ?h3_) ?_
        case h3_ => (try simp only [Cells_cons, Cells_nil, and_true] at hw_); go_split_ands; go_simp; try with_reducible rfl
        simp only [List.getElem_toArray, List.getElem_cons_zero, List.getElem_cons_succ, Act.put, List.setIfInBounds_toArray, List.set_cons_zero, List.set_cons_succ]
        refine wpL_take (i := 3) (v := ?v4_) rfl (by kernel_rfl) (fun _ _ _ h => h) HC.out (by rfl) (fun w_ hw_ => ?h4_) ?_
        case h4_ => (try simp only [Cells_cons, Cells_nil, and_true] at hw_); go_split_ands; go_simp; try with_reducible rfl
        simp only [List.getElem_toArray, List.getElem_cons_zero, List.getElem_cons_succ, Act.put, List.setIfInBounds_toArray, List.set_cons_zero, List.set_cons_succ]
        refine wpL_take (i := 4) (v := ?v5_) rfl (by kernel_rfl) (fun _ _ _ h => h) HC.out (by rfl) (fun w_ hw_ => ?h5_) ?_
        case h5_ => (try simp only [Cells_cons, Cells_nil, and_true] at hw_); go_split_ands; go_simp; try with_reducible rfl
        simp only [List.getElem_toArray, List.getElem_cons_zero, List.getElem_cons_succ, Act.put, List.setIfInBounds_toArray, List.set_cons_zero, List.set_cons_succ]
        refine wpL_take (i := 5) (v := ?v6_) rfl (by kernel_rfl) (fun _ _ _ h => h) HC.out (by rfl) (fun w_ hw_ => ?h6_) ?_
        case h6_ => (try simp only [Cells_cons, Cells_nil, and_true] at hw_); go_split_ands; go_simp; try with_reducible rfl
        simp only [List.getElem_toArray, List.getElem_cons_zero, List.getElem_cons_succ, Act.put, List.setIfInBounds_toArray, List.set_cons_zero, List.set_cons_succ]
        refine wpL_take (i := 6) (v := ?v7_) rfl (by kernel_rfl) (fun _ _ _ h => h) HC.out (by rfl) (fun w_ hw_ => ?h7_) ?_
        case h7_ => (try simp only [Cells_cons, Cells_nil, and_true] at hw_); go_split_ands; go_simp; try with_reducible rfl
        simp only [List.getElem_toArray, List.getElem_cons_zero, List.getElem_cons_succ, Act.put, List.setIfInBounds_toArray, List.set_cons_zero, List.set_cons_succ]
        refine wpL_take (i := 7) (v := ?v8_) rfl (by kernel_rfl) (fun _ _ _ h => h) HC.out (by rfl) (fun w_ hw_ => ?h8_) ?_
        case h8_ => (try simp only [Cells_cons, Cells_nil, and_true] at hw_); go_split_ands; go_simp; try with_reducible rfl
        simp only [List.getElem_toArray, List.getElem_cons_zero, List.getElem_cons_succ, Act.put, List.setIfInBounds_toArray, List.set_cons_zero, List.set_cons_succ]
        refine wpL_do (i := 8) rfl (by kernel_rfl) (by rfl) (fun K_ hK_ => ?_)
        go_simp
        refine (sameLevel (r1.ext0 (by repeat (first | with_reducible assumption | with_reducible exact Ext.refl _ _ | with_reducible refine Ext.alloc ?_ _ | with_reducible refine Ext.drew ?_ | with_reducible refine Ext.drewN ?_ _ | with_reducible refine Ext.setR ?_ ?_ _ | (dsimp only; omega) | (simp; done) | (simp; omega)))) (r2.ext0 (by repeat (first | with_reducible assumption | with_reducible exact Ext.refl _ _ | with_reducible refine Ext.alloc ?_ _ | with_reducible refine Ext.drew ?_ | with_reducible refine Ext.drewN ?_ _ | with_reducible refine Ext.setR ?_ ?_ _ | (dsimp only; omega) | (simp; done) | (simp; omega))))).mono ?_
        rintro e w1 ⟨q, rfl, hq, hx1⟩
        refine hK_ _ _ (fun _ => HC.out.keep hx1) (fun hS2 => ?_)
        have hS2 := hS2 (by decide)
        have HC2 := Lib.hid hS2
        have hx0 : Ext no w w1 := Ext.seq (by repeat (first | with_reducible assumption | with_reducible exact Ext.refl _ _ | with_reducible refine Ext.alloc ?_ _ | with_reducible refine Ext.drew ?_ | with_reducible refine Ext.drewN ?_ _ | with_reducible refine Ext.setR ?_ ?_ _ | (dsimp only; omega) | (simp; done) | (simp; omega))) hx1
        have HQ := Lib.hid hq
        clear hS2 hq
        refine wpL_take (i := 9) (v := ?v9_) rfl (by kernel_rfl) (fun _ _ _ h => h) HC2.out (by rfl) (fun w_ hw_ => ?h9_) ?_
        case h9_ => (try simp only [Cells_cons, Cells_nil, and_true] at hw_); go_split_ands; go_simp; try with_reducible rfl
        simp only [List.getElem_toArray, List.getElem_cons_zero, List.getElem_cons_succ, Act.put, List.setIfInBounds_toArray, List.set_cons_zero, List.set_cons_succ]
        refine wpL_done (by kernel_rfl) ?_ _
        cases q
        · go_wp2_with fail
          go_ret
          exact PB.f (ne_of_get hlt hlt2 (fun e => by have := HQ.out.2 e; cases this)) hx0
        · go_wp2_with fail
          go_roundw
          case rel => exact ⟨j + 1, by omega, by first | go_num | rfl | simp, take_eq_succ hlt hlt2 heq (by simpa using HQ.out)⟩
          case measure => simp [intOf]; omega
      · go_wp2_with fail
        go_ret
        exact PB.t (take_eq_all hl hlt heq) hext
  · have hn := lenB' hl
    go_enter Tryd.func89, Tryd.ntmps89
    go_wp2_with fail
    go_ret
    exact PB.f (len_ne hl) (Ext.refl _ _)

/-- The kit's SameTerm, as it is met below: of two terms that can be read. -/
def SameC (x : Tm) : Prop := ∀ (w : World) (S1 S2 : Nat → Prop) (y : Tm) (A K B J : Option Addr) (ca ck cb cj : Nat), RC w S1 x.d [.int .i64 x.k, .int .i64 x.n, .int .i64 x.a, .slice A x.ls.length ca, .slice K x.ks.length ck] → RC w S2 y.d [.int .i64 y.k, .int .i64 y.n, .int .i64 y.a, .slice B y.ls.length cb, .slice J y.ks.length cj] →
    Calls Tryd.prog 37 #[.agg #[.int .i64 x.k, .int .i64 x.n, .int .i64 x.a, .slice A x.ls.length ca, .slice K x.ks.length ck], .agg #[.int .i64 y.k, .int .i64 y.n, .int .i64 y.a, .slice B y.ls.length cb, .slice J y.ks.length cj]] w (PB w (x = y))
set_option maxHeartbeats 1000000 in
theorem sameTerms_ {w : World} {S1 S2 : Nat → Prop} {xs ys : List Tm} {A B : Option Addr} {c1 c2 : Nat} (HIH : Hid (∀ t ∈ xs, SameC t)) (h : RC w S1 (.l 26 5 (xs.map Tm.d)) [.slice A xs.length c1]) (k : RC w S2 (.l 26 5 (ys.map Tm.d)) [.slice B ys.length c2]) :
    Calls Tryd.prog 90 #[.slice A xs.length c1, .slice B ys.length c2] w (PB w (xs = ys)) := by
  have hM := h.lenM
  have kM := k.lenM
  by_cases hl : xs.length = ys.length
  · have hn := lenB hl
    have HL := Lib.hid hl
    go_enter Tryd.func90, Tryd.ntmps90
    go_wp2_with fail
    go_loopw [5] (fun i wr => ∃ j : Nat, j ≤ xs.length ∧ i = .int .i64 j ∧ xs.take j = ys.take j ∧ Ext no w wr) (fun i _ => xs.length - (intOf i).toNat)
    case atStart => exact ⟨0, Nat.zero_le _, rfl, by simp, Ext.refl _ _⟩
    case round =>
      obtain ⟨j, hj, rfl, heq, hext⟩ := hrel
      by_cases hlt : j < xs.length
      · have hlt2 : j < ys.length := by omega
        obtain ⟨b, o, A1, ca, A2, ck, rfl, hb, hS, r1, p0, p1, p2, p3, p4⟩ := (h.ext0 hext).atTm hlt
        obtain ⟨b', o', B1, cb, B2, cj, rfl, hb', hS', r2, q0, q1, q2, q3, q4⟩ := (k.ext0 hext).atTm hlt2
        go_wp2_with fail
        refine wp_region_L (fun w' => Cells w' [(⟨b, o + j * 5, none⟩, .int .i64 xs[j].k), (⟨b, o + j * 5 + 1, none⟩, .int .i64 xs[j].n), (⟨b, o + j * 5 + 2, none⟩, .int .i64 xs[j].a), (⟨b, o + j * 5 + 3, none⟩, .slice A1 xs[j].ls.length ca), (⟨b, o + j * 5 + 4, none⟩, .slice A2 xs[j].ks.length ck), (⟨b', o' + j * 5, none⟩, .int .i64 ys[j].k), (⟨b', o' + j * 5 + 1, none⟩, .int .i64 ys[j].n), (⟨b', o' + j * 5 + 2, none⟩, .int .i64 ys[j].a), (⟨b', o' + j * 5 + 3, none⟩, .slice B1 ys[j].ls.length cb), (⟨b', o' + j * 5 + 4, none⟩, .slice B2 ys[j].ks.length cj)]) [] (by kernel_rfl) ?_
        have hS_ : Cells wr.drew [(⟨b, o + j * 5, none⟩, .int .i64 xs[j].k), (⟨b, o + j * 5 + 1, none⟩, .int .i64 xs[j].n), (⟨b, o + j * 5 + 2, none⟩, .int .i64 xs[j].a), (⟨b, o + j * 5 + 3, none⟩, .slice A1 xs[j].ls.length ca), (⟨b, o + j * 5 + 4, none⟩, .slice A2 xs[j].ks.length ck), (⟨b', o' + j * 5, none⟩, .int .i64 ys[j].k), (⟨b', o' + j * 5 + 1, none⟩, .int .i64 ys[j].n), (⟨b', o' + j * 5 + 2, none⟩, .int .i64 ys[j].a), (⟨b', o' + j * 5 + 3, none⟩, .slice B1 ys[j].ls.length cb), (⟨b', o' + j * 5 + 4, none⟩, .slice B2 ys[j].ks.length cj)] := ⟨p0, p1, p2, p3, p4, q0, q1, q2, q3, q4, trivial⟩
        have HC := Lib.hid hS_
        clear hS_ p0 p1 p2 p3 p4 q0 q1 q2 q3 q4
        refine wpL_take (i := 0) (v := ?v10_) rfl (by kernel_rfl) (fun _ _ _ h => h) HC.out (by rfl) (fun w_ hw_ => ?h10_) ?_
        case h10_ => (try simp only [Cells_cons, Cells_nil, and_true] at hw_); go_split_ands; go_simp; try with_reducible rfl
        simp only [List.getElem_toArray, List.getElem_cons_zero, List.getElem_cons_succ, Act.put, List.setIfInBounds_toArray, List.set_cons_zero, List.set_cons_succ]
        refine wpL_take (i := 1) (v := ?v11_) rfl (by kernel_rfl) (fun _ _ _ h => h) HC.out (by rfl) (fun w_ hw_ => ?h11_) ?_
        case h11_ => (try simp only [Cells_cons, Cells_nil, and_true] at hw_); go_split_ands; go_simp; try with_reducible rfl
        simp only [List.getElem_toArray, List.getElem_cons_zero, List.getElem_cons_succ, Act.put, List.setIfInBounds_toArray, List.set_cons_zero, List.set_cons_succ]
        refine wpL_take (i := 2) (v := ?v12_) rfl (by kernel_rfl) (fun _ _ _ h => h) HC.out (by rfl) (fun w_ hw_ => ?h12_) ?_
        case h12_ => (try simp only [Cells_cons, Cells_nil, and_true] at hw_); go_split_ands; go_simp; try with_reducible rfl
        simp only [List.getElem_toArray, List.getElem_cons_zero, List.getElem_cons_succ, Act.put, List.setIfInBounds_toArray, List.set_cons_zero, List.set_cons_succ]
        refine wpL_take (i := 3) (v := ?v13_) rfl (by kernel_rfl) (fun _ _ _ h => h) HC.out (by rfl) (fun w_ hw_ => ?h13_) ?_
        case h13_ => (try simp only [Cells_cons, Cells_nil, and_true] at hw_); go_split_ands; go_simp; try with_reducible rfl
        simp only [List.getElem_toArray, List.getElem_cons_zero, List.getElem_cons_succ, Act.put, List.setIfInBounds_toArray, List.set_cons_zero, List.set_cons_succ]
        refine wpL_take (i := 4) (v := ?v14_) rfl (by kernel_rfl) (fun _ _ _ h => h) HC.out (by rfl) (fun w_ hw_ => ?h14_) ?_
        case h14_ => (try simp only [Cells_cons, Cells_nil, and_true] at hw_); go_split_ands; go_simp; try with_reducible rfl
        simp only [List.getElem_toArray, List.getElem_cons_zero, List.getElem_cons_succ, Act.put, List.setIfInBounds_toArray, List.set_cons_zero, List.set_cons_succ]
        refine wpL_take (i := 5) (v := ?v15_) rfl (by kernel_rfl) (fun _ _ _ h => h) HC.out (by rfl) (fun w_ hw_ => ?h15_) ?_
        case h15_ => (try simp only [Cells_cons, Cells_nil, and_true] at hw_); go_split_ands; go_simp; try with_reducible rfl
        simp only [List.getElem_toArray, List.getElem_cons_zero, List.getElem_cons_succ, Act.put, List.setIfInBounds_toArray, List.set_cons_zero, List.set_cons_succ]
        refine wpL_take (i := 6) (v := ?v16_) rfl (by kernel_rfl) (fun _ _ _ h => h) HC.out (by rfl) (fun w_ hw_ => ?h16_) ?_
        case h16_ => (try simp only [Cells_cons, Cells_nil, and_true] at hw_); go_split_ands; go_simp; try with_reducible rfl
        simp only [List.getElem_toArray, List.getElem_cons_zero, List.getElem_cons_succ, Act.put, List.setIfInBounds_toArray, List.set_cons_zero, List.set_cons_succ]
        refine wpL_take (i := 7) (v := ?v17_) rfl (by kernel_rfl) (fun _ _ _ h => h) HC.out (by rfl) (fun w_ hw_ => ?h17_) ?_
        case h17_ => (try simp only [Cells_cons, Cells_nil, and_true] at hw_); go_split_ands; go_simp; try with_reducible rfl
        simp only [List.getElem_toArray, List.getElem_cons_zero, List.getElem_cons_succ, Act.put, List.setIfInBounds_toArray, List.set_cons_zero, List.set_cons_succ]
        refine wpL_do (i := 8) rfl (by kernel_rfl) (by rfl) (fun K_ hK_ => ?_)
        go_simp
        refine (HIH.out xs[j] (by simp) _ _ _ _ _ _ _ _ _ _ _ _ (r1.ext0 (by repeat (first | with_reducible assumption | with_reducible exact Ext.refl _ _ | with_reducible refine Ext.alloc ?_ _ | with_reducible refine Ext.drew ?_ | with_reducible refine Ext.drewN ?_ _ | with_reducible refine Ext.setR ?_ ?_ _ | (dsimp only; omega) | (simp; done) | (simp; omega)))) (r2.ext0 (by repeat (first | with_reducible assumption | with_reducible exact Ext.refl _ _ | with_reducible refine Ext.alloc ?_ _ | with_reducible refine Ext.drew ?_ | with_reducible refine Ext.drewN ?_ _ | with_reducible refine Ext.setR ?_ ?_ _ | (dsimp only; omega) | (simp; done) | (simp; omega))))).mono ?_
        rintro e w1 ⟨q, rfl, hq, hx1⟩
        refine hK_ _ _ (fun _ => HC.out.keep hx1) (fun hS2 => ?_)
        have hS2 := hS2 (by decide)
        have HC2 := Lib.hid hS2
        have hx0 : Ext no w w1 := Ext.seq (by repeat (first | with_reducible assumption | with_reducible exact Ext.refl _ _ | with_reducible refine Ext.alloc ?_ _ | with_reducible refine Ext.drew ?_ | with_reducible refine Ext.drewN ?_ _ | with_reducible refine Ext.setR ?_ ?_ _ | (dsimp only; omega) | (simp; done) | (simp; omega))) hx1
        have HQ := Lib.hid hq
        clear hS2 hq
        refine wpL_take (i := 9) (v := ?v18_) rfl (by kernel_rfl) (fun _ _ _ h => h) HC2.out (by rfl) (fun w_ hw_ => ?h18_) ?_
        case h18_ => (try simp only [Cells_cons, Cells_nil, and_true] at hw_); go_split_ands; go_simp; try with_reducible rfl
        simp only [List.getElem_toArray, List.getElem_cons_zero, List.getElem_cons_succ, Act.put, List.setIfInBounds_toArray, List.set_cons_zero, List.set_cons_succ]
        refine wpL_done (by kernel_rfl) ?_ _
        cases q
        · go_wp2_with fail
          go_ret
          exact PB.f (ne_of_get hlt hlt2 (fun e => by have := HQ.out.2 e; cases this)) hx0
        · go_wp2_with fail
          go_roundw
          case rel => exact ⟨j + 1, by omega, by first | go_num | rfl | simp, take_eq_succ hlt hlt2 heq (by simpa using HQ.out)⟩
          case measure => simp [intOf]; omega
      · go_wp2_with fail
        go_ret
        exact PB.t (take_eq_all hl hlt heq) hext
  · have hn := lenB' hl
    go_enter Tryd.func90, Tryd.ntmps90
    go_wp2_with fail
    go_ret
    exact PB.f (len_ne hl) (Ext.refl _ _)

set_option maxRecDepth 100000 in
set_option maxHeartbeats 2000000 in
theorem sameTerm_ : ∀ x : Tm, SameC x := by
  intro x
  induction x using Tm.ind_ with
  | h k n a ls ks ih =>
  intro w S1 S2 y A K B J ca ck cb cj hr1 hr2
  have HIH := Lib.hid ih
  clear ih
  obtain ⟨_, _, _, _, he, i1, i2, i3, l1, k1⟩ := RC.tm.1 hr1
  simp only [List.cons.injEq, Value.slice.injEq, and_true, true_and] at he
  obtain ⟨⟨rfl, rfl⟩, rfl, rfl⟩ := he
  obtain ⟨_, _, _, _, he, j1, j2, j3, l2, k2⟩ := RC.tm.1 hr2
  simp only [List.cons.injEq, Value.slice.injEq, and_true, true_and] at he
  obtain ⟨⟨rfl, rfl⟩, rfl, rfl⟩ := he
  clear hr1 hr2
  simp only [Tm.k_mk, Tm.n_mk, Tm.a_mk, Tm.ls_mk, Tm.ks_mk] at l1 k1 i1 i2 i3 ⊢
  obtain ⟨yk, yn, ya, yls, yks⟩ := y
  simp only [Tm.k_mk, Tm.n_mk, Tm.a_mk, Tm.ls_mk, Tm.ks_mk] at l2 k2 j1 j2 j3 ⊢
  by_cases h1 : k = yk
  · have g1 : (k == yk) = true := by simpa using h1
    by_cases h2 : n = yn
    · have g2 : (n == yn) = true := by simpa using h2
      by_cases h3 : a = ya
      · have g3 : (a == ya) = true := by simpa using h3
        have H := Lib.hid (And.intro h1 (And.intro h2 h3))
        clear h1 h2 h3
        go_enter Tryd.func37, Tryd.ntmps37
        go_wp2_with fail
        refine (sameLevels (l1.ext0 (by repeat (first | with_reducible assumption | with_reducible exact Ext.refl _ _ | with_reducible refine Ext.alloc ?_ _ | with_reducible refine Ext.drew ?_ | with_reducible refine Ext.drewN ?_ _ | with_reducible refine Ext.setR ?_ ?_ _ | (dsimp only; omega) | (simp; done) | (simp; omega)))) (l2.ext0 (by repeat (first | with_reducible assumption | with_reducible exact Ext.refl _ _ | with_reducible refine Ext.alloc ?_ _ | with_reducible refine Ext.drew ?_ | with_reducible refine Ext.drewN ?_ _ | with_reducible refine Ext.setR ?_ ?_ _ | (dsimp only; omega) | (simp; done) | (simp; omega))))).mono ?_
        rintro e w1 ⟨q, rfl, hq, hx1⟩
        have hx0 : Ext no w _ := Ext.seq (by repeat (first | with_reducible assumption | with_reducible exact Ext.refl _ _ | with_reducible refine Ext.alloc ?_ _ | with_reducible refine Ext.drew ?_ | with_reducible refine Ext.drewN ?_ _ | with_reducible refine Ext.setR ?_ ?_ _ | (dsimp only; omega) | (simp; done) | (simp; omega))) hx1
        obtain ⟨hc_, hf_, hz_⟩ := Ext.rules hx1
        simp only [World.size_alloc] at hz_
        have HQ := Lib.hid hq
        have HX := Lib.hid hx0
        have HX1 := Lib.hid hx1
        clear hq hx0 hx1
        cases q
        · go_wp2_with fail
          go_ret
          exact PB.f (fun e => by have := HQ.out.2 (by injection e); cases this) HX.out
        · go_wp2_with fail
          refine (sameTerms_ HIH (k1.ext0 HX.out) (k2.ext0 HX.out)).mono ?_
          rintro e w2 ⟨q, rfl, hq, hx2⟩
          have HX2 := Lib.hid hx2
          have HQ2 := Lib.hid hq
          clear hx2 hq
          go_wp2_with fail
          go_ret
          refine ⟨q, rfl, ?_, HX.out.seq HX2.out⟩
          have hH := H.out
          have hQ := HQ.out
          rw [HQ2.out]
          simp only [true_iff] at hQ
          constructor
          · rintro rfl; rw [hH.1, hH.2.1, hH.2.2, hQ]
          · intro e; injection e
      · have g3 : (a == ya) = false := by simpa using h3
        have H := Lib.hid h3
        clear h1 h2 h3
        go_enter Tryd.func37, Tryd.ntmps37
        go_wp2_with fail
        go_ret
        exact PB.f (fun e => H.out (by injection e)) (by repeat (first | with_reducible assumption | with_reducible exact Ext.refl _ _ | with_reducible refine Ext.alloc ?_ _ | with_reducible refine Ext.drew ?_ | with_reducible refine Ext.drewN ?_ _ | with_reducible refine Ext.setR ?_ ?_ _ | (dsimp only; omega) | (simp; done) | (simp; omega)))
    · have g2 : (n == yn) = false := by simpa using h2
      have H := Lib.hid h2
      clear h1 h2
      go_enter Tryd.func37, Tryd.ntmps37
      go_wp2_with fail
      go_ret
      exact PB.f (fun e => H.out (by injection e)) (by repeat (first | with_reducible assumption | with_reducible exact Ext.refl _ _ | with_reducible refine Ext.alloc ?_ _ | with_reducible refine Ext.drew ?_ | with_reducible refine Ext.drewN ?_ _ | with_reducible refine Ext.setR ?_ ?_ _ | (dsimp only; omega) | (simp; done) | (simp; omega)))
  · have g1 : (k == yk) = false := by simpa using h1
    have H := Lib.hid h1
    clear h1
    go_enter Tryd.func37, Tryd.ntmps37
    go_wp2_with fail
    go_ret
    exact PB.f (fun e => H.out (by injection e)) (by repeat (first | with_reducible assumption | with_reducible exact Ext.refl _ _ | with_reducible refine Ext.alloc ?_ _ | with_reducible refine Ext.drew ?_ | with_reducible refine Ext.drewN ?_ _ | with_reducible refine Ext.setR ?_ ?_ _ | (dsimp only; omega) | (simp; done) | (simp; omega)))
theorem sameTerms {w : World} {S1 S2 : Nat → Prop} {xs ys : List Tm} {A B : Option Addr} {c1 c2 : Nat} (h : RC w S1 (.l 26 5 (xs.map Tm.d)) [.slice A xs.length c1]) (k : RC w S2 (.l 26 5 (ys.map Tm.d)) [.slice B ys.length c2]) :
    Calls Tryd.prog 90 #[.slice A xs.length c1, .slice B ys.length c2] w (PB w (xs = ys)) := sameTerms_ (Lib.hid fun t _ => sameTerm_ t) h k
theorem sameTerm {w : World} {S1 S2 : Nat → Prop} {x y : Tm} {u v : Value} (h : TV w S1 x u) (k : TV w S2 y v) : Calls Tryd.prog 37 #[u, v] w (PB w (x = y)) := by
  obtain ⟨_, _, _, _, rfl, h⟩ := h
  obtain ⟨_, _, _, _, rfl, k⟩ := k
  exact sameTerm_ x w S1 S2 y _ _ _ _ _ _ _ _ h k
end Go.Proofs.YtgbokmphbimihaaDoor
/- The kit's looks whether two arguments, rules are the same, where they are: contracts. No statement of the seat is proved here. -/
namespace Go.Proofs.YtgbokmphbimihaaDoor
set_option linter.unusedSimpArgs false
set_option linter.unusedVariables false
open Go.RowKit

theorem PB.yes12 {w w' : World} {e : Ending} (h : PB w True e w') : PV w (.bool true) e w' := by
  obtain ⟨q, rfl, hq, hx⟩ := h
  obtain rfl : q = true := hq.2 trivial
  exact ⟨rfl, hx⟩
theorem sameLvS (x : Lv) (w : World) (S S' : Nat → Prop) (cs cs' : List Value) (h : RC w S (lvD x) cs) (k : RC w S' (lvD x) cs') : Calls Tryd.prog 146 #[.agg cs.toArray, .agg cs'.toArray] w (PV w (.bool true)) := by
  obtain ⟨A, c, rfl, h1⟩ := RC.lv.1 h
  obtain ⟨B, c', rfl, h2⟩ := RC.lv.1 k
  exact (sameLevel h1 h2).mono fun e w' hp => PB.yes12 (by simpa using hp)
theorem sameTmS (x : Tm) (w : World) (S S' : Nat → Prop) (cs cs' : List Value) (h : RC w S x.d cs) (k : RC w S' x.d cs') : Calls Tryd.prog 37 #[.agg cs.toArray, .agg cs'.toArray] w (PV w (.bool true)) := by
  obtain ⟨A, c, B, d, rfl, _⟩ := RC.tm.1 h
  obtain ⟨A', c', B', d', rfl, _⟩ := RC.tm.1 k
  exact (sameTerm (x := x) (y := x) ⟨_, _, _, _, rfl, h⟩ ⟨_, _, _, _, rfl, k⟩).mono fun e w' hp => PB.yes12 (by simpa using hp)
theorem sameTmsS {w : World} {S S' : Nat → Prop} {xs : List Tm} {A B : Option Addr} {c c' : Nat} (h : RC w S (.l 26 5 (xs.map Tm.d)) [.slice A xs.length c]) (k : RC w S' (.l 26 5 (xs.map Tm.d)) [.slice B xs.length c']) : Calls Tryd.prog 90 #[.slice A xs.length c, .slice B xs.length c'] w (PV w (.bool true)) :=
  (sameTerms h k).mono fun e w' hp => PB.yes12 (by simpa using hp)
set_option maxRecDepth 100000 in
set_option maxHeartbeats 4000000 in
theorem sameArS (x : Ar) (w : World) (S S' : Nat → Prop) (cs cs' : List Value) (h : RC w S x.d cs) (k : RC w S' x.d cs') : Calls Tryd.prog 188 #[.agg cs.toArray, .agg cs'.toArray] w (PV w (.bool true)) := by
  obtain ⟨A1, c1, A2, c2, A3, c3, A4, c4, rfl, h1, h2, _, h3⟩ := RC.ar.1 h
  obtain ⟨B1, d1, B2, d2, B3, d3, B4, d4, rfl, k1, k2, _, k3⟩ := RC.ar.1 k
  have H1 := Lib.hid h1
  have H2 := Lib.hid h2
  have H3 := Lib.hid h3
  have K1 := Lib.hid k1
  have K2 := Lib.hid k2
  have K3 := Lib.hid k3
  clear h k h1 h2 h3 k1 k2 k3
  go_enter Tryd.func188, Tryd.ntmps188
  go_wp2_with fail
  have H := Hp.start no w
  refine callsH (by (repeat (first | with_reducible exact H | with_reducible exact H0_ | with_reducible apply Hp.alloc | with_reducible apply Hp.allocMap | with_reducible apply Hp.drew | with_reducible apply Hp.drewN | with_reducible apply Hp.set)); (try any_goals (repeat (first | with_reducible exact Upd.head | with_reducible apply Upd.tail)))) ?_
  clear H; intro w1 H; (try simp only [size_drew_, size_drewN_, World.size_alloc, World.size_setCell, List.set_cons_zero, List.set_cons_succ] at H)
  refine (sameTmS x.ty _ _ _ _ _ (H1.out.ext0 H.ext) (K1.out.ext0 H.ext)).mono ?_
  rintro e w_ ⟨rfl, hx⟩
  replace H := H.call hx
  clear hx
  have hr_ := H.rules; simp only [Rules, and_true] at hr_; have hd_ := H.dif; simp only [Dif, Neq, and_true] at hd_; obtain ⟨ho_, hz_⟩ := H.old0
  go_wp2_with fail
  (try clear hr_ hd_ ho_ hz_)
  refine (sameTmsS (H2.out.ext0 H.ext) (K2.out.ext0 H.ext)).mono ?_
  rintro e w_ ⟨rfl, hx⟩
  replace H := H.call hx
  clear hx
  have hr_ := H.rules; simp only [Rules, and_true] at hr_; have hd_ := H.dif; simp only [Dif, Neq, and_true] at hd_; obtain ⟨ho_, hz_⟩ := H.old0
  go_wp2_with fail
  (try clear hr_ hd_ ho_ hz_)
  refine (sameTmsS (H3.out.ext0 H.ext) (K3.out.ext0 H.ext)).mono ?_
  rintro e w_ ⟨rfl, hx⟩
  replace H := H.call hx
  clear hx
  go_wp2_with fail
  go_ret
  exact ⟨rfl, H.ext⟩
set_option maxRecDepth 100000 in
set_option maxHeartbeats 4000000 in
theorem sameArsS {w : World} {S S' : Nat → Prop} {xs : List Ar} {A B : Option Addr} {c cb : Nat} (h : RC w S (.l 80 9 (xs.map Ar.d)) [.slice A xs.length c]) (k : RC w S' (.l 80 9 (xs.map Ar.d)) [.slice B xs.length cb]) :
    Calls Tryd.prog 148 #[.slice A xs.length c, .slice B xs.length cb] w (PV w (.bool true)) := by
  have hM := h.lenM
  go_enter Tryd.func148, Tryd.ntmps148
  go_wp2_with fail
  have H := Hp.start no w
  go_loopw [5] (fun i wr => ∃ j : Nat, j ≤ xs.length ∧ i = .int .i64 j ∧ Hp no w wr []) (fun i _ => xs.length - (intOf i).toNat)
  case atStart => exact ⟨0, Nat.zero_le _, rfl, H⟩
  case round =>
    clear H
    obtain ⟨j, hj, rfl, H⟩ := hrel
    by_cases hlt : j < xs.length
    · obtain ⟨b, o, cs, rfl, hb, hS, hd, hl, hc⟩ := h.el (i := j) (d := Ar.d xs[j]) (by simp [hlt])
      obtain ⟨b', o', cs', rfl, hb', hS', hd', hl', hc'⟩ := k.el (i := j) (d := Ar.d xs[j]) (by simp [hlt])
      (try simp only [Nat.mul_one] at hc hc')
      have HD := Lib.hid hd
      have HL := Lib.hid hl
      have HC := Lib.hid hc
      have HD' := Lib.hid hd'
      have HL' := Lib.hid hl'
      have HC' := Lib.hid hc'
      clear hd hl hc hd' hl' hc'
      have hr_ := H.rules; simp only [Rules, and_true] at hr_; have hd_ := H.dif; simp only [Dif, Neq, and_true] at hd_; obtain ⟨ho_, hz_⟩ := H.old0
      go_wp2_with fail
      (try clear hr_ hd_ ho_ hz_)
      refine regionH (by (repeat (first | with_reducible exact H | with_reducible exact H0_ | with_reducible apply Hp.alloc | with_reducible apply Hp.allocMap | with_reducible apply Hp.drew | with_reducible apply Hp.drewN | with_reducible apply Hp.set)); (try any_goals (repeat (first | with_reducible exact Upd.head | with_reducible apply Upd.tail)))) ?_
      clear H; intro w2 H; (try simp only [size_drew_, size_drewN_, World.size_alloc, World.size_setCell, List.set_cons_zero, List.set_cons_succ] at H)
      refine wp_region_H 10 [false, false, false, false, false, false, false, false, false, false] [] H .nil (by kernel_rfl) rfl rfl (fun H_ hR_ => ?_)
      (try clear H0_); have H0_ := H; clear H; have H := H_; clear H_
      refine wpL_reads (is := [(0, ?v1_0), (1, ?v1_1), (2, ?v1_2), (3, ?v1_3), (4, ?v1_4), (5, ?v1_5), (6, ?v1_6), (7, ?v1_7)]) (by kernel_rfl) (Nat.le_of_ble_eq_true rfl) (by intro _ _ d_ _ _ h_; cases d_ <;> exact h_) (by kernel_rfl) hR_ (fun w_ hw_ => ?h1_) ?_
      case h1_ =>
        have ho_ := hw_.old0.1; have hz_ := hw_.old0.2; have hr_ := hw_.rules; simp only [Rules, and_true] at hr_; go_split_ands
        (repeat (first | with_reducible exact RdOps.nil | (refine RdOps.run rfl (by rfl) ?_ ?_; (focus (first | (refine Eq.trans (run_loadL aggArg rfl rfl HL.out (hw_.lies hb no_not HC.out)) ?_; with_reducible rfl) | (refine Eq.trans (run_loadL aggArg rfl rfl HL'.out (hw_.lies hb' no_not HC'.out)) ?_; with_reducible rfl) | (go_simp; done) | (go_simp; with_reducible rfl))); simp only [List.getElem_toArray, List.getElem_cons_zero, List.getElem_cons_succ, Act.put, List.setIfInBounds_toArray, List.set_cons_zero, List.set_cons_succ]) | (refine RdOps.skip rfl (by rfl) ?_ ?_; (focus (with_reducible rfl)); simp only [List.getElem_toArray, List.getElem_cons_zero, List.getElem_cons_succ, Act.put, List.setIfInBounds_toArray, List.set_cons_zero, List.set_cons_succ])))
      simp only [rdMark, rdAct, List.map_cons, List.map_nil, List.length_cons, List.length_nil, Nat.reduceAdd, Nat.reduceSub, Nat.zero_add, List.getElem?_toArray, List.getElem?_cons_zero, List.getElem?_cons_succ, Option.bind_some, Act.put, List.setIfInBounds_toArray, List.set_cons_zero, List.set_cons_succ]
      refine wpL_do (i := 8) rfl (by kernel_rfl) (by rfl) (fun K_ hK_ => ?_)
      go_simp
      refine (sameArS xs[j] _ S S' cs cs' (HD.out.ext0 H.ext) (HD'.out.ext0 H.ext)).mono ?_
      rintro e w_ ⟨rfl, hx⟩
      replace H := H.call hx
      clear hx
      refine hK_ _ _ (fun _ => H.sub (by simp)) (fun hR_ => ?_)
      replace hR_ := hR_ (by decide)
      refine wpL_reads (is := [(9, ?v2_0)]) (by kernel_rfl) (Nat.le_of_ble_eq_true rfl) (by intro _ _ d_ _ _ h_; cases d_ <;> exact h_) (by kernel_rfl) hR_ (fun w_ hw_ => ?h2_) ?_
      case h2_ =>
        have ho_ := hw_.old0.1; have hz_ := hw_.old0.2; have hr_ := hw_.rules; clear hw_; simp only [Rules, and_true] at hr_; go_split_ands
        (repeat (first | with_reducible exact RdOps.nil | (refine RdOps.run rfl (by rfl) ?_ ?_; (focus (first | (go_simp; done) | (go_simp; with_reducible rfl))); simp only [List.getElem_toArray, List.getElem_cons_zero, List.getElem_cons_succ, Act.put, List.setIfInBounds_toArray, List.set_cons_zero, List.set_cons_succ]) | (refine RdOps.skip rfl (by rfl) ?_ ?_; (focus (with_reducible rfl)); simp only [List.getElem_toArray, List.getElem_cons_zero, List.getElem_cons_succ, Act.put, List.setIfInBounds_toArray, List.set_cons_zero, List.set_cons_succ])))
      simp only [rdMark, rdAct, List.map_cons, List.map_nil, List.length_cons, List.length_nil, Nat.reduceAdd, Nat.reduceSub, Nat.zero_add, List.getElem?_toArray, List.getElem?_cons_zero, List.getElem?_cons_succ, Option.bind_some, Act.put, List.setIfInBounds_toArray, List.set_cons_zero, List.set_cons_succ]
      refine wpL_done (by kernel_rfl) ?_ _
      go_wp2_with fail
      go_roundw
      case rel => exact ⟨j + 1, by omega, by first | go_num | rfl | simp, H⟩
      case measure => simp [intOf]; omega
    · go_wp2_with fail
      go_ret
      exact ⟨rfl, H.ext⟩
theorem aggRule : AggT Tryd.prog 68 3 := ⟨_, Tryd.underlying68, rfl, by kernel_rfl⟩
set_option maxRecDepth 100000 in
set_option maxHeartbeats 4000000 in
theorem sameRuS (x : Ru) (w : World) (S S' : Nat → Prop) (cs cs' : List Value) (h : RC w S x.d cs) (k : RC w S' x.d cs') : Calls Tryd.prog 94 #[.agg cs.toArray, .agg cs'.toArray] w (PV w (.bool true)) := by
  obtain ⟨A1, c1, A2, c2, rfl, _, h1, h2⟩ := RC.ru.1 h
  obtain ⟨B1, d1, B2, d2, rfl, _, k1, k2⟩ := RC.ru.1 k
  have H1 := Lib.hid h1
  have H2 := Lib.hid h2
  have K1 := Lib.hid k1
  have K2 := Lib.hid k2
  clear h k h1 h2 k1 k2
  go_enter Tryd.func94, Tryd.ntmps94
  go_wp2_with fail
  have H := Hp.start no w
  refine callsH (by (repeat (first | with_reducible exact H | with_reducible exact H0_ | with_reducible apply Hp.alloc | with_reducible apply Hp.allocMap | with_reducible apply Hp.drew | with_reducible apply Hp.drewN | with_reducible apply Hp.set)); (try any_goals (repeat (first | with_reducible exact Upd.head | with_reducible apply Upd.tail)))) ?_
  clear H; intro w1 H; (try simp only [size_drew_, size_drewN_, World.size_alloc, World.size_setCell, List.set_cons_zero, List.set_cons_succ] at H)
  refine (sameArsS (H1.out.ext0 H.ext) (K1.out.ext0 H.ext)).mono ?_
  rintro e w_ ⟨rfl, hx⟩
  replace H := H.call hx
  clear hx
  have hr_ := H.rules; simp only [Rules, and_true] at hr_; have hd_ := H.dif; simp only [Dif, Neq, and_true] at hd_; obtain ⟨ho_, hz_⟩ := H.old0
  go_wp2_with fail
  (try clear hr_ hd_ ho_ hz_)
  refine (sameTmsS (H2.out.ext0 H.ext) (K2.out.ext0 H.ext)).mono ?_
  rintro e w_ ⟨rfl, hx⟩
  replace H := H.call hx
  clear hx
  go_wp2_with fail
  go_ret
  exact ⟨rfl, H.ext⟩
set_option maxRecDepth 100000 in
set_option maxHeartbeats 4000000 in
theorem sameRusS {w : World} {S S' : Nat → Prop} {xs : List Ru} {A B : Option Addr} {c cb : Nat} (h : RC w S (.l 68 3 (xs.map Ru.d)) [.slice A xs.length c]) (k : RC w S' (.l 68 3 (xs.map Ru.d)) [.slice B xs.length cb]) :
    Calls Tryd.prog 39 #[.slice A xs.length c, .slice B xs.length cb] w (PV w (.bool true)) := by
  have hM := h.lenM
  go_enter Tryd.func39, Tryd.ntmps39
  go_wp2_with fail
  have H := Hp.start no w
  go_loopw [5] (fun i wr => ∃ j : Nat, j ≤ xs.length ∧ i = .int .i64 j ∧ Hp no w wr []) (fun i _ => xs.length - (intOf i).toNat)
  case atStart => exact ⟨0, Nat.zero_le _, rfl, H⟩
  case round =>
    clear H
    obtain ⟨j, hj, rfl, H⟩ := hrel
    by_cases hlt : j < xs.length
    · obtain ⟨b, o, cs, rfl, hb, hS, hd, hl, hc⟩ := h.el (i := j) (d := Ru.d xs[j]) (by simp [hlt])
      obtain ⟨b', o', cs', rfl, hb', hS', hd', hl', hc'⟩ := k.el (i := j) (d := Ru.d xs[j]) (by simp [hlt])
      (try simp only [Nat.mul_one] at hc hc')
      have HD := Lib.hid hd
      have HL := Lib.hid hl
      have HC := Lib.hid hc
      have HD' := Lib.hid hd'
      have HL' := Lib.hid hl'
      have HC' := Lib.hid hc'
      clear hd hl hc hd' hl' hc'
      have hr_ := H.rules; simp only [Rules, and_true] at hr_; have hd_ := H.dif; simp only [Dif, Neq, and_true] at hd_; obtain ⟨ho_, hz_⟩ := H.old0
      go_wp2_with fail
      (try clear hr_ hd_ ho_ hz_)
      refine regionH (by (repeat (first | with_reducible exact H | with_reducible exact H0_ | with_reducible apply Hp.alloc | with_reducible apply Hp.allocMap | with_reducible apply Hp.drew | with_reducible apply Hp.drewN | with_reducible apply Hp.set)); (try any_goals (repeat (first | with_reducible exact Upd.head | with_reducible apply Upd.tail)))) ?_
      clear H; intro w2 H; (try simp only [size_drew_, size_drewN_, World.size_alloc, World.size_setCell, List.set_cons_zero, List.set_cons_succ] at H)
      refine wp_region_H 10 [false, false, false, false, false, false, false, false, false, false] [] H .nil (by kernel_rfl) rfl rfl (fun H_ hR_ => ?_)
      (try clear H0_); have H0_ := H; clear H; have H := H_; clear H_
      refine wpL_reads (is := [(0, ?v3_0), (1, ?v3_1), (2, ?v3_2), (3, ?v3_3), (4, ?v3_4), (5, ?v3_5), (6, ?v3_6), (7, ?v3_7)]) (by kernel_rfl) (Nat.le_of_ble_eq_true rfl) (by intro _ _ d_ _ _ h_; cases d_ <;> exact h_) (by kernel_rfl) hR_ (fun w_ hw_ => ?h3_) ?_
      case h3_ =>
        have ho_ := hw_.old0.1; have hz_ := hw_.old0.2; have hr_ := hw_.rules; simp only [Rules, and_true] at hr_; go_split_ands
        (repeat (first | with_reducible exact RdOps.nil | (refine RdOps.run rfl (by rfl) ?_ ?_; (focus (first | (refine Eq.trans (run_loadL aggRule rfl rfl HL.out (hw_.lies hb no_not HC.out)) ?_; with_reducible rfl) | (refine Eq.trans (run_loadL aggRule rfl rfl HL'.out (hw_.lies hb' no_not HC'.out)) ?_; with_reducible rfl) | (go_simp; done) | (go_simp; with_reducible rfl))); simp only [List.getElem_toArray, List.getElem_cons_zero, List.getElem_cons_succ, Act.put, List.setIfInBounds_toArray, List.set_cons_zero, List.set_cons_succ]) | (refine RdOps.skip rfl (by rfl) ?_ ?_; (focus (with_reducible rfl)); simp only [List.getElem_toArray, List.getElem_cons_zero, List.getElem_cons_succ, Act.put, List.setIfInBounds_toArray, List.set_cons_zero, List.set_cons_succ])))
      simp only [rdMark, rdAct, List.map_cons, List.map_nil, List.length_cons, List.length_nil, Nat.reduceAdd, Nat.reduceSub, Nat.zero_add, List.getElem?_toArray, List.getElem?_cons_zero, List.getElem?_cons_succ, Option.bind_some, Act.put, List.setIfInBounds_toArray, List.set_cons_zero, List.set_cons_succ]
      refine wpL_do (i := 8) rfl (by kernel_rfl) (by rfl) (fun K_ hK_ => ?_)
      go_simp
      refine (sameRuS xs[j] _ S S' cs cs' (HD.out.ext0 H.ext) (HD'.out.ext0 H.ext)).mono ?_
      rintro e w_ ⟨rfl, hx⟩
      replace H := H.call hx
      clear hx
      refine hK_ _ _ (fun _ => H.sub (by simp)) (fun hR_ => ?_)
      replace hR_ := hR_ (by decide)
      refine wpL_reads (is := [(9, ?v4_0)]) (by kernel_rfl) (Nat.le_of_ble_eq_true rfl) (by intro _ _ d_ _ _ h_; cases d_ <;> exact h_) (by kernel_rfl) hR_ (fun w_ hw_ => ?h4_) ?_
      case h4_ =>
        have ho_ := hw_.old0.1; have hz_ := hw_.old0.2; have hr_ := hw_.rules; clear hw_; simp only [Rules, and_true] at hr_; go_split_ands
        (repeat (first | with_reducible exact RdOps.nil | (refine RdOps.run rfl (by rfl) ?_ ?_; (focus (first | (go_simp; done) | (go_simp; with_reducible rfl))); simp only [List.getElem_toArray, List.getElem_cons_zero, List.getElem_cons_succ, Act.put, List.setIfInBounds_toArray, List.set_cons_zero, List.set_cons_succ]) | (refine RdOps.skip rfl (by rfl) ?_ ?_; (focus (with_reducible rfl)); simp only [List.getElem_toArray, List.getElem_cons_zero, List.getElem_cons_succ, Act.put, List.setIfInBounds_toArray, List.set_cons_zero, List.set_cons_succ])))
      simp only [rdMark, rdAct, List.map_cons, List.map_nil, List.length_cons, List.length_nil, Nat.reduceAdd, Nat.reduceSub, Nat.zero_add, List.getElem?_toArray, List.getElem?_cons_zero, List.getElem?_cons_succ, Option.bind_some, Act.put, List.setIfInBounds_toArray, List.set_cons_zero, List.set_cons_succ]
      refine wpL_done (by kernel_rfl) ?_ _
      go_wp2_with fail
      go_roundw
      case rel => exact ⟨j + 1, by omega, by first | go_num | rfl | simp, H⟩
      case measure => simp [intOf]; omega
    · go_wp2_with fail
      go_ret
      exact ⟨rfl, H.ext⟩
end Go.Proofs.YtgbokmphbimihaaDoor
