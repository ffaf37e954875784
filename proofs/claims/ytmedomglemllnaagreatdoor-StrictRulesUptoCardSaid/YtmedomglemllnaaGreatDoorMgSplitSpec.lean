/- The library's search in a row of truths: contracts. No statement of the seat is proved here. -/
import Derived.Test.YtmedomglemllnaaGreatDoorMgTele3
import Derived.BigQuiet
import Derived.Test.YtmedomglemllnaaGreatDoorHp
import Derived.Test.YtmedomglemllnaaGreatDoorMgBack
import Derived.Shelf.Abstract
import Derived.Test.YtmedomglemllnaaGreatDoorMgSelf
import Derived.Test.YtmedomglemllnaaGreatDoorFree
import Derived.Test.YtmedomglemllnaaGreatDoorMgTeleLaw
namespace Go.Proofs.YtmedomglemllnaaGreatDoor
set_option linter.unusedSimpArgs false
set_option linter.unusedVariables false
open Go.RowKit

theorem RC.atB {w : World} {S : Nat → Prop} {xs : List Bool} {A : Option Addr} {n c k : Nat} (h : RC w S (.l 4 1 (xs.map D.b)) [.slice A n c]) (hk : k < xs.length) :
    ∃ b o, A = some ⟨b, o, none⟩ ∧ b < w.heap.size ∧ S b ∧ w.cell? ⟨b, o + k, none⟩ = some (.bool xs[k]) := by
  obtain ⟨b, o, cs, rfl, hb, hS, hrc, hl, hcell⟩ := h.at_ (i := k) (d := D.b xs[k]) (by simp [hk])
  unfold RC at hrc
  subst hrc
  exact ⟨b, o, rfl, hb, hS, by simpa using hcell 0 _ rfl⟩
theorem Blk.truths {w : World} {g t : Nat} {bs : List Bool} {n : Nat} (h : Blk w g t (bs.map Value.bool).toArray) (hn : n = bs.length) (hM : bs.length ≤ 100) : RC w (fun _ => True) (.l 4 1 (bs.map D.b)) [.slice (some ⟨g, 0, none⟩) n n] := by
  subst hn
  unfold RC
  refine ⟨_, _, by rw [List.length_map], by simp, by simp [maxLen]; omega, by simp [M]; omega, fun d hd => ?_, .inr ⟨g, 0, bs.map Value.bool, rfl, h.lt, trivial, ?_, fun j u hu => ?_⟩⟩
  · obtain ⟨x, _, rfl⟩ := List.mem_map.1 hd
    simp [D.size]
  · clear h hM
    induction bs with
    | nil => simp [RCs]
    | cons b bs ih => simp only [List.map_cons, RCs]; exact ⟨[.bool b], _, rfl, by unfold RC; rfl, ih⟩
  · rw [h.cells]
    simpa using hu
theorem Blk.truths1 {w : World} {g t : Nat} {a : Bool} (h : Blk w g t #[.bool a]) : RC w (fun _ => True) (.l 4 1 ([a].map D.b)) [.slice (some ⟨g, 0, none⟩) 1 1] := Blk.truths (bs := [a]) h rfl (by simp)
theorem not_all {bs : List Bool} {k : Nat} (hk : k < bs.length) (h : bs[k] = false) : bs.all id = false := by
  rw [Bool.eq_false_iff]
  intro e
  rw [List.all_eq_true] at e
  have := e _ (List.getElem_mem hk)
  simp [h] at this
theorem all_take {bs : List Bool} {k : Nat} (hk : k < bs.length) (h : (bs.take k).all id = true) (e : bs[k] = true) : (bs.take (k + 1)).all id = true := by
  rw [List.take_succ_eq_append_getElem hk, List.all_append, h]; simp [e]
set_option maxHeartbeats 1000000 in
theorem index_false {w : World} {S : Nat → Prop} {bs : List Bool} {A : Option Addr} {n c : Nat} (h : RC w S (.l 4 1 (bs.map D.b)) [.slice A n c]) (hn : n = bs.length) :
    Calls Tryz.prog 231 #[.slice A n c, .bool false] w fun e w' => ∃ i : Int, e = .returned (.int .i64 i) ∧ ((0 ≤ i) = (bs.all id = false)) ∧ Ext no w w' := by
  subst hn
  have hM := h.lenM
  go_enter Tryz.func231, Tryz.ntmps231
  go_wp2_with fail
  go_loopw [8] (fun i wr => ∃ k : Nat, k ≤ bs.length ∧ i = .int .i64 k ∧ (bs.take k).all id = true ∧ Ext no w wr) (fun i _ => bs.length - (intOf i).toNat)
  case atStart => exact ⟨0, Nat.zero_le _, rfl, by simp, Ext.refl _ _⟩
  case round =>
    obtain ⟨k, hk, rfl, hall, hext⟩ := hrel
    by_cases hlt : k < bs.length
    · obtain ⟨b, o, rfl, hb, hS, p0⟩ := (h.ext0 hext).atB hlt
      cases hq : bs[k]
      · rw [hq] at p0
        have HQ := Lib.hid hq
        clear hq
        go_wp2_with fail
        go_ret
        exact ⟨k, rfl, by simp [not_all hlt HQ.out], hext⟩
      · rw [hq] at p0
        have HQ := Lib.hid hq
        have HA := Lib.hid hall
        clear hq hall
        go_wp2_with fail
        go_roundw
        case rel => exact ⟨k + 1, by omega, by first | go_num | rfl | simp, all_take hlt HA.out HQ.out, hext⟩
        case measure => simp [intOf]; omega
    · go_wp2_with fail
      go_ret
      refine ⟨-1, rfl, ?_, hext⟩
      rw [take_all hlt] at hall
      simp [hall]
theorem contains_false {w : World} {S : Nat → Prop} {bs : List Bool} {A : Option Addr} {n c : Nat} (h : RC w S (.l 4 1 (bs.map D.b)) [.slice A n c]) (hn : n = bs.length) :
    Calls Tryz.prog 172 #[.slice A n c, .bool false] w (PV w (.bool (!bs.all id))) := by
  subst hn
  go_enter Tryz.func172, Tryz.ntmps172
  go_wp2_with fail
  refine (index_false h rfl).mono ?_
  rintro e w1 ⟨i, rfl, hi, hx1⟩
  cases hq : bs.all id
  · have g : decide (0 ≤ i) = true := by rw [hq] at hi; simpa using hi
    have HQ := Lib.hid hq
    clear hi hq
    go_wp2_with fail
    go_ret
    exact ⟨by rw [HQ.out]; rfl, hx1⟩
  · have g : decide (0 ≤ i) = false := by rw [hq] at hi; simpa using hi
    have HQ := Lib.hid hq
    clear hi hq
    go_wp2_with fail
    go_ret
    exact ⟨by rw [HQ.out]; rfl, hx1⟩
end Go.Proofs.YtmedomglemllnaaGreatDoor
/- level.Right: contract; the library's searches over parts. No statement of the seat is proved here. -/
namespace Go.Proofs.YtmedomglemllnaaGreatDoor
set_option linter.unusedSimpArgs false
set_option linter.unusedVariables false
open Go.RowKit

theorem any_take {α : Type} {p : α → Bool} {xs : List α} {k : Nat} (hk : k < xs.length) (h : (xs.take k).any p = false) (e : p xs[k] = false) : (xs.take (k + 1)).any p = false := by
  rw [List.take_succ_eq_append_getElem hk, List.any_append, h]; simp [e]
theorem any_at {α : Type} {p : α → Bool} {xs : List α} {k : Nat} (hk : k < xs.length) (e : p xs[k] = true) : xs.any p = true := List.any_eq_true.2 ⟨_, List.getElem_mem hk, e⟩
set_option maxRecDepth 100000 in
set_option maxHeartbeats 1000000 in
theorem index_parts {w : World} {S : Nat → Prop} {xs : List (Int × Int)} {A : Option Addr} {n c F bn : Nat} {p : Int × Int → Bool} (h : RC w S (.l 237 2 (xs.map ptD)) [.slice A n c]) (hn : n = xs.length)
    (eg : ∀ args w, (callFunc F args).run Tryz.prog w = .ok (.enter F args) w) (hf : ∀ x ∈ xs, ∀ w', Ext no w w' → Calls Tryz.prog F #[.agg #[.int .i64 x.1, .int .i64 x.2], .pointer (some ⟨bn, 0, none⟩)] w' (PV w' (.bool (p x)))) :
    Calls Tryz.prog 270 #[.slice A n c, .func (.func F) #[] #[.pointer (some ⟨bn, 0, none⟩)]] w fun e w' => ∃ i : Int, e = .returned (.int .i64 i) ∧ ((0 ≤ i) = (xs.any p = true)) ∧ Ext no w w' := by
  subst hn
  have hM := h.lenM
  have HF := Lib.hid hf
  clear hf
  go_enter Tryz.func270, Tryz.ntmps270
  go_wp2_with fail
  go_loopw [5, 8] (fun u i wr => ∃ k : Nat, k ≤ xs.length ∧ i = .int .i64 k ∧ (xs.take k).any p = false ∧ Ext no w wr) (fun _ i _ => xs.length - (intOf i).toNat)
  case atStart => exact ⟨0, Nat.zero_le _, rfl, by simp, Ext.refl _ _⟩
  case round =>
    obtain ⟨k, hk, rfl, hall, hext⟩ := hrel
    have HA := Lib.hid hall
    clear hall
    by_cases hlt : k < xs.length
    · obtain ⟨b, o, rfl, hb, hS, p0, p1⟩ := (h.ext0 hext).atPt hlt
      go_wp2_with fail
      refine (HF.out xs[k] (List.getElem_mem hlt) _ hext).mono ?_
      rintro e w1 ⟨rfl, hx⟩
      cases hq : p xs[k]
      · have HQ := Lib.hid hq
        clear hq
        go_wp2_with fail
        go_roundw
        case rel => exact ⟨k + 1, by omega, by first | go_num | rfl | simp, any_take hlt HA.out HQ.out, hext.seq hx⟩
        case measure => simp [intOf]; omega
      · have HQ := Lib.hid hq
        clear hq
        go_wp2_with fail
        go_ret
        exact ⟨k, rfl, by simp [any_at hlt HQ.out], hext.seq hx⟩
    · go_wp2_with fail
      go_ret
      refine ⟨-1, rfl, ?_, hext⟩
      have h1 := HA.out
      rw [take_all hlt] at h1
      simp [h1]
set_option maxRecDepth 100000 in
set_option maxHeartbeats 2000000 in
theorem contains_parts {w : World} {S : Nat → Prop} {xs : List (Int × Int)} {A : Option Addr} {n c F bn : Nat} {p : Int × Int → Bool} (h : RC w S (.l 237 2 (xs.map ptD)) [.slice A n c]) (hn : n = xs.length)
    (eg : ∀ args w, (callFunc F args).run Tryz.prog w = .ok (.enter F args) w) (hf : ∀ x ∈ xs, ∀ w', Ext no w w' → Calls Tryz.prog F #[.agg #[.int .i64 x.1, .int .i64 x.2], .pointer (some ⟨bn, 0, none⟩)] w' (PV w' (.bool (p x)))) :
    Calls Tryz.prog 236 #[.slice A n c, .func (.func F) #[] #[.pointer (some ⟨bn, 0, none⟩)]] w (PV w (.bool (xs.any p))) := by
  subst hn
  have hidx := index_parts h rfl eg hf
  have HI := Lib.hid hidx
  clear hidx hf
  go_enter Tryz.func236, Tryz.ntmps236
  go_wp2_with fail
  refine HI.out.mono ?_
  rintro e w1 ⟨i, rfl, hi, hx1⟩
  cases hq : xs.any p
  · have g : decide (0 ≤ i) = false := by rw [hq] at hi; simpa using hi
    have HQ := Lib.hid hq
    clear hi hq
    go_wp2_with fail
    go_ret
    exact ⟨by rw [HQ.out]; rfl, hx1⟩
  · have g : decide (0 ≤ i) = true := by rw [hq] at hi; simpa using hi
    have HQ := Lib.hid hq
    clear hi hq
    go_wp2_with fail
    go_ret
    exact ⟨by rw [HQ.out]; rfl, hx1⟩
theorem nan_calls {w : World} (a : Int) : Calls Tryz.prog 269 #[.int .i64 a] w (PV w (.bool false)) := by
  go_enter Tryz.func269, Tryz.ntmps269
  go_wp2_with fail
  go_ret
  exact ⟨by simp, Ext.refl _ _⟩
def cmpI (a b : Int) : Int := if a < b then -1 else if b < a then 1 else 0
set_option maxHeartbeats 1000000 in
theorem compare_calls {w : World} (a b : Int) : Calls Tryz.prog 235 #[.int .i64 a, .int .i64 b] w (PV w (.int .i64 (cmpI a b))) := by
  by_cases h1 : a < b
  · have HC : Hid (cmpI a b = -1) := by unfold Hid cmpI; rw [if_pos h1]
    go_enter Tryz.func235, Tryz.ntmps235
    go_wp2_with fail
    refine (nan_calls a).mono ?_
    rintro e w1 ⟨rfl, hx1⟩
    go_wp2_with fail
    refine (nan_calls b).mono ?_
    rintro e w2 ⟨rfl, hx2⟩
    go_wp2_with fail
    go_ret
    exact ⟨by rw [HC.out]; rfl, hx1.seq hx2⟩
  · by_cases h2 : b < a
    · have HC : Hid (cmpI a b = 1) := by unfold Hid cmpI; rw [if_neg h1, if_pos h2]
      go_enter Tryz.func235, Tryz.ntmps235
      go_wp2_with fail
      refine (nan_calls a).mono ?_
      rintro e w1 ⟨rfl, hx1⟩
      go_wp2_with fail
      refine (nan_calls b).mono ?_
      rintro e w2 ⟨rfl, hx2⟩
      go_wp2_with fail
      go_ret
      exact ⟨by rw [HC.out]; rfl, hx1.seq hx2⟩
    · have HC : Hid (cmpI a b = 0) := by unfold Hid cmpI; rw [if_neg h1, if_neg h2]
      go_enter Tryz.func235, Tryz.ntmps235
      go_wp2_with fail
      refine (nan_calls a).mono ?_
      rintro e w1 ⟨rfl, hx1⟩
      go_wp2_with fail
      refine (nan_calls b).mono ?_
      rintro e w2 ⟨rfl, hx2⟩
      go_wp2_with fail
      go_ret
      exact ⟨by rw [HC.out]; rfl, hx1.seq hx2⟩
set_option maxRecDepth 100000 in
set_option maxHeartbeats 1000000 in
theorem or_calls {w : World} {g : Nat} {a b r : Int} (hr : Hid (r = if a = 0 then b else a)) (p0 : w.cell? ⟨g, 0, none⟩ = some (.int .i64 a)) (p1 : w.cell? ⟨g, 1, none⟩ = some (.int .i64 b)) :
    Calls Tryz.prog 234 #[.slice (some ⟨g, 0, none⟩) 2 2] w (PV w (.int .i64 r)) := by
  go_enter Tryz.func234, Tryz.ntmps234
  go_wp2_with fail
  have HP0 := Lib.hid p0
  have HP1 := Lib.hid p1
  clear p0 p1
  go_loopw [5, 8] (fun u i wr => ∃ k : Nat, k ≤ 2 ∧ i = .int .i64 k ∧ Hid (0 < k → a = 0) ∧ Hid (1 < k → b = 0) ∧ Ext no w wr) (fun _ i _ => 2 - (intOf i).toNat)
  case atStart => exact ⟨0, by omega, rfl, Lib.hid (by omega), Lib.hid (by omega), Ext.refl _ _⟩
  case round =>
    obtain ⟨k, hk, rfl, HA, HB, hext⟩ := hrel
    have q0 := hext.keep HP0.out
    have q1 := hext.keep HP1.out
    match k, hk with
    | 0, _ =>
      by_cases h0 : a = 0
      · have H0 := Lib.hid h0
        have hnn : (a != 0) = false := by simp [h0]
        clear h0
        go_wp2_with fail
        go_roundw
        case rel => exact ⟨1, by omega, by first | go_num | rfl | simp, Lib.hid fun _ => H0.out, Lib.hid (by omega), hext⟩
        case measure => simp [intOf]
      · have hnn : (a != 0) = true := by simpa using h0
        have H0 := Lib.hid h0
        clear h0
        go_wp2_with fail
        go_ret
        exact ⟨by rw [hr.out, if_neg H0.out]; rfl, hext⟩
    | 1, _ =>
      by_cases h1 : b = 0
      · have H1 := Lib.hid h1
        have hnn : (b != 0) = false := by simp [h1]
        clear h1
        go_wp2_with fail
        go_roundw
        case rel => exact ⟨2, by omega, by first | go_num | rfl | simp, Lib.hid fun _ => HA.out (by omega), Lib.hid fun _ => H1.out, hext⟩
        case measure => simp [intOf]
      · have hnn : (b != 0) = true := by simpa using h1
        clear h1
        go_wp2_with fail
        go_ret
        exact ⟨by rw [hr.out, if_pos (HA.out (by omega))]; rfl, hext⟩
    | 2, _ =>
      go_wp2_with fail
      go_ret
      exact ⟨by rw [hr.out, if_pos (HA.out (by omega)), HB.out (by omega)]; rfl, hext⟩
def ordP (a b : Int) : Int := if b < a then 1 else -1
set_option maxRecDepth 100000 in
set_option maxHeartbeats 1000000 in
theorem right1_calls {w : World} {a a' b b' : Int} : Calls Tryz.prog 233 #[.agg #[.int .i64 a, .int .i64 a'], .agg #[.int .i64 b, .int .i64 b']] w (PV w (.int .i64 (ordP a b))) := by
  go_enter Tryz.func233, Tryz.ntmps233
  go_wp2_with fail
  have H := Hp.start no w
  refine callsH (by (repeat (first | with_reducible exact H | with_reducible exact H0_ | with_reducible apply Hp.alloc | with_reducible apply Hp.allocMap | with_reducible apply Hp.drew | with_reducible apply Hp.drewN | with_reducible apply Hp.set)); (try any_goals (repeat (first | with_reducible exact Upd.head | with_reducible apply Upd.tail)))) ?_
  clear H; intro w1 H; (try simp only [size_drew_, size_drewN_, World.size_alloc, World.size_setCell, List.set_cons_zero, List.set_cons_succ] at H)
  refine (compare_calls a b).mono ?_
  rintro e w_ ⟨rfl, hx⟩
  replace H := H.call hx
  clear hx
  go_wp2_with fail
  refine callsH (by (repeat (first | with_reducible exact H | with_reducible exact H0_ | with_reducible apply Hp.alloc | with_reducible apply Hp.allocMap | with_reducible apply Hp.drew | with_reducible apply Hp.drewN | with_reducible apply Hp.set)); (try any_goals (repeat (first | with_reducible exact Upd.head | with_reducible apply Upd.tail)))) ?_
  clear H; intro w2 H; (try simp only [size_drew_, size_drewN_, World.size_alloc, World.size_setCell, List.set_cons_zero, List.set_cons_succ] at H)
  have hv : (if cmpI a b = 0 then (-1 : Int) else cmpI a b) = ordP a b := by
    unfold cmpI ordP
    by_cases h1 : a < b
    · rw [if_pos h1, if_neg (by omega), if_neg (by omega)]
    · rw [if_neg h1]
      by_cases h2 : b < a
      · rw [if_pos h2, if_neg (by omega), if_pos h2]
      · rw [if_neg h2, if_pos rfl, if_neg h2]
  refine (or_calls (r := ordP a b) (Lib.hid hv.symm) ((H.blk .head).cells 0) ((H.blk .head).cells 1)).mono ?_
  clear hv
  rintro e w3 ⟨rfl, hx⟩
  replace H := H.call hx
  clear hx
  go_wp2_with fail
  go_ret
  exact ⟨rfl, H.ext⟩
def rising : List (Int × Int) → Bool
  | a :: b :: r => decide (a.1 < b.1) && rising (b :: r)
  | _ => true
theorem rising_drop {xs : List (Int × Int)} {k : Nat} (h : k + 1 < xs.length) : rising (xs.drop k) = (decide ((xs[k]'(by omega)).1 < xs[k + 1].1) && rising (xs.drop (k + 1))) := by
  rw [List.drop_eq_getElem_cons h]
  conv => lhs; rw [List.drop_eq_getElem_cons (show k < xs.length by omega), List.drop_eq_getElem_cons h, rising]
theorem rising_not : ∀ {xs : List (Int × Int)} {k : Nat}, rising (xs.drop k) = false → rising xs = false
  | xs, 0, h => by simpa using h
  | [], k + 1, h => by simpa using h
  | [a], k + 1, h => by simp [rising] at h
  | a :: b :: r, k + 1, h => by
    rw [rising, rising_not (xs := b :: r) (k := k) (by simpa using h)]
    simp
theorem rising_one {xs : List (Int × Int)} {k : Nat} (h : xs.length ≤ k + 1) : rising (xs.drop k) = true := by
  have hl : (xs.drop k).length ≤ 1 := by simp; omega
  match hd : xs.drop k, hl with
  | [], _ => rfl
  | [a], _ => rfl
  | _ :: _ :: _, hl => exact absurd hl (by simp)
set_option maxRecDepth 100000 in
set_option maxHeartbeats 2000000 in
theorem sorted_parts {w : World} {S : Nat → Prop} {xs : List (Int × Int)} {A : Option Addr} {n c : Nat} (h : RC w S (.l 237 2 (xs.map ptD)) [.slice A n c]) (hn : n = xs.length) :
    Calls Tryz.prog 232 #[.slice A n c, .func (.func 233) #[] #[]] w (PV w (.bool (rising xs))) := by
  subst hn
  have hM := h.lenM
  go_enter Tryz.func232, Tryz.ntmps232
  go_wp2_with fail
  have H := Hp.start no w
  go_loopw [5] (fun i wr => ∃ j : Int, -1 ≤ j ∧ j < xs.length ∧ i = .int .i64 j ∧ rising (xs.drop j.toNat) = true ∧ Hp no w wr []) (fun i _ => (intOf i + 1).toNat)
  case atStart => exact ⟨(xs.length : Int) - 1, by omega, by omega, by first | go_num | rfl | simp, rising_one (by omega), H⟩
  case round =>
    clear H
    obtain ⟨j, h1, h2, rfl, hr, H⟩ := hrel
    have HR := Lib.hid hr
    clear hr
    by_cases h0 : 0 < j
    · obtain ⟨K, rfl⟩ : ∃ K : Nat, j = (K : Int) := ⟨j.toNat, by omega⟩
      obtain ⟨k, hk1⟩ : ∃ k : Nat, (K : Int) - 1 = (k : Int) := ⟨K - 1, by omega⟩
      have hK : K < xs.length := by omega
      have hk : k < xs.length := by omega
      have HK : Hid (K = k + 1) := by unfold Hid; omega
      obtain ⟨b, o, rfl, hb, hS, _, _, p0, p1⟩ := h.atPt hK
      obtain ⟨b', o', he, hb', hS', _, _, q0, q1⟩ := h.atPt hk
      simp only [Option.some.injEq, Addr.mk.injEq, and_true] at he
      obtain ⟨rfl, rfl⟩ := he
      have HD : Hid (rising (xs.drop k) = (decide (xs[k].1 < xs[K].1) && rising (xs.drop K))) := by
        have e := HK.out
        subst e
        exact rising_drop hK
      have HX : Hid (rising (xs.drop K) = true) := by
        have := HR.out
        rwa [show (K : Int).toNat = K by omega] at this
      clear HR
      have hwk : IntKind.i64.wrap (k : Int) = (k : Int) := by rw [IntKind.wrap_i64]; omega
      have hwk2 : IntKind.i64.wrap ((K : Int) - 1) = (k : Int) := by rw [IntKind.wrap_i64]; omega
      have hr_ := H.rules; simp only [Rules, and_true] at hr_; have hd_ := H.dif; simp only [Dif, Neq, and_true] at hd_; obtain ⟨ho_, hz_⟩ := H.old0
      go_wp2_with fail
      clear hr_ hd_ ho_ hz_
      refine regionH (by (repeat (first | with_reducible exact H | with_reducible exact H0_ | with_reducible apply Hp.alloc | with_reducible apply Hp.allocMap | with_reducible apply Hp.drew | with_reducible apply Hp.drewN | with_reducible apply Hp.set)); (try any_goals (repeat (first | with_reducible exact Upd.head | with_reducible apply Upd.tail)))) ?_
      clear H; intro w3 H; (try simp only [size_drew_, size_drewN_, World.size_alloc, World.size_setCell, List.set_cons_zero, List.set_cons_succ] at H)
      refine wp_region_H 12 [false, false, false, false, false, false, false, false, false, false, false, false] [] H .nil (by kernel_rfl) rfl rfl (fun H_ hR_ => ?_)
      (try clear H0_); have H0_ := H; clear H; have H := H_; clear H_
      refine wpL_reads (is := [(0, ?v1_0), (1, ?v1_1), (2, ?v1_2), (3, ?v1_3), (4, ?v1_4), (5, ?v1_5), (6, ?v1_6), (7, ?v1_7), (8, ?v1_8), (9, ?v1_9)]) (by kernel_rfl) (Nat.le_of_ble_eq_true rfl) (by intro _ _ d_ _ _ h_; cases d_ <;> exact h_) (by kernel_rfl) hR_ (fun w_ hw_ => ?h1_) ?_
      case h1_ =>
        have ho_ := hw_.old0.1; have hz_ := hw_.old0.2; have hr_ := hw_.rules; clear hw_; simp only [Rules, and_true] at hr_; go_split_ands
        (repeat (first | with_reducible exact RdOps.nil | (refine RdOps.run rfl (by rfl) ?_ ?_; (focus (first | (go_simp; done) | (go_simp; with_reducible rfl))); simp only [List.getElem_toArray, List.getElem_cons_zero, List.getElem_cons_succ, Act.put, List.setIfInBounds_toArray, List.set_cons_zero, List.set_cons_succ]) | (refine RdOps.skip rfl (by rfl) ?_ ?_; (focus (with_reducible rfl)); simp only [List.getElem_toArray, List.getElem_cons_zero, List.getElem_cons_succ, Act.put, List.setIfInBounds_toArray, List.set_cons_zero, List.set_cons_succ])))
      simp only [rdMark, rdAct, List.map_cons, List.map_nil, List.length_cons, List.length_nil, Nat.reduceAdd, Nat.reduceSub, Nat.zero_add, List.getElem?_toArray, List.getElem?_cons_zero, List.getElem?_cons_succ, Option.bind_some, Act.put, List.setIfInBounds_toArray, List.set_cons_zero, List.set_cons_succ]
      refine wpL_do (i := 10) rfl (by kernel_rfl) (by rfl) (fun K_ hK_ => ?_)
      go_simp
      refine (right1_calls).mono ?_
      rintro e w_ ⟨rfl, hx⟩
      replace H := H.call hx
      clear hx
      by_cases hlt : xs[k].1 < xs[K].1
      · have ho : ordP xs[K].1 xs[k].1 = 1 := by unfold ordP; rw [if_pos hlt]
        rw [ho]
        have HL : Hid (rising (xs.drop k) = true) := by
          unfold Hid
          rw [HD.out, HX.out, decide_eq_true hlt]
          rfl
        clear ho hlt HD HX
        refine hK_ _ _ (fun _ => H.sub (by simp)) (fun hR_ => ?_)
        replace hR_ := hR_ (by decide)
        refine wpL_reads (is := [(11, ?v2_0)]) (by kernel_rfl) (Nat.le_of_ble_eq_true rfl) (by intro _ _ d_ _ _ h_; cases d_ <;> exact h_) (by kernel_rfl) hR_ (fun w_ hw_ => ?h2_) ?_
        case h2_ =>
          have ho_ := hw_.old0.1; have hz_ := hw_.old0.2; have hr_ := hw_.rules; clear hw_; simp only [Rules, and_true] at hr_; go_split_ands
          (repeat (first | with_reducible exact RdOps.nil | (refine RdOps.run rfl (by rfl) ?_ ?_; (focus (first | (go_simp; done) | (go_simp; with_reducible rfl))); simp only [List.getElem_toArray, List.getElem_cons_zero, List.getElem_cons_succ, Act.put, List.setIfInBounds_toArray, List.set_cons_zero, List.set_cons_succ]) | (refine RdOps.skip rfl (by rfl) ?_ ?_; (focus (with_reducible rfl)); simp only [List.getElem_toArray, List.getElem_cons_zero, List.getElem_cons_succ, Act.put, List.setIfInBounds_toArray, List.set_cons_zero, List.set_cons_succ])))
        simp only [rdMark, rdAct, List.map_cons, List.map_nil, List.length_cons, List.length_nil, Nat.reduceAdd, Nat.reduceSub, Nat.zero_add, List.getElem?_toArray, List.getElem?_cons_zero, List.getElem?_cons_succ, Option.bind_some, Act.put, List.setIfInBounds_toArray, List.set_cons_zero, List.set_cons_succ]
        refine wpL_done (by kernel_rfl) ?_ _
        go_wp2_with fail
        go_roundw
        case rel => exact ⟨k, by omega, by omega, by first | go_num | rfl | simp, HL.out, H⟩
        case measure => simp [intOf]; omega
      · have ho : ordP xs[K].1 xs[k].1 = -1 := by unfold ordP; rw [if_neg hlt]
        rw [ho]
        have HL : Hid (rising xs = false) := by
          refine rising_not (k := k) ?_
          rw [HD.out, decide_eq_false hlt]
          rfl
        clear ho hlt HD HX
        refine hK_ _ _ (fun _ => H.sub (by simp)) (fun hR_ => ?_)
        replace hR_ := hR_ (by decide)
        refine wpL_reads (is := [(11, ?v3_0)]) (by kernel_rfl) (Nat.le_of_ble_eq_true rfl) (by intro _ _ d_ _ _ h_; cases d_ <;> exact h_) (by kernel_rfl) hR_ (fun w_ hw_ => ?h3_) ?_
        case h3_ =>
          have ho_ := hw_.old0.1; have hz_ := hw_.old0.2; have hr_ := hw_.rules; clear hw_; simp only [Rules, and_true] at hr_; go_split_ands
          (repeat (first | with_reducible exact RdOps.nil | (refine RdOps.run rfl (by rfl) ?_ ?_; (focus (first | (go_simp; done) | (go_simp; with_reducible rfl))); simp only [List.getElem_toArray, List.getElem_cons_zero, List.getElem_cons_succ, Act.put, List.setIfInBounds_toArray, List.set_cons_zero, List.set_cons_succ]) | (refine RdOps.skip rfl (by rfl) ?_ ?_; (focus (with_reducible rfl)); simp only [List.getElem_toArray, List.getElem_cons_zero, List.getElem_cons_succ, Act.put, List.setIfInBounds_toArray, List.set_cons_zero, List.set_cons_succ])))
        simp only [rdMark, rdAct, List.map_cons, List.map_nil, List.length_cons, List.length_nil, Nat.reduceAdd, Nat.reduceSub, Nat.zero_add, List.getElem?_toArray, List.getElem?_cons_zero, List.getElem?_cons_succ, Option.bind_some, Act.put, List.setIfInBounds_toArray, List.set_cons_zero, List.set_cons_succ]
        refine wpL_done (by kernel_rfl) ?_ _
        go_wp2_with fail
        go_ret
        exact ⟨by rw [HL.out]; rfl, H.ext⟩
    · go_wp2_with fail
      go_ret
      have e : j.toNat = 0 := by omega
      have h3 := HR.out
      rw [e, List.drop_zero] at h3
      exact ⟨by rw [h3]; rfl, H.ext⟩
def badP (n : Int) (x : Int × Int) : Bool := decide (x.1 < 0) || decide (n < x.1) || decide (x.2 < 0) || decide (1000 < x.2)
set_option maxRecDepth 100000 in
set_option maxHeartbeats 1000000 in
theorem right2_calls {w : World} {bn : Nat} {n a b : Int} (hc : w.cell? ⟨bn, 0, none⟩ = some (.int .i64 n)) : Calls Tryz.prog 237 #[.agg #[.int .i64 a, .int .i64 b], .pointer (some ⟨bn, 0, none⟩)] w (PV w (.bool (badP n (a, b)))) := by
  have lc := cell_lt hc
  by_cases h1 : a < 0
  · have HB : Hid (badP n (a, b) = true) := by unfold Hid badP; simp [h1]
    go_enter Tryz.func237, Tryz.ntmps237
    go_wp2_with fail
    go_ret
    exact ⟨by rw [HB.out]; rfl, (Ext.refl _ _).alloc _⟩
  · by_cases h2 : n < a
    · have HB : Hid (badP n (a, b) = true) := by unfold Hid badP; simp [h2]
      go_enter Tryz.func237, Tryz.ntmps237
      go_wp2_with fail
      go_ret
      exact ⟨by rw [HB.out]; rfl, (Ext.refl _ _).alloc _⟩
    · by_cases h3 : b < 0
      · have HB : Hid (badP n (a, b) = true) := by unfold Hid badP; simp [h3]
        go_enter Tryz.func237, Tryz.ntmps237
        go_wp2_with fail
        go_ret
        exact ⟨by rw [HB.out]; rfl, (Ext.refl _ _).alloc _⟩
      · by_cases h4 : 1000 < b
        · have HB : Hid (badP n (a, b) = true) := by unfold Hid badP; simp [h4]
          go_enter Tryz.func237, Tryz.ntmps237
          go_wp2_with fail
          go_ret
          exact ⟨by rw [HB.out]; rfl, (Ext.refl _ _).alloc _⟩
        · have HB : Hid (badP n (a, b) = false) := by unfold Hid badP; simp [h1, h2, h3, h4]
          go_enter Tryz.func237, Tryz.ntmps237
          go_wp2_with fail
          go_ret
          exact ⟨by rw [HB.out]; rfl, (Ext.refl _ _).alloc _⟩
def lvRight (n : Int) (x : Lv) : Bool := rising x && decide (x.length ≤ 9) && !(x.any (badP n))
set_option maxRecDepth 100000 in
set_option maxHeartbeats 1000000 in
theorem lvRight_calls {w : World} {S : Nat → Prop} {x : Lv} {A : Option Addr} {c : Nat} {n : Int} (h : RC w S (.l 237 2 (x.map ptD)) [.slice A x.length c]) :
    Calls Tryz.prog 173 #[.agg #[.slice A x.length c], .int .i64 n] w (PV w (.bool (lvRight n x))) := by
  have hM := h.lenM
  have HH := Lib.hid h
  clear h
  have hmf : ∀ (fn : Fn) (first cap : Array Value) (w : World), (Instr.makeFunc fn first cap).run Tryz.prog w = .ok (.func fn first cap) w := fun _ _ _ _ => rfl
  go_enter Tryz.func173, Tryz.ntmps173
  go_wp2_with fail
  have H := Hp.start no w
  refine callsH (by (repeat (first | with_reducible exact H | with_reducible exact H0_ | with_reducible apply Hp.alloc | with_reducible apply Hp.allocMap | with_reducible apply Hp.drew | with_reducible apply Hp.drewN | with_reducible apply Hp.set)); (try any_goals (repeat (first | with_reducible exact Upd.head | with_reducible apply Upd.tail)))) ?_
  clear H; intro w1 H; (try simp only [size_drew_, size_drewN_, World.size_alloc, World.size_setCell, List.set_cons_zero, List.set_cons_succ] at H)
  refine (sorted_parts (HH.out.ext0 H.ext) rfl).mono ?_
  rintro e w_ ⟨rfl, hx⟩
  replace H := H.call hx
  clear hx
  cases hr : rising x
  · have HB : Hid (lvRight n x = false) := by unfold Hid lvRight; simp [hr]
    clear hr
    have hr_ := H.rules; simp only [Rules, and_true] at hr_; have hd_ := H.dif; simp only [Dif, Neq, and_true] at hd_; obtain ⟨ho_, hz_⟩ := H.old0
    go_wp2_with fail
    go_ret
    exact ⟨by rw [HB.out]; rfl, H.ext⟩
  · by_cases h9 : x.length ≤ 9
    · have HB : Hid (lvRight n x = !(x.any (badP n))) := by unfold Hid lvRight; simp [hr, h9]
      clear hr
      have hr_ := H.rules; simp only [Rules, and_true] at hr_; have hd_ := H.dif; simp only [Dif, Neq, and_true] at hd_; obtain ⟨ho_, hz_⟩ := H.old0
      go_wp2_with fail
      clear hr_ hd_ ho_ hz_
      refine (contains_parts (p := badP n) (HH.out.ext0 H.ext) rfl (enters_of Tryz.func237 (by kernel_rfl) rfl) (fun p _ w' hx => right2_calls (hx.keep ((H.blk (g := w.heap.size + 1) (by (repeat (first | with_reducible exact Pick.head | with_reducible apply Pick.tail)))).cells 0)))).mono ?_
      rintro e w_ ⟨rfl, hx⟩
      replace H := H.call hx
      clear hx
      cases hq : x.any (badP n)
      · have HQ := Lib.hid hq
        clear hq
        go_wp2_with fail
        go_ret
        exact ⟨by rw [HB.out, HQ.out]; rfl, H.ext⟩
      · have HQ := Lib.hid hq
        clear hq
        go_wp2_with fail
        go_ret
        exact ⟨by rw [HB.out, HQ.out]; rfl, H.ext⟩
    · have HB : Hid (lvRight n x = false) := by unfold Hid lvRight; simp [h9]
      clear hr
      have hr_ := H.rules; simp only [Rules, and_true] at hr_; have hd_ := H.dif; simp only [Dif, Neq, and_true] at hd_; obtain ⟨ho_, hz_⟩ := H.old0
      go_wp2_with fail
      go_ret
      exact ⟨by rw [HB.out]; rfl, H.ext⟩
end Go.Proofs.YtmedomglemllnaaGreatDoor
/- slices: IndexFunc, ContainsFunc over terms, a function that tells a truth: contracts. No statement of the seat is proved here. -/
namespace Go.Proofs.YtmedomglemllnaaGreatDoor
set_option linter.unusedSimpArgs false
set_option linter.unusedVariables false
open Go.RowKit

set_option maxRecDepth 100000 in
set_option maxHeartbeats 1000000 in
theorem index_terms0 {w : World} {S : Nat → Prop} {xs : List Tm} {A : Option Addr} {n c F : Nat} {p : Tm → Bool} (h : RC w S (.l 26 5 (xs.map Tm.d)) [.slice A n c]) (hn : n = xs.length)
    (eg : ∀ args w, (callFunc F args).run Tryz.prog w = .ok (.enter F args) w) (hf : ∀ x ∈ xs, ∀ w' v, Ext no w w' → TV w' S x v → Calls Tryz.prog F #[v] w' (PV w' (.bool (p x)))) :
    Calls Tryz.prog 276 #[.slice A n c, .func (.func F) #[] #[]] w fun e w' => ∃ i : Int, e = .returned (.int .i64 i) ∧ ((0 ≤ i) = (xs.any p = true)) ∧ Ext no w w' := by
  subst hn
  have hM := h.lenM
  have HF := Lib.hid hf
  clear hf
  go_enter Tryz.func276, Tryz.ntmps276
  go_wp2_with fail
  go_loopw [5, 8] (fun u i wr => ∃ k : Nat, k ≤ xs.length ∧ i = .int .i64 k ∧ (xs.take k).any p = false ∧ Ext no w wr) (fun _ i _ => xs.length - (intOf i).toNat)
  case atStart => exact ⟨0, Nat.zero_le _, rfl, by simp, Ext.refl _ _⟩
  case round =>
    obtain ⟨k, hk, rfl, hall, hext⟩ := hrel
    have HA := Lib.hid hall
    clear hall
    by_cases hlt : k < xs.length
    · obtain ⟨b_, o, A1, ca1, K1, ck1, rfl, hb, hS, hd, p0, p1, p2, p3, p4⟩ := (h.ext0 hext).atTm hlt
      have HD := Lib.hid hd
      clear hd
      go_wp2_with fail
      refine (HF.out xs[k] (List.getElem_mem hlt) _ _ hext ⟨_, _, _, _, rfl, HD.out⟩).mono ?_
      rintro e w1 ⟨rfl, hx⟩
      cases hq : p xs[k]
      · have HQ := Lib.hid hq
        clear hq
        go_wp2_with fail
        go_roundw
        case rel => exact ⟨k + 1, by omega, by first | go_num | rfl | simp, any_take hlt HA.out HQ.out, hext.seq hx⟩
        case measure => simp [intOf]; omega
      · have HQ := Lib.hid hq
        clear hq
        go_wp2_with fail
        go_ret
        exact ⟨k, rfl, by simp [any_at hlt HQ.out], hext.seq hx⟩
    · go_wp2_with fail
      go_ret
      refine ⟨-1, rfl, ?_, hext⟩
      have h1 := HA.out
      rw [take_all hlt] at h1
      simp [h1]
set_option maxRecDepth 100000 in
set_option maxHeartbeats 1000000 in
theorem contains_terms0 {w : World} {S : Nat → Prop} {xs : List Tm} {A : Option Addr} {n c F : Nat} {p : Tm → Bool} (h : RC w S (.l 26 5 (xs.map Tm.d)) [.slice A n c]) (hn : n = xs.length)
    (eg : ∀ args w, (callFunc F args).run Tryz.prog w = .ok (.enter F args) w) (hf : ∀ x ∈ xs, ∀ w' v, Ext no w w' → TV w' S x v → Calls Tryz.prog F #[v] w' (PV w' (.bool (p x)))) :
    Calls Tryz.prog 251 #[.slice A n c, .func (.func F) #[] #[]] w (PV w (.bool (xs.any p))) := by
  subst hn
  have hidx := index_terms0 h rfl eg hf
  have HI := Lib.hid hidx
  clear hidx hf
  go_enter Tryz.func251, Tryz.ntmps251
  go_wp2_with fail
  refine HI.out.mono ?_
  rintro e w1 ⟨i, rfl, hi, hx1⟩
  cases hq : xs.any p
  · have g : decide (0 ≤ i) = false := by rw [hq] at hi; simpa using hi
    have HQ := Lib.hid hq
    clear hi hq
    go_wp2_with fail
    go_ret
    exact ⟨by rw [HQ.out]; rfl, hx1⟩
  · have g : decide (0 ≤ i) = true := by rw [hq] at hi; simpa using hi
    have HQ := Lib.hid hq
    clear hi hq
    go_wp2_with fail
    go_ret
    exact ⟨by rw [HQ.out]; rfl, hx1⟩
set_option maxRecDepth 100000 in
set_option maxHeartbeats 1000000 in
theorem index_terms1 {w : World} {S : Nat → Prop} {xs : List Tm} {A : Option Addr} {n c F : Nat} {bn : Nat} {p : Tm → Bool} (h : RC w S (.l 26 5 (xs.map Tm.d)) [.slice A n c]) (hn : n = xs.length)
    (eg : ∀ args w, (callFunc F args).run Tryz.prog w = .ok (.enter F args) w) (hf : ∀ x ∈ xs, ∀ w' v, Ext no w w' → TV w' S x v → Calls Tryz.prog F #[v, .pointer (some ⟨bn, 0, none⟩)] w' (PV w' (.bool (p x)))) :
    Calls Tryz.prog 276 #[.slice A n c, .func (.func F) #[] #[.pointer (some ⟨bn, 0, none⟩)]] w fun e w' => ∃ i : Int, e = .returned (.int .i64 i) ∧ ((0 ≤ i) = (xs.any p = true)) ∧ Ext no w w' := by
  subst hn
  have hM := h.lenM
  have HF := Lib.hid hf
  clear hf
  go_enter Tryz.func276, Tryz.ntmps276
  go_wp2_with fail
  go_loopw [5, 8] (fun u i wr => ∃ k : Nat, k ≤ xs.length ∧ i = .int .i64 k ∧ (xs.take k).any p = false ∧ Ext no w wr) (fun _ i _ => xs.length - (intOf i).toNat)
  case atStart => exact ⟨0, Nat.zero_le _, rfl, by simp, Ext.refl _ _⟩
  case round =>
    obtain ⟨k, hk, rfl, hall, hext⟩ := hrel
    have HA := Lib.hid hall
    clear hall
    by_cases hlt : k < xs.length
    · obtain ⟨b_, o, A1, ca1, K1, ck1, rfl, hb, hS, hd, p0, p1, p2, p3, p4⟩ := (h.ext0 hext).atTm hlt
      have HD := Lib.hid hd
      clear hd
      go_wp2_with fail
      refine (HF.out xs[k] (List.getElem_mem hlt) _ _ hext ⟨_, _, _, _, rfl, HD.out⟩).mono ?_
      rintro e w1 ⟨rfl, hx⟩
      cases hq : p xs[k]
      · have HQ := Lib.hid hq
        clear hq
        go_wp2_with fail
        go_roundw
        case rel => exact ⟨k + 1, by omega, by first | go_num | rfl | simp, any_take hlt HA.out HQ.out, hext.seq hx⟩
        case measure => simp [intOf]; omega
      · have HQ := Lib.hid hq
        clear hq
        go_wp2_with fail
        go_ret
        exact ⟨k, rfl, by simp [any_at hlt HQ.out], hext.seq hx⟩
    · go_wp2_with fail
      go_ret
      refine ⟨-1, rfl, ?_, hext⟩
      have h1 := HA.out
      rw [take_all hlt] at h1
      simp [h1]
set_option maxRecDepth 100000 in
set_option maxHeartbeats 1000000 in
theorem contains_terms1 {w : World} {S : Nat → Prop} {xs : List Tm} {A : Option Addr} {n c F : Nat} {bn : Nat} {p : Tm → Bool} (h : RC w S (.l 26 5 (xs.map Tm.d)) [.slice A n c]) (hn : n = xs.length)
    (eg : ∀ args w, (callFunc F args).run Tryz.prog w = .ok (.enter F args) w) (hf : ∀ x ∈ xs, ∀ w' v, Ext no w w' → TV w' S x v → Calls Tryz.prog F #[v, .pointer (some ⟨bn, 0, none⟩)] w' (PV w' (.bool (p x)))) :
    Calls Tryz.prog 251 #[.slice A n c, .func (.func F) #[] #[.pointer (some ⟨bn, 0, none⟩)]] w (PV w (.bool (xs.any p))) := by
  subst hn
  have hidx := index_terms1 h rfl eg hf
  have HI := Lib.hid hidx
  clear hidx hf
  go_enter Tryz.func251, Tryz.ntmps251
  go_wp2_with fail
  refine HI.out.mono ?_
  rintro e w1 ⟨i, rfl, hi, hx1⟩
  cases hq : xs.any p
  · have g : decide (0 ≤ i) = false := by rw [hq] at hi; simpa using hi
    have HQ := Lib.hid hq
    clear hi hq
    go_wp2_with fail
    go_ret
    exact ⟨by rw [HQ.out]; rfl, hx1⟩
  · have g : decide (0 ≤ i) = true := by rw [hq] at hi; simpa using hi
    have HQ := Lib.hid hq
    clear hi hq
    go_wp2_with fail
    go_ret
    exact ⟨by rw [HQ.out]; rfl, hx1⟩
theorem sizesT_mem {ts : List Tm} {t : Tm} (h : t ∈ ts) : sizeT t ≤ sizesT ts := by
  induction ts with
  | nil => cases h
  | cons u ts ih =>
    rw [sizesT]
    rcases List.mem_cons.1 h with rfl | h
    · omega
    · have := ih h; omega
theorem sfree_calls {w : World} {S : Nat → Prop} {xs : List Tm} {A : Option Addr} {n c : Nat} (h : RC w S (.l 26 5 (xs.map Tm.d)) [.slice A n c]) (hn : n = xs.length) (hb : sizesT xs ≤ 4000000000) :
    Calls Tryz.prog 193 #[.slice A n c] w (PV w (.bool (!xs.any selfT))) := by
  have HH := Lib.hid h
  subst hn
  clear h
  have HB := Lib.hid hb
  clear hb
  go_enter Tryz.func193, Tryz.ntmps193
  go_wp2_with fail
  have H := Hp.start no w
  refine callsH (by (repeat (first | with_reducible exact H | with_reducible exact H0_ | with_reducible apply Hp.alloc | with_reducible apply Hp.allocMap | with_reducible apply Hp.drew | with_reducible apply Hp.drewN | with_reducible apply Hp.set)); (try any_goals (repeat (first | with_reducible exact Upd.head | with_reducible apply Upd.tail)))) ?_
  clear H; intro w1 H; (try simp only [size_drew_, size_drewN_, World.size_alloc, World.size_setCell, List.set_cons_zero, List.set_cons_succ] at H)
  refine (contains_terms0 (p := selfT) (HH.out.ext0 H.ext) rfl (enters_of Tryz.func205 (by kernel_rfl) rfl) (fun x hx w' v _ hv => self_calls hv (Nat.le_trans (sizesT_mem hx) HB.out))).mono ?_
  rintro e w_ ⟨rfl, hx⟩
  replace H := H.call hx
  clear hx
  go_wp2_with fail
  go_ret
  exact ⟨rfl, H.ext⟩
end Go.Proofs.YtmedomglemllnaaGreatDoor
/- split: must, mentions: contracts. No statement of the seat is proved here. -/
namespace Go.Proofs.YtmedomglemllnaaGreatDoor
set_option linter.unusedSimpArgs false
set_option linter.unusedVariables false
open Go.RowKit

def errP (c : Int) : List PanicEntry := [{ v := .iface 60 (.int .i64 c), recovered := false }]
def PErr (w : World) (c : Int) (q : Bool) (e : Ending) (w' : World) : Prop := e = (if q then .returned (.tuple #[]) else .panicked (errP c)) ∧ Ext no w w'
theorem xmust_calls {w : World} {S : Nat → Prop} {bs : List Bool} {A : Option Addr} {n c : Nat} (k : Int) (h : RC w S (.l 4 1 (bs.map D.b)) [.slice A n c]) (hn : n = bs.length) :
    Calls Tryz.prog 191 #[.int .i64 k, .slice A n c] w (PErr w k (bs.all id)) := by
  subst hn
  go_enter Tryz.func191, Tryz.ntmps191
  go_wp2_with fail
  refine (contains_false h rfl).mono ?_
  rintro e w1 ⟨rfl, hx1⟩
  cases hq : bs.all id
  · have HQ := Lib.hid hq
    clear hq
    go_wp2_with fail
    exact ⟨rfl, by rw [HQ.out]; rfl, hx1⟩
  · have HQ := Lib.hid hq
    clear hq
    go_wp2_with fail
    go_end0
    exact ⟨by rw [HQ.out]; rfl, hx1⟩
theorem xmust1 {w0 w : World} {l l' : List Ch} {g e : Nat} {a : Bool} (k : Int) (H : Hp no w0 w l) (p : Pick l (.box g e [.bool a]) l') : Calls Tryz.prog 191 #[.int .i64 k, .slice (some ⟨g, 0, none⟩) 1 1] w (PErr w k a) := by
  have h := xmust_calls (bs := [a]) k (Blk.truths1 (H.blk p)) rfl
  simpa using h
theorem xmust5 {w0 w : World} {l l' : List Ch} {g e : Nat} {a b c d f : Bool} (k : Int) (H : Hp no w0 w l) (p : Pick l (.box g e [.bool a, .bool b, .bool c, .bool d, .bool f]) l') : Calls Tryz.prog 191 #[.int .i64 k, .slice (some ⟨g, 0, none⟩) 5 5] w (PErr w k (a && (b && (c && (d && f))))) := by
  have h := xmust_calls (bs := [a, b, c, d, f]) k (Blk.truths (bs := [a, b, c, d, f]) (H.blk p) rfl (by simp)) rfl
  simpa using h
theorem PErr.yes {w w' : World} {c : Int} {q : Bool} {e : Ending} (h : PErr w c q e w') (hq : q = true) : e = .returned (.tuple #[]) := by rw [h.1, hq]; rfl
theorem PErr.no {w w' : World} {c : Int} {q : Bool} {e : Ending} (h : PErr w c q e w') (hq : q = false) : e = .panicked (errP c) := by rw [h.1, hq]; rfl
def anyIx (f : Nat) : List Tm → Bool
  | [] => false
  | t :: ts => freeT f ((f : Int) + 1) 0 t || anyIx (f + 1) ts
theorem anyIx_drop {ts : List Tm} {f j : Nat} (h : j < ts.length) : anyIx (f + j) (ts.drop j) = (freeT ((f : Int) + j) ((f : Int) + j + 1) 0 ts[j] || anyIx (f + (j + 1)) (ts.drop (j + 1))) := by
  rw [List.drop_eq_getElem_cons h, anyIx]
  push_cast
  rfl
def mentT (a : Ar) (f : Nat) : Bool := anyIx f a.tele || ((!a.rc && freeT f ((f : Int) + 1) 0 a.ty) || a.index.any fun t => freeT ((f : Int) + a.tele.length) ((f : Int) + a.tele.length + 1) 0 t)
theorem aggArg : AggT Tryz.prog 145 9 := ⟨_, Tryz.underlying145, rfl, by kernel_rfl⟩
theorem ment1_calls {S : Nat → Prop} {t : Tm} {w : World} {v : Value} {bn : Nat} {n : Int} (hT : Tab w) (h : TV w S t v) (hc : w.cell? ⟨bn, 0, none⟩ = some (.int .i64 n)) (h0 : 0 ≤ n) (h1 : n ≤ 4611686018427387904) :
    Calls Tryz.prog 253 #[v, .pointer (some ⟨bn, 0, none⟩)] w (PV w (.bool (freeT n (n + 1) 0 t))) := by
  obtain ⟨A0, ca, K0, ck, rfl, hrc⟩ := h
  have lc := cell_lt hc
  have HT := Lib.hid hT
  have HRC := Lib.hid hrc
  clear hT hrc
  go_enter Tryz.func253, Tryz.ntmps253
  have H := Hp.start no w
  go_wp2_with fail
  refine callsH (by (repeat (first | with_reducible exact H | with_reducible exact H0_ | with_reducible apply Hp.alloc | with_reducible apply Hp.allocMap | with_reducible apply Hp.drew | with_reducible apply Hp.drewN | with_reducible apply Hp.set)); (try any_goals (repeat (first | with_reducible exact Upd.head | with_reducible apply Upd.tail)))) ?_
  clear H; intro w1 H; (try simp only [size_drew_, size_drewN_, World.size_alloc, World.size_setCell, List.set_cons_zero, List.set_cons_succ] at H)
  refine (free_calls (HT.out.ext H.ext) ⟨_, _, _, _, rfl, HRC.out.ext0 H.ext⟩ n (n + 1)).mono ?_
  rintro e w_ ⟨rfl, hx⟩
  replace H := H.call hx
  clear hx
  go_wp2_with fail
  go_ret
  exact ⟨rfl, H.ext⟩
set_option maxRecDepth 100000 in
set_option maxHeartbeats 4000000 in
theorem mentions_calls {S : Nat → Prop} {a : Ar} {w : World} {cs : List Value} {f : Nat} (hT : Tab w) (h : RC w S a.d cs) (hf : f ≤ 1000000) (hl : a.tele.length ≤ 1000000000) :
    Calls Tryz.prog 196 #[.agg cs.toArray, .int .i64 (f : Int)] w (PV w (.bool (mentT a f))) := by
  obtain ⟨A1, c1, K1, k1, A2, c2, A3, c3, rfl, hty, hte, hm, hix⟩ := RC.ar.1 h
  have HT := Lib.hid hT
  have HTY := Lib.hid hty
  have HIX := Lib.hid hix
  have hM := hte.lenM
  have hM2 := hix.lenM
  obtain ⟨q, hq⟩ : ∃ q, q = mentT a f := ⟨_, rfl⟩
  rw [← hq]
  have HQ := Lib.hid hq
  clear hT h hty hix hm hq
  go_enter Tryz.func196, Tryz.ntmps196
  have H := Hp.start no w
  go_wp2_with fail
  go_loopw [11] (fun i wr => ∃ j : Nat, j ≤ a.tele.length ∧ i = .int .i64 j ∧ Hid (anyIx (f + j) (a.tele.drop j) = anyIx f a.tele) ∧ Hp no w wr [.box w.heap.size 145 [.bool a.rc, .int .i64 a.ty.k, .int .i64 a.ty.n, .int .i64 a.ty.a, .slice A1 a.ty.ls.length c1, .slice K1 a.ty.ks.length k1, .slice A2 a.tele.length c2, .int .i64 a.member, .slice A3 a.index.length c3]]) (fun i _ => a.tele.length - (intOf i).toNat)
  case atStart => exact ⟨0, Nat.zero_le _, rfl, Lib.hid (by simp), by (repeat (first | with_reducible exact H | with_reducible exact H0_ | with_reducible apply Hp.alloc | with_reducible apply Hp.allocMap | with_reducible apply Hp.drew | with_reducible apply Hp.drewN | with_reducible apply Hp.set)); (try any_goals (repeat (first | with_reducible exact Upd.head | with_reducible apply Upd.tail)))⟩
  case round =>
    clear H
    obtain ⟨j, hj, rfl, HS, H⟩ := hrel
    by_cases hlt : j < a.tele.length
    · obtain ⟨b_, o, B1, ca1, L1, ck1, rfl, hb, hS, hd, p0, p1, p2, p3, p4⟩ := hte.atTm hlt
      have HD := Lib.hid hd
      have HE := Lib.hid (anyIx_drop (f := f) hlt)
      clear hd
      have hr_ := H.rules; simp only [Rules, and_true] at hr_; have hd_ := H.dif; simp only [Dif, Neq, and_true] at hd_; obtain ⟨ho_, hz_⟩ := H.old0
      go_wp2_with ((with_reducible refine atStore (t := 26) ?_); go_must (refine wpList_storeH (t := 26) rfl rfl (by go_simp <;> first | rfl | exact ⟨rfl, rfl⟩) (by go_simp <;> first | rfl | exact ⟨rfl, rfl⟩) (by exact Hp.norm (by (repeat (first | with_reducible exact H | with_reducible exact H0_ | with_reducible apply Hp.alloc | with_reducible apply Hp.allocMap | with_reducible apply Hp.drew | with_reducible apply Hp.drewN | with_reducible apply Hp.set)); (try any_goals (repeat (first | with_reducible exact Upd.head | with_reducible apply Upd.tail)))) (by ((try simp only [size_drew_, size_drewN_, World.size_alloc, World.size_setCell, List.set_cons_zero, List.set_cons_succ, List.nil_append, List.cons_append]) <;> rfl))) (by (repeat (first | with_reducible exact Upd.head | with_reducible apply Upd.tail))) (by exact aggTerm) (by rfl) (by simp [Value.oneCell']) ?_; clear H; intro w7 H; (try simp only [size_drew_, size_drewN_, World.size_alloc, World.size_setCell, List.set_cons_zero, List.set_cons_succ] at H); (try clear hr_ hd_ ho_ hz_); have hr_ := H.rules; simp only [Rules, and_true] at hr_; have hd_ := H.dif; simp only [Dif, Neq, and_true] at hd_; obtain ⟨ho_, hz_⟩ := H.old0))
      (try clear hr_ hd_ ho_ hz_)
      refine callsH (by (repeat (first | with_reducible exact H | with_reducible exact H0_ | with_reducible apply Hp.alloc | with_reducible apply Hp.allocMap | with_reducible apply Hp.drew | with_reducible apply Hp.drewN | with_reducible apply Hp.set)); (try any_goals (repeat (first | with_reducible exact Upd.head | with_reducible apply Upd.tail)))) ?_
      clear H; intro w9 H; (try simp only [size_drew_, size_drewN_, World.size_alloc, World.size_setCell, List.set_cons_zero, List.set_cons_succ] at H)
      obtain ⟨z, hz⟩ : ∃ z, z = freeT ((f : Int) + j) ((f : Int) + j + 1) 0 a.tele[j] := ⟨_, rfl⟩
      have hcall := free_calls (HT.out.ext H.ext) ⟨_, _, _, _, rfl, HD.out.ext0 H.ext⟩ ((f : Int) + j) ((f : Int) + j + 1)
      rw [← hz] at hcall
      have HZ := Lib.hid hz
      clear hz
      refine (hcall).mono ?_
      rintro e w_ ⟨rfl, hx⟩
      replace H := H.call hx
      clear hx
      clear hcall
      cases z
      · go_wp2_with fail
        go_roundw
        case rel => exact ⟨j + 1, by omega, by first | go_num | rfl | simp, Lib.hid (by rw [← HS.out, HE.out, ← HZ.out]; rfl), (H.arr (by (repeat (first | with_reducible exact Arr.nil | refine Arr.cons (by (repeat (first | with_reducible exact Pick.head | with_reducible apply Pick.tail))) ?_)) <;> exact Arr.of_subl (by (repeat (first | with_reducible exact Subl.refl _ | with_reducible apply Subl.drop)))))⟩
        case measure => simp [intOf]; omega
      · go_wp2_with fail
        go_ret
        exact ⟨by rw [HQ.out, mentT, ← HS.out, HE.out, ← HZ.out]; rfl, H.ext⟩
    · have HN : Hid (anyIx f a.tele = false) := by
        unfold Hid
        rw [← HS.out, List.drop_eq_nil_of_le (by omega), anyIx]
      have hQ2 : q = ((!a.rc && freeT f ((f : Int) + 1) 0 a.ty) || a.index.any fun t => freeT ((f : Int) + a.tele.length) ((f : Int) + a.tele.length + 1) 0 t) := by rw [HQ.out, mentT, HN.out, Bool.false_or]
      have HQ2 := Lib.hid hQ2
      clear hQ2
      cases hrc : a.rc
      · have HR := Lib.hid hrc
        rw [hrc] at H
        clear hrc
        have hr_ := H.rules; simp only [Rules, and_true] at hr_; have hd_ := H.dif; simp only [Dif, Neq, and_true] at hd_; obtain ⟨ho_, hz_⟩ := H.old0
        go_wp2_with fail
        (try clear hr_ hd_ ho_ hz_)
        refine callsH (by (repeat (first | with_reducible exact H | with_reducible exact H0_ | with_reducible apply Hp.alloc | with_reducible apply Hp.allocMap | with_reducible apply Hp.drew | with_reducible apply Hp.drewN | with_reducible apply Hp.set)); (try any_goals (repeat (first | with_reducible exact Upd.head | with_reducible apply Upd.tail)))) ?_
        clear H; intro w9 H; (try simp only [size_drew_, size_drewN_, World.size_alloc, World.size_setCell, List.set_cons_zero, List.set_cons_succ] at H)
        obtain ⟨z, hz⟩ : ∃ z, z = freeT (f : Int) ((f : Int) + 1) 0 a.ty := ⟨_, rfl⟩
        have hcall := free_calls (HT.out.ext H.ext) ⟨_, _, _, _, rfl, HTY.out.ext0 H.ext⟩ (f : Int) ((f : Int) + 1)
        rw [← hz] at hcall
        have HZ := Lib.hid hz
        clear hz
        refine (hcall).mono ?_
        rintro e w_ ⟨rfl, hx⟩
        replace H := H.call hx
        clear hx
        clear hcall
        cases z
        · have hr_ := H.rules; simp only [Rules, and_true] at hr_; have hd_ := H.dif; simp only [Dif, Neq, and_true] at hd_; obtain ⟨ho_, hz_⟩ := H.old0
          go_wp2_with fail
          (try clear hr_ hd_ ho_ hz_)
          obtain ⟨z2, hz2⟩ : ∃ z2, z2 = a.index.any fun t => freeT ((f : Int) + a.tele.length) ((f : Int) + a.tele.length + 1) 0 t := ⟨_, rfl⟩
          have hcall := contains_terms1 (bn := wr.heap.size) (p := fun t => freeT ((f : Int) + a.tele.length) ((f : Int) + a.tele.length + 1) 0 t) (HIX.out.ext0 H.ext) rfl (enters_of Tryz.func253 (by kernel_rfl) rfl) (fun x hx w' v hx' hv => ment1_calls (HT.out.ext (H.ext.seq hx')) hv (hx'.keep ((H.blk (g := wr.heap.size) (cs := [.int .i64 ((f : Int) + a.tele.length)]) (by (repeat (first | with_reducible exact Pick.head | with_reducible apply Pick.tail)))).cells 0)) (by omega) (by omega))
          rw [← hz2] at hcall
          have HZ2 := Lib.hid hz2
          clear hz2
          refine (hcall).mono ?_
          rintro e w_ ⟨rfl, hx⟩
          replace H := H.call hx
          clear hx
          clear hcall
          go_wp2_with fail
          go_ret
          exact ⟨by rw [HQ2.out, HR.out, ← HZ.out, ← HZ2.out]; rfl, H.ext⟩
        · have hr_ := H.rules; simp only [Rules, and_true] at hr_; have hd_ := H.dif; simp only [Dif, Neq, and_true] at hd_; obtain ⟨ho_, hz_⟩ := H.old0
          go_wp2_with fail
          go_ret
          exact ⟨by rw [HQ2.out, HR.out, ← HZ.out]; rfl, H.ext⟩
      · have HR := Lib.hid hrc
        rw [hrc] at H
        clear hrc
        have hr_ := H.rules; simp only [Rules, and_true] at hr_; have hd_ := H.dif; simp only [Dif, Neq, and_true] at hd_; obtain ⟨ho_, hz_⟩ := H.old0
        go_wp2_with fail
        (try clear hr_ hd_ ho_ hz_)
        refine callsH (by (repeat (first | with_reducible exact H | with_reducible exact H0_ | with_reducible apply Hp.alloc | with_reducible apply Hp.allocMap | with_reducible apply Hp.drew | with_reducible apply Hp.drewN | with_reducible apply Hp.set)); (try any_goals (repeat (first | with_reducible exact Upd.head | with_reducible apply Upd.tail)))) ?_
        clear H; intro w9 H; (try simp only [size_drew_, size_drewN_, World.size_alloc, World.size_setCell, List.set_cons_zero, List.set_cons_succ] at H)
        obtain ⟨z2, hz2⟩ : ∃ z2, z2 = a.index.any fun t => freeT ((f : Int) + a.tele.length) ((f : Int) + a.tele.length + 1) 0 t := ⟨_, rfl⟩
        have hcall := contains_terms1 (bn := wr.heap.size) (p := fun t => freeT ((f : Int) + a.tele.length) ((f : Int) + a.tele.length + 1) 0 t) (HIX.out.ext0 H.ext) rfl (enters_of Tryz.func253 (by kernel_rfl) rfl) (fun x hx w' v hx' hv => ment1_calls (HT.out.ext (H.ext.seq hx')) hv (hx'.keep ((H.blk (g := wr.heap.size) (cs := [.int .i64 ((f : Int) + a.tele.length)]) (by (repeat (first | with_reducible exact Pick.head | with_reducible apply Pick.tail)))).cells 0)) (by omega) (by omega))
        rw [← hz2] at hcall
        have HZ2 := Lib.hid hz2
        clear hz2
        refine (hcall).mono ?_
        rintro e w_ ⟨rfl, hx⟩
        replace H := H.call hx
        clear hx
        clear hcall
        go_wp2_with fail
        go_ret
        exact ⟨by rw [HQ2.out, HR.out, ← HZ2.out]; rfl, H.ext⟩
end Go.Proofs.YtmedomglemllnaaGreatDoor
/- split: what it computes; sizes; no program in sight. No statement of the seat is proved here. -/
namespace Go.Proofs.YtmedomglemllnaaGreatDoor
set_option linter.unusedSimpArgs false
set_option linter.unusedVariables false
open Go.RowKit

abbrev zT : Tm := .mk 0 0 0 [] []
def openAll (t : Tm) : List Tm × Tm := (openT (countT t) t).getD ([], zT)
def argQ (ms : List Mb) (t : Tm) : Except Int Ar :=
  if selfT t = false then .ok ⟨false, t, [], 0, []⟩
  else if (countT t : Int) ≤ 6 then
    (if ((!(openAll t).1.any selfT) && (decide ((spineT (openAll t).2).1.k = 11) && (decide (0 ≤ (spineT (openAll t).2).1.a) && (decide ((spineT (openAll t).2).1.a < ms.length) && (!(spineT (openAll t).2).2.any selfT))))) = true then
      (if decide ((spineT (openAll t).2).2.length = ((ms.getD (spineT (openAll t).2).1.a.toNat ⟨[]⟩).index).length) = true then .ok ⟨true, zT, (openAll t).1, (spineT (openAll t).2).1.a, (spineT (openAll t).2).2⟩ else .error 17)
    else .error 16)
  else .error 3
theorem openT_count : ∀ t : Tm, ∃ p, openT (countT t) t = some p ∧ sizesT p.1 + sizeT p.2 ≤ sizeT t ∧ p.1.length = countT t
  | .mk k n a ls [x, y] => by
    rw [countT]
    by_cases h : k = 4
    · rw [if_pos h, openT, if_pos h]
      obtain ⟨p, h1, h2, h3⟩ := openT_count y
      rw [h1]
      refine ⟨_, rfl, ?_, ?_⟩
      · simp only [sizesT, sizeT]; omega
      · simpa using h3
    · rw [if_neg h]
      exact ⟨([], _), rfl, by simp [sizesT], rfl⟩
  | .mk k n a ls [] => ⟨([], _), rfl, by simp [sizesT], rfl⟩
  | .mk k n a ls [_] => ⟨([], _), rfl, by simp [sizesT], rfl⟩
  | .mk k n a ls (_ :: _ :: _ :: _) => ⟨([], _), rfl, by simp [sizesT], rfl⟩
theorem openAll_eq (t : Tm) : openT (countT t) t = some (openAll t) := by
  obtain ⟨p, h, _⟩ := openT_count t
  unfold openAll
  rw [h]; rfl
theorem openAll_size (t : Tm) : sizesT (openAll t).1 + sizeT (openAll t).2 ≤ sizeT t ∧ (openAll t).1.length = countT t := by
  obtain ⟨p, h, h2, h3⟩ := openT_count t
  have := openAll_eq t
  rw [h] at this
  obtain rfl := Option.some.inj this
  exact ⟨h2, h3⟩
theorem spineT_size : ∀ t : Tm, sizeT (spineT t).1 + sizesT (spineT t).2 ≤ sizeT t
  | .mk k n a ls [f, x] => by
    rw [spineT]
    by_cases h : k = 6
    · rw [if_pos h]
      have := spineT_size f
      simp only [sizesT_append, sizesT, sizeT]
      omega
    · rw [if_neg h]; simp [sizesT]
  | .mk k n a ls [] => by simp [spineT, sizesT]
  | .mk k n a ls [_] => by simp [spineT, sizesT]
  | .mk k n a ls (_ :: _ :: _ :: _) => by simp [spineT, sizesT]
theorem length_sizes (l : List Tm) : l.length ≤ sizesT l := by
  induction l with
  | nil => simp
  | cons t l ih => rw [sizesT, sizeT_eq, List.length_cons]; omega
theorem countT_size (t : Tm) : countT t ≤ sizeT t := by
  have := openAll_size t
  have := length_sizes (openAll t).1
  omega
end Go.Proofs.YtmedomglemllnaaGreatDoor
