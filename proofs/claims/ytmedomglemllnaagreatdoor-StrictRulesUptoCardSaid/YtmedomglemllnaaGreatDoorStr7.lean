/- strict: a row of types: contract. No statement of the seat is proved here. -/
import Derived.Test.YtmedomglemllnaaGreatDoorStr5
namespace Go.Proofs.YtmedomglemllnaaGreatDoor
set_option linter.unusedSimpArgs false
set_option linter.unusedVariables false
open Go.RowKit

set_option maxRecDepth 100000 in
set_option maxHeartbeats 8000000 in
theorem types_calls {w : World} {g n c cr : Nat} {ds : List Dc} {A0 Ar : Option Addr} {es : List (Ky × Bool)} {mk : Mk} {fs fi : Value} {S : Nat → Prop} {ts : List Tm} (IHs : ∀ F, StrictAt ds n F) (ha : Ask w g ds n A0 c es mk fs fi) (h : RC w S (.l 26 5 (ts.map Tm.d)) [.slice Ar ts.length cr]) (hS : ¬ S g) (hz : sizesT ts ≤ 4000000) :
    Calls Tryz.prog 127 #[asV fs fi A0 n c g, .int .i64 0, .slice Ar ts.length cr] w (PLo w g ds n es (typesQ (ds.take n) (parT ds n) mk 0 ts)) := by
  obtain ⟨F1, x1, y1, rfl⟩ := ha.st.fn
  obtain ⟨F2, x2, y2, rfl⟩ := ha.is.fn
  have hM := h.lenM
  have hlen := length_sizes ts
  have hl4 : ts.length ≤ 4000000 := Nat.le_trans hlen hz
  have HZ := Lib.hid (show ∀ t ∈ ts, sizeT t ≤ 4000000 from fun t ht => Nat.le_trans (sizesT_memS ht) hz)
  have HA := Lib.hid ha
  have HR0 := Lib.hid h
  obtain ⟨q, hq⟩ : ∃ q, q = typesQ (ds.take n) (parT ds n) mk 0 ts := ⟨_, rfl⟩
  rw [← hq]
  have HQ := Lib.hid hq
  clear ha h hq hz hlen
  go_enter Tryz.func127, Tryz.ntmps127
  have H := Hp.start no w
  go_wp2_with fail
  refine codeH (by (repeat (first | with_reducible exact H | with_reducible exact H0_ | with_reducible apply Hp.alloc | with_reducible apply Hp.allocMap | with_reducible apply Hp.drew | with_reducible apply Hp.drewN | with_reducible apply Hp.set)); (try any_goals (repeat (first | with_reducible exact Upd.head | with_reducible apply Upd.tail)))) ?_
  clear H; intro w1 H; (try simp only [size_drew_, size_drewN_, World.size_alloc, World.size_setCell, List.set_cons_zero, List.set_cons_succ] at H)
  have HX0 := Lib.hid H.ext
  have b0 := H.blk (g := w.heap.size) (t := 161) (by (repeat (first | with_reducible exact Pick.head | with_reducible apply Pick.tail)))
  have HC : Hid (Cells w1 [(⟨w.heap.size, 0, none⟩, .func F1 x1 y1), (⟨w.heap.size, 1, none⟩, .func F2 x2 y2), (⟨w.heap.size, 2, none⟩, .slice A0 n c), (⟨w.heap.size, 3, none⟩, .map (some g))]) := by
    unfold Hid
    simp only [Cells_cons, Cells_nil, and_true]
    exact ⟨b0.cells 0, b0.cells 1, b0.cells 2, b0.cells 3⟩
  have HA1 := Lib.hid (HA.out.ext H.ext)
  have HROW := Lib.hid (HR0.out.ext0 H.ext)
  clear b0 H
  go_loopw [10] (fun i wr => ∃ j : Nat, j ≤ ts.length ∧ i = .int .i64 j ∧ Hid (typesQ (ds.take n) (parT ds n) mk j (ts.drop j) = q) ∧ Hid (Kn w1 g ds n es wr)) (fun i _ => ts.length - (intOf i).toNat)
  case atStart => exact ⟨0, Nat.zero_le _, rfl, Lib.hid (by rw [HQ.out]; rfl), Lib.hid (Kn.start HA1.out.mp)⟩
  case round =>
    obtain ⟨j, hj, rfl, HS, HKN⟩ := hrel
    obtain ⟨ex, hx, hm, hr⟩ := HKN.out
    have HAK := Lib.hid (HA1.out.turn hx hm hr HA1.out.hn)
    have HX := Lib.hid hx
    have HR := Lib.hid hr
    have hc := HC.out.turn hx HA1.out.mp
    simp only [Cells_cons, Cells_nil, and_true] at hc
    obtain ⟨q0, q1, q2, q3⟩ := hc
    have m0 := cell_lt q0
    clear hx hm hr
    by_cases hlt : j < ts.length
    · have hrow2 := HROW.out.turn HX.out hS
      have hAr : ∃ b_ o, Ar = some ⟨b_, o, none⟩ := by
        obtain ⟨b_, o, _, _, _, _, h, _⟩ := hrow2.atTm hlt
        exact ⟨b_, o, h⟩
      obtain ⟨b_, o, rfl⟩ := hAr
      obtain ⟨b2_, o2, B1, ca1, L1, ck1, hA_, hb, hS_, hd, p0, p1, p2, p3, p4⟩ := hrow2.atTm hlt
      simp only [Option.some.injEq, Addr.mk.injEq, and_true] at hA_
      obtain ⟨rfl, rfl⟩ := hA_
      have HD := Lib.hid hd
      have HE := Lib.hid (typesQ_drop (ds := ds.take n) (par := parT ds n) (v := mk) hlt)
      have HZJ := Lib.hid (HZ.out _ (List.getElem_mem hlt))
      clear hd hrow2 hS_
      have H := Hp.start no wr
      have hr_ := H.rules; simp only [Rules, and_true] at hr_; have hd_ := H.dif; simp only [Dif, Neq, and_true] at hd_; obtain ⟨ho_, hz_⟩ := H.old0
      go_wp2_with ((with_reducible refine atStore (t := 26) ?_); go_must (refine wpList_storeH (t := 26) rfl rfl (by go_simp <;> first | rfl | exact ⟨rfl, rfl⟩) (by go_simp <;> first | rfl | exact ⟨rfl, rfl⟩) (by exact Hp.norm (by (repeat (first | with_reducible exact H | with_reducible exact H0_ | with_reducible apply Hp.alloc | with_reducible apply Hp.allocMap | with_reducible apply Hp.drew | with_reducible apply Hp.drewN | with_reducible apply Hp.set)); (try any_goals (repeat (first | with_reducible exact Upd.head | with_reducible apply Upd.tail)))) (by ((try simp only [size_drew_, size_drewN_, World.size_alloc, World.size_setCell, List.set_cons_zero, List.set_cons_succ, List.nil_append, List.cons_append]) <;> rfl))) (by (repeat (first | with_reducible exact Upd.head | with_reducible apply Upd.tail))) (by exact aggTerm) (by rfl) (by simp [Value.oneCell']) ?_; clear H; intro w7 H; (try simp only [size_drew_, size_drewN_, World.size_alloc, World.size_setCell, List.set_cons_zero, List.set_cons_succ] at H); (try clear hr_ hd_ ho_ hz_); have hr_ := H.rules; simp only [Rules, and_true] at hr_; have hd_ := H.dif; simp only [Dif, Neq, and_true] at hd_; obtain ⟨ho_, hz_⟩ := H.old0))
      (try clear hr_ hd_ ho_ hz_)
      refine callsH (by (repeat (first | with_reducible exact H | with_reducible exact H0_ | with_reducible apply Hp.alloc | with_reducible apply Hp.allocMap | with_reducible apply Hp.drew | with_reducible apply Hp.drewN | with_reducible apply Hp.set)); (try any_goals (repeat (first | with_reducible exact Upd.head | with_reducible apply Upd.tail)))) ?_
      clear H; intro w9 H; (try simp only [size_drew_, size_drewN_, World.size_alloc, World.size_setCell, List.set_cons_zero, List.set_cons_succ] at H)
      obtain ⟨z, hz⟩ : ∃ z, z = strictQ (ds.take n) (parT ds n) (upM mk j) ts[j] := ⟨_, rfl⟩
      have hcall := IHs (sizeT ts[j]) (HAK.out.ext H.ext) _ ts[j] _ (j : Int) ⟨_, _, _, _, rfl, HD.out.ext0 H.ext⟩ hS (by omega) (Nat.le_refl _) HZJ.out (by have := HZJ.out; omega)
      rw [show strictF (ds.take n) (parT ds n) (sizeT ts[j]) (upM mk j) ts[j] = z by rw [hz, strictQ]] at hcall
      have HZ2 := Lib.hid hz
      clear hz
      refine hcall.mono ?_
      clear hcall
      rintro e w11 hm
      have HK2 := Lib.hid (Kn.seq (HX.out.also H.ext fun _ h => h.elim) HR.out hm.2)
      cases z
      · obtain rfl := hm.no rfl
        clear hm
        go_wp2_with fail
        refine ⟨rfl, ?_, HK2.out.pre HX0.out⟩
        rw [← HS.out, HE.out, ← HZ2.out]
        rfl
      · obtain rfl := hm.yes rfl
        clear hm H p0 p1 p2 p3 p4 q0 q1 q2 q3 m0
        go_wp2_with fail
        go_roundw
        case rel => exact ⟨j + 1, by omega, by first | go_num | rfl | simp, Lib.hid (by rw [← HS.out, HE.out, ← HZ2.out]; rfl), Lib.hid HK2.out⟩
        case measure => simp [intOf]; omega
    · clear q0 q1 q2 q3 m0
      go_wp2_with fail
      go_end0
      refine ⟨?_, HKN.out.pre HX0.out⟩
      rw [← HS.out, List.drop_eq_nil_of_le (by omega)]
      rfl
end Go.Proofs.YtmedomglemllnaaGreatDoor
