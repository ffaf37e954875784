/- SplitShapes: its shapes; the whole law. No statement of the seat is proved here. -/
import Derived.Test.YtgbokmphbimihaaDoorShapes5
namespace Go.Proofs.YtgbokmphbimihaaDoor
set_option linter.unusedSimpArgs false
set_option linter.unusedVariables false
open Go.RowKit

def shapes19 : List Tm := [(.mk 1 0 0 [] []), (.mk 1 1 0 [] []), (.mk 1 2 0 [] []), (.mk 11 0 0 [] []), (.mk 11 0 1 [] []), (.mk 11 0 2 [] []), (.mk 6 0 0 [] [(.mk 11 0 1 [] []), (.mk 1 0 0 [] [])]), (.mk 6 0 0 [] [(.mk 11 0 1 [] []), (.mk 1 1 0 [] [])]), (.mk 6 0 0 [] [(.mk 11 0 0 [] []), (.mk 1 0 0 [] [])]), (.mk 6 0 0 [] [(.mk 11 0 1 [] []), (.mk 11 0 0 [] [])]), (.mk 4 0 0 [] [(.mk 1 0 0 [] []), (.mk 11 0 0 [] [])]), (.mk 4 0 0 [] [(.mk 1 1 0 [] []), (.mk 6 0 0 [] [(.mk 11 0 1 [] []), (.mk 1 1 0 [] [])])]), (.mk 4 0 0 [] [(.mk 11 0 0 [] []), (.mk 1 0 0 [] [])]), (.mk 4 0 0 [] [(.mk 11 0 0 [] []), (.mk 11 0 0 [] [])]), (.mk 4 0 0 [] [(.mk 4 0 0 [] [(.mk 1 0 0 [] []), (.mk 1 0 0 [] [])]), (.mk 11 0 0 [] [])]), (.mk 4 0 0 [] [(.mk 4 0 0 [] [(.mk 1 0 0 [] []), (.mk 11 0 0 [] [])]), (.mk 11 0 0 [] [])]), (.mk 6 0 0 [] [(.mk 1 0 0 [] []), (.mk 11 0 0 [] [])]), (.mk 5 0 0 [] [(.mk 11 0 0 [] []), (.mk 11 0 0 [] [])]), (.mk 6 0 0 [] [(.mk 6 0 0 [] [(.mk 11 0 1 [] []), (.mk 1 0 0 [] [])]), (.mk 1 0 0 [] [])])]
theorem shapes19_small : ∀ t ∈ shapes19, sizeT t ≤ 1000 := by
  intro t ht
  simp only [shapes19, List.mem_cons, List.not_mem_nil, or_false] at ht
  rcases ht with rfl | rfl | rfl | rfl | rfl | rfl | rfl | rfl | rfl | rfl | rfl | rfl | rfl | rfl | rfl | rfl | rfl | rfl | rfl <;> simp [sizeT, sizesT]
set_option maxRecDepth 100000 in
set_option maxHeartbeats 8000000 in
theorem splitShapes_calls {w : World} (hT : Tab w) : Calls Tryd.prog 3 #[] w (PV w (.bool true)) := by
  have HT := Lib.hid hT
  clear hT
  go_enter Tryd.func3, Tryd.ntmps3
  have H := Hp.start no w
  go_wp2_with fail
  refine (v12_calls).mono ?_
  rintro e w_ ⟨rfl, hx⟩
  replace H := H.call hx
  clear hx
  replace H := H.flatT (k := 1) (n := 0) (a := 0) (by unfold inI; omega) (by unfold inI; omega) (by unfold inI; omega)
  go_wp2_with fail
  refine (v12_calls).mono ?_
  rintro e w_ ⟨rfl, hx⟩
  replace H := H.call hx
  clear hx
  replace H := H.flatT (k := 1) (n := 1) (a := 0) (by unfold inI; omega) (by unfold inI; omega) (by unfold inI; omega)
  go_wp2_with fail
  refine (v12_calls).mono ?_
  rintro e w_ ⟨rfl, hx⟩
  replace H := H.call hx
  clear hx
  replace H := H.flatT (k := 1) (n := 2) (a := 0) (by unfold inI; omega) (by unfold inI; omega) (by unfold inI; omega)
  go_wp2_with fail
  refine (self12_calls).mono ?_
  rintro e w_ ⟨rfl, hx⟩
  replace H := H.call hx
  clear hx
  replace H := H.flatT (k := 11) (n := 0) (a := 0) (by unfold inI; omega) (by unfold inI; omega) (by unfold inI; omega)
  go_wp2_with fail
  refine (self12_calls).mono ?_
  rintro e w_ ⟨rfl, hx⟩
  replace H := H.call hx
  clear hx
  replace H := H.flatT (k := 11) (n := 0) (a := 1) (by unfold inI; omega) (by unfold inI; omega) (by unfold inI; omega)
  go_wp2_with fail
  refine (self12_calls).mono ?_
  rintro e w_ ⟨rfl, hx⟩
  replace H := H.call hx
  clear hx
  replace H := H.flatT (k := 11) (n := 0) (a := 2) (by unfold inI; omega) (by unfold inI; omega) (by unfold inI; omega)
  go_wp2_with fail
  refine (self12_calls).mono ?_
  rintro e w_ ⟨rfl, hx⟩
  replace H := H.call hx
  clear hx
  replace H := H.flatT (k := 11) (n := 0) (a := 1) (by unfold inI; omega) (by unfold inI; omega) (by unfold inI; omega)
  go_wp2_with fail
  refine (v12_calls).mono ?_
  rintro e w_ ⟨rfl, hx⟩
  replace H := H.call hx
  clear hx
  replace H := H.flatT (k := 1) (n := 0) (a := 0) (by unfold inI; omega) (by unfold inI; omega) (by unfold inI; omega)
  go_wp2_with fail
  refine (app12H (a := (.mk 11 0 1 [] [])) (b := (.mk 1 0 0 [] [])) (ca := (flatL 11 0 1)) (cb := (flatL 1 0 0)) H (by (repeat (first | with_reducible exact Pick.head | with_reducible apply Pick.tail))) (by (repeat (first | with_reducible exact Pick.head | with_reducible apply Pick.tail)))).mono ?_
  rintro e w_ ⟨g8, rfl, H2⟩
  clear H
  have H := H2
  clear H2
  go_wp2_with fail
  refine (self12_calls).mono ?_
  rintro e w_ ⟨rfl, hx⟩
  replace H := H.call hx
  clear hx
  replace H := H.flatT (k := 11) (n := 0) (a := 1) (by unfold inI; omega) (by unfold inI; omega) (by unfold inI; omega)
  go_wp2_with fail
  refine (v12_calls).mono ?_
  rintro e w_ ⟨rfl, hx⟩
  replace H := H.call hx
  clear hx
  replace H := H.flatT (k := 1) (n := 1) (a := 0) (by unfold inI; omega) (by unfold inI; omega) (by unfold inI; omega)
  go_wp2_with fail
  refine (app12H (a := (.mk 11 0 1 [] [])) (b := (.mk 1 1 0 [] [])) (ca := (flatL 11 0 1)) (cb := (flatL 1 1 0)) H (by (repeat (first | with_reducible exact Pick.head | with_reducible apply Pick.tail))) (by (repeat (first | with_reducible exact Pick.head | with_reducible apply Pick.tail)))).mono ?_
  rintro e w_ ⟨g11, rfl, H2⟩
  clear H
  have H := H2
  clear H2
  go_wp2_with fail
  refine (self12_calls).mono ?_
  rintro e w_ ⟨rfl, hx⟩
  replace H := H.call hx
  clear hx
  replace H := H.flatT (k := 11) (n := 0) (a := 0) (by unfold inI; omega) (by unfold inI; omega) (by unfold inI; omega)
  go_wp2_with fail
  refine (v12_calls).mono ?_
  rintro e w_ ⟨rfl, hx⟩
  replace H := H.call hx
  clear hx
  replace H := H.flatT (k := 1) (n := 0) (a := 0) (by unfold inI; omega) (by unfold inI; omega) (by unfold inI; omega)
  go_wp2_with fail
  refine (app12H (a := (.mk 11 0 0 [] [])) (b := (.mk 1 0 0 [] [])) (ca := (flatL 11 0 0)) (cb := (flatL 1 0 0)) H (by (repeat (first | with_reducible exact Pick.head | with_reducible apply Pick.tail))) (by (repeat (first | with_reducible exact Pick.head | with_reducible apply Pick.tail)))).mono ?_
  rintro e w_ ⟨g14, rfl, H2⟩
  clear H
  have H := H2
  clear H2
  go_wp2_with fail
  refine (self12_calls).mono ?_
  rintro e w_ ⟨rfl, hx⟩
  replace H := H.call hx
  clear hx
  replace H := H.flatT (k := 11) (n := 0) (a := 1) (by unfold inI; omega) (by unfold inI; omega) (by unfold inI; omega)
  go_wp2_with fail
  refine (self12_calls).mono ?_
  rintro e w_ ⟨rfl, hx⟩
  replace H := H.call hx
  clear hx
  replace H := H.flatT (k := 11) (n := 0) (a := 0) (by unfold inI; omega) (by unfold inI; omega) (by unfold inI; omega)
  go_wp2_with fail
  refine (app12H (a := (.mk 11 0 1 [] [])) (b := (.mk 11 0 0 [] [])) (ca := (flatL 11 0 1)) (cb := (flatL 11 0 0)) H (by (repeat (first | with_reducible exact Pick.head | with_reducible apply Pick.tail))) (by (repeat (first | with_reducible exact Pick.head | with_reducible apply Pick.tail)))).mono ?_
  rintro e w_ ⟨g17, rfl, H2⟩
  clear H
  have H := H2
  clear H2
  go_wp2_with fail
  refine (v12_calls).mono ?_
  rintro e w_ ⟨rfl, hx⟩
  replace H := H.call hx
  clear hx
  replace H := H.flatT (k := 1) (n := 0) (a := 0) (by unfold inI; omega) (by unfold inI; omega) (by unfold inI; omega)
  go_wp2_with fail
  refine (self12_calls).mono ?_
  rintro e w_ ⟨rfl, hx⟩
  replace H := H.call hx
  clear hx
  replace H := H.flatT (k := 11) (n := 0) (a := 0) (by unfold inI; omega) (by unfold inI; omega) (by unfold inI; omega)
  go_wp2_with fail
  refine (pi12H (a := (.mk 1 0 0 [] [])) (b := (.mk 11 0 0 [] [])) (ca := (flatL 1 0 0)) (cb := (flatL 11 0 0)) H (by (repeat (first | with_reducible exact Pick.head | with_reducible apply Pick.tail))) (by (repeat (first | with_reducible exact Pick.head | with_reducible apply Pick.tail)))).mono ?_
  rintro e w_ ⟨g20, rfl, H2⟩
  clear H
  have H := H2
  clear H2
  go_wp2_with fail
  refine (v12_calls).mono ?_
  rintro e w_ ⟨rfl, hx⟩
  replace H := H.call hx
  clear hx
  replace H := H.flatT (k := 1) (n := 1) (a := 0) (by unfold inI; omega) (by unfold inI; omega) (by unfold inI; omega)
  go_wp2_with fail
  refine (self12_calls).mono ?_
  rintro e w_ ⟨rfl, hx⟩
  replace H := H.call hx
  clear hx
  replace H := H.flatT (k := 11) (n := 0) (a := 1) (by unfold inI; omega) (by unfold inI; omega) (by unfold inI; omega)
  go_wp2_with fail
  refine (v12_calls).mono ?_
  rintro e w_ ⟨rfl, hx⟩
  replace H := H.call hx
  clear hx
  replace H := H.flatT (k := 1) (n := 1) (a := 0) (by unfold inI; omega) (by unfold inI; omega) (by unfold inI; omega)
  go_wp2_with fail
  refine (app12H (a := (.mk 11 0 1 [] [])) (b := (.mk 1 1 0 [] [])) (ca := (flatL 11 0 1)) (cb := (flatL 1 1 0)) H (by (repeat (first | with_reducible exact Pick.head | with_reducible apply Pick.tail))) (by (repeat (first | with_reducible exact Pick.head | with_reducible apply Pick.tail)))).mono ?_
  rintro e w_ ⟨g24, rfl, H2⟩
  clear H
  have H := H2
  clear H2
  go_wp2_with fail
  refine (pi12H (a := (.mk 1 1 0 [] [])) (b := (.mk 6 0 0 [] [(.mk 11 0 1 [] []), (.mk 1 1 0 [] [])])) (ca := (flatL 1 1 0)) (cb := (nodeL 6 g24)) H (by (repeat (first | with_reducible exact Pick.head | with_reducible apply Pick.tail))) (by (repeat (first | with_reducible exact Pick.head | with_reducible apply Pick.tail)))).mono ?_
  rintro e w_ ⟨g25, rfl, H2⟩
  clear H
  have H := H2
  clear H2
  go_wp2_with fail
  refine (self12_calls).mono ?_
  rintro e w_ ⟨rfl, hx⟩
  replace H := H.call hx
  clear hx
  replace H := H.flatT (k := 11) (n := 0) (a := 0) (by unfold inI; omega) (by unfold inI; omega) (by unfold inI; omega)
  go_wp2_with fail
  refine (v12_calls).mono ?_
  rintro e w_ ⟨rfl, hx⟩
  replace H := H.call hx
  clear hx
  replace H := H.flatT (k := 1) (n := 0) (a := 0) (by unfold inI; omega) (by unfold inI; omega) (by unfold inI; omega)
  go_wp2_with fail
  refine (pi12H (a := (.mk 11 0 0 [] [])) (b := (.mk 1 0 0 [] [])) (ca := (flatL 11 0 0)) (cb := (flatL 1 0 0)) H (by (repeat (first | with_reducible exact Pick.head | with_reducible apply Pick.tail))) (by (repeat (first | with_reducible exact Pick.head | with_reducible apply Pick.tail)))).mono ?_
  rintro e w_ ⟨g28, rfl, H2⟩
  clear H
  have H := H2
  clear H2
  go_wp2_with fail
  refine (self12_calls).mono ?_
  rintro e w_ ⟨rfl, hx⟩
  replace H := H.call hx
  clear hx
  replace H := H.flatT (k := 11) (n := 0) (a := 0) (by unfold inI; omega) (by unfold inI; omega) (by unfold inI; omega)
  go_wp2_with fail
  refine (self12_calls).mono ?_
  rintro e w_ ⟨rfl, hx⟩
  replace H := H.call hx
  clear hx
  replace H := H.flatT (k := 11) (n := 0) (a := 0) (by unfold inI; omega) (by unfold inI; omega) (by unfold inI; omega)
  go_wp2_with fail
  refine (pi12H (a := (.mk 11 0 0 [] [])) (b := (.mk 11 0 0 [] [])) (ca := (flatL 11 0 0)) (cb := (flatL 11 0 0)) H (by (repeat (first | with_reducible exact Pick.head | with_reducible apply Pick.tail))) (by (repeat (first | with_reducible exact Pick.head | with_reducible apply Pick.tail)))).mono ?_
  rintro e w_ ⟨g31, rfl, H2⟩
  clear H
  have H := H2
  clear H2
  go_wp2_with fail
  refine (v12_calls).mono ?_
  rintro e w_ ⟨rfl, hx⟩
  replace H := H.call hx
  clear hx
  replace H := H.flatT (k := 1) (n := 0) (a := 0) (by unfold inI; omega) (by unfold inI; omega) (by unfold inI; omega)
  go_wp2_with fail
  refine (v12_calls).mono ?_
  rintro e w_ ⟨rfl, hx⟩
  replace H := H.call hx
  clear hx
  replace H := H.flatT (k := 1) (n := 0) (a := 0) (by unfold inI; omega) (by unfold inI; omega) (by unfold inI; omega)
  go_wp2_with fail
  refine (pi12H (a := (.mk 1 0 0 [] [])) (b := (.mk 1 0 0 [] [])) (ca := (flatL 1 0 0)) (cb := (flatL 1 0 0)) H (by (repeat (first | with_reducible exact Pick.head | with_reducible apply Pick.tail))) (by (repeat (first | with_reducible exact Pick.head | with_reducible apply Pick.tail)))).mono ?_
  rintro e w_ ⟨g34, rfl, H2⟩
  clear H
  have H := H2
  clear H2
  go_wp2_with fail
  refine (self12_calls).mono ?_
  rintro e w_ ⟨rfl, hx⟩
  replace H := H.call hx
  clear hx
  replace H := H.flatT (k := 11) (n := 0) (a := 0) (by unfold inI; omega) (by unfold inI; omega) (by unfold inI; omega)
  go_wp2_with fail
  refine (pi12H (a := (.mk 4 0 0 [] [(.mk 1 0 0 [] []), (.mk 1 0 0 [] [])])) (b := (.mk 11 0 0 [] [])) (ca := (nodeL 4 g34)) (cb := (flatL 11 0 0)) H (by (repeat (first | with_reducible exact Pick.head | with_reducible apply Pick.tail))) (by (repeat (first | with_reducible exact Pick.head | with_reducible apply Pick.tail)))).mono ?_
  rintro e w_ ⟨g36, rfl, H2⟩
  clear H
  have H := H2
  clear H2
  go_wp2_with fail
  refine (v12_calls).mono ?_
  rintro e w_ ⟨rfl, hx⟩
  replace H := H.call hx
  clear hx
  replace H := H.flatT (k := 1) (n := 0) (a := 0) (by unfold inI; omega) (by unfold inI; omega) (by unfold inI; omega)
  go_wp2_with fail
  refine (self12_calls).mono ?_
  rintro e w_ ⟨rfl, hx⟩
  replace H := H.call hx
  clear hx
  replace H := H.flatT (k := 11) (n := 0) (a := 0) (by unfold inI; omega) (by unfold inI; omega) (by unfold inI; omega)
  go_wp2_with fail
  refine (pi12H (a := (.mk 1 0 0 [] [])) (b := (.mk 11 0 0 [] [])) (ca := (flatL 1 0 0)) (cb := (flatL 11 0 0)) H (by (repeat (first | with_reducible exact Pick.head | with_reducible apply Pick.tail))) (by (repeat (first | with_reducible exact Pick.head | with_reducible apply Pick.tail)))).mono ?_
  rintro e w_ ⟨g39, rfl, H2⟩
  clear H
  have H := H2
  clear H2
  go_wp2_with fail
  refine (self12_calls).mono ?_
  rintro e w_ ⟨rfl, hx⟩
  replace H := H.call hx
  clear hx
  replace H := H.flatT (k := 11) (n := 0) (a := 0) (by unfold inI; omega) (by unfold inI; omega) (by unfold inI; omega)
  go_wp2_with fail
  refine (pi12H (a := (.mk 4 0 0 [] [(.mk 1 0 0 [] []), (.mk 11 0 0 [] [])])) (b := (.mk 11 0 0 [] [])) (ca := (nodeL 4 g39)) (cb := (flatL 11 0 0)) H (by (repeat (first | with_reducible exact Pick.head | with_reducible apply Pick.tail))) (by (repeat (first | with_reducible exact Pick.head | with_reducible apply Pick.tail)))).mono ?_
  rintro e w_ ⟨g41, rfl, H2⟩
  clear H
  have H := H2
  clear H2
  go_wp2_with fail
  refine (v12_calls).mono ?_
  rintro e w_ ⟨rfl, hx⟩
  replace H := H.call hx
  clear hx
  replace H := H.flatT (k := 1) (n := 0) (a := 0) (by unfold inI; omega) (by unfold inI; omega) (by unfold inI; omega)
  go_wp2_with fail
  refine (self12_calls).mono ?_
  rintro e w_ ⟨rfl, hx⟩
  replace H := H.call hx
  clear hx
  replace H := H.flatT (k := 11) (n := 0) (a := 0) (by unfold inI; omega) (by unfold inI; omega) (by unfold inI; omega)
  go_wp2_with fail
  refine (app12H (a := (.mk 1 0 0 [] [])) (b := (.mk 11 0 0 [] [])) (ca := (flatL 1 0 0)) (cb := (flatL 11 0 0)) H (by (repeat (first | with_reducible exact Pick.head | with_reducible apply Pick.tail))) (by (repeat (first | with_reducible exact Pick.head | with_reducible apply Pick.tail)))).mono ?_
  rintro e w_ ⟨g44, rfl, H2⟩
  clear H
  have H := H2
  clear H2
  go_wp2_with fail
  refine (self12_calls).mono ?_
  rintro e w_ ⟨rfl, hx⟩
  replace H := H.call hx
  clear hx
  replace H := H.flatT (k := 11) (n := 0) (a := 0) (by unfold inI; omega) (by unfold inI; omega) (by unfold inI; omega)
  go_wp2_with fail
  refine (self12_calls).mono ?_
  rintro e w_ ⟨rfl, hx⟩
  replace H := H.call hx
  clear hx
  replace H := H.flatT (k := 11) (n := 0) (a := 0) (by unfold inI; omega) (by unfold inI; omega) (by unfold inI; omega)
  go_wp2_with fail
  refine callsH (by (repeat (first | with_reducible exact H | with_reducible exact H0_ | with_reducible apply Hp.alloc | with_reducible apply Hp.allocMap | with_reducible apply Hp.drew | with_reducible apply Hp.drewN | with_reducible apply Hp.set)); (try any_goals (repeat (first | with_reducible exact Upd.head | with_reducible apply Upd.tail)))) ?_
  clear H; intro w47 H; (try simp only [size_drew_, size_drewN_, World.size_alloc, World.size_setCell, List.set_cons_zero, List.set_cons_succ] at H)
  have H2 := H.nodeOwn (k := 5) (a := (.mk 11 0 0 [] [])) (b := (.mk 11 0 0 [] [])) (ca := (flatL 11 0 0)) (cb := (flatL 11 0 0)) .head (by (repeat (first | with_reducible exact Pick.head | with_reducible apply Pick.tail))) (by (repeat (first | with_reducible exact Pick.head | with_reducible apply Pick.tail))) (by unfold inI; omega)
  clear H
  have H := H2
  clear H2
  generalize w_.heap.size = g47 at H ⊢
  go_wp2_with fail
  refine (self12_calls).mono ?_
  rintro e w_ ⟨rfl, hx⟩
  replace H := H.call hx
  clear hx
  replace H := H.flatT (k := 11) (n := 0) (a := 1) (by unfold inI; omega) (by unfold inI; omega) (by unfold inI; omega)
  go_wp2_with fail
  refine (v12_calls).mono ?_
  rintro e w_ ⟨rfl, hx⟩
  replace H := H.call hx
  clear hx
  replace H := H.flatT (k := 1) (n := 0) (a := 0) (by unfold inI; omega) (by unfold inI; omega) (by unfold inI; omega)
  go_wp2_with fail
  refine (app12H (a := (.mk 11 0 1 [] [])) (b := (.mk 1 0 0 [] [])) (ca := (flatL 11 0 1)) (cb := (flatL 1 0 0)) H (by (repeat (first | with_reducible exact Pick.head | with_reducible apply Pick.tail))) (by (repeat (first | with_reducible exact Pick.head | with_reducible apply Pick.tail)))).mono ?_
  rintro e w_ ⟨g51, rfl, H2⟩
  clear H
  have H := H2
  clear H2
  go_wp2_with fail
  refine (v12_calls).mono ?_
  rintro e w_ ⟨rfl, hx⟩
  replace H := H.call hx
  clear hx
  replace H := H.flatT (k := 1) (n := 0) (a := 0) (by unfold inI; omega) (by unfold inI; omega) (by unfold inI; omega)
  go_wp2_with fail
  refine (app12H (a := (.mk 6 0 0 [] [(.mk 11 0 1 [] []), (.mk 1 0 0 [] [])])) (b := (.mk 1 0 0 [] [])) (ca := (nodeL 6 g51)) (cb := (flatL 1 0 0)) H (by (repeat (first | with_reducible exact Pick.head | with_reducible apply Pick.tail))) (by (repeat (first | with_reducible exact Pick.head | with_reducible apply Pick.tail)))).mono ?_
  rintro e w_ ⟨g53, rfl, H2⟩
  clear H
  have H := H2
  clear H2
  dsimp only
  repeat ((fail_if_success (with_reducible (first | show Code.wp _ (Code.seq (Code.region 2 _ _) _) _ _ _ | show Code.wp _ (Code.seq (Code.seq (Code.region 2 _ _) _) _) _ _ _))); go_step)
  refine codeH (by (repeat (first | with_reducible exact H | with_reducible exact H0_ | with_reducible apply Hp.alloc | with_reducible apply Hp.allocMap | with_reducible apply Hp.drew | with_reducible apply Hp.drewN | with_reducible apply Hp.set)); (try any_goals (repeat (first | with_reducible exact Upd.head | with_reducible apply Upd.tail)))) ?_
  clear H; intro wz H; (try simp only [size_drew_, size_drewN_, World.size_alloc, World.size_setCell, List.set_cons_zero, List.set_cons_succ] at H)
  replace H := H.one1 (d := Tm.d (.mk 6 0 0 [] [(.mk 6 0 0 [] [(.mk 11 0 1 [] []), (.mk 1 0 0 [] [])]), (.mk 1 0 0 [] [])])) (cs := (nodeL 6 g53)) (by (repeat (first | with_reducible exact Pick.head | with_reducible apply Pick.tail)))
  replace H := (H.one1 (d := Tm.d (.mk 5 0 0 [] [(.mk 11 0 0 [] []), (.mk 11 0 0 [] [])])) (cs := (nodeL 5 g47)) (by (repeat (first | with_reducible exact Pick.head | with_reducible apply Pick.tail)))).join .head .head
  replace H := (H.one1 (d := Tm.d (.mk 6 0 0 [] [(.mk 1 0 0 [] []), (.mk 11 0 0 [] [])])) (cs := (nodeL 6 g44)) (by (repeat (first | with_reducible exact Pick.head | with_reducible apply Pick.tail)))).join .head .head
  replace H := (H.one1 (d := Tm.d (.mk 4 0 0 [] [(.mk 4 0 0 [] [(.mk 1 0 0 [] []), (.mk 11 0 0 [] [])]), (.mk 11 0 0 [] [])])) (cs := (nodeL 4 g41)) (by (repeat (first | with_reducible exact Pick.head | with_reducible apply Pick.tail)))).join .head .head
  replace H := (H.one1 (d := Tm.d (.mk 4 0 0 [] [(.mk 4 0 0 [] [(.mk 1 0 0 [] []), (.mk 1 0 0 [] [])]), (.mk 11 0 0 [] [])])) (cs := (nodeL 4 g36)) (by (repeat (first | with_reducible exact Pick.head | with_reducible apply Pick.tail)))).join .head .head
  replace H := (H.one1 (d := Tm.d (.mk 4 0 0 [] [(.mk 11 0 0 [] []), (.mk 11 0 0 [] [])])) (cs := (nodeL 4 g31)) (by (repeat (first | with_reducible exact Pick.head | with_reducible apply Pick.tail)))).join .head .head
  replace H := (H.one1 (d := Tm.d (.mk 4 0 0 [] [(.mk 11 0 0 [] []), (.mk 1 0 0 [] [])])) (cs := (nodeL 4 g28)) (by (repeat (first | with_reducible exact Pick.head | with_reducible apply Pick.tail)))).join .head .head
  replace H := (H.one1 (d := Tm.d (.mk 4 0 0 [] [(.mk 1 1 0 [] []), (.mk 6 0 0 [] [(.mk 11 0 1 [] []), (.mk 1 1 0 [] [])])])) (cs := (nodeL 4 g25)) (by (repeat (first | with_reducible exact Pick.head | with_reducible apply Pick.tail)))).join .head .head
  replace H := (H.one1 (d := Tm.d (.mk 4 0 0 [] [(.mk 1 0 0 [] []), (.mk 11 0 0 [] [])])) (cs := (nodeL 4 g20)) (by (repeat (first | with_reducible exact Pick.head | with_reducible apply Pick.tail)))).join .head .head
  replace H := (H.one1 (d := Tm.d (.mk 6 0 0 [] [(.mk 11 0 1 [] []), (.mk 11 0 0 [] [])])) (cs := (nodeL 6 g17)) (by (repeat (first | with_reducible exact Pick.head | with_reducible apply Pick.tail)))).join .head .head
  replace H := (H.one1 (d := Tm.d (.mk 6 0 0 [] [(.mk 11 0 0 [] []), (.mk 1 0 0 [] [])])) (cs := (nodeL 6 g14)) (by (repeat (first | with_reducible exact Pick.head | with_reducible apply Pick.tail)))).join .head .head
  replace H := (H.one1 (d := Tm.d (.mk 6 0 0 [] [(.mk 11 0 1 [] []), (.mk 1 1 0 [] [])])) (cs := (nodeL 6 g11)) (by (repeat (first | with_reducible exact Pick.head | with_reducible apply Pick.tail)))).join .head .head
  replace H := (H.one1 (d := Tm.d (.mk 6 0 0 [] [(.mk 11 0 1 [] []), (.mk 1 0 0 [] [])])) (cs := (nodeL 6 g8)) (by (repeat (first | with_reducible exact Pick.head | with_reducible apply Pick.tail)))).join .head .head
  replace H := (H.one1 (d := Tm.d (.mk 11 0 2 [] [])) (cs := (flatL 11 0 2)) (by (repeat (first | with_reducible exact Pick.head | with_reducible apply Pick.tail)))).join .head .head
  replace H := (H.one1 (d := Tm.d (.mk 11 0 1 [] [])) (cs := (flatL 11 0 1)) (by (repeat (first | with_reducible exact Pick.head | with_reducible apply Pick.tail)))).join .head .head
  replace H := (H.one1 (d := Tm.d (.mk 11 0 0 [] [])) (cs := (flatL 11 0 0)) (by (repeat (first | with_reducible exact Pick.head | with_reducible apply Pick.tail)))).join .head .head
  replace H := (H.one1 (d := Tm.d (.mk 1 2 0 [] [])) (cs := (flatL 1 2 0)) (by (repeat (first | with_reducible exact Pick.head | with_reducible apply Pick.tail)))).join .head .head
  replace H := (H.one1 (d := Tm.d (.mk 1 1 0 [] [])) (cs := (flatL 1 1 0)) (by (repeat (first | with_reducible exact Pick.head | with_reducible apply Pick.tail)))).join .head .head
  replace H := (H.one1 (d := Tm.d (.mk 1 0 0 [] [])) (cs := (flatL 1 0 0)) (by (repeat (first | with_reducible exact Pick.head | with_reducible apply Pick.tail)))).join .head .head
  have hz : ∀ d ∈ shapes19.map Tm.d, d.size = 5 := by
    intro d hd
    obtain ⟨t, _, rfl⟩ := List.mem_map.1 hd
    exact Tm.size_d t
  have H2 := H.boxrow (e := 26) (z := 5) (n := 19) (ds := shapes19.map Tm.d) (.tail .head) .head rfl hz (by unfold M; omega)
  exact shA (l := shapes19) (HT.out.ext H2.ext) H2.ext (H2.rd .head) shapes19_small (by decide)
end Go.Proofs.YtgbokmphbimihaaDoor
