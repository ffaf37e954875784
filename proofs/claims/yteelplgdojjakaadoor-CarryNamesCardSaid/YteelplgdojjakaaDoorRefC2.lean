/- The reference of layer 21: a name's constant, terms carried over: contracts. -/
import Derived.Test.YteelplgdojjakaaDoorRefConst
namespace Go.Proofs.YteelplgdojjakaaDoor
set_option linter.unusedSimpArgs false
set_option linter.unusedVariables false
open Go.RowKit

set_option maxRecDepth 100000 in
set_option maxHeartbeats 4000000 in
theorem ref_const_out {ds : List Dc} {at_ : List Int} {A B : Option Addr} {c c2 : Nat} {k n a : Int} {v1 v2 : Value} {w : World} (hM : ds.length ≤ 4294967296) (hM2 : at_.length ≤ 4294967296) (h : ¬ (0 ≤ n ∧ n < ds.length ∧ n < at_.length)) :
    Calls Tryd.prog 58 #[.slice A ds.length c, .slice B at_.length c2, .agg #[.int .i64 k, .int .i64 n, .int .i64 a, v1, v2]] w (PRefC w (nameOf ds at_ k n a)) := by
  have HE := Lib.hid (nameOf_out (k := k) (a := a) h)
  by_cases h0 : n < 0
  · have g0 : decide (n < 0) = true := by simpa using h0
    clear h h0
    go_enter Tryd.func58, Tryd.ntmps58
    have H := Hp.start no w
    go_wp2_with fail
    go_ret2
    exact PRefC.no_ HE.out (show Hp no w _ _ from (by (repeat (first | with_reducible exact H | with_reducible exact H0_ | with_reducible apply Hp.alloc | with_reducible apply Hp.allocMap | with_reducible apply Hp.drew | with_reducible apply Hp.drewN | with_reducible apply Hp.set)); (try any_goals (repeat (first | with_reducible exact Upd.head | with_reducible apply Upd.tail))))).ext
  · have g0 : decide (n < 0) = false := by simpa using h0
    by_cases h1 : (ds.length : Int) ≤ n
    · have g1 : decide ((ds.length : Int) ≤ n) = true := by simpa using h1
      clear h h0 h1
      go_enter Tryd.func58, Tryd.ntmps58
      have H := Hp.start no w
      go_wp2_with fail
      go_ret2
      exact PRefC.no_ HE.out (show Hp no w _ _ from (by (repeat (first | with_reducible exact H | with_reducible exact H0_ | with_reducible apply Hp.alloc | with_reducible apply Hp.allocMap | with_reducible apply Hp.drew | with_reducible apply Hp.drewN | with_reducible apply Hp.set)); (try any_goals (repeat (first | with_reducible exact Upd.head | with_reducible apply Upd.tail))))).ext
    · have g1 : decide ((ds.length : Int) ≤ n) = false := by simpa using h1
      have g2 : decide ((at_.length : Int) ≤ n) = true := by simp; omega
      clear h h0 h1
      go_enter Tryd.func58, Tryd.ntmps58
      have H := Hp.start no w
      go_wp2_with fail
      go_ret2
      exact PRefC.no_ HE.out (show Hp no w _ _ from (by (repeat (first | with_reducible exact H | with_reducible exact H0_ | with_reducible apply Hp.alloc | with_reducible apply Hp.allocMap | with_reducible apply Hp.drew | with_reducible apply Hp.drewN | with_reducible apply Hp.set)); (try any_goals (repeat (first | with_reducible exact Upd.head | with_reducible apply Upd.tail))))).ext
theorem ref_const {S S2 : Nat → Prop} {ds : List Dc} {at_ : List Int} {A B : Option Addr} {c c2 : Nat} {k n a : Int} {v1 v2 : Value} {w : World} (hds : RC w S (.l 42 16 (ds.map Dc.d)) [.slice A ds.length c]) (hat : RC w S2 (.l 3 1 (at_.map D.i)) [.slice B at_.length c2]) :
    Calls Tryd.prog 58 #[.slice A ds.length c, .slice B at_.length c2, .agg #[.int .i64 k, .int .i64 n, .int .i64 a, v1, v2]] w (PRefC w (nameOf ds at_ k n a)) := by
  by_cases h : 0 ≤ n ∧ n < ds.length ∧ n < at_.length
  · obtain ⟨j, rfl⟩ := Int.eq_ofNat_of_zero_le h.1
    exact ref_const_in hds hat (by omega) (by omega)
  · exact ref_const_out hds.lenM.1 hat.lenM.1 h
end Go.Proofs.YteelplgdojjakaaDoor
