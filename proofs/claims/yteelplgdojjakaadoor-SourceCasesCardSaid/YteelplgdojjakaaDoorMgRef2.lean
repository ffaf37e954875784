/- Reference 02: kind: contract. No statement of the seat is proved here. -/
import Derived.Deep.DeepCutAuto
import Derived.Test.YteelplgdojjakaaDoorRefKind
import Derived.Test.YteelplgdojjakaaDoorMgSrcBare
import Derived.Test.YteelplgdojjakaaDoorMgMust
namespace Go.Proofs.YteelplgdojjakaaDoor
set_option linter.unusedSimpArgs false
set_option linter.unusedVariables false
open Go.RowKit

set_option maxRecDepth 100000 in
set_option maxHeartbeats 4000000 in
theorem kind_1 {w : World} {n a : Int} {ls : List Lv} {ks : List Tm} {A0 K0 : Option Addr} {ca ck : Nat} (hM : ls.length ≤ 4294967296) :
    Calls Tryd.prog 148 #[.agg #[.int .i64 1, .int .i64 n, .int .i64 a, .slice A0 ls.length ca, .slice K0 ks.length ck]] w (PV w (.bool (kindR (.mk 1 n a ls ks)))) := by
  have hE : kindR (.mk 1 n a ls ks) = tailK n a ks.length ls.length true false (0) 0 8 := by
    rw [kindR_mk, nodeB_tail 1 n a ls ks true false (0) 0 (-1) 8 rfl (by decide) (by decide) rfl]
    simp
  rw [hE]
  clear hE
  go_enter Tryd.func148, Tryd.ntmps148
  have H := Hp.start no w
  repeat ((fail_if_success (with_reducible (show Code.wp _ (Code.seq (Code.seq (Code.region 47 _ _) _) _) _ _ _))); go_step)
  exact kind47 (most := 8) (k := 1) hM (by decide) (by (repeat (first | with_reducible exact H | with_reducible exact H0_ | with_reducible apply Hp.alloc | with_reducible apply Hp.allocMap | with_reducible apply Hp.drew | with_reducible apply Hp.drewN | with_reducible apply Hp.set)); (try any_goals (repeat (first | with_reducible exact Upd.head | with_reducible apply Upd.tail))))
set_option maxRecDepth 100000 in
set_option maxHeartbeats 4000000 in
theorem kind_2 {w : World} {n a : Int} {ls : List Lv} {ks : List Tm} {A0 K0 : Option Addr} {ca ck : Nat} (hM : ls.length ≤ 4294967296) :
    Calls Tryd.prog 148 #[.agg #[.int .i64 2, .int .i64 n, .int .i64 a, .slice A0 ls.length ca, .slice K0 ks.length ck]] w (PV w (.bool (kindR (.mk 2 n a ls ks)))) := by
  have hE : kindR (.mk 2 n a ls ks) = tailK n a ks.length ls.length false false (1) 0 8 := by
    rw [kindR_mk, nodeB_tail 2 n a ls ks false false (1) 0 (-1) 8 rfl (by decide) (by decide) rfl]
    simp
  rw [hE]
  clear hE
  go_enter Tryd.func148, Tryd.ntmps148
  have H := Hp.start no w
  repeat ((fail_if_success (with_reducible (show Code.wp _ (Code.seq (Code.seq (Code.region 47 _ _) _) _) _ _ _))); go_step)
  exact kind47 (most := 8) (k := 2) hM (by decide) (by (repeat (first | with_reducible exact H | with_reducible exact H0_ | with_reducible apply Hp.alloc | with_reducible apply Hp.allocMap | with_reducible apply Hp.drew | with_reducible apply Hp.drewN | with_reducible apply Hp.set)); (try any_goals (repeat (first | with_reducible exact Upd.head | with_reducible apply Upd.tail))))
set_option maxRecDepth 100000 in
set_option maxHeartbeats 4000000 in
theorem kind_3 {w : World} {n a : Int} {ls : List Lv} {ks : List Tm} {A0 K0 : Option Addr} {ca ck : Nat} (hM : ls.length ≤ 4294967296) :
    Calls Tryd.prog 148 #[.agg #[.int .i64 3, .int .i64 n, .int .i64 a, .slice A0 ls.length ca, .slice K0 ks.length ck]] w (PV w (.bool (kindR (.mk 3 n a ls ks)))) := by
  have hE : kindR (.mk 3 n a ls ks) = tailK n a ks.length ls.length true false (-1) 0 8 := by
    rw [kindR_mk, nodeB_tail 3 n a ls ks true false (-1) 0 (-1) 8 rfl (by decide) (by decide) rfl]
    simp
  rw [hE]
  clear hE
  go_enter Tryd.func148, Tryd.ntmps148
  have H := Hp.start no w
  repeat ((fail_if_success (with_reducible (show Code.wp _ (Code.seq (Code.seq (Code.region 47 _ _) _) _) _ _ _))); go_step)
  exact kind47 (most := 8) (k := 3) hM (by decide) (by (repeat (first | with_reducible exact H | with_reducible exact H0_ | with_reducible apply Hp.alloc | with_reducible apply Hp.allocMap | with_reducible apply Hp.drew | with_reducible apply Hp.drewN | with_reducible apply Hp.set)); (try any_goals (repeat (first | with_reducible exact Upd.head | with_reducible apply Upd.tail))))
set_option maxRecDepth 100000 in
set_option maxHeartbeats 4000000 in
theorem kind_4 {w : World} {n a : Int} {ls : List Lv} {ks : List Tm} {A0 K0 : Option Addr} {ca ck : Nat} (hM : ls.length ≤ 4294967296) :
    Calls Tryd.prog 148 #[.agg #[.int .i64 4, .int .i64 n, .int .i64 a, .slice A0 ls.length ca, .slice K0 ks.length ck]] w (PV w (.bool (kindR (.mk 4 n a ls ks)))) := by
  have hE : kindR (.mk 4 n a ls ks) = tailK n a ks.length ls.length false false (0) 2 8 := by
    rw [kindR_mk, nodeB_tail 4 n a ls ks false false (0) 2 (1) 8 rfl (by decide) (by decide) rfl]
    simp
  rw [hE]
  clear hE
  go_enter Tryd.func148, Tryd.ntmps148
  have H := Hp.start no w
  repeat ((fail_if_success (with_reducible (show Code.wp _ (Code.seq (Code.seq (Code.region 47 _ _) _) _) _ _ _))); go_step)
  exact kind47 (most := 8) (k := 4) hM (by decide) (by (repeat (first | with_reducible exact H | with_reducible exact H0_ | with_reducible apply Hp.alloc | with_reducible apply Hp.allocMap | with_reducible apply Hp.drew | with_reducible apply Hp.drewN | with_reducible apply Hp.set)); (try any_goals (repeat (first | with_reducible exact Upd.head | with_reducible apply Upd.tail))))
set_option maxRecDepth 100000 in
set_option maxHeartbeats 4000000 in
theorem kind_5 {w : World} {n a : Int} {ls : List Lv} {ks : List Tm} {A0 K0 : Option Addr} {ca ck : Nat} (hM : ls.length ≤ 4294967296) :
    Calls Tryd.prog 148 #[.agg #[.int .i64 5, .int .i64 n, .int .i64 a, .slice A0 ls.length ca, .slice K0 ks.length ck]] w (PV w (.bool (kindR (.mk 5 n a ls ks)))) := by
  have hE : kindR (.mk 5 n a ls ks) = tailK n a ks.length ls.length false false (0) 2 8 := by
    rw [kindR_mk, nodeB_tail 5 n a ls ks false false (0) 2 (1) 8 rfl (by decide) (by decide) rfl]
    simp
  rw [hE]
  clear hE
  go_enter Tryd.func148, Tryd.ntmps148
  have H := Hp.start no w
  repeat ((fail_if_success (with_reducible (show Code.wp _ (Code.seq (Code.seq (Code.region 47 _ _) _) _) _ _ _))); go_step)
  exact kind47 (most := 8) (k := 5) hM (by decide) (by (repeat (first | with_reducible exact H | with_reducible exact H0_ | with_reducible apply Hp.alloc | with_reducible apply Hp.allocMap | with_reducible apply Hp.drew | with_reducible apply Hp.drewN | with_reducible apply Hp.set)); (try any_goals (repeat (first | with_reducible exact Upd.head | with_reducible apply Upd.tail))))
set_option maxRecDepth 100000 in
set_option maxHeartbeats 4000000 in
theorem kind_6 {w : World} {n a : Int} {ls : List Lv} {ks : List Tm} {A0 K0 : Option Addr} {ca ck : Nat} (hM : ls.length ≤ 4294967296) :
    Calls Tryd.prog 148 #[.agg #[.int .i64 6, .int .i64 n, .int .i64 a, .slice A0 ls.length ca, .slice K0 ks.length ck]] w (PV w (.bool (kindR (.mk 6 n a ls ks)))) := by
  have hE : kindR (.mk 6 n a ls ks) = tailK n a ks.length ls.length false false (0) 2 8 := by
    rw [kindR_mk, nodeB_tail 6 n a ls ks false false (0) 2 (-1) 8 rfl (by decide) (by decide) rfl]
    simp
  rw [hE]
  clear hE
  go_enter Tryd.func148, Tryd.ntmps148
  have H := Hp.start no w
  repeat ((fail_if_success (with_reducible (show Code.wp _ (Code.seq (Code.seq (Code.region 47 _ _) _) _) _ _ _))); go_step)
  exact kind47 (most := 8) (k := 6) hM (by decide) (by (repeat (first | with_reducible exact H | with_reducible exact H0_ | with_reducible apply Hp.alloc | with_reducible apply Hp.allocMap | with_reducible apply Hp.drew | with_reducible apply Hp.drewN | with_reducible apply Hp.set)); (try any_goals (repeat (first | with_reducible exact Upd.head | with_reducible apply Upd.tail))))
set_option maxRecDepth 100000 in
set_option maxHeartbeats 4000000 in
theorem kind_7 {w : World} {n a : Int} {ls : List Lv} {ks : List Tm} {A0 K0 : Option Addr} {ca ck : Nat} (hM : ls.length ≤ 4294967296) :
    Calls Tryd.prog 148 #[.agg #[.int .i64 7, .int .i64 n, .int .i64 a, .slice A0 ls.length ca, .slice K0 ks.length ck]] w (PV w (.bool (kindR (.mk 7 n a ls ks)))) := by
  have hE : kindR (.mk 7 n a ls ks) = tailK n a ks.length ls.length false false (0) 3 8 := by
    rw [kindR_mk, nodeB_tail 7 n a ls ks false false (0) 3 (2) 8 rfl (by decide) (by decide) rfl]
    simp
  rw [hE]
  clear hE
  go_enter Tryd.func148, Tryd.ntmps148
  have H := Hp.start no w
  repeat ((fail_if_success (with_reducible (show Code.wp _ (Code.seq (Code.seq (Code.region 47 _ _) _) _) _ _ _))); go_step)
  exact kind47 (most := 8) (k := 7) hM (by decide) (by (repeat (first | with_reducible exact H | with_reducible exact H0_ | with_reducible apply Hp.alloc | with_reducible apply Hp.allocMap | with_reducible apply Hp.drew | with_reducible apply Hp.drewN | with_reducible apply Hp.set)); (try any_goals (repeat (first | with_reducible exact Upd.head | with_reducible apply Upd.tail))))
set_option maxRecDepth 100000 in
set_option maxHeartbeats 4000000 in
theorem kind_8 {w : World} {n a : Int} {ls : List Lv} {ks : List Tm} {A0 K0 : Option Addr} {ca ck : Nat} (hM : ls.length ≤ 4294967296) :
    Calls Tryd.prog 148 #[.agg #[.int .i64 8, .int .i64 n, .int .i64 a, .slice A0 ls.length ca, .slice K0 ks.length ck]] w (PV w (.bool (kindR (.mk 8 n a ls ks)))) := by
  have hE : kindR (.mk 8 n a ls ks) = tailK n a ks.length ls.length true true (-1) 0 8 := by
    rw [kindR_mk, nodeB_tail 8 n a ls ks true true (-1) 0 (-1) 8 rfl (by decide) (by decide) rfl]
    simp
  rw [hE]
  clear hE
  go_enter Tryd.func148, Tryd.ntmps148
  have H := Hp.start no w
  repeat ((fail_if_success (with_reducible (show Code.wp _ (Code.seq (Code.seq (Code.region 47 _ _) _) _) _ _ _))); go_step)
  exact kind47 (most := 8) (k := 8) hM (by decide) (by (repeat (first | with_reducible exact H | with_reducible exact H0_ | with_reducible apply Hp.alloc | with_reducible apply Hp.allocMap | with_reducible apply Hp.drew | with_reducible apply Hp.drewN | with_reducible apply Hp.set)); (try any_goals (repeat (first | with_reducible exact Upd.head | with_reducible apply Upd.tail))))
set_option maxRecDepth 100000 in
set_option maxHeartbeats 4000000 in
theorem kind_9 {w : World} {n a : Int} {ls : List Lv} {ks : List Tm} {A0 K0 : Option Addr} {ca ck : Nat} (hM : ls.length ≤ 4294967296) :
    Calls Tryd.prog 148 #[.agg #[.int .i64 9, .int .i64 n, .int .i64 a, .slice A0 ls.length ca, .slice K0 ks.length ck]] w (PV w (.bool (kindR (.mk 9 n a ls ks)))) := by
  have hE : kindR (.mk 9 n a ls ks) = tailK n a ks.length ls.length true true (-1) 0 8 := by
    rw [kindR_mk, nodeB_tail 9 n a ls ks true true (-1) 0 (-1) 8 rfl (by decide) (by decide) rfl]
    simp
  rw [hE]
  clear hE
  go_enter Tryd.func148, Tryd.ntmps148
  have H := Hp.start no w
  repeat ((fail_if_success (with_reducible (show Code.wp _ (Code.seq (Code.seq (Code.region 47 _ _) _) _) _ _ _))); go_step)
  exact kind47 (most := 8) (k := 9) hM (by decide) (by (repeat (first | with_reducible exact H | with_reducible exact H0_ | with_reducible apply Hp.alloc | with_reducible apply Hp.allocMap | with_reducible apply Hp.drew | with_reducible apply Hp.drewN | with_reducible apply Hp.set)); (try any_goals (repeat (first | with_reducible exact Upd.head | with_reducible apply Upd.tail))))
set_option maxRecDepth 100000 in
set_option maxHeartbeats 4000000 in
theorem kind_10 {w : World} {n a : Int} {ls : List Lv} {ks : List Tm} {A0 K0 : Option Addr} {ca ck : Nat} (hM : ls.length ≤ 4294967296) :
    Calls Tryd.prog 148 #[.agg #[.int .i64 10, .int .i64 n, .int .i64 a, .slice A0 ls.length ca, .slice K0 ks.length ck]] w (PV w (.bool (kindR (.mk 10 n a ls ks)))) := by
  have hE : kindR (.mk 10 n a ls ks) = tailK n a ks.length ls.length true true (-1) 0 10 := by
    rw [kindR_mk, nodeB_tail 10 n a ls ks true true (-1) 0 (-1) 10 rfl (by decide) (by decide) rfl]
    simp
  rw [hE]
  clear hE
  go_enter Tryd.func148, Tryd.ntmps148
  have H := Hp.start no w
  repeat ((fail_if_success (with_reducible (show Code.wp _ (Code.seq (Code.seq (Code.region 47 _ _) _) _) _ _ _))); go_step)
  exact kind47 (most := 10) (k := 10) hM (by decide) (by (repeat (first | with_reducible exact H | with_reducible exact H0_ | with_reducible apply Hp.alloc | with_reducible apply Hp.allocMap | with_reducible apply Hp.drew | with_reducible apply Hp.drewN | with_reducible apply Hp.set)); (try any_goals (repeat (first | with_reducible exact Upd.head | with_reducible apply Upd.tail))))
set_option maxRecDepth 100000 in
set_option maxHeartbeats 4000000 in
theorem kind_11 {w : World} {n a : Int} {ls : List Lv} {ks : List Tm} {A0 K0 : Option Addr} {ca ck : Nat} (hM : ls.length ≤ 4294967296) :
    Calls Tryd.prog 148 #[.agg #[.int .i64 11, .int .i64 n, .int .i64 a, .slice A0 ls.length ca, .slice K0 ks.length ck]] w (PV w (.bool (kindR (.mk 11 n a ls ks)))) := by
  have hE : kindR (.mk 11 n a ls ks) = tailK n a ks.length ls.length false true (0) 0 8 := by
    rw [kindR_mk, nodeB_tail 11 n a ls ks false true (0) 0 (-1) 8 rfl (by decide) (by decide) rfl]
    simp
  rw [hE]
  clear hE
  go_enter Tryd.func148, Tryd.ntmps148
  have H := Hp.start no w
  repeat ((fail_if_success (with_reducible (show Code.wp _ (Code.seq (Code.seq (Code.region 47 _ _) _) _) _ _ _))); go_step)
  exact kind47 (most := 8) (k := 11) hM (by decide) (by (repeat (first | with_reducible exact H | with_reducible exact H0_ | with_reducible apply Hp.alloc | with_reducible apply Hp.allocMap | with_reducible apply Hp.drew | with_reducible apply Hp.drewN | with_reducible apply Hp.set)); (try any_goals (repeat (first | with_reducible exact Upd.head | with_reducible apply Upd.tail))))
set_option maxRecDepth 100000 in
set_option maxHeartbeats 4000000 in
theorem kind_12 {w : World} {n a : Int} {ls : List Lv} {ks : List Tm} {A0 K0 : Option Addr} {ca ck : Nat} (hM : ls.length ≤ 4294967296) :
    Calls Tryd.prog 148 #[.agg #[.int .i64 12, .int .i64 n, .int .i64 a, .slice A0 ls.length ca, .slice K0 ks.length ck]] w (PV w (.bool (kindR (.mk 12 n a ls ks)))) := by
  have hE : kindR (.mk 12 n a ls ks) = tailK n a ks.length ls.length false false (0) 2 8 := by
    rw [kindR_mk, nodeB_tail 12 n a ls ks false false (0) 2 (1) 8 rfl (by decide) (by decide) rfl]
    simp
  rw [hE]
  clear hE
  go_enter Tryd.func148, Tryd.ntmps148
  have H := Hp.start no w
  repeat ((fail_if_success (with_reducible (show Code.wp _ (Code.seq (Code.seq (Code.region 47 _ _) _) _) _ _ _))); go_step)
  exact kind47 (most := 8) (k := 12) hM (by decide) (by (repeat (first | with_reducible exact H | with_reducible exact H0_ | with_reducible apply Hp.alloc | with_reducible apply Hp.allocMap | with_reducible apply Hp.drew | with_reducible apply Hp.drewN | with_reducible apply Hp.set)); (try any_goals (repeat (first | with_reducible exact Upd.head | with_reducible apply Upd.tail))))
set_option maxRecDepth 100000 in
set_option maxHeartbeats 4000000 in
theorem kind_13 {w : World} {n a : Int} {ls : List Lv} {ks : List Tm} {A0 K0 : Option Addr} {ca ck : Nat} (hM : ls.length ≤ 4294967296) :
    Calls Tryd.prog 148 #[.agg #[.int .i64 13, .int .i64 n, .int .i64 a, .slice A0 ls.length ca, .slice K0 ks.length ck]] w (PV w (.bool (kindR (.mk 13 n a ls ks)))) := by
  have hE : kindR (.mk 13 n a ls ks) = tailK n a ks.length ls.length false false (0) 2 8 := by
    rw [kindR_mk, nodeB_tail 13 n a ls ks false false (0) 2 (-1) 8 rfl (by decide) (by decide) rfl]
    simp
  rw [hE]
  clear hE
  go_enter Tryd.func148, Tryd.ntmps148
  have H := Hp.start no w
  repeat ((fail_if_success (with_reducible (show Code.wp _ (Code.seq (Code.seq (Code.region 47 _ _) _) _) _ _ _))); go_step)
  exact kind47 (most := 8) (k := 13) hM (by decide) (by (repeat (first | with_reducible exact H | with_reducible exact H0_ | with_reducible apply Hp.alloc | with_reducible apply Hp.allocMap | with_reducible apply Hp.drew | with_reducible apply Hp.drewN | with_reducible apply Hp.set)); (try any_goals (repeat (first | with_reducible exact Upd.head | with_reducible apply Upd.tail))))
set_option maxRecDepth 100000 in
set_option maxHeartbeats 4000000 in
theorem kind_14 {w : World} {n a : Int} {ls : List Lv} {ks : List Tm} {A0 K0 : Option Addr} {ca ck : Nat} (hM : ls.length ≤ 4294967296) :
    Calls Tryd.prog 148 #[.agg #[.int .i64 14, .int .i64 n, .int .i64 a, .slice A0 ls.length ca, .slice K0 ks.length ck]] w (PV w (.bool (kindR (.mk 14 n a ls ks)))) := by
  have hE : kindR (.mk 14 n a ls ks) = tailK n a ks.length ls.length false false (0) 1 8 := by
    rw [kindR_mk, nodeB_tail 14 n a ls ks false false (0) 1 (-1) 8 rfl (by decide) (by decide) rfl]
    simp
  rw [hE]
  clear hE
  go_enter Tryd.func148, Tryd.ntmps148
  have H := Hp.start no w
  repeat ((fail_if_success (with_reducible (show Code.wp _ (Code.seq (Code.seq (Code.region 47 _ _) _) _) _ _ _))); go_step)
  exact kind47 (most := 8) (k := 14) hM (by decide) (by (repeat (first | with_reducible exact H | with_reducible exact H0_ | with_reducible apply Hp.alloc | with_reducible apply Hp.allocMap | with_reducible apply Hp.drew | with_reducible apply Hp.drewN | with_reducible apply Hp.set)); (try any_goals (repeat (first | with_reducible exact Upd.head | with_reducible apply Upd.tail))))
set_option maxRecDepth 100000 in
set_option maxHeartbeats 4000000 in
theorem kind_15 {w : World} {n a : Int} {ls : List Lv} {ks : List Tm} {A0 K0 : Option Addr} {ca ck : Nat} (hM : ls.length ≤ 4294967296) :
    Calls Tryd.prog 148 #[.agg #[.int .i64 15, .int .i64 n, .int .i64 a, .slice A0 ls.length ca, .slice K0 ks.length ck]] w (PV w (.bool (kindR (.mk 15 n a ls ks)))) := by
  have hE : kindR (.mk 15 n a ls ks) = tailK n a ks.length ls.length false false (0) 1 8 := by
    rw [kindR_mk, nodeB_tail 15 n a ls ks false false (0) 1 (-1) 8 rfl (by decide) (by decide) rfl]
    simp
  rw [hE]
  clear hE
  go_enter Tryd.func148, Tryd.ntmps148
  have H := Hp.start no w
  repeat ((fail_if_success (with_reducible (show Code.wp _ (Code.seq (Code.seq (Code.region 47 _ _) _) _) _ _ _))); go_step)
  exact kind47 (most := 8) (k := 15) hM (by decide) (by (repeat (first | with_reducible exact H | with_reducible exact H0_ | with_reducible apply Hp.alloc | with_reducible apply Hp.allocMap | with_reducible apply Hp.drew | with_reducible apply Hp.drewN | with_reducible apply Hp.set)); (try any_goals (repeat (first | with_reducible exact Upd.head | with_reducible apply Upd.tail))))
set_option maxRecDepth 100000 in
set_option maxHeartbeats 4000000 in
theorem kind_16 {w : World} {n a : Int} {ls : List Lv} {ks : List Tm} {A0 K0 : Option Addr} {ca ck : Nat} (hM : ls.length ≤ 4294967296) :
    Calls Tryd.prog 148 #[.agg #[.int .i64 16, .int .i64 n, .int .i64 a, .slice A0 ls.length ca, .slice K0 ks.length ck]] w (PV w (.bool (kindR (.mk 16 n a ls ks)))) := by
  have hE : kindR (.mk 16 n a ls ks) = tailK n a ks.length ls.length false false (0) 2 8 := by
    rw [kindR_mk, nodeB_tail 16 n a ls ks false false (0) 2 (1) 8 rfl (by decide) (by decide) rfl]
    simp
  rw [hE]
  clear hE
  go_enter Tryd.func148, Tryd.ntmps148
  have H := Hp.start no w
  repeat ((fail_if_success (with_reducible (show Code.wp _ (Code.seq (Code.seq (Code.region 47 _ _) _) _) _ _ _))); go_step)
  exact kind47 (most := 8) (k := 16) hM (by decide) (by (repeat (first | with_reducible exact H | with_reducible exact H0_ | with_reducible apply Hp.alloc | with_reducible apply Hp.allocMap | with_reducible apply Hp.drew | with_reducible apply Hp.drewN | with_reducible apply Hp.set)); (try any_goals (repeat (first | with_reducible exact Upd.head | with_reducible apply Upd.tail))))
set_option maxRecDepth 100000 in
set_option maxHeartbeats 4000000 in
theorem kind_17 {w : World} {n a : Int} {ls : List Lv} {ks : List Tm} {A0 K0 : Option Addr} {ca ck : Nat} (hM : ls.length ≤ 4294967296) :
    Calls Tryd.prog 148 #[.agg #[.int .i64 17, .int .i64 n, .int .i64 a, .slice A0 ls.length ca, .slice K0 ks.length ck]] w (PV w (.bool (kindR (.mk 17 n a ls ks)))) := by
  have hE : kindR (.mk 17 n a ls ks) = tailK n a ks.length ls.length false false (0) 2 8 := by
    rw [kindR_mk, nodeB_tail 17 n a ls ks false false (0) 2 (-1) 8 rfl (by decide) (by decide) rfl]
    simp
  rw [hE]
  clear hE
  go_enter Tryd.func148, Tryd.ntmps148
  have H := Hp.start no w
  repeat ((fail_if_success (with_reducible (show Code.wp _ (Code.seq (Code.seq (Code.region 47 _ _) _) _) _ _ _))); go_step)
  exact kind47 (most := 8) (k := 17) hM (by decide) (by (repeat (first | with_reducible exact H | with_reducible exact H0_ | with_reducible apply Hp.alloc | with_reducible apply Hp.allocMap | with_reducible apply Hp.drew | with_reducible apply Hp.drewN | with_reducible apply Hp.set)); (try any_goals (repeat (first | with_reducible exact Upd.head | with_reducible apply Upd.tail))))
set_option maxRecDepth 100000 in
set_option maxHeartbeats 4000000 in
theorem kind_18 {w : World} {n a : Int} {ls : List Lv} {ks : List Tm} {A0 K0 : Option Addr} {ca ck : Nat} (hM : ls.length ≤ 4294967296) :
    Calls Tryd.prog 148 #[.agg #[.int .i64 18, .int .i64 n, .int .i64 a, .slice A0 ls.length ca, .slice K0 ks.length ck]] w (PV w (.bool (kindR (.mk 18 n a ls ks)))) := by
  have hE : kindR (.mk 18 n a ls ks) = tailK n a ks.length ls.length false false (0) 5 8 := by
    rw [kindR_mk, nodeB_tail 18 n a ls ks false false (0) 5 (1) 8 rfl (by decide) (by decide) rfl]
    simp
  rw [hE]
  clear hE
  go_enter Tryd.func148, Tryd.ntmps148
  have H := Hp.start no w
  repeat ((fail_if_success (with_reducible (show Code.wp _ (Code.seq (Code.seq (Code.region 47 _ _) _) _) _ _ _))); go_step)
  exact kind47 (most := 8) (k := 18) hM (by decide) (by (repeat (first | with_reducible exact H | with_reducible exact H0_ | with_reducible apply Hp.alloc | with_reducible apply Hp.allocMap | with_reducible apply Hp.drew | with_reducible apply Hp.drewN | with_reducible apply Hp.set)); (try any_goals (repeat (first | with_reducible exact Upd.head | with_reducible apply Upd.tail))))
set_option maxRecDepth 100000 in
set_option maxHeartbeats 4000000 in
theorem kind_19 {w : World} {n a : Int} {ls : List Lv} {ks : List Tm} {A0 K0 : Option Addr} {ca ck : Nat} (hM : ls.length ≤ 4294967296) :
    Calls Tryd.prog 148 #[.agg #[.int .i64 19, .int .i64 n, .int .i64 a, .slice A0 ls.length ca, .slice K0 ks.length ck]] w (PV w (.bool (kindR (.mk 19 n a ls ks)))) := by
  have hE : kindR (.mk 19 n a ls ks) = tailK n a ks.length ls.length false false (0) 3 8 := by
    rw [kindR_mk, nodeB_tail 19 n a ls ks false false (0) 3 (-1) 8 rfl (by decide) (by decide) rfl]
    simp
  rw [hE]
  clear hE
  go_enter Tryd.func148, Tryd.ntmps148
  have H := Hp.start no w
  repeat ((fail_if_success (with_reducible (show Code.wp _ (Code.seq (Code.seq (Code.region 47 _ _) _) _) _ _ _))); go_step)
  exact kind47 (most := 8) (k := 19) hM (by decide) (by (repeat (first | with_reducible exact H | with_reducible exact H0_ | with_reducible apply Hp.alloc | with_reducible apply Hp.allocMap | with_reducible apply Hp.drew | with_reducible apply Hp.drewN | with_reducible apply Hp.set)); (try any_goals (repeat (first | with_reducible exact Upd.head | with_reducible apply Upd.tail))))
set_option maxRecDepth 100000 in
set_option maxHeartbeats 4000000 in
theorem kind_20 {w : World} {n a : Int} {ls : List Lv} {ks : List Tm} {A0 K0 : Option Addr} {ca ck : Nat} (hM : ls.length ≤ 4294967296) :
    Calls Tryd.prog 148 #[.agg #[.int .i64 20, .int .i64 n, .int .i64 a, .slice A0 ls.length ca, .slice K0 ks.length ck]] w (PV w (.bool (kindR (.mk 20 n a ls ks)))) := by
  have hE : kindR (.mk 20 n a ls ks) = tailK n a ks.length ls.length false false (0) 0 8 := by
    rw [kindR_mk, nodeB_tail 20 n a ls ks false false (0) 0 (-1) 8 rfl (by decide) (by decide) rfl]
    simp
  rw [hE]
  clear hE
  go_enter Tryd.func148, Tryd.ntmps148
  have H := Hp.start no w
  repeat ((fail_if_success (with_reducible (show Code.wp _ (Code.seq (Code.seq (Code.region 47 _ _) _) _) _ _ _))); go_step)
  exact kind47 (most := 8) (k := 20) hM (by decide) (by (repeat (first | with_reducible exact H | with_reducible exact H0_ | with_reducible apply Hp.alloc | with_reducible apply Hp.allocMap | with_reducible apply Hp.drew | with_reducible apply Hp.drewN | with_reducible apply Hp.set)); (try any_goals (repeat (first | with_reducible exact Upd.head | with_reducible apply Upd.tail))))
set_option maxRecDepth 100000 in
set_option maxHeartbeats 4000000 in
theorem kind_21 {w : World} {n a : Int} {ls : List Lv} {ks : List Tm} {A0 K0 : Option Addr} {ca ck : Nat} (hM : ls.length ≤ 4294967296) :
    Calls Tryd.prog 148 #[.agg #[.int .i64 21, .int .i64 n, .int .i64 a, .slice A0 ls.length ca, .slice K0 ks.length ck]] w (PV w (.bool (kindR (.mk 21 n a ls ks)))) := by
  have hE : kindR (.mk 21 n a ls ks) = tailK n a ks.length ls.length false false (0) 6 8 := by
    rw [kindR_mk, nodeB_tail 21 n a ls ks false false (0) 6 (-1) 8 rfl (by decide) (by decide) rfl]
    simp
  rw [hE]
  clear hE
  go_enter Tryd.func148, Tryd.ntmps148
  have H := Hp.start no w
  repeat ((fail_if_success (with_reducible (show Code.wp _ (Code.seq (Code.seq (Code.region 47 _ _) _) _) _ _ _))); go_step)
  exact kind47 (most := 8) (k := 21) hM (by decide) (by (repeat (first | with_reducible exact H | with_reducible exact H0_ | with_reducible apply Hp.alloc | with_reducible apply Hp.allocMap | with_reducible apply Hp.drew | with_reducible apply Hp.drewN | with_reducible apply Hp.set)); (try any_goals (repeat (first | with_reducible exact Upd.head | with_reducible apply Upd.tail))))
set_option maxRecDepth 100000 in
set_option maxHeartbeats 4000000 in
theorem kind_22 {w : World} {n a : Int} {ls : List Lv} {ks : List Tm} {A0 K0 : Option Addr} {ca ck : Nat} (hM : ls.length ≤ 4294967296) :
    Calls Tryd.prog 148 #[.agg #[.int .i64 22, .int .i64 n, .int .i64 a, .slice A0 ls.length ca, .slice K0 ks.length ck]] w (PV w (.bool (kindR (.mk 22 n a ls ks)))) := by
  have hE : kindR (.mk 22 n a ls ks) = tailK n a ks.length ls.length true false (0) 0 8 := by
    rw [kindR_mk, nodeB_tail 22 n a ls ks true false (0) 0 (-1) 8 rfl (by decide) (by decide) rfl]
    simp
  rw [hE]
  clear hE
  go_enter Tryd.func148, Tryd.ntmps148
  have H := Hp.start no w
  repeat ((fail_if_success (with_reducible (show Code.wp _ (Code.seq (Code.seq (Code.region 47 _ _) _) _) _ _ _))); go_step)
  exact kind47 (most := 8) (k := 22) hM (by decide) (by (repeat (first | with_reducible exact H | with_reducible exact H0_ | with_reducible apply Hp.alloc | with_reducible apply Hp.allocMap | with_reducible apply Hp.drew | with_reducible apply Hp.drewN | with_reducible apply Hp.set)); (try any_goals (repeat (first | with_reducible exact Upd.head | with_reducible apply Upd.tail))))
set_option maxRecDepth 100000 in
set_option maxHeartbeats 4000000 in
theorem kind_23 {w : World} {n a : Int} {ls : List Lv} {ks : List Tm} {A0 K0 : Option Addr} {ca ck : Nat} (hM : ls.length ≤ 4294967296) :
    Calls Tryd.prog 148 #[.agg #[.int .i64 23, .int .i64 n, .int .i64 a, .slice A0 ls.length ca, .slice K0 ks.length ck]] w (PV w (.bool (kindR (.mk 23 n a ls ks)))) := by
  have hE : kindR (.mk 23 n a ls ks) = tailK n a ks.length ls.length true true (0) 0 8 := by
    rw [kindR_mk, nodeB_tail 23 n a ls ks true true (0) 0 (-1) 8 rfl (by decide) (by decide) rfl]
    simp
  rw [hE]
  clear hE
  go_enter Tryd.func148, Tryd.ntmps148
  have H := Hp.start no w
  repeat ((fail_if_success (with_reducible (show Code.wp _ (Code.seq (Code.seq (Code.region 47 _ _) _) _) _ _ _))); go_step)
  exact kind47 (most := 8) (k := 23) hM (by decide) (by (repeat (first | with_reducible exact H | with_reducible exact H0_ | with_reducible apply Hp.alloc | with_reducible apply Hp.allocMap | with_reducible apply Hp.drew | with_reducible apply Hp.drewN | with_reducible apply Hp.set)); (try any_goals (repeat (first | with_reducible exact Upd.head | with_reducible apply Upd.tail))))
set_option maxRecDepth 100000 in
set_option maxHeartbeats 4000000 in
theorem kind_24 {w : World} {n a : Int} {ls : List Lv} {ks : List Tm} {A0 K0 : Option Addr} {ca ck : Nat} (hM : ls.length ≤ 4294967296) :
    Calls Tryd.prog 148 #[.agg #[.int .i64 24, .int .i64 n, .int .i64 a, .slice A0 ls.length ca, .slice K0 ks.length ck]] w (PV w (.bool (kindR (.mk 24 n a ls ks)))) := by
  by_cases h1 : a < 0
  · have HB : Hid (kindR (.mk 24 n a ls ks) = false) := by
      unfold Hid
      rw [kindR_mk, nodeB_mk, show outI a = true by unfold outI; simp [h1]]
      simp
    go_enter Tryd.func148, Tryd.ntmps148
    go_wp2_with fail
    go_ret
    exact ⟨by rw [HB.out]; rfl, (Ext.refl _ _).alloc _⟩
  · by_cases h2 : 20000 < a
    · have HB : Hid (kindR (.mk 24 n a ls ks) = false) := by
        unfold Hid
        rw [kindR_mk, decide_eq_false (by intro h; have := h rfl; omega)]
        simp
      go_enter Tryd.func148, Tryd.ntmps148
      go_wp2_with fail
      go_ret
      exact ⟨by rw [HB.out]; rfl, (Ext.refl _ _).alloc _⟩
    · have hE : kindR (.mk 24 n a ls ks) = tailK n a ks.length ls.length false true 0 (a + 2) 8 := by
        rw [kindR_mk, nodeB_tail 24 n a ls ks false true 0 2 (-1) 8 rfl (by decide) (by decide) rfl, if_pos rfl, Int.add_comm]
        rw [decide_eq_true (fun _ => by omega), Bool.and_true]
      rw [hE]
      have hw : IntKind.i64.wrap (a + 2) = a + 2 := by rw [IntKind.wrap_i64]; omega
      clear hE
      go_enter Tryd.func148, Tryd.ntmps148
      have H := Hp.start no w
      repeat ((fail_if_success (with_reducible (show Code.wp _ (Code.seq (Code.seq (Code.region 47 _ _) _) _) _ _ _))); go_step)
      exact kind47 (most := 8) (k := 24) hM (by decide) (by (repeat (first | with_reducible exact H | with_reducible exact H0_ | with_reducible apply Hp.alloc | with_reducible apply Hp.allocMap | with_reducible apply Hp.drew | with_reducible apply Hp.drewN | with_reducible apply Hp.set)); (try any_goals (repeat (first | with_reducible exact Upd.head | with_reducible apply Upd.tail))))
set_option maxRecDepth 100000 in
set_option maxHeartbeats 4000000 in
theorem kind_else {w : World} {k n a : Int} {ls : List Lv} {ks : List Tm} {A0 K0 : Option Addr} {ca ck : Nat} (h : k < 1 ∨ 24 < k) :
    Calls Tryd.prog 148 #[.agg #[.int .i64 k, .int .i64 n, .int .i64 a, .slice A0 ls.length ca, .slice K0 ks.length ck]] w (PV w (.bool (kindR (.mk k n a ls ks)))) := by
  have HB : Hid (kindR (.mk k n a ls ks) = false) := by
    unfold Hid
    rw [kindR_mk, nodeB_mk]
    rcases h with h | h
    · rw [decide_eq_false (show ¬ 1 ≤ k by omega)]; rfl
    · rw [decide_eq_false (show ¬ k ≤ 24 by omega)]; simp
  have g1 : (k == 1) = false := by simp; omega
  have g2 : (k == 2) = false := by simp; omega
  have g3 : (k == 3) = false := by simp; omega
  have g4 : (k == 4) = false := by simp; omega
  have g5 : (k == 5) = false := by simp; omega
  have g6 : (k == 6) = false := by simp; omega
  have g7 : (k == 7) = false := by simp; omega
  have g8 : (k == 8) = false := by simp; omega
  have g9 : (k == 9) = false := by simp; omega
  have g10 : (k == 10) = false := by simp; omega
  have g11 : (k == 11) = false := by simp; omega
  have g12 : (k == 12) = false := by simp; omega
  have g13 : (k == 13) = false := by simp; omega
  have g14 : (k == 14) = false := by simp; omega
  have g15 : (k == 15) = false := by simp; omega
  have g16 : (k == 16) = false := by simp; omega
  have g17 : (k == 17) = false := by simp; omega
  have g18 : (k == 18) = false := by simp; omega
  have g19 : (k == 19) = false := by simp; omega
  have g20 : (k == 20) = false := by simp; omega
  have g21 : (k == 21) = false := by simp; omega
  have g22 : (k == 22) = false := by simp; omega
  have g23 : (k == 23) = false := by simp; omega
  have g24 : (k == 24) = false := by simp; omega
  clear h
  go_enter Tryd.func148, Tryd.ntmps148
  go_wp2_with fail
  go_ret
  exact ⟨by rw [HB.out]; rfl, (Ext.refl _ _).alloc _⟩
theorem kind_calls {w : World} {S : Nat → Prop} {t : Tm} {v : Value} (h : TV w S t v) : Calls Tryd.prog 148 #[v] w (PV w (.bool (kindR t))) := by
  obtain ⟨A0, ca, K0, ck, rfl, hrc⟩ := h
  obtain ⟨k, n, a, ls, ks⟩ := t
  obtain ⟨_, _, _, _, he, _, _, _, hls, hks⟩ := RC.tm.1 hrc
  have hM : ls.length ≤ 4294967296 := by
    have := RC.lenN hls
    rw [List.length_map] at this
    exact this
  simp only [Tm.ls_mk, Tm.ks_mk, Tm.k_mk, Tm.n_mk, Tm.a_mk] at he hrc ⊢
  clear he hls hks hrc
  by_cases h : k < 1 ∨ 24 < k
  · exact kind_else h
  · have : k = 1 ∨ k = 2 ∨ k = 3 ∨ k = 4 ∨ k = 5 ∨ k = 6 ∨ k = 7 ∨ k = 8 ∨ k = 9 ∨ k = 10 ∨ k = 11 ∨ k = 12 ∨ k = 13 ∨ k = 14 ∨ k = 15 ∨ k = 16 ∨ k = 17 ∨ k = 18 ∨ k = 19 ∨ k = 20 ∨ k = 21 ∨ k = 22 ∨ k = 23 ∨ k = 24 := by omega
    rcases this with rfl | rfl | rfl | rfl | rfl | rfl | rfl | rfl | rfl | rfl | rfl | rfl | rfl | rfl | rfl | rfl | rfl | rfl | rfl | rfl | rfl | rfl | rfl | rfl
    · exact kind_1 hM
    · exact kind_2 hM
    · exact kind_3 hM
    · exact kind_4 hM
    · exact kind_5 hM
    · exact kind_6 hM
    · exact kind_7 hM
    · exact kind_8 hM
    · exact kind_9 hM
    · exact kind_10 hM
    · exact kind_11 hM
    · exact kind_12 hM
    · exact kind_13 hM
    · exact kind_14 hM
    · exact kind_15 hM
    · exact kind_16 hM
    · exact kind_17 hM
    · exact kind_18 hM
    · exact kind_19 hM
    · exact kind_20 hM
    · exact kind_21 hM
    · exact kind_22 hM
    · exact kind_23 hM
    · exact kind_24 hM
end Go.Proofs.YteelplgdojjakaaDoor
/- Reference 02: right, Right: contracts. No statement of the seat is proved here. -/
namespace Go.Proofs.YteelplgdojjakaaDoor
set_option linter.unusedSimpArgs false
set_option linter.unusedVariables false
open Go.RowKit

def RefOK (t : Tm) : Prop := ∀ (w : World) (S : Nat → Prop) (v : Value) (d : Int), TV w S t v → 0 ≤ d → d ≤ 401 → Calls Tryd.prog 110 #[v, .int .i64 d] w (PV w (.int .i64 (refT d t)))
theorem refsT_drop {ts : List Tm} {d n : Int} {j : Nat} (h : j < ts.length) : refsT d n (ts.drop j) = if refT d ts[j] < 0 ∨ 20000 < n + refT d ts[j] then -1 else refsT d (n + refT d ts[j]) (ts.drop (j + 1)) := by
  rw [List.drop_eq_getElem_cons h, refsT]
theorem refT_bd (t : Tm) (d : Int) : -1 ≤ refT d t ∧ refT d t ≤ 20000 := by
  rw [ref_eq]
  split
  · rename_i h; have := h.2; omega
  · omega
set_option maxRecDepth 100000 in
set_option maxHeartbeats 8000000 in
theorem ref02right_calls : ∀ t : Tm, RefOK t := by
  intro t
  induction t using Tm.ind_ with
  | h k m a ls ks ih =>
  rintro w S v d ⟨A0, ca, K0, ck, rfl, hrc⟩ h0 h1
  obtain ⟨_, _, _, _, he, _, _, _, hls, hks⟩ := RC.tm.1 hrc
  simp only [Tm.ls_mk, Tm.ks_mk, Tm.k_mk, Tm.n_mk, Tm.a_mk, List.cons.injEq, Value.slice.injEq, and_true, true_and] at he hls hks hrc ⊢
  obtain ⟨⟨rfl, rfl⟩, rfl, rfl⟩ := he
  have HV := Lib.hid hrc
  have HI := Lib.hid ih
  have hM := hls.lenM
  have hM2 := hks.lenM
  have hw : IntKind.i64.wrap (d + 1) = d + 1 := by rw [IntKind.wrap_i64]; omega
  clear hrc ih
  by_cases c1 : 400 < d
  · have HE : Hid (refT d (.mk k m a ls ks) = -1) := by unfold Hid; rw [refT, if_neg (by omega)]
    go_enter Tryd.func110, Tryd.ntmps110
    go_wp2_with fail
    go_ret
    exact ⟨by rw [HE.out]; rfl, (Ext.refl _ _).alloc _⟩
  have C1 := Lib.hid (And.intro h0 (show d ≤ 400 by omega))
  clear h0 h1
  go_enter Tryd.func110, Tryd.ntmps110
  go_wp2_with fail
  have H := Hp.start no w
  refine callsH (by (repeat (first | with_reducible exact H | with_reducible exact H0_ | with_reducible apply Hp.alloc | with_reducible apply Hp.allocMap | with_reducible apply Hp.drew | with_reducible apply Hp.drewN | with_reducible apply Hp.set)); (try any_goals (repeat (first | with_reducible exact Upd.head | with_reducible apply Upd.tail)))) ?_
  clear H; intro w1 H; (try simp only [size_drew_, size_drewN_, World.size_alloc, World.size_setCell, List.set_cons_zero, List.set_cons_succ] at H)
  refine (kind_calls (t := .mk k m a ls ks) ⟨A0, ca, K0, ck, rfl, HV.out.ext0 H.ext⟩).mono ?_
  rintro e w_ ⟨rfl, hx⟩
  replace H := H.call hx
  clear hx c1
  cases hq : kindR (.mk k m a ls ks)
  · have HE : Hid (refT d (.mk k m a ls ks) = -1) := by unfold Hid; rw [refT, if_neg (by rw [nodeR_kind, hq]; simp)]
    clear hq
    go_wp2_with fail
    go_ret
    exact ⟨by rw [HE.out]; rfl, H.ext⟩
  have HQ := Lib.hid hq
  clear hq
  go_wp2_with fail
  go_loopw [5] (fun i wr => ∃ j : Nat, j ≤ ls.length ∧ i = .int .i64 j ∧ Hid ((ls.take j).any (fun x => !lvRight 9 x) = false) ∧ Hp no w wr [.box w.heap.size 30 [.int .i64 k, .int .i64 m, .int .i64 a, .slice A0 ls.length ca, .slice K0 ks.length ck]]) (fun i _ => ls.length - (intOf i).toNat)
  case atStart => exact ⟨0, Nat.zero_le _, rfl, Lib.hid (by simp), H⟩
  case round =>
    clear H
    obtain ⟨j, hj, rfl, HA, H⟩ := hrel
    by_cases hlt : j < ls.length
    · obtain ⟨b, o, A1, c1, rfl, hb, hS, hd, p0⟩ := hls.atLv hlt
      have HD := Lib.hid hd
      clear hd
      have hr_ := H.rules; simp only [Rules, and_true] at hr_; have hd_ := H.dif; simp only [Dif, Neq, and_true] at hd_; obtain ⟨ho_, hz_⟩ := H.old0
      go_wp2_with fail
      clear hr_ hd_ ho_ hz_
      refine callsH (by (repeat (first | with_reducible exact H | with_reducible exact H0_ | with_reducible apply Hp.alloc | with_reducible apply Hp.allocMap | with_reducible apply Hp.drew | with_reducible apply Hp.drewN | with_reducible apply Hp.set)); (try any_goals (repeat (first | with_reducible exact Upd.head | with_reducible apply Upd.tail)))) ?_
      clear H; intro w2 H; (try simp only [size_drew_, size_drewN_, World.size_alloc, World.size_setCell, List.set_cons_zero, List.set_cons_succ] at H)
      refine (ref01Right (n := 9) (HD.out.ext0 H.ext)).mono ?_
      rintro e w_ ⟨rfl, hx⟩
      replace H := H.call hx
      clear hx
      cases hq : lvRight 9 ls[j]
      · have HE : Hid (refT d (.mk k m a ls ks) = -1) := by
          unfold Hid
          rw [refT, if_neg]
          rintro ⟨_, h⟩
          rw [nodeR_kind] at h
          simp only [Tm.ls_mk] at h
          rw [any_at hlt (by rw [hq]; rfl)] at h
          simp at h
        have HQ2 := Lib.hid hq
        clear hq
        go_wp2_with fail
        go_ret
        exact ⟨by rw [HE.out]; rfl, H.ext⟩
      · have HQ2 := Lib.hid hq
        clear hq
        go_wp2_with fail
        go_roundw
        case rel => exact ⟨j + 1, by omega, by first | go_num | rfl | simp, Lib.hid (any_take hlt HA.out (by rw [HQ2.out]; rfl)), H⟩
        case measure => simp [intOf]; omega
    · have HE : Hid (refT d (.mk k m a ls ks) = refsT (d + 1) 1 ks) := by
        unfold Hid
        have h1 := HA.out
        rw [take_all hlt] at h1
        rw [refT, if_pos ⟨C1.out.2, by rw [nodeR_kind, HQ.out]; simp only [Tm.ls_mk]; rw [h1]; rfl⟩]
      clear HA HQ
      have hr_ := H.rules; simp only [Rules, and_true] at hr_; have hd_ := H.dif; simp only [Dif, Neq, and_true] at hd_; obtain ⟨ho_, hz_⟩ := H.old0
      go_wp2_with fail
      clear hr_ hd_ ho_ hz_
      go_loopw [6, 7] (fun n i wr => ∃ (j : Nat) (nj : Int), j ≤ ks.length ∧ i = .int .i64 j ∧ n = .int .i64 nj ∧ Hid (1 ≤ nj ∧ nj ≤ 20000) ∧ Hid (refsT (d + 1) nj (ks.drop j) = refsT (d + 1) 1 ks) ∧ Hp no w wr [.box w.heap.size 30 [.int .i64 k, .int .i64 m, .int .i64 a, .slice A0 ls.length ca, .slice K0 ks.length ck]]) (fun _ i _ => ks.length - (intOf i).toNat)
      case atStart => exact ⟨0, 1, Nat.zero_le _, rfl, rfl, Lib.hid (by omega), Lib.hid (by simp), H⟩
      case round =>
        clear H
        obtain ⟨j, nj, hj, rfl, rfl, HB, HS, H⟩ := hrel
        by_cases hlt : j < ks.length
        · obtain ⟨b, o, A1, ca1, K1, ck1, rfl, hb, hS, hd, p0, p1, p2, p3, p4⟩ := hks.atTm hlt
          have HD := Lib.hid hd
          have HS2 := Lib.hid (refsT_drop (d := d + 1) (n := nj) hlt)
          clear hd
          have hr_ := H.rules; simp only [Rules, and_true] at hr_; have hd_ := H.dif; simp only [Dif, Neq, and_true] at hd_; obtain ⟨ho_, hz_⟩ := H.old0
          go_wp2_with fail
          clear hr_ hd_ ho_ hz_
          refine callsH (by (repeat (first | with_reducible exact H | with_reducible exact H0_ | with_reducible apply Hp.alloc | with_reducible apply Hp.allocMap | with_reducible apply Hp.drew | with_reducible apply Hp.drewN | with_reducible apply Hp.set)); (try any_goals (repeat (first | with_reducible exact Upd.head | with_reducible apply Upd.tail)))) ?_
          clear H; intro w2 H; (try simp only [size_drew_, size_drewN_, World.size_alloc, World.size_setCell, List.set_cons_zero, List.set_cons_succ] at H)
          refine (HI.out ks[j] (List.getElem_mem hlt) _ _ _ (d + 1) ⟨_, _, _, _, rfl, HD.out.ext0 H.ext⟩ (by have := C1.out; omega) (by have := C1.out; omega)).mono ?_
          rintro e w_ ⟨rfl, hx⟩
          replace H := H.call hx
          clear hx
          have hbd := refT_bd ks[j] (d + 1)
          obtain ⟨r, hr⟩ : ∃ r, r = refT (d + 1) ks[j] := ⟨_, rfl⟩
          have HS3 : Hid (refsT (d + 1) nj (ks.drop j) = if r < 0 ∨ 20000 < nj + r then -1 else refsT (d + 1) (nj + r) (ks.drop (j + 1))) := by unfold Hid; rw [hr]; exact HS2.out
          rw [← hr] at hbd ⊢
          clear hr HS2
          have hwr : IntKind.i64.wrap (nj + r) = nj + r := by have := HB.out; rw [IntKind.wrap_i64]; omega
          by_cases r0 : r < 0
          · have HF : Hid (refT d (.mk k m a ls ks) = -1) := by unfold Hid; rw [HE.out, ← HS.out, HS3.out, if_pos (.inl r0)]
            go_wp2_with fail
            go_ret
            exact ⟨by rw [HF.out]; rfl, H.ext⟩
          · by_cases r1 : 20000 < nj + r
            · have HF : Hid (refT d (.mk k m a ls ks) = -1) := by unfold Hid; rw [HE.out, ← HS.out, HS3.out, if_pos (.inr r1)]
              go_wp2_with fail
              go_ret
              exact ⟨by rw [HF.out]; rfl, H.ext⟩
            · have HF : Hid (refsT (d + 1) (nj + r) (ks.drop (j + 1)) = refsT (d + 1) 1 ks) := by unfold Hid; rw [← HS.out, HS3.out, if_neg (by omega)]
              have HB2 : Hid (1 ≤ nj + r ∧ nj + r ≤ 20000) := by unfold Hid; have := HB.out; omega
              clear HB HS HS3 hbd
              go_wp2_with fail
              go_roundw
              case rel => exact ⟨j + 1, nj + r, by omega, by first | go_num | rfl | simp, rfl, HB2, HF, H⟩
              case measure => simp [intOf]; omega
        · have hr_ := H.rules; simp only [Rules, and_true] at hr_; have hd_ := H.dif; simp only [Dif, Neq, and_true] at hd_; obtain ⟨ho_, hz_⟩ := H.old0
          have HF : Hid (refT d (.mk k m a ls ks) = nj) := by unfold Hid; rw [HE.out, ← HS.out, List.drop_eq_nil_of_le (by omega), refsT]
          go_wp2_with fail
          go_ret
          exact ⟨by rw [HF.out]; rfl, H.ext⟩
set_option maxRecDepth 100000 in
set_option maxHeartbeats 2000000 in
theorem ref02Right_calls {w : World} {S : Nat → Prop} {t : Tm} {v : Value} (h : TV w S t v) : Calls Tryd.prog 79 #[v] w (PV w (.bool (decide (0 < refT 1 t)))) := by
  obtain ⟨A0, ca, K0, ck, rfl, hrc⟩ := h
  have HV := Lib.hid hrc
  clear hrc
  go_enter Tryd.func79, Tryd.ntmps79
  go_wp2_with fail
  have H := Hp.start no w
  refine callsH (by (repeat (first | with_reducible exact H | with_reducible exact H0_ | with_reducible apply Hp.alloc | with_reducible apply Hp.allocMap | with_reducible apply Hp.drew | with_reducible apply Hp.drewN | with_reducible apply Hp.set)); (try any_goals (repeat (first | with_reducible exact Upd.head | with_reducible apply Upd.tail)))) ?_
  clear H; intro w1 H; (try simp only [size_drew_, size_drewN_, World.size_alloc, World.size_setCell, List.set_cons_zero, List.set_cons_succ] at H)
  refine (ref02right_calls t _ _ _ 1 ⟨A0, ca, K0, ck, rfl, HV.out.ext0 H.ext⟩ (by omega) (by omega)).mono ?_
  rintro e w_ ⟨rfl, hx⟩
  replace H := H.call hx
  clear hx
  obtain ⟨r, hr⟩ : ∃ r, r = refT 1 t := ⟨_, rfl⟩
  rw [← hr]
  have HRR := Lib.hid hr
  clear hr
  go_wp2_with fail
  go_ret
  exact ⟨by rw [← HRR.out]; rfl, H.ext⟩
end Go.Proofs.YteelplgdojjakaaDoor
/- The reference of layer 2 (term): contracts. -/
namespace Go.Proofs.YteelplgdojjakaaDoor
set_option linter.unusedSimpArgs false
set_option linter.unusedVariables false
open Go.RowKit

theorem Acc.parts {w wr : World} {S : Nat → Prop} {e : Nat} {xs : List (Int × Int)} {v : Value} (h : RG wr w.heap.size S e 2 (xs.map ptD) v) : Acc w wr e 2 (xs.map ptD) v := ⟨_, h.parts, opt_nodup _⟩
set_option maxHeartbeats 1000000 in
theorem refLevels {w : World} {S : Nat → Prop} {xs : List Lv} {A : Option Addr} {n c : Nat} (h : RC w S (.l 38 1 (xs.map lvD)) [.slice A n c]) (hn : n = xs.length) : Calls Tryd.prog 169 #[.slice A n c] w (PSl w 38 1 (xs.map lvD)) := by
  subst hn
  have hM := h.lenM
  go_enter Tryd.func169, Tryd.ntmps169
  go_wp2_with fail
  go_loopw [3, 4] (fun out i wr => ∃ k : Nat, k ≤ xs.length ∧ i = .int .i64 k ∧ Acc w wr 38 1 ((xs.take k).map lvD) out ∧ Ext no w wr) (fun _ i _ => xs.length - (intOf i).toNat)
  case atStart => exact ⟨0, Nat.zero_le _, rfl, Acc.nil, Ext.refl _ _⟩
  case round =>
    obtain ⟨k, hk, rfl, hacc, hext⟩ := hrel
    by_cases hlt : k < xs.length
    · obtain ⟨b, o, A1, c1, rfl, hb, hS, hpc, hc⟩ := (h.ext0 hext).atLv hlt
      have hMp := hpc.lenM
      go_wp2_with (first
        | (at_builtin; refine wpList_copyLit (w0 := wr) rfl (.tmp 12) (.tmp 17) 36 rfl stParts rfl rfl hpc rfl rfl ?_; intro A2 c2 w1 hg1 hx1)
        | (at_builtin; refine wpList_push1 (d := lvD xs[k]) rfl (.tmp 11) (.tmp 20) 27 rfl stLevels hacc (RO.lv.2 ⟨_, rfl, hg1.parts⟩) (opt_nodup _) (Nat.le_refl _) hx1 ((Ext.refl _ _).alloc _) hext.size (lvD_size _) (by simp [M]; omega) rfl rfl (heap_alloc_new _ _) ?_; intro v' w' hacc' hx2))
      go_roundw
      case rel => exact ⟨k + 1, by omega, by go_num, by rw [take_map _ hlt]; exact hacc', ((hext.seq hx1).alloc _).old hx2 (fun i hi h => by omega)⟩
      case measure => simp [intOf]; omega
    · go_wp2_with fail
      go_ret
      exact PSl.of (by rw [take_all hlt] at hacc; exact hacc) hext

/-- The binders, as the reference says them. -/
theorem binds_ref (k kid : Int) : binds k kid = if k = 4 ∨ k = 5 ∨ k = 12 ∨ k = 16 ∨ k = 18 then kid == 1 else if k = 7 then kid == 2 else false := by
  by_cases h1 : 0 < k
  · by_cases h2 : k < 25
    · have : k = 1 ∨ k = 2 ∨ k = 3 ∨ k = 4 ∨ k = 5 ∨ k = 6 ∨ k = 7 ∨ k = 8 ∨ k = 9 ∨ k = 10 ∨ k = 11 ∨ k = 12 ∨ k = 13 ∨ k = 14 ∨ k = 15 ∨ k = 16 ∨ k = 17 ∨ k = 18 ∨ k = 19 ∨ k = 20 ∨ k = 21 ∨ k = 22 ∨ k = 23 ∨ k = 24 := by omega
      rcases this with rfl | rfl | rfl | rfl | rfl | rfl | rfl | rfl | rfl | rfl | rfl | rfl | rfl | rfl | rfl | rfl | rfl | rfl | rfl | rfl | rfl | rfl | rfl | rfl <;>
        simp [binds, kindAt, kindsL] <;> first | omega | (rw [Bool.eq_iff_iff]; simp; omega)
    · rw [if_neg (by omega), if_neg (by omega)]; simp [binds, h2]
  · rw [if_neg (by omega), if_neg (by omega)]; simp [binds, h1]
set_option maxHeartbeats 1000000 in
theorem refBinds {w : World} (k kid : Int) : Calls Tryd.prog 113 #[.int .i64 k, .int .i64 kid] w (PV w (.bool (binds k kid))) := by
  have hr := Lib.hid (binds_ref k kid)
  by_cases h : k = 4 ∨ k = 5 ∨ k = 12 ∨ k = 16 ∨ k = 18 ∨ k = 7
  · rcases h with rfl | rfl | rfl | rfl | rfl | rfl
    all_goals
      go_enter Tryd.func113, Tryd.ntmps113
      go_wp2_with fail
      go_ret
      exact ⟨by rw [hr.out]; simp, Ext.refl _ _⟩
  · have H := Lib.hid h
    have h1 : (k == 4) = false := by simp; omega
    have h2 : (k == 5) = false := by simp; omega
    have h3 : (k == 12) = false := by simp; omega
    have h4 : (k == 16) = false := by simp; omega
    have h5 : (k == 18) = false := by simp; omega
    have h6 : (k == 7) = false := by simp; omega
    clear h
    go_enter Tryd.func113, Tryd.ntmps113
    go_wp2_with fail
    go_ret
    have h := H.out
    exact ⟨by rw [hr.out, if_neg (by omega), if_neg (by omega)]; rfl, Ext.refl _ _⟩
set_option maxHeartbeats 400000 in
theorem refBelow {w : World} {x y : Value} (k n a kid b : Int) : Calls Tryd.prog 135 #[.agg #[.int .i64 k, .int .i64 n, .int .i64 a, x, y], .int .i64 kid, .int .i64 b] w (PV w (.int .i64 (downI k kid b))) := by
  go_enter Tryd.func135, Tryd.ntmps135
  go_wp2_with fail
  refine (refBinds k kid).mono ?_
  rintro e w1 ⟨rfl, hx1⟩
  have hx0 : Ext no w _ := Ext.seq (by repeat (first | with_reducible assumption | with_reducible exact Ext.refl _ _ | with_reducible refine Ext.alloc ?_ _ | with_reducible refine Ext.drew ?_ | with_reducible refine Ext.drewN ?_ _ | with_reducible refine Ext.setR ?_ ?_ _ | (dsimp only; omega) | (simp; done) | (simp; omega))) hx1
  obtain ⟨hc_, hf_, hz_⟩ := Ext.rules hx1
  simp only [World.size_alloc] at hz_
  cases hb : binds k kid
  · have E := Lib.hid (show downI k kid b = b by simp [downI, hb])
    clear hb
    go_wp2_with fail
    go_ret
    exact ⟨by rw [E.out]; rfl, hx0⟩
  · have E := Lib.hid (show downI k kid b = wrap64 (b + 1) by simp [downI, hb])
    clear hb
    go_wp2_with fail
    go_ret
    exact ⟨by rw [E.out]; rfl, hx0⟩
/-- with: the head copied, other kids. -/
def PWith (w : World) (k n a : Int) (ls : List Lv) (K : Value) (e : Ending) (w' : World) : Prop := ∃ A4 c4, e = .returned (.agg #[.int .i64 k, .int .i64 n, .int .i64 a, .slice A4 ls.length c4, K]) ∧ Acc w w' 38 1 (ls.map lvD) (.slice A4 ls.length c4) ∧ Ext no w w'
theorem Acc.old {w W w' : World} {e z : Nat} {ds : List D} {v : Value} (h : Acc W w' e z ds v) (hw : Ext no w W) : Acc w w' e z ds v := by
  obtain ⟨L, h1, h2⟩ := h
  exact ⟨L, h1.ge hw.size, h2⟩
set_option maxHeartbeats 1000000 in
theorem refWith {w : World} {S : Nat → Prop} {k n a : Int} {ls : List Lv} {A : Option Addr} {ca : Nat} {K0 K1 : Option Addr} {m0 k0 m1 k1 : Nat} (h : RC w S (.l 38 1 (ls.map lvD)) [.slice A ls.length ca]) :
    Calls Tryd.prog 136 #[.agg #[.int .i64 k, .int .i64 n, .int .i64 a, .slice A ls.length ca, .slice K0 m0 k0], .slice K1 m1 k1] w (PWith w k n a ls (.slice K1 m1 k1)) := by
  go_enter Tryd.func136, Tryd.ntmps136
  go_wp2_with fail
  refine (refLevels (h.ext0 (by repeat (first | with_reducible assumption | with_reducible exact Ext.refl _ _ | with_reducible refine Ext.alloc ?_ _ | with_reducible refine Ext.drew ?_ | with_reducible refine Ext.drewN ?_ _ | with_reducible refine Ext.setR ?_ ?_ _ | (dsimp only; omega) | (simp; done) | (simp; omega)))) rfl).mono ?_
  rintro e w1 ⟨A4, c4, rfl, hacc, hx1⟩
  simp only [List.length_map] at hacc ⊢
  have hx0 : Ext no w w1 := Ext.seq (by repeat (first | with_reducible assumption | with_reducible exact Ext.refl _ _ | with_reducible refine Ext.alloc ?_ _ | with_reducible refine Ext.drew ?_ | with_reducible refine Ext.drewN ?_ _ | with_reducible refine Ext.setR ?_ ?_ _ | (dsimp only; omega) | (simp; done) | (simp; omega))) hx1
  have hsz := hx1.size
  simp [World.setCell] at hsz
  have b0 := ((Blk.new (w := w) rfl).alloc _).ext0 hx1
  have b1 := (Blk.new (w := w.alloc _) (g := w.heap.size + 1) (by simp)).ext0 hx1
  have c0 := b0.cells
  have f0 := b0.frz
  have c1 := b1.cells
  have f1 := b1.frz
  go_wp2_with fail
  refine bodyPost_ret (v := .agg #[.int .i64 k, .int .i64 n, .int .i64 a, .slice A4 ls.length c4, .slice K1 m1 k1]) (by simp [results, Tryd.results136, go_sem, c1]) rfl ⟨A4, c4, rfl, ?_, (by repeat (first | with_reducible assumption | with_reducible exact Ext.refl _ _ | with_reducible refine Ext.alloc ?_ _ | with_reducible refine Ext.drew ?_ | with_reducible refine Ext.drewN ?_ _ | with_reducible refine Ext.setR ?_ ?_ _ | (dsimp only; omega) | (simp; done) | (simp; omega)))⟩
  exact (hacc.frame (X := fun x => x < w.heap.size + 1 + 1) (by repeat (first | with_reducible exact Ext.refl _ _ | with_reducible refine Ext.alloc ?_ _ | with_reducible refine Ext.drew ?_ | with_reducible refine Ext.drewN ?_ _ | with_reducible refine Ext.setL ?_ ?_ _ | (dsimp only; omega) | (simp; done) | (simp; omega) | (simp [Value.ownBlock]; omega))) (fun x h _ e => by simp at h; omega)).old (by repeat (first | with_reducible assumption | with_reducible exact Ext.refl _ _ | with_reducible refine Ext.alloc ?_ _ | with_reducible refine Ext.drew ?_ | with_reducible refine Ext.drewN ?_ _ | with_reducible refine Ext.setR ?_ ?_ _ | (dsimp only; omega) | (simp; done) | (simp; omega)))

/-- The world, the node's box: what the reference's lift holds behind its test. -/
def LiftCut (w : World) (n fr b : Int) (t : Tm) (A K : Option Addr) (ca ck : Nat) (wx : World) : Prop :=
  Blk wx w.heap.size 30 #[.int .i64 t.k, .int .i64 (if outer b fr t then wrap64 (t.n + n) else t.n), .int .i64 t.a, .slice A t.ls.length ca, .slice K t.ks.length ck] ∧
  Blk wx (w.heap.size + 1) 30 #[.int .i64 0, .int .i64 0, .int .i64 0, .slice none 0 0, .slice none 0 0] ∧ Ext no w wx
set_option maxRecDepth 100000 in
set_option maxHeartbeats 2000000 in
theorem reflift (n fr : Int) : ∀ (t : Tm) (w : World) (S : Nat → Prop) (b : Int) (v : Value), inI b → TV w S t v →
    Calls Tryd.prog 100 #[v, .int .i64 n, .int .i64 fr, .int .i64 b] w (PTm w (walkT (liftF n fr) b t)) := by
  intro t
  induction t using Tm.ind_ with
  | h tk tn ta ls ks ih =>
  rintro w S b v hb ⟨A0, ca, K0, ck, rfl, hrc⟩
  obtain ⟨_, _, _, _, he, i1, i2, i3, hls, hks⟩ := RC.tm.1 hrc
  simp only [List.cons.injEq, Value.slice.injEq, and_true, true_and] at he
  obtain ⟨⟨rfl, rfl⟩, rfl, rfl⟩ := he
  have Hih := Lib.hid ih
  clear ih hrc
  simp only [Tm.k_mk, Tm.n_mk, Tm.a_mk, Tm.ls_mk, Tm.ks_mk] at hls hks i1 i2 i3 ⊢
  have hM := hks.lenM
  go_enter Tryd.func100, Tryd.ntmps100
  go_upto_region 1 with fail
  go_cut [27] (fun s wx => s = .bool (outer b fr (.mk tk tn ta ls ks)) ∧ Blk wx w.heap.size 30 #[.int .i64 tk, .int .i64 tn, .int .i64 ta, .slice A0 ls.length ca, .slice K0 ks.length ck] ∧
    Blk wx (w.heap.size + 1) 30 #[.int .i64 0, .int .i64 0, .int .i64 0, .slice none 0 0, .slice none 0 0] ∧ Ext no w wx)
  case first =>
    have fin : ∀ (q : Bool), outer b fr (.mk tk tn ta ls ks) = q → ∀ wx, wx = (w.alloc (.cells #[.int .i64 tk, .int .i64 tn, .int .i64 ta, .slice A0 ls.length ca, .slice K0 ks.length ck] 30)).alloc (.cells #[.int .i64 0, .int .i64 0, .int .i64 0, .slice none 0 0, .slice none 0 0] 30) →
        Value.bool q = .bool (outer b fr (.mk tk tn ta ls ks)) ∧ Blk wx w.heap.size 30 #[.int .i64 tk, .int .i64 tn, .int .i64 ta, .slice A0 ls.length ca, .slice K0 ks.length ck] ∧
        Blk wx (w.heap.size + 1) 30 #[.int .i64 0, .int .i64 0, .int .i64 0, .slice none 0 0, .slice none 0 0] ∧ Ext no w wx := by
      rintro q rfl wx rfl
      exact ⟨rfl, (Blk.new rfl).alloc _, Blk.new (by simp), ((Ext.refl _ _).alloc _).alloc _⟩
    have Fin := Lib.hid fin
    clear fin
    by_cases h1 : tk = 1
    · have g1 : (tk == 1) = true := by simpa using h1
      by_cases h2 : b ≤ tn
      · have g2 : decide (b ≤ tn) = true := by simpa using h2
        by_cases h3 : fr ≤ wrap64 (tn - b)
        · have g3 : decide (fr ≤ wrap64 (tn - b)) = true := by simpa using h3
          have E := Lib.hid (show outer b fr (.mk tk tn ta ls ks) = true by simp [outer, Tm.k_mk, Tm.n_mk, h1, h2, h3])
          clear h1 h2 h3
          go_wp2_with fail
          go_meet
          case rel => exact Fin.out _ E.out _ rfl
        · have g3 : decide (fr ≤ wrap64 (tn - b)) = false := by simpa using h3
          have E := Lib.hid (show outer b fr (.mk tk tn ta ls ks) = false by simp [outer, Tm.k_mk, Tm.n_mk, h1, h2, h3])
          clear h1 h2 h3
          go_wp2_with fail
          go_meet
          case rel => exact Fin.out _ E.out _ rfl
      · have g2 : decide (b ≤ tn) = false := by simpa using h2
        have E := Lib.hid (show outer b fr (.mk tk tn ta ls ks) = false by simp [outer, Tm.k_mk, Tm.n_mk, h1, h2])
        clear h1 h2
        go_wp2_with fail
        go_meet
        case rel => exact Fin.out _ E.out _ rfl
    · have g1 : (tk == 1) = false := by simpa using h1
      have E := Lib.hid (show outer b fr (.mk tk tn ta ls ks) = false by simp [outer, Tm.k_mk, h1])
      clear h1
      go_wp2_with fail
      go_meet
      case rel => exact Fin.out _ E.out _ rfl
  case rest =>
    obtain ⟨rfl, b0, b1, hx0⟩ := hcut
    go_upto_if 27 with fail
    go_cut [] (fun wx => LiftCut w n fr b (.mk tk tn ta ls ks) A0 K0 ca ck wx)
    case first =>
      have c0 := b0.cells
      have f0 := b0.frz
      have i0 := b0.lt
      cases hq : outer b fr (.mk tk tn ta ls ks)
      · have Hq := Lib.hid hq
        clear hq
        go_wp2_with fail
        go_meet
        case rel => exact ⟨by rw [Hq.out]; exact b0, b1, hx0⟩
      · have Hq := Lib.hid hq
        clear hq
        go_wp2_with fail
        go_meet
        case rel => exact ⟨by rw [Hq.out]; exact b0.set 1 _, b1.far (by simp) _, (by repeat (first | with_reducible assumption | with_reducible exact Ext.refl _ _ | with_reducible refine Ext.alloc ?_ _ | with_reducible refine Ext.drew ?_ | with_reducible refine Ext.drewN ?_ _ | with_reducible refine Ext.setR ?_ ?_ _ | (dsimp only; omega) | (simp; done) | (simp; omega)))⟩
    case rest =>
      obtain ⟨b0, b1, hx0⟩ := hcut
      simp only [Tm.k_mk, Tm.n_mk, Tm.a_mk, Tm.ls_mk, Tm.ks_mk] at b0
      have hN : inI (if outer b fr (.mk tk tn ta ls ks) then wrap64 (tn + n) else tn) := by split <;> first | exact i2 | exact wrap64_inI _
      generalize hN0 : (if outer b fr (.mk tk tn ta ls ks) then wrap64 (tn + n) else tn) = n' at b0 hN
      have HN := Lib.hid hN0
      clear hN0
      have c0 := b0.cells
      have l0 := b0.lt
      have l1 := b1.lt
      go_wp2_with fail
      go_loopw [9, 10] (fun out i wr => ∃ j : Nat, j ≤ ks.length ∧ i = .int .i64 j ∧ Acc wc wr 30 5 (((walkTs (liftF n fr) tk b 0 ks).take j).map Tm.d) out ∧ Ext no wc wr) (fun _ i _ => ks.length - (intOf i).toNat)
      case atStart => exact ⟨0, Nat.zero_le _, rfl, Acc.nil, Ext.refl _ _⟩
      case round =>
        obtain ⟨j, hj, rfl, hacc, hext⟩ := hrel
        have hs0 := b0.ext0 hext
        have hsz := hext.size
        by_cases hlt : j < ks.length
        · obtain ⟨bb, oo, A2, c2, K2, d2, rfl, hb2, hS2, hrc2, h0, h1, h2, h3, h4⟩ := ((hks.bd.ext0 hx0).ext0 hext).atTm hlt
          have hSb := hS2.2
          obtain ⟨Ao, co, rfl⟩ := hacc.sliceN (n := j) (by simp [walkTs_len]; omega)
          have HC := Lib.hid (show Cells wr.drew [(⟨w.heap.size, 0, none⟩, .int .i64 tk), (⟨w.heap.size, 1, none⟩, .int .i64 n'), (⟨w.heap.size, 2, none⟩, .int .i64 ta), (⟨w.heap.size, 3, none⟩, .slice A0 ls.length ca), (⟨w.heap.size, 4, none⟩, .slice (some ⟨bb, oo, none⟩) ks.length ck), (⟨bb, oo + j * 5, none⟩, .int .i64 ks[j].k), (⟨bb, oo + j * 5 + 1, none⟩, .int .i64 ks[j].n), (⟨bb, oo + j * 5 + 2, none⟩, .int .i64 ks[j].a), (⟨bb, oo + j * 5 + 3, none⟩, .slice A2 ks[j].ls.length c2), (⟨bb, oo + j * 5 + 4, none⟩, .slice K2 ks[j].ks.length d2)] from ⟨hs0.cells 0, hs0.cells 1, hs0.cells 2, hs0.cells 3, hs0.cells 4, h0, h1, h2, h3, h4, trivial⟩)
          have c0 := hs0.cells 4
          clear h0 h1 h2 h3 h4
          go_wp2_with fail
          clear c0
          refine wp_region_L (fun w' => Cells w' [(⟨w.heap.size, 0, none⟩, .int .i64 tk), (⟨w.heap.size, 1, none⟩, .int .i64 n'), (⟨w.heap.size, 2, none⟩, .int .i64 ta), (⟨w.heap.size, 3, none⟩, .slice A0 ls.length ca), (⟨w.heap.size, 4, none⟩, .slice (some ⟨bb, oo, none⟩) ks.length ck), (⟨bb, oo + j * 5, none⟩, .int .i64 ks[j].k), (⟨bb, oo + j * 5 + 1, none⟩, .int .i64 ks[j].n), (⟨bb, oo + j * 5 + 2, none⟩, .int .i64 ks[j].a), (⟨bb, oo + j * 5 + 3, none⟩, .slice A2 ks[j].ls.length c2), (⟨bb, oo + j * 5 + 4, none⟩, .slice K2 ks[j].ks.length d2)]) [] (by kernel_rfl) ?_
          refine wpL_take (i := 0) (v := ?v1_) rfl (by kernel_rfl) (fun _ _ _ h => h) HC.out (by rfl) (fun w_ hw_ => ?h1_) ?_
          case h1_ => (try simp only [Cells_cons, Cells_nil, and_true] at hw_); go_split_ands; go_simp; try with_reducible rfl
          simp only [List.getElem_toArray, List.getElem_cons_zero, List.getElem_cons_succ, Act.put, List.setIfInBounds_toArray, List.set_cons_zero, List.set_cons_succ]
          refine wpL_take (i := 1) (v := ?v2_) rfl (by kernel_rfl) (fun _ _ _ h => h) HC.out (by rfl) (fun w_ hw_ => ?h2_) ?_
          case h2_ => (try simp only [Cells_cons, Cells_nil, and_true] at hw_); go_split_ands; go_simp; try with_reducible rfl
          simp only [List.getElem_toArray, List.getElem_cons_zero, List.getElem_cons_succ, Act.put, List.setIfInBounds_toArray, List.set_cons_zero, List.set_cons_succ]
          refine wpL_take (i := 2) (v := ?v3_) rfl (by kernel_rfl) (fun _ _ _ h => h) HC.out (by rfl) (fun w_ hw_ => ?h3_) ?_
          case h3_ => (try simp only [Cells_cons, Cells_nil, and_true] at hw_); go_split_ands; go_simp; try with_reducible rfl
          simp only [List.getElem_toArray, List.getElem_cons_zero, List.getElem_cons_succ, Act.put, List.setIfInBounds_toArray, List.set_cons_zero, List.set_cons_succ]
          refine wpL_take (i := 3) (v := ?v4_) rfl (by kernel_rfl) (fun _ _ _ h => h) HC.out (by rfl) (fun w_ hw_ => ?h4_) ?_
          case h4_ => (try simp only [Cells_cons, Cells_nil, and_true] at hw_); go_split_ands; go_simp; try with_reducible rfl
          simp only [List.getElem_toArray, List.getElem_cons_zero, List.getElem_cons_succ, Act.put, List.setIfInBounds_toArray, List.set_cons_zero, List.set_cons_succ]
          refine wpL_take (i := 4) (v := ?v5_) rfl (by kernel_rfl) (fun _ _ _ h => h) HC.out (by rfl) (fun w_ hw_ => ?h5_) ?_
          case h5_ => (try simp only [Cells_cons, Cells_nil, and_true] at hw_); go_split_ands; go_simp; try with_reducible rfl
          simp only [List.getElem_toArray, List.getElem_cons_zero, List.getElem_cons_succ, Act.put, List.setIfInBounds_toArray, List.set_cons_zero, List.set_cons_succ]
          refine wpL_take (i := 5) (v := ?v6_) rfl (by kernel_rfl) (fun _ _ _ h => h) HC.out (by rfl) (fun w_ hw_ => ?h6_) ?_
          case h6_ => (try simp only [Cells_cons, Cells_nil, and_true] at hw_); go_split_ands; go_simp; try with_reducible rfl
          simp only [List.getElem_toArray, List.getElem_cons_zero, List.getElem_cons_succ, Act.put, List.setIfInBounds_toArray, List.set_cons_zero, List.set_cons_succ]
          refine wpL_take (i := 6) (v := ?v7_) rfl (by kernel_rfl) (fun _ _ _ h => h) HC.out (by rfl) (fun w_ hw_ => ?h7_) ?_
          case h7_ => (try simp only [Cells_cons, Cells_nil, and_true] at hw_); go_split_ands; go_simp; try with_reducible rfl
          simp only [List.getElem_toArray, List.getElem_cons_zero, List.getElem_cons_succ, Act.put, List.setIfInBounds_toArray, List.set_cons_zero, List.set_cons_succ]
          refine wpL_take (i := 7) (v := ?v8_) rfl (by kernel_rfl) (fun _ _ _ h => h) HC.out (by rfl) (fun w_ hw_ => ?h8_) ?_
          case h8_ => (try simp only [Cells_cons, Cells_nil, and_true] at hw_); go_split_ands; go_simp; try with_reducible rfl
          simp only [List.getElem_toArray, List.getElem_cons_zero, List.getElem_cons_succ, Act.put, List.setIfInBounds_toArray, List.set_cons_zero, List.set_cons_succ]
          refine wpL_take (i := 8) (v := ?v9_) rfl (by kernel_rfl) (fun _ _ _ h => h) HC.out (by rfl) (fun w_ hw_ => ?h9_) ?_
          case h9_ => (try simp only [Cells_cons, Cells_nil, and_true] at hw_); go_split_ands; go_simp; try with_reducible rfl
          simp only [List.getElem_toArray, List.getElem_cons_zero, List.getElem_cons_succ, Act.put, List.setIfInBounds_toArray, List.set_cons_zero, List.set_cons_succ]
          refine wpL_take (i := 9) (v := ?v10_) rfl (by kernel_rfl) (fun _ _ _ h => h) HC.out (by rfl) (fun w_ hw_ => ?h10_) ?_
          case h10_ => (try simp only [Cells_cons, Cells_nil, and_true] at hw_); go_split_ands; go_simp; try with_reducible rfl
          simp only [List.getElem_toArray, List.getElem_cons_zero, List.getElem_cons_succ, Act.put, List.setIfInBounds_toArray, List.set_cons_zero, List.set_cons_succ]
          refine wpL_take (i := 10) (v := ?v11_) rfl (by kernel_rfl) (fun _ _ _ h => h) HC.out (by rfl) (fun w_ hw_ => ?h11_) ?_
          case h11_ => (try simp only [Cells_cons, Cells_nil, and_true] at hw_); go_split_ands; go_simp; try with_reducible rfl
          simp only [List.getElem_toArray, List.getElem_cons_zero, List.getElem_cons_succ, Act.put, List.setIfInBounds_toArray, List.set_cons_zero, List.set_cons_succ]
          refine wpL_do (i := 11) rfl (by kernel_rfl) (by rfl) (fun K_ hK_ => ?_)
          go_simp
          refine (refBelow _ _ _ _ _).mono ?_
          rintro e w2 ⟨rfl, hx2⟩
          refine hK_ _ _ (fun _ => HC.out.keep hx2) (fun hS2 => ?_)
          have HC2 := Lib.hid (hS2 (by decide))
          clear hS2
          refine wpL_do (i := 12) rfl (by kernel_rfl) (by rfl) (fun K_ hK_ => ?_)
          go_simp
          refine (Hih.out ks[j] (by simp) _ _ (downI tk j b) _ (downI_inI _ _ hb) ⟨_, _, _, _, rfl, (hrc2.ext0 hx2.undrew)⟩).mono ?_
          rintro e w3 ⟨v, rfl, ⟨A5, c5, K5, d5, L5, rfl, hro5, hnd5⟩, hx3⟩
          refine hK_ _ _ (fun _ => HC2.out.keep hx3) (fun hS3 => ?_)
          have HC3 := Lib.hid (hS3 (by decide))
          clear hS3
          refine wpL_do (i := 13) rfl (by kernel_rfl) (by rfl) (fun K_ hK_ => ?_)
          go_simp
          refine hK_ _ _ (fun _ => HC3.out.keep ((Ext.refl _ _).alloc _)) (fun hS4 => ?_)
          have HC4 := Lib.hid (hS4 (by decide))
          clear hS4
          refine wpL_do (i := 14) rfl (by kernel_rfl) (by rfl) (fun K_ hK_ => ?_)
          refine wp_push1 (.tmp 40) (.tmp 53) 28 rfl stTerms hacc hro5 hnd5 hx2.size (hx2.undrew.seq hx3) ((Ext.refl _ _).alloc _) hsz (Tm.size_d _) (by simp [M]; omega) rfl rfl (heap_alloc_new _ _) ?_
          intro v' w4 hacc4 hx4
          have l0 := b0.lt
          refine hK_ _ _ (fun _ => HC4.out.ext hx4 (by simp; omega)) (fun hS5 => ?_)
          have HC5 := Lib.hid (hS5 (by decide))
          clear hS5
          refine wpL_take (i := 15) (v := ?v12_) rfl (by kernel_rfl) (fun _ _ _ h => h) HC5.out (by rfl) (fun w_ hw_ => ?h12_) ?_
          case h12_ => (try simp only [Cells_cons, Cells_nil, and_true] at hw_); go_split_ands; go_simp; try with_reducible rfl
          simp only [List.getElem_toArray, List.getElem_cons_zero, List.getElem_cons_succ, Act.put, List.setIfInBounds_toArray, List.set_cons_zero, List.set_cons_succ]
          refine wpL_done (by kernel_rfl) ?_ _
          have HA := Lib.hid hacc4
          have HX := Lib.hid (((hext.seq (hx2.undrew.seq hx3)).alloc _).old hx4 (fun i hi h => by omega))
          have hj' : j < (walkTs (liftF n fr) tk b 0 ks).length := by rw [walkTs_len]; exact hlt
          clear hacc4 hx4 hx3 hx2 hacc hro5 hnd5
          go_wp2_with fail
          go_roundw
          case rel =>
            refine ⟨j + 1, by omega, by first | go_num | rfl | simp, ?_, HX.out⟩
            rw [take_map _ hj', walkTs_get _ _ _ _ _ _ hlt]
            simp only [Nat.zero_add]
            exact HA.out
          case measure => simp [intOf]; omega
        · obtain ⟨Ao, co, rfl⟩ := hacc.sliceN (n := ks.length) (by simp [walkTs_len]; omega)
          have c0 := hs0.cells
          go_wp2_with fail
          refine (refWith (k := tk) (ls := ls) (S := S) ((hls.ext0 hx0).ext0 hext)).mono ?_
          rintro e w2 ⟨A4, c4, rfl, hacc4, hx2⟩
          have hxr : Ext no wc w2 := hext.seq hx2
          have b1r := b1.ext0 hxr
          have c1 := b1r.cells
          have f1 := b1r.frz
          have l1 := b1.lt
          have hw : walkT (liftF n fr) b (.mk tk tn ta ls ks) = .mk tk n' ta ls (walkTs (liftF n fr) tk b 0 ks) := by rw [walkT]; simp only [liftF, Tm.k_mk, Tm.n_mk, Tm.a_mk, Tm.ls_mk, HN.out]
          have Hw := Lib.hid hw
          clear hw c0 hs0
          have hlen : (walkTs (liftF n fr) tk b 0 ks).length = ks.length := walkTs_len _ _ _ _ _
          obtain ⟨L4, hro4, hnd4⟩ := hacc4
          obtain ⟨L5, hro5, hnd5⟩ := hacc
          rw [take_all (by rw [hlen]; exact hlt)] at hro5
          have hL5 : ∀ x ∈ L5, wc.heap.size ≤ x ∧ x < wr.heap.size := fun x hx => ⟨(RO.lt _ _ _ hro5 x hx).1, (RO.lt _ _ _ hro5 x hx).2⟩
          have HL := Lib.hid hlen
          clear hlen
          have hw0 := hx0.size
          go_wp2_with fail
          refine bodyPost_ret (v := .agg #[.int .i64 tk, .int .i64 n', .int .i64 ta, .slice A4 ls.length c4, .slice Ao ks.length co]) (by simp [results, Tryd.results100, go_sem, c1]) rfl ⟨_, rfl, ?_, ?_⟩
          · rw [Hw.out]
            refine ⟨A4, c4, Ao, co, L4 ++ L5, by simp only [Tm.k_mk, Tm.n_mk, Tm.a_mk, Tm.ls_mk, Tm.ks_mk, HL.out], RO.tm.2 ⟨_, _, L4, L5, by simp only [Tm.k_mk, Tm.n_mk, Tm.a_mk, Tm.ls_mk, Tm.ks_mk]; rfl, rfl, i1, hN, i3, ?_, ?_⟩, ?_⟩
            · exact (hro4.ext (Ext.set5 w2 (w.heap.size + 1) _ _ _ _ _) (fun x h1 _ e => by have e : x = w.heap.size + 1 := e; omega)).ge (by omega)
            · simp only [Tm.ks_mk, HL.out]
              exact ((hro5.ext hx2 (fun _ _ _ => no_not)).ext (Ext.set5 w2 (w.heap.size + 1) _ _ _ _ _) (fun x h1 _ e => by have e : x = w.heap.size + 1 := e; omega)).ge (by omega)
            · refine List.nodup_append.2 ⟨hnd4, hnd5, fun x hx y hy e => ?_⟩
              have := (RO.lt _ _ _ hro4 x hx).1
              have := (hL5 y hy).2
              omega
          · refine (hx0.seq hxr).old (Ext.set5 w2 (w.heap.size + 1) _ _ _ _ _) (fun x h1 e => ?_)
            have e : x = w.heap.size + 1 := e
            omega
/-- The reference's Lift computes what the program's does. -/
theorem refLift {w : World} {S : Nat → Prop} {t : Tm} {v : Value} (n fr : Int) (hv : TV w S t v) : Calls Tryd.prog 57 #[v, .int .i64 n, .int .i64 fr] w (PTm w (liftT t n fr)) := by
  obtain ⟨A0, ca, K0, ck, rfl, hrc⟩ := hv
  go_enter Tryd.func57, Tryd.ntmps57
  go_wp2_with fail
  refine (reflift n fr t _ S 0 _ (by constructor <;> omega) ⟨_, _, _, _, rfl, hrc.ext0 (by repeat (first | with_reducible assumption | with_reducible exact Ext.refl _ _ | with_reducible refine Ext.alloc ?_ _ | with_reducible refine Ext.drew ?_ | with_reducible refine Ext.drewN ?_ _ | with_reducible refine Ext.setR ?_ ?_ _ | (dsimp only; omega) | (simp; done) | (simp; omega)))⟩).mono ?_
  rintro e w1 ⟨v, rfl, ⟨A1, c1, K1, k1, L, rfl, hro, hnd⟩, hx1⟩
  have hx0 : Ext no w _ := Ext.seq (by repeat (first | with_reducible assumption | with_reducible exact Ext.refl _ _ | with_reducible refine Ext.alloc ?_ _ | with_reducible refine Ext.drew ?_ | with_reducible refine Ext.drewN ?_ _ | with_reducible refine Ext.setR ?_ ?_ _ | (dsimp only; omega) | (simp; done) | (simp; omega))) hx1
  obtain ⟨hc_, hf_, hz_⟩ := Ext.rules hx1
  simp only [World.size_alloc] at hz_
  have b3 := (Blk.new (g := w.heap.size + 1) (by simp)).ext0 hx1
  have c3 := b3.cells
  have f3 := b3.frz
  go_wp2_with fail
  refine bodyPost_ret (v := .agg #[.int .i64 (walkT (liftF n fr) 0 t).k, .int .i64 (walkT (liftF n fr) 0 t).n, .int .i64 (walkT (liftF n fr) 0 t).a, .slice A1 (walkT (liftF n fr) 0 t).ls.length c1, .slice K1 (walkT (liftF n fr) 0 t).ks.length k1]) (by simp [results, Tryd.results57, go_sem, c3]) rfl ⟨_, rfl, ⟨A1, c1, K1, k1, _, rfl, (hro.ext (Ext.set5 _ _ _ _ _ _ _) (fun x h1 _ e => by first | omega | (simp at h1; omega))).ge (by first | omega | (simp; omega)), hnd⟩, hx0.old (Ext.set5 _ _ _ _ _ _ _) (fun x h1 e => by omega)⟩
end Go.Proofs.YteelplgdojjakaaDoor
