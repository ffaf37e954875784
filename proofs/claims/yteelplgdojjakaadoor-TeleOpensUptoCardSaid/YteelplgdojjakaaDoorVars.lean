/- tele: Vars: contract. No statement of the seat is proved here. -/
import Derived.Test.YteelplgdojjakaaDoorTele3
namespace Go.Proofs.YteelplgdojjakaaDoor
set_option linter.unusedSimpArgs false
set_option linter.unusedVariables false
open Go.RowKit

/-- Variables, the last one first .. from one on. -/
def varsT (n fr : Nat) : List Tm := List.ofFn fun k : Fin n => .mk 1 ((fr : Int) + n - 1 - (k.1 : Nat)) 0 [] []
theorem varsT_len (n fr : Nat) : (varsT n fr).length = n := by simp [varsT]
theorem varsT_take {n fr j : Nat} (h : j < n) : ((varsT n fr).take (j + 1)).map Tm.d = ((varsT n fr).take j).map Tm.d ++ [(Tm.mk 1 ((fr : Int) + n - 1 - j) 0 [] []).d] := by
  have h' : j < (varsT n fr).length := by rw [varsT_len]; exact h
  rw [List.take_succ_eq_append_getElem h', List.map_append]
  simp [varsT]
set_option maxRecDepth 100000 in
set_option maxHeartbeats 2000000 in
theorem teleVars {w : World} {n fr : Nat} (hn : n ≤ 1000000) (hfr : fr ≤ 1000000000) : Calls Tryd.prog 61 #[.int .i64 n, .int .i64 fr] w (PSl w 30 5 ((varsT n fr).map Tm.d)) := by
  go_enter Tryd.func61, Tryd.ntmps61
  have hmax : max (n : Int) 0 = (n : Int) := by omega
  go_wp2_with fail
  have H := Hp.start no w
  replace H := H.nil 30 5
  go_loopw [4, 8] (fun out i wr => ∃ j : Nat, j ≤ n ∧ i = .int .i64 j ∧ Hp no w wr [.dat (.l 30 5 (((varsT n fr).take j).map Tm.d)) [out]]) (fun _ i _ => n - (intOf i).toNat)
  case atStart => exact ⟨0, Nat.zero_le _, rfl, H⟩
  case round =>
    clear H
    obtain ⟨j, hj, rfl, H⟩ := hrel
    by_cases hlt : j < n
    · have H := (H.nil 30 5).nil 38 1
      have H := H.tm (k := 1) (n := (fr : Int) + n - 1 - j) (a := 0) (ls := []) (ks := []) .head .head (by unfold inI; omega) (by unfold inI; omega) (by unfold inI; omega)
      have HL := Lib.hid (varsT_take (fr := fr) hlt)
      have hlen := varsT_len n fr
      go_wp2_with (at_builtin; go_must (refine wpList_pushH rfl (.tmp 11) (.tmp 19) 28 rfl stTerms (by go_simp <;> first | rfl | exact ⟨rfl, rfl⟩) (by go_simp <;> first | rfl | exact ⟨rfl, rfl⟩) (by exact Hp.norm (by (repeat (first | with_reducible exact H | with_reducible exact H0_ | with_reducible apply Hp.alloc | with_reducible apply Hp.allocMap | with_reducible apply Hp.drew | with_reducible apply Hp.drewN | with_reducible apply Hp.set)); (try any_goals (repeat (first | with_reducible exact Upd.head | with_reducible apply Upd.tail)))) (by ((try simp only [size_drew_, size_drewN_, World.size_alloc, World.size_setCell, List.set_cons_zero, List.set_cons_succ, List.nil_append, List.cons_append]) <;> rfl))) (by (repeat (first | with_reducible exact Pick.head | with_reducible apply Pick.tail))) (by (repeat (first | with_reducible exact Pick.head | with_reducible apply Pick.tail))) (by (repeat (first | with_reducible exact Pick.head | with_reducible apply Pick.tail))) (Tm.size_d _) ?_ ?_; (focus (simp [M]; omega)); clear H; intro v' w4 H))
      go_roundw
      case rel => exact ⟨j + 1, by omega, by go_num, by rw [HL.out]; exact (H.arr (by (repeat (first | with_reducible exact Arr.nil | refine Arr.cons (by (repeat (first | with_reducible exact Pick.head | with_reducible apply Pick.tail))) ?_)) <;> exact Arr.of_subl (by (repeat (first | with_reducible exact Subl.refl _ | with_reducible apply Subl.drop)))))⟩
      case measure => simp [intOf]; omega
    · go_wp2_with fail
      go_ret
      rw [take_all (by rw [varsT_len]; exact hlt)] at H
      exact H.psl .head
end Go.Proofs.YteelplgdojjakaaDoor
