/- The reference of layer 21 (carry): Count, At, a name's constant, terms carried over: contracts. -/
import Derived.Test.YteelplgdojjakaaDoorCarry5
import Derived.Test.YteelplgdojjakaaDoorRef2
namespace Go.Proofs.YteelplgdojjakaaDoor
set_option linter.unusedSimpArgs false
set_option linter.unusedVariables false
open Go.RowKit

set_option maxHeartbeats 1000000 in
/-- Count, of whatever rows: it reads the kind and two lengths. -/
theorem refCount_of {w : World} {k r : Int} {v1 v2 v3 v4 v5 v6 v7 v8 v9 v10 v11 v12 v13 : Value} {A B : Option Addr} {m n c e : Nat} (hm : m ≤ 4294967296) (hn : n ≤ 4294967296) (HR : Hid ((if k = 1 ∨ k = 2 then 1 else if k = 3 then 6 + 2 * (m : Int) + 2 * (n : Int) else 0) = r)) :
    Calls Tryd.prog 53 #[.agg #[.int .i64 k, v1, v2, v3, v4, v5, v6, v7, v8, v9, v10, v11, v12, v13, .slice A m c, .slice B n e]] w (PV w (.int .i64 r)) := by
  by_cases h1 : k = 1
  · subst h1
    go_enter Tryd.func53, Tryd.ntmps53
    go_wp2_with fail
    go_ret
    exact ⟨by rw [← HR.out]; rfl, (by repeat (first | with_reducible assumption | with_reducible exact Ext.refl _ _ | with_reducible refine Ext.alloc ?_ _ | with_reducible refine Ext.drew ?_ | with_reducible refine Ext.drewN ?_ _ | with_reducible refine Ext.setR ?_ ?_ _ | (dsimp only; omega) | (simp; done) | (simp; omega)))⟩
  · have g1 : (k == 1) = false := by simpa using h1
    by_cases h2 : k = 2
    · subst h2
      go_enter Tryd.func53, Tryd.ntmps53
      go_wp2_with fail
      go_ret
      exact ⟨by rw [← HR.out]; rfl, (by repeat (first | with_reducible assumption | with_reducible exact Ext.refl _ _ | with_reducible refine Ext.alloc ?_ _ | with_reducible refine Ext.drew ?_ | with_reducible refine Ext.drewN ?_ _ | with_reducible refine Ext.setR ?_ ?_ _ | (dsimp only; omega) | (simp; done) | (simp; omega)))⟩
    · have g2 : (k == 2) = false := by simpa using h2
      by_cases h3 : k = 3
      · subst h3
        clear h1 h2 g1 g2
        go_enter Tryd.func53, Tryd.ntmps53
        go_wp2_with fail
        go_ret
        refine ⟨?_, (by repeat (first | with_reducible assumption | with_reducible exact Ext.refl _ _ | with_reducible refine Ext.alloc ?_ _ | with_reducible refine Ext.drew ?_ | with_reducible refine Ext.drewN ?_ _ | with_reducible refine Ext.setR ?_ ?_ _ | (dsimp only; omega) | (simp; done) | (simp; omega)))⟩
        have hr : 6 + 2 * (m : Int) + 2 * (n : Int) = r := by simpa using HR.out
        rw [← hr]
        rfl
      · have g3 : (k == 3) = false := by simpa using h3
        have H := Lib.hid (And.intro h1 (And.intro h2 h3))
        clear h1 h2 h3
        go_enter Tryd.func53, Tryd.ntmps53
        go_wp2_with fail
        go_ret
        refine ⟨?_, (by repeat (first | with_reducible assumption | with_reducible exact Ext.refl _ _ | with_reducible refine Ext.alloc ?_ _ | with_reducible refine Ext.drew ?_ | with_reducible refine Ext.drewN ?_ _ | with_reducible refine Ext.setR ?_ ?_ _ | (dsimp only; omega) | (simp; done) | (simp; omega)))⟩
        have hr := HR.out
        have hh := H.out
        rw [if_neg (by omega), if_neg (by omega)] at hr
        rw [← hr]
        rfl
theorem refCount_calls {w : World} {S : Nat → Prop} {d : Dc} {v : Value} (h : DV w S d v) : Calls Tryd.prog 53 #[v] w (PV w (.int .i64 (countD d))) := by
  obtain ⟨cs, rfl, h⟩ := h
  obtain ⟨Aty, cty, Kty, kty, Abody, cbody, Kbody, kbody, Aparams, cparams, Asort, csort, Amembers, cmembers, Actors, cctors, rfl, _⟩ := RC.dc.1 h
  obtain ⟨i1, i2, ht, hb, hp, hs, hm, hc⟩ := h.dcs
  exact refCount_of hm.lenM.1 hc.lenM.1 (Lib.hid rfl)
set_option maxRecDepth 100000 in
set_option maxHeartbeats 2000000 in
theorem ref_At {S0 : Nat → Prop} {ds : List Dc} {A : Option Addr} {n c : Nat} {w : World} (h : RC w S0 (.l 42 16 (ds.map Dc.d)) [.slice A n c]) (hn : n = ds.length) :
    Calls Tryd.prog 10 #[.slice A n c] w (PAt w ds) := by
  subst hn
  unfold PAt
  have hM := h.lenM
  go_enter Tryd.func10, Tryd.ntmps10
  go_wp2_with fail
  have H := Hp.start no w
  replace H := H.nil 3 1
  go_loopw [3, 4, 5] (fun out m i wr => ∃ j : Nat, j ≤ ds.length ∧ i = .int .i64 j ∧ m = .int .i64 (baseD ds j) ∧ Hp no w wr [.dat (.l 3 1 (((atL ds).take j).map D.i)) [out]]) (fun _ _ i _ => ds.length - (intOf i).toNat)
  case atStart => exact ⟨0, Nat.zero_le _, rfl, by rw [baseD_zero], H⟩
  case round =>
    clear H
    obtain ⟨j, hj, rfl, rfl, H⟩ := hrel
    by_cases hlt : j < ds.length
    · obtain ⟨b, o, cs, rfl, hb, hS, hd, hl, hcell⟩ := h.el (i := j) (d := ds[j].d) (by simp [hlt])
      have HI := Lib.hid hcell
      have HL := Lib.hid hl
      have one := Lib.hid (RC.one _ _ hd)
      clear hcell hl
      replace H := H.flat (d := .i (baseD ds j)) (cs := [.int .i64 (baseD ds j)]) (by unfold RO; exact ⟨rfl, baseD_inI _ _, rfl⟩)
      have hr_ := H.rules; simp only [Rules, and_true] at hr_; have hd_ := H.dif; simp only [Dif, Neq, and_true] at hd_; obtain ⟨ho_, hz_⟩ := H.old0
      go_wp2_with (first | ((with_reducible refine atLoad (t := 42) ?_); (refine wpList_run (v := .agg (cs).toArray) rfl (run_loadL aggDecl rfl ?_ HL.out (H.lies hb no_not HI.out)) ?_); (focus (go_simp; done))) | (at_builtin; go_must (refine wpList_pushH rfl (.tmp 12) (.tmp 14) 24 rfl stInts (by go_simp <;> first | rfl | exact ⟨rfl, rfl⟩) (by go_simp <;> first | rfl | exact ⟨rfl, rfl⟩) (by exact Hp.norm (by (repeat (first | with_reducible exact H | with_reducible exact H0_ | with_reducible apply Hp.alloc | with_reducible apply Hp.allocMap | with_reducible apply Hp.drew | with_reducible apply Hp.drewN | with_reducible apply Hp.set)); (try any_goals (repeat (first | with_reducible exact Upd.head | with_reducible apply Upd.tail)))) (by ((try simp only [size_drew_, size_drewN_, World.size_alloc, World.size_setCell, List.set_cons_zero, List.set_cons_succ, List.nil_append, List.cons_append]) <;> rfl))) (by (repeat (first | with_reducible exact Pick.head | with_reducible apply Pick.tail))) (by (repeat (first | with_reducible exact Pick.head | with_reducible apply Pick.tail))) (by (repeat (first | with_reducible exact Pick.head | with_reducible apply Pick.tail))) rfl ?_ ?_; (focus (simp [M]; omega)); clear H; intro v' w4 H)))
      refine callsH (by (repeat (first | with_reducible exact H | with_reducible exact H0_ | with_reducible apply Hp.alloc | with_reducible apply Hp.allocMap | with_reducible apply Hp.drew | with_reducible apply Hp.drewN | with_reducible apply Hp.set)); (try any_goals (repeat (first | with_reducible exact Upd.head | with_reducible apply Upd.tail)))) ?_
      clear H; intro w5 H; (try simp only [size_drew_, size_drewN_, World.size_alloc, World.size_setCell, List.set_cons_zero, List.set_cons_succ] at H)
      refine (refCount_calls ⟨cs, rfl, hd.ext0 H.ext⟩).mono ?_
      rintro e w6 ⟨rfl, hx⟩
      replace H := H.call hx
      clear hx
      have E := Lib.hid (baseD_succ hlt)
      go_wp2_with fail
      go_roundw
      case rel => exact ⟨j + 1, by omega, by go_num, by rw [E.out], by rw [atL_take hlt]; exact (H.only (by (repeat (first | with_reducible exact Subl.nil | with_reducible apply Subl.keep | with_reducible apply Subl.drop))))⟩
      case measure => simp [intOf]; omega
    · go_wp2_with fail
      go_ret
      rw [take_all (by rw [atL_len]; exact hlt)] at H
      exact H.psl .head
end Go.Proofs.YteelplgdojjakaaDoor
