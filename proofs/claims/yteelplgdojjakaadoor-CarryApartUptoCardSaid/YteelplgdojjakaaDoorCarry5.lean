/- carry: Term, Terms, At; the reference's Count, At: contracts. -/
import Derived.Test.YteelplgdojjakaaDoorCarry4
namespace Go.Proofs.YteelplgdojjakaaDoor
set_option linter.unusedSimpArgs false
set_option linter.unusedVariables false
open Go.RowKit

set_option maxRecDepth 100000 in
set_option maxHeartbeats 2000000 in
theorem carry_Term {S S2 S0 : Nat → Prop} {ds : List Dc} {at_ : List Int} {A B : Option Addr} {c c2 : Nat} {t : Tm} {w : World} {v : Value} (C : Cx w S S2 ds at_ A B c c2) (h : TV w S0 t v) :
    Calls Tryd.prog 13 #[.slice A ds.length c, .slice B at_.length c2, v] w (PTm w (carryT ds at_ t)) := by
  obtain ⟨A0, ca, K0, ck, rfl, hrc⟩ := h
  have HC := Lib.hid C
  clear C
  go_enter Tryd.func13, Tryd.ntmps13
  go_wp2_with fail
  have H := Hp.start no w
  refine callsH (by (repeat (first | with_reducible exact H | with_reducible exact H0_ | with_reducible apply Hp.alloc | with_reducible apply Hp.allocMap | with_reducible apply Hp.drew | with_reducible apply Hp.drewN | with_reducible apply Hp.set)); (try any_goals (repeat (first | with_reducible exact Upd.head | with_reducible apply Upd.tail)))) ?_
  clear H; intro w1 H; (try simp only [size_drew_, size_drewN_, World.size_alloc, World.size_setCell, List.set_cons_zero, List.set_cons_succ] at H)
  refine (carryTerm t w1 S0 _ (HC.out.ext H.ext) ⟨_, _, _, _, rfl, hrc.ext0 H.ext⟩).mono ?_
  rintro e w2 ⟨v, rfl, hto, hx⟩
  obtain ⟨A1, c1, K1, k1, rfl, H3⟩ := H.resTm hx hto
  clear H hx hto
  have H := H3
  clear H3
  have hr_ := H.rules; simp only [Rules, and_true] at hr_; have hd_ := H.dif; simp only [Dif, Neq, and_true] at hd_; obtain ⟨ho_, hz_⟩ := H.old0
  go_wp2_with ((with_reducible refine atStore (t := 30) ?_); go_must (refine wpList_storeH (t := 30) rfl rfl (by go_simp <;> first | rfl | exact ⟨rfl, rfl⟩) (by go_simp <;> first | rfl | exact ⟨rfl, rfl⟩) (by exact Hp.norm (by (repeat (first | with_reducible exact H | with_reducible exact H0_ | with_reducible apply Hp.alloc | with_reducible apply Hp.allocMap | with_reducible apply Hp.drew | with_reducible apply Hp.drewN | with_reducible apply Hp.set)); (try any_goals (repeat (first | with_reducible exact Upd.head | with_reducible apply Upd.tail)))) (by ((try simp only [size_drew_, size_drewN_, World.size_alloc, World.size_setCell, List.set_cons_zero, List.set_cons_succ, List.nil_append, List.cons_append]) <;> rfl))) (by (repeat (first | with_reducible exact Upd.head | with_reducible apply Upd.tail))) (by exact aggTerm) (by rfl) (by simp [Value.oneCell']) ?_; clear H; intro w7 H; (try simp only [size_drew_, size_drewN_, World.size_alloc, World.size_setCell, List.set_cons_zero, List.set_cons_succ] at H); (try clear hr_ hd_ ho_ hz_); have hr_ := H.rules; simp only [Rules, and_true] at hr_; have hd_ := H.dif; simp only [Dif, Neq, and_true] at hd_; obtain ⟨ho_, hz_⟩ := H.old0))
  clear hr_ hd_ ho_ hz_
  refine endH (by (repeat (first | with_reducible exact H | with_reducible exact H0_ | with_reducible apply Hp.alloc | with_reducible apply Hp.allocMap | with_reducible apply Hp.drew | with_reducible apply Hp.drewN | with_reducible apply Hp.set)); (try any_goals (repeat (first | with_reducible exact Upd.head | with_reducible apply Upd.tail)))) ?_
  clear H; intro w8 H; (try simp only [size_drew_, size_drewN_, World.size_alloc, World.size_setCell, List.set_cons_zero, List.set_cons_succ] at H)
  exact bodyPost_ret (v := .agg #[_, _, _, _, _]) (Res.one Tryd.results13 (H.resBox (by (repeat (first | with_reducible exact Pick.head | with_reducible apply Pick.tail))) aggTerm rfl rfl)) rfl (H.ptm (by (repeat (first | with_reducible exact Pick.head | with_reducible apply Pick.tail))))
theorem intsD (xs : List Int) : ∀ d ∈ xs.map D.i, d.size = 1 := fun d hd => by
  obtain ⟨x, _, rfl⟩ := List.mem_map.1 hd
  simp [D.size]
def PAt (w : World) (ds : List Dc) (e : Ending) (w' : World) : Prop := PSl w 3 1 ((atL ds).map D.i) e w'
set_option maxRecDepth 100000 in
set_option maxHeartbeats 2000000 in
theorem carry_At {S0 : Nat → Prop} {ds : List Dc} {A : Option Addr} {n c : Nat} {w : World} (h : RC w S0 (.l 42 16 (ds.map Dc.d)) [.slice A n c]) (hn : n = ds.length) :
    Calls Tryd.prog 16 #[.slice A n c] w (PAt w ds) := by
  subst hn
  unfold PAt
  have hM := h.lenM
  go_enter Tryd.func16, Tryd.ntmps16
  go_wp2_with fail
  have H := Hp.start no w
  replace H := H.nil 3 1
  go_loopw [2, 3, 8] (fun out m i wr => ∃ j : Nat, j ≤ ds.length ∧ i = .int .i64 j ∧ m = .int .i64 (baseD ds j) ∧ Hp no w wr [.dat (.l 3 1 (((atL ds).take j).map D.i)) [out]]) (fun _ _ i _ => ds.length - (intOf i).toNat)
  case atStart => exact ⟨0, Nat.zero_le _, rfl, by rw [baseD_zero], H⟩
  case round =>
    clear H
    obtain ⟨j, hj, rfl, rfl, H⟩ := hrel
    by_cases hlt : j < ds.length
    · obtain ⟨b, o, cs, rfl, hb, hS, hd, hl, hcell⟩ := h.el (i := j) (d := ds[j].d) (by simp [hlt])
      have HI := Lib.hid hcell
      have HL := Lib.hid hl
      have one := Lib.hid (RC.one _ _ hd)
      clear hcell hl
      replace H := H.flat (d := .i (baseD ds j)) (cs := [.int .i64 (baseD ds j)]) (by unfold RO; exact ⟨rfl, baseD_inI _ _, rfl⟩)
      have hr_ := H.rules; simp only [Rules, and_true] at hr_; have hd_ := H.dif; simp only [Dif, Neq, and_true] at hd_; obtain ⟨ho_, hz_⟩ := H.old0
      go_wp2_with (first | ((with_reducible refine atLoad (t := 42) ?_); (refine wpList_run (v := .agg (cs).toArray) rfl (run_loadL aggDecl rfl ?_ HL.out (H.lies hb no_not HI.out)) ?_); (focus (go_simp; done))) | ((with_reducible refine atStore (t := 42) ?_); go_must (refine wpList_storeH (t := 42) (cs' := cs) rfl rfl (by go_simp <;> first | rfl | exact ⟨rfl, rfl⟩) (by go_simp <;> first | rfl | exact ⟨rfl, rfl⟩) (by exact Hp.norm (by (repeat (first | with_reducible exact H | with_reducible exact H0_ | with_reducible apply Hp.alloc | with_reducible apply Hp.allocMap | with_reducible apply Hp.drew | with_reducible apply Hp.drewN | with_reducible apply Hp.set)); (try any_goals (repeat (first | with_reducible exact Upd.head | with_reducible apply Upd.tail)))) (by ((try simp only [size_drew_, size_drewN_, World.size_alloc, World.size_setCell, List.set_cons_zero, List.set_cons_succ, List.nil_append, List.cons_append]) <;> rfl))) (by (repeat (first | with_reducible exact Upd.head | with_reducible apply Upd.tail))) (by rw [HL.out]; exact aggDecl) (by rw [HL.out]; rfl) one.out ?_; clear H; intro w3 H; (try simp only [size_drew_, size_drewN_, World.size_alloc, World.size_setCell, List.set_cons_zero, List.set_cons_succ] at H); have hr2_ := H.rules; simp only [Rules, and_true] at hr2_; have hs2_ := H.ext.size)) | ((with_reducible refine atLoad (t := 42) ?_); (refine wpList_run (v := .agg (cs).toArray) rfl (run_loadL aggDecl rfl ?_ HL.out (Hp.boxlies H (by (repeat (first | with_reducible exact Pick.head | with_reducible apply Pick.tail))))) ?_); (focus (go_simp; done))) | (at_builtin; go_must (refine wpList_pushH rfl (.tmp 12) (.tmp 14) 24 rfl stInts (by go_simp <;> first | rfl | exact ⟨rfl, rfl⟩) (by go_simp <;> first | rfl | exact ⟨rfl, rfl⟩) (by exact Hp.norm (by (repeat (first | with_reducible exact H | with_reducible exact H0_ | with_reducible apply Hp.alloc | with_reducible apply Hp.allocMap | with_reducible apply Hp.drew | with_reducible apply Hp.drewN | with_reducible apply Hp.set)); (try any_goals (repeat (first | with_reducible exact Upd.head | with_reducible apply Upd.tail)))) (by ((try simp only [size_drew_, size_drewN_, World.size_alloc, World.size_setCell, List.set_cons_zero, List.set_cons_succ, List.nil_append, List.cons_append]) <;> rfl))) (by (repeat (first | with_reducible exact Pick.head | with_reducible apply Pick.tail))) (by (repeat (first | with_reducible exact Pick.head | with_reducible apply Pick.tail))) (by (repeat (first | with_reducible exact Pick.head | with_reducible apply Pick.tail))) rfl ?_ ?_; (focus (simp [M]; omega)); clear H; intro v' w4 H)))
      refine callsH (by (repeat (first | with_reducible exact H | with_reducible exact H0_ | with_reducible apply Hp.alloc | with_reducible apply Hp.allocMap | with_reducible apply Hp.drew | with_reducible apply Hp.drewN | with_reducible apply Hp.set)); (try any_goals (repeat (first | with_reducible exact Upd.head | with_reducible apply Upd.tail)))) ?_
      clear H; intro w5 H; (try simp only [size_drew_, size_drewN_, World.size_alloc, World.size_setCell, List.set_cons_zero, List.set_cons_succ] at H)
      refine (count_calls ⟨cs, rfl, hd.ext0 H.ext⟩).mono ?_
      rintro e w6 ⟨rfl, hx⟩
      replace H := H.call hx
      clear hx
      have E := Lib.hid (baseD_succ hlt)
      go_wp2_with fail
      go_roundw
      case rel => exact ⟨j + 1, by omega, by go_num, by rw [E.out], by rw [atL_take hlt]; exact (H.only (by (repeat (first | with_reducible exact Subl.nil | with_reducible apply Subl.keep | with_reducible apply Subl.drop))))⟩
      case measure => simp [intOf]; omega
    · go_wp2_with fail
      go_ret
      rw [take_all (by rw [atL_len]; exact hlt)] at H
      exact H.psl .head
end Go.Proofs.YteelplgdojjakaaDoor
