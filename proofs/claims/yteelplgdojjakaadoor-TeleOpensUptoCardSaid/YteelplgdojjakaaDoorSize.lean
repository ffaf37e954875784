/- term: Size: contract. No statement of the seat is proved here. -/
import Derived.Test.YteelplgdojjakaaDoorTele3
namespace Go.Proofs.YteelplgdojjakaaDoor
set_option linter.unusedSimpArgs false
set_option linter.unusedVariables false
open Go.RowKit

mutual
/-- How many nodes a term has. -/
def sizeT : Tm → Nat
  | .mk _ _ _ _ ks => sizesT ks + 1
def sizesT : List Tm → Nat
  | [] => 0
  | t :: ts => sizeT t + sizesT ts
end
theorem sizesT_append (a b : List Tm) : sizesT (a ++ b) = sizesT a + sizesT b := by
  induction a with
  | nil => simp [sizesT]
  | cons t a ih => rw [List.cons_append, sizesT, sizesT, ih]; omega
theorem sizesT_take {ts : List Tm} {j : Nat} (h : j < ts.length) : sizesT (ts.take (j + 1)) = sizesT (ts.take j) + sizeT ts[j] := by
  rw [List.take_succ_eq_append_getElem h, sizesT_append]
  simp [sizesT]
theorem sizeT_eq (t : Tm) : sizeT t = sizesT t.ks + 1 := by cases t; rw [sizeT]; rfl
theorem wrapAdd (a b : Int) : wrap64 (wrap64 a + wrap64 b) = wrap64 (a + b) := by unfold wrap64; omega
def SizeOK (t : Tm) : Prop := ∀ (w : World) (S : Nat → Prop) (v : Value), TV w S t v → Calls Tryd.prog 21 #[v] w (PV w (.int .i64 (wrap64 (sizeT t : Nat))))
set_option maxRecDepth 100000 in
set_option maxHeartbeats 2000000 in
theorem size_calls : ∀ t : Tm, SizeOK t := by
  intro t
  induction t using Tm.ind_ with
  | h tk tn ta ls ks ih =>
  rintro w S v ⟨A0, ca, K0, ck, rfl, hrc⟩
  obtain ⟨_, _, _, _, he, i1, i2, i3, hls, hks⟩ := RC.tm.1 hrc
  simp only [List.cons.injEq, Value.slice.injEq, and_true, true_and] at he
  obtain ⟨⟨rfl, rfl⟩, rfl, rfl⟩ := he
  simp only [Tm.k_mk, Tm.n_mk, Tm.a_mk, Tm.ls_mk, Tm.ks_mk] at *
  have IH := Lib.hid ih
  have hM := hks.lenM
  clear ih hrc
  have HSZ := Lib.hid (sizeT_eq (.mk tk tn ta ls ks))
  go_enter Tryd.func21, Tryd.ntmps21
  go_wp2_with fail
  have H := Hp.start no w
  go_loopw [3, 9] (fun n i wr => ∃ j : Nat, j ≤ ks.length ∧ i = .int .i64 j ∧ n = .int .i64 (wrap64 ((sizesT (ks.take j) : Nat) + 1)) ∧ Hp no w wr [.box w.heap.size 30 [.int .i64 tk, .int .i64 tn, .int .i64 ta, .slice A0 ls.length ca, .slice K0 ks.length ck]]) (fun _ i _ => ks.length - (intOf i).toNat)
  case atStart => exact ⟨0, Nat.zero_le _, rfl, by simp [sizesT, wrap64], by (repeat (first | with_reducible exact H | with_reducible exact H0_ | with_reducible apply Hp.alloc | with_reducible apply Hp.allocMap | with_reducible apply Hp.drew | with_reducible apply Hp.drewN | with_reducible apply Hp.set)); (try any_goals (repeat (first | with_reducible exact Upd.head | with_reducible apply Upd.tail)))⟩
  case round =>
    clear H
    obtain ⟨j, hj, rfl, rfl, H⟩ := hrel
    by_cases hlt : j < ks.length
    · obtain ⟨b, o, A1, ca1, K1, ck1, rfl, hb, hS, hd, p0, p1, p2, p3, p4⟩ := hks.atTm hlt
      have HD := Lib.hid hd
      have HS := Lib.hid (sizesT_take hlt)
      clear hd
      have hr_ := H.rules; simp only [Rules, and_true] at hr_; have hd_ := H.dif; simp only [Dif, Neq, and_true] at hd_; obtain ⟨ho_, hz_⟩ := H.old0
      go_wp2_with ((with_reducible refine atStore (t := 30) ?_); go_must (refine wpList_storeH (t := 30) rfl rfl (by go_simp <;> first | rfl | exact ⟨rfl, rfl⟩) (by go_simp <;> first | rfl | exact ⟨rfl, rfl⟩) (by exact Hp.norm (by (repeat (first | with_reducible exact H | with_reducible exact H0_ | with_reducible apply Hp.alloc | with_reducible apply Hp.allocMap | with_reducible apply Hp.drew | with_reducible apply Hp.drewN | with_reducible apply Hp.set)); (try any_goals (repeat (first | with_reducible exact Upd.head | with_reducible apply Upd.tail)))) (by ((try simp only [size_drew_, size_drewN_, World.size_alloc, World.size_setCell, List.set_cons_zero, List.set_cons_succ, List.nil_append, List.cons_append]) <;> rfl))) (by (repeat (first | with_reducible exact Upd.head | with_reducible apply Upd.tail))) (by exact aggTerm) (by rfl) (by simp [Value.oneCell']) ?_; clear H; intro w7 H; (try simp only [size_drew_, size_drewN_, World.size_alloc, World.size_setCell, List.set_cons_zero, List.set_cons_succ] at H); (try clear hr_ hd_ ho_ hz_); have hr_ := H.rules; simp only [Rules, and_true] at hr_; have hd_ := H.dif; simp only [Dif, Neq, and_true] at hd_; obtain ⟨ho_, hz_⟩ := H.old0))
      clear hr_ hd_ ho_ hz_
      refine callsH (by (repeat (first | with_reducible exact H | with_reducible exact H0_ | with_reducible apply Hp.alloc | with_reducible apply Hp.allocMap | with_reducible apply Hp.drew | with_reducible apply Hp.drewN | with_reducible apply Hp.set)); (try any_goals (repeat (first | with_reducible exact Upd.head | with_reducible apply Upd.tail)))) ?_
      clear H; intro w8 H; (try simp only [size_drew_, size_drewN_, World.size_alloc, World.size_setCell, List.set_cons_zero, List.set_cons_succ] at H)
      refine (IH.out _ (List.getElem_mem hlt) _ _ _ ⟨_, _, _, _, rfl, HD.out.ext0 H.ext⟩).mono ?_
      rintro e w_ ⟨rfl, hx⟩
      replace H := H.call hx
      clear hx
      go_wp2_with fail
      go_roundw
      case rel => exact ⟨j + 1, by omega, by go_num, by rw [HS.out, wrapAdd, Int.natCast_add, Int.add_right_comm], (H.arr (by (repeat (first | with_reducible exact Arr.nil | refine Arr.cons (by (repeat (first | with_reducible exact Pick.head | with_reducible apply Pick.tail))) ?_)) <;> exact Arr.of_subl (by (repeat (first | with_reducible exact Subl.refl _ | with_reducible apply Subl.drop)))))⟩
      case measure => simp [intOf]; omega
    · go_wp2_with fail
      go_ret
      have h1 := HSZ.out
      simp only [Tm.ks_mk] at h1
      rw [take_all hlt]
      exact ⟨by rw [h1]; push_cast; rfl, H.ext⟩
end Go.Proofs.YteelplgdojjakaaDoor
