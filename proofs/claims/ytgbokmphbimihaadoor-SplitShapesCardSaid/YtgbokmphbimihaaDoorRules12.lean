/- law 12: rules: contract. No statement of the seat is proved here. -/
import Derived.Test.YtgbokmphbimihaaDoorRef12f
namespace Go.Proofs.YtgbokmphbimihaaDoor
set_option linter.unusedSimpArgs false
set_option linter.unusedVariables false
open Go.RowKit

set_option maxRecDepth 100000 in
set_option maxHeartbeats 8000000 in
theorem rules12_calls {S : Nat → Prop} {d : Dc} {w : World} {cs : List Value} (hT : Tab w) (hd : RC w S d.d cs) (hb : CtsOK d.ctors) :
    Calls Tryd.prog 13 #[.agg cs.toArray] w (PV w (.bool true)) := by
  have HDD := Lib.hid hd
  obtain ⟨Aty, cty, Kty, kty, Abody, cbody, Kbody, kbody, Aparams, cparams, Asort, csort, Amembers, cmembers, Actors, cctors, rfl, hparts⟩ := RC.dc.1 hd
  have HB := Lib.hid hb
  have HT := Lib.hid hT
  clear hT hd hb hparts
  go_enter Tryd.func13, Tryd.ntmps13
  have H := Hp.start no w
  go_wp2_with fail
  refine callsH (by (repeat (first | with_reducible exact H | with_reducible exact H0_ | with_reducible apply Hp.alloc | with_reducible apply Hp.allocMap | with_reducible apply Hp.drew | with_reducible apply Hp.drewN | with_reducible apply Hp.set)); (try any_goals (repeat (first | with_reducible exact Upd.head | with_reducible apply Upd.tail)))) ?_
  clear H; intro w1 H; (try simp only [size_drew_, size_drewN_, World.size_alloc, World.size_setCell, List.set_cons_zero, List.set_cons_succ] at H)
  have h1 := rules_calls (HT.out.ext H.ext) (HDD.out.ext0 H.ext) HB.out
  cases hq : rulesQ d with
  | error k =>
    rw [hq] at h1
    refine h1.mono ?_
    clear h1
    rintro e w2 ⟨rfl, hx, hk⟩
    replace H := H.call hx
    clear hx
    have hr_ := H.rules; simp only [Rules, and_true] at hr_; have hd_ := H.dif; simp only [Dif, Neq, and_true] at hd_; obtain ⟨ho_, hz_⟩ := H.old0
    go_wp2_with fail
    (try clear hr_ hd_ ho_ hz_)
    refine callsH (by (repeat (first | with_reducible exact H | with_reducible exact H0_ | with_reducible apply Hp.alloc | with_reducible apply Hp.allocMap | with_reducible apply Hp.drew | with_reducible apply Hp.drewN | with_reducible apply Hp.set)); (try any_goals (repeat (first | with_reducible exact Upd.head | with_reducible apply Upd.tail)))) ?_
    clear H; intro w3 H; (try simp only [size_drew_, size_drewN_, World.size_alloc, World.size_setCell, List.set_cons_zero, List.set_cons_succ] at H)
    have h2 := refRules (HDD.out.ext0 H.ext) HB.out
    rw [hq] at h2
    refine h2.mono ?_
    clear h2 hq
    rintro e w4 ⟨rfl, hx, -⟩
    replace H := H.call hx
    clear hx hk
    have hr_ := H.rules; simp only [Rules, and_true] at hr_; have hd_ := H.dif; simp only [Dif, Neq, and_true] at hd_; obtain ⟨ho_, hz_⟩ := H.old0
    go_wp2_with fail
    (try clear hr_ hd_ ho_ hz_)
    refine callsH (by (repeat (first | with_reducible exact H | with_reducible exact H0_ | with_reducible apply Hp.alloc | with_reducible apply Hp.allocMap | with_reducible apply Hp.drew | with_reducible apply Hp.drewN | with_reducible apply Hp.set)); (try any_goals (repeat (first | with_reducible exact Upd.head | with_reducible apply Upd.tail)))) ?_
    clear H; intro w5 H; (try simp only [size_drew_, size_drewN_, World.size_alloc, World.size_setCell, List.set_cons_zero, List.set_cons_succ] at H)
    refine (sameRusS (xs := []) (S := fun _ => True) (S' := fun _ => True) RC.nil RC.nil).mono ?_
    rintro e w_ ⟨rfl, hx⟩
    replace H := H.call hx
    clear hx
    go_wp2_with fail
    go_ret
    exact ⟨rfl, H.ext⟩
  | ok us =>
    rw [hq] at h1
    refine h1.mono ?_
    clear h1
    rintro e w2 ⟨A5, c5, rfl, H2⟩
    replace H := H.res1 H2
    clear H2
    have hr_ := H.rules; simp only [Rules, and_true] at hr_; have hd_ := H.dif; simp only [Dif, Neq, and_true] at hd_; obtain ⟨ho_, hz_⟩ := H.old0
    go_wp2_with fail
    (try clear hr_ hd_ ho_ hz_)
    refine callsH (by (repeat (first | with_reducible exact H | with_reducible exact H0_ | with_reducible apply Hp.alloc | with_reducible apply Hp.allocMap | with_reducible apply Hp.drew | with_reducible apply Hp.drewN | with_reducible apply Hp.set)); (try any_goals (repeat (first | with_reducible exact Upd.head | with_reducible apply Upd.tail)))) ?_
    clear H; intro w3 H; (try simp only [size_drew_, size_drewN_, World.size_alloc, World.size_setCell, List.set_cons_zero, List.set_cons_succ] at H)
    have h2 := refRules (HDD.out.ext0 H.ext) HB.out
    rw [hq] at h2
    refine h2.mono ?_
    clear h2 hq
    rintro e w4 ⟨A6, c6, rfl, H2⟩
    replace H := H.res1 H2
    clear H2
    have hr_ := H.rules; simp only [Rules, and_true] at hr_; have hd_ := H.dif; simp only [Dif, Neq, and_true] at hd_; obtain ⟨ho_, hz_⟩ := H.old0
    go_wp2_with fail
    (try clear hr_ hd_ ho_ hz_)
    refine callsH (by (repeat (first | with_reducible exact H | with_reducible exact H0_ | with_reducible apply Hp.alloc | with_reducible apply Hp.allocMap | with_reducible apply Hp.drew | with_reducible apply Hp.drewN | with_reducible apply Hp.set)); (try any_goals (repeat (first | with_reducible exact Upd.head | with_reducible apply Upd.tail)))) ?_
    clear H; intro w5 H; (try simp only [size_drew_, size_drewN_, World.size_alloc, World.size_setCell, List.set_cons_zero, List.set_cons_succ] at H)
    have hcall := sameRusS (xs := us) (H.rd (cs := [.slice A5 us.length c5]) (by (repeat (first | with_reducible exact Pick.head | with_reducible apply Pick.tail)))) (H.rd (cs := [.slice A6 us.length c6]) (by (repeat (first | with_reducible exact Pick.head | with_reducible apply Pick.tail))))
    refine (hcall).mono ?_
    rintro e w_ ⟨rfl, hx⟩
    replace H := H.call hx
    clear hx
    clear hcall
    go_wp2_with fail
    go_ret
    exact ⟨rfl, H.ext⟩
end Go.Proofs.YtgbokmphbimihaaDoor
