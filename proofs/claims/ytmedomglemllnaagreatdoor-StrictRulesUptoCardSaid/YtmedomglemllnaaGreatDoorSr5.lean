/- StrictRules: contract. No statement of the seat is proved here. -/
import Derived.Test.YtmedomglemllnaaGreatDoorSr4
namespace Go.Proofs.YtmedomglemllnaaGreatDoor
set_option linter.unusedSimpArgs false
set_option linter.unusedVariables false
open Go.RowKit

set_option maxRecDepth 100000 in
set_option maxHeartbeats 16000000 in
theorem strictRules_calls {w : World} {S S1 S2 : Nat → Prop} {ds more : List Dc} {d : Dc} {A0 A1 : Option Addr} {c c1 : Nat} {cs : List Value} {num ai : Int} (hT : Tab w) (hds : RC w S (.l 51 16 (ds.map Dc.d)) [.slice A0 ds.length c]) (hmo : RC w S2 (.l 51 16 (more.map Dc.d)) [.slice A1 more.length c1]) (hd : RC w S1 d.d cs) (hln : ds.length ≤ 1048576) (hlm : more.length ≤ 1048576) (hbs : ∀ x ∈ ds, x.d.bulk ≤ 1048576) (hbm : ∀ x ∈ more, x.d.bulk ≤ 1048576) (hbd : d.d.bulk ≤ 1048576) :
    Calls Tryz.prog 8 #[.slice A0 ds.length c, .slice A1 more.length c1, .agg cs.toArray, .int .i64 num, .int .i64 ai] w (PV w (.bool true)) := by
  obtain ⟨Aty, cty, Kty, kty, Abody, cbody, Kbody, kbody, Aparams, cparams, Asort, csort, Amembers, cmembers, Actors, cctors, rfl, hdc⟩ := RC.dc.1 hd
  obtain ⟨s1, s2, s3, s4⟩ := smDc_bulk hbd
  have HSMD := Lib.hid s1
  have HSM : Hid (∀ x ∈ ds ++ more, SmDc x) := Lib.hid (fun x hx => (List.mem_append.1 hx).elim (fun h => (smDc_bulk (hbs x h)).1) (fun h => (smDc_bulk (hbm x h)).1))
  have HPP : Hid (∀ x ∈ ds ++ more ++ [d], x.params.length ≤ 4000000 ∧ ∀ m ∈ x.members, m.index.length ≤ 4000000) := Lib.hid (fun x hx => by
    rcases List.mem_append.1 hx with hx | hx
    · rcases List.mem_append.1 hx with hx | hx
      · exact (smDc_bulk (hbs x hx)).2.1
      · exact (smDc_bulk (hbm x hx)).2.1
    · rw [List.mem_singleton.1 hx]; exact s2)
  have HT := Lib.hid hT
  have HH := Lib.hid hds
  have HE := Lib.hid hmo
  have HD := Lib.hid hd
  have HLN : Hid ((ds ++ more).length ≤ 4194304) := Lib.hid (by rw [List.length_append]; omega)
  clear hT hds hd hmo hbs hbm hbd hdc s1 s2 s3 s4
  go_enter Tryz.func8, Tryz.ntmps8
  have H := Hp.start no w
  have hr_ := H.rules; simp only [Rules, and_true] at hr_; have hd_ := H.dif; simp only [Dif, Neq, and_true] at hd_; obtain ⟨ho_, hz_⟩ := H.old0
  go_wp2_with fail
  (try clear hr_ hd_ ho_ hz_)
  refine callsH (by (repeat (first | with_reducible exact H | with_reducible exact H0_ | with_reducible apply Hp.alloc | with_reducible apply Hp.allocMap | with_reducible apply Hp.drew | with_reducible apply Hp.drewN | with_reducible apply Hp.set)); (try any_goals (repeat (first | with_reducible exact Upd.head | with_reducible apply Upd.tail)))) ?_
  clear H; intro w1 H; (try simp only [size_drew_, size_drewN_, World.size_alloc, World.size_setCell, List.set_cons_zero, List.set_cons_succ] at H)
  refine (awake18_calls (HT.out.ext H.ext)).mono ?_
  rintro e w_ ⟨rfl, hx⟩
  replace H := H.call hx
  clear hx
  dsimp only
  repeat ((fail_if_success (with_reducible (first | show Code.wp _ (Code.seq (Code.region 4 _ _) _) _ _ _ | show Code.wp _ (Code.seq (Code.seq (Code.region 4 _ _) _) _) _ _ _))); (first | (at_builtin; go_must (first | (refine listH (by (repeat (first | with_reducible exact H | with_reducible exact H0_ | with_reducible apply Hp.alloc | with_reducible apply Hp.allocMap | with_reducible apply Hp.drew | with_reducible apply Hp.drewN | with_reducible apply Hp.set)); (try any_goals (repeat (first | with_reducible exact Upd.head | with_reducible apply Upd.tail)))) ?_; clear H; intro w2 H; (try simp only [size_drew_, size_drewN_, World.size_alloc, World.size_setCell, List.set_cons_zero, List.set_cons_succ] at H); replace H := H.boxRow0P (z := 16) .head; refine wpList_pushRs rfl (.tmp 16) (.tmp 17) 43 rfl stDcs rfl rfl H .head (HH.out.oldP H.ext) ?_ ?_; (focus (simp [M]; omega)); clear H; intro v1 w5 H) | (refine wpList_pushRs rfl (.tmp 18) (.tmp 19) 43 rfl stDcs rfl rfl H .head (HE.out.oldP H.ext) ?_ ?_; (focus (simp [M]; omega)); clear H; intro v2 w6 H; obtain ⟨A', c', rfl, _, _, _⟩ := (H.rowRd .head).slice))) | go_step))
  have hrow := H.rowRd (e := 51) (z := 16) .head
  rw [List.nil_append, ← List.map_append, List.length_map] at hrow
  have bd := H.blk (g := w.heap.size) (t := 51) (cs := [.int .i64 d.kind, .int .i64 d.levels, .int .i64 d.ty.k, .int .i64 d.ty.n, .int .i64 d.ty.a, .slice Aty d.ty.ls.length cty, .slice Kty d.ty.ks.length kty, .int .i64 d.body.k, .int .i64 d.body.n, .int .i64 d.body.a, .slice Abody d.body.ls.length cbody, .slice Kbody d.body.ks.length kbody, .slice Aparams d.params.length cparams, .slice Asort d.sort.length csort, .slice Amembers d.members.length cmembers, .slice Actors d.ctors.length cctors]) (by (repeat (first | with_reducible exact Pick.head | with_reducible apply Pick.tail)))
  rw [show ds.length + more.length = (ds ++ more).length from List.length_append.symm]
  have hwl : Wide ds (ds ++ more) d := ⟨fun a h => param_more h, positive_more, fun x hx => List.mem_append_left _ hx⟩
  generalize ds ++ more = wd at hrow HSM HLN HPP hwl ⊢
  exact srA HT.out H.ext HH.out hrow HD.out bd HSM.out HSMD.out hwl HLN.out HPP.out
end Go.Proofs.YtmedomglemllnaaGreatDoor
