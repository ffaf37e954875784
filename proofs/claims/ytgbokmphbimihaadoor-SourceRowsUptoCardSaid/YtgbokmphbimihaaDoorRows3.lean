/- SourceRows: the whole law. No statement of the seat is proved here. -/
import Derived.Test.YtgbokmphbimihaaDoorRows2
import Derived.Test.YtgbokmphbimihaaDoorPushRs
namespace Go.Proofs.YtgbokmphbimihaaDoor
set_option linter.unusedSimpArgs false
set_option linter.unusedVariables false
open Go.RowKit

section
variable {X : Nat → Prop} {w0 w w1 : World} {l l' l1 l2 l3 : List Ch}
theorem RC.oldP11 {w w' : World} {S : Nat → Prop} {d : D} {cs : List Value} (h : RC w S d cs) (hx : Ext no w w') : RC w' (fun k => k < w.heap.size ∧ ¬ no k) d cs :=
  RC.frame hx.size (fun k _ hS => ⟨hS.2, no_not⟩) (fun k hk _ => hx.block k hk no_not) _ _ h.bd
/-- A box as a row of one element, which is read in old memory. -/
theorem Hp.boxRow {g e z : Nat} {d : D} {cs : List Value} {S : Nat → Prop} (H : Hp no w0 w l) (p : Pick l (.box g e cs) l') (h : RC w0 S d cs) (hz : d.size = z) : Hp no w0 w (.row e z [d] (.slice (some ⟨g, 0, none⟩) 1 1) :: l') := by
  have hl := RC.len _ _ h
  have H1 := H.boxraw (z := z) (n := 1) p (by omega) (by unfold maxLen; omega)
  refine Hp.turn1 (ds' := [_]) H1 .head fun L hL => ?_
  obtain ⟨rfl, hown⟩ := hL
  simp only [Chs]
  refine ⟨_, [], by simp, ⟨rfl, by unfold M; simp, by simpa using hz, cs, hown, ?_⟩, rfl⟩
  have hg : w0.heap.size ≤ g := (hown.lt g (by simp [Value.ownBlock])).1
  unfold RCs
  refine ⟨cs, [], by simp, RC.frame (Nat.le_refl _) (fun k hk hS => ⟨hS, fun e => ?_⟩) (fun _ _ _ => rfl) _ _ (h.oldP11 H.ext), by unfold RCs; rfl⟩
  simp only [Value.ownBlock, Option.some.injEq] at e
  have := hS.1
  omega
/-- A row of old elements is read. -/
theorem Hp.rowRd11 {e z : Nat} {ds : List D} {v : Value} (H : Hp X w0 w l) (p : Pick l (.row e z ds v) l') : RC w (fun k => (k < w0.heap.size ∧ ¬ X k) ∨ w0.heap.size ≤ k) (.l e z ds) [v] := by
  obtain ⟨L, hL, _⟩ := (H.pick p).own
  simp only [Chs] at hL
  obtain ⟨L1, _, rfl, ⟨rfl, h1⟩, _⟩ := hL
  exact h1.rc
end
set_option maxRecDepth 100000 in
set_option maxHeartbeats 8000000 in
theorem sourceRows_calls {w : World} {S S1 : Nat → Prop} {ds : List Dc} {d : Dc} {cs : List Value} {A : Option Addr} {m c : Nat} (hT : Tab w) (h : RC w S (.l 37 16 (ds.map Dc.d)) [.slice A m c]) (hm : m = ds.length) (hb : ds.length ≤ 4000000000) (hd : RC w S1 d.d cs) :
    Calls Tryd.prog 6 #[.slice A m c, .agg cs.toArray] w (PV w (.bool true)) := by
  subst hm
  have HV := Lib.hid hd
  obtain ⟨Aty, cty, Kty, kty, Abody, cbody, Kbody, kbody, Aparams, cparams, Asort, csort, Amembers, cmembers, Actors, cctors, rfl, hparts⟩ := RC.dc.1 hd
  have HPT := Lib.hid hparts
  have HT := Lib.hid hT
  have HH := Lib.hid h
  clear hT h hd hparts
  go_enter Tryd.func6, Tryd.ntmps6
  have H := Hp.start no w
  have hr_ := H.rules; simp only [Rules, and_true] at hr_; have hd_ := H.dif; simp only [Dif, Neq, and_true] at hd_; obtain ⟨ho_, hz_⟩ := H.old0
  go_wp2_with fail
  (try clear hr_ hd_ ho_ hz_)
  refine callsH (by (repeat (first | with_reducible exact H | with_reducible exact H0_ | with_reducible apply Hp.alloc | with_reducible apply Hp.allocMap | with_reducible apply Hp.drew | with_reducible apply Hp.drewN | with_reducible apply Hp.set)); (try any_goals (repeat (first | with_reducible exact Upd.head | with_reducible apply Upd.tail)))) ?_
  clear H; intro w1 H; (try simp only [size_drew_, size_drewN_, World.size_alloc, World.size_setCell, List.set_cons_zero, List.set_cons_succ] at H)
  refine (awake11_calls (HT.out.ext H.ext)).mono ?_
  rintro e w_ ⟨rfl, hx⟩
  replace H := H.call hx
  clear hx
  have hr_ := H.rules; simp only [Rules, and_true] at hr_; have hd_ := H.dif; simp only [Dif, Neq, and_true] at hd_; obtain ⟨ho_, hz_⟩ := H.old0
  go_wp2_with (at_builtin; go_must (refine listH (by (repeat (first | with_reducible exact H | with_reducible exact H0_ | with_reducible apply Hp.alloc | with_reducible apply Hp.allocMap | with_reducible apply Hp.drew | with_reducible apply Hp.drewN | with_reducible apply Hp.set)); (try any_goals (repeat (first | with_reducible exact Upd.head | with_reducible apply Upd.tail)))) ?_; clear H; intro w2 H; (try simp only [size_drew_, size_drewN_, World.size_alloc, World.size_setCell, List.set_cons_zero, List.set_cons_succ] at H); refine wpList_pushRs rfl (.tmp 13) (.tmp 14) 44 rfl stDcs rfl rfl (H.boxRow .head HV.out (Dc.size_d _)) .head (HH.out.oldP11 H.ext) ?_ ?_; (focus (simp [M]; omega)); (try clear hr_ hd_ ho_ hz_); clear H; intro v1 w5 H))
  obtain ⟨A', c', rfl, _, _, _⟩ := (H.rowRd11 .head).slice
  have rr := Lib.hid (H.rowRd11 .head)
  refine (great11_calls (S2 := fun _ => True) (ds := d :: ds) (ts := []) rr.out (by simp) RC.nil rfl).mono ?_
  clear rr
  rintro e w_ ⟨q, rfl, hx⟩
  replace H := H.call hx
  clear hx
  have H := H.arr (l' := [.box w.heap.size 37 [.int .i64 d.kind, .int .i64 d.levels, .int .i64 d.ty.k, .int .i64 d.ty.n, .int .i64 d.ty.a, .slice Aty d.ty.ls.length cty, .slice Kty d.ty.ks.length kty, .int .i64 d.body.k, .int .i64 d.body.n, .int .i64 d.body.a, .slice Abody d.body.ls.length cbody, .slice Kbody d.body.ks.length kbody, .slice Aparams d.params.length cparams, .slice Asort d.sort.length csort, .slice Amembers d.members.length cmembers, .slice Actors d.ctors.length cctors]]) (.cons (.tail .head) .nil)
  cases q
  · have hr_ := H.rules; simp only [Rules, and_true] at hr_; have hd_ := H.dif; simp only [Dif, Neq, and_true] at hd_; obtain ⟨ho_, hz_⟩ := H.old0
    go_wp2_with fail
    (try clear hr_ hd_ ho_ hz_)
    refine callsH (by (repeat (first | with_reducible exact H | with_reducible exact H0_ | with_reducible apply Hp.alloc | with_reducible apply Hp.allocMap | with_reducible apply Hp.drew | with_reducible apply Hp.drewN | with_reducible apply Hp.set)); (try any_goals (repeat (first | with_reducible exact Upd.head | with_reducible apply Upd.tail)))) ?_
    clear H; intro w6 H; (try simp only [size_drew_, size_drewN_, World.size_alloc, World.size_setCell, List.set_cons_zero, List.set_cons_succ] at H)
    obtain ⟨q2, hq2⟩ : ∃ q2, q2 = declQ ds d := ⟨_, rfl⟩
    have hcall := srcDecl_calls (ds := ds) (d := d) (HT.out.ext H.ext) (HH.out.ext0 H.ext) rfl (HV.out.ext0 H.ext)
    rw [← hq2] at hcall
    have HQ2 := Lib.hid hq2
    clear hq2
    refine (hcall).mono ?_
    rintro e w_ ⟨rfl, hx⟩
    replace H := H.call hx
    clear hx
    clear hcall
    cases q2
    · have hr_ := H.rules; simp only [Rules, and_true] at hr_; have hd_ := H.dif; simp only [Dif, Neq, and_true] at hd_; obtain ⟨ho_, hz_⟩ := H.old0
      go_wp2_with fail
      (try clear hr_ hd_ ho_ hz_)
      go_ret
      exact ⟨rfl, H.ext⟩
    · by_cases h3 : d.kind = 3
      · have g1 : (d.kind == 3) = true := by simpa using h3
        have g1' : (d.kind != 3) = false := by simpa using h3
        have H3 := Lib.hid h3
        clear h3
        dsimp only
        have hr_ := H.rules; simp only [Rules, and_true] at hr_; have hd_ := H.dif; simp only [Dif, Neq, and_true] at hd_; obtain ⟨ho_, hz_⟩ := H.old0
        repeat ((fail_if_success (with_reducible (first | show Code.wp _ (Code.seq (Code.region 8 _ _) _) _ _ _ | show Code.wp _ (Code.seq (Code.seq (Code.region 8 _ _) _) _) _ _ _))); go_step)
        (try clear hr_ hd_ ho_ hz_)
        exact rowsB (HT.out.ext H.ext) H.ext (HH.out.ext0 H.ext) (HV.out.ext0 H.ext) (H.blk (by (repeat (first | with_reducible exact Pick.head | with_reducible apply Pick.tail)))) HQ2.out.symm H3.out
      · have HLAW := Lib.hid (rows_def HQ2.out.symm h3)
        have g1 : (d.kind == 3) = false := by simpa using h3
        have g1' : (d.kind != 3) = true := by simpa using h3
        clear h3
        have hr_ := H.rules; simp only [Rules, and_true] at hr_; have hd_ := H.dif; simp only [Dif, Neq, and_true] at hd_; obtain ⟨ho_, hz_⟩ := H.old0
        go_wp2_with ((with_reducible refine atStore (t := 37) ?_); go_must (refine wpList_storeH (t := 37) rfl rfl (by go_simp <;> first | rfl | exact ⟨rfl, rfl⟩) (by go_simp <;> first | rfl | exact ⟨rfl, rfl⟩) (by exact Hp.norm (by (repeat (first | with_reducible exact H | with_reducible exact H0_ | with_reducible apply Hp.alloc | with_reducible apply Hp.allocMap | with_reducible apply Hp.drew | with_reducible apply Hp.drewN | with_reducible apply Hp.set)); (try any_goals (repeat (first | with_reducible exact Upd.head | with_reducible apply Upd.tail)))) (by ((try simp only [size_drew_, size_drewN_, World.size_alloc, World.size_setCell, List.set_cons_zero, List.set_cons_succ, List.nil_append, List.cons_append]) <;> rfl))) (by (repeat (first | with_reducible exact Upd.head | with_reducible apply Upd.tail))) (by exact aggDecl) (by rfl) (by simp [Value.oneCell']) ?_; clear H; intro w7 H; (try simp only [size_drew_, size_drewN_, World.size_alloc, World.size_setCell, List.set_cons_zero, List.set_cons_succ] at H); (try clear hr_ hd_ ho_ hz_); have hr_ := H.rules; simp only [Rules, and_true] at hr_; have hd_ := H.dif; simp only [Dif, Neq, and_true] at hd_; obtain ⟨ho_, hz_⟩ := H.old0))
        (try clear hr_ hd_ ho_ hz_)
        refine callsH (by (repeat (first | with_reducible exact H | with_reducible exact H0_ | with_reducible apply Hp.alloc | with_reducible apply Hp.allocMap | with_reducible apply Hp.drew | with_reducible apply Hp.drewN | with_reducible apply Hp.set)); (try any_goals (repeat (first | with_reducible exact Upd.head | with_reducible apply Upd.tail)))) ?_
        clear H; intro w8 H; (try simp only [size_drew_, size_drewN_, World.size_alloc, World.size_setCell, List.set_cons_zero, List.set_cons_succ] at H)
        have hcall := srcDecl_calls (ds := ds) (d := ⟨1, d.levels, d.ty, .mk 0 0 0 [] [], [], [], [], []⟩) (HT.out.ext H.ext) (HH.out.ext0 H.ext) rfl (RC.dc.2 ⟨Aty, cty, Kty, kty, none, 0, none, 0, none, 0, none, 0, none, 0, none, 0, rfl, by show inI 1; unfold inI; omega, HPT.out.2.1, HPT.out.2.2.1.ext0 H.ext, tmN0 inI0 inI0 inI0, RC.nil, RC.nil, RC.nil, RC.nil⟩)
        rw [HLAW.out.1] at hcall
        refine (hcall).mono ?_
        rintro e w_ ⟨rfl, hx⟩
        replace H := H.call hx
        clear hx
        clear hcall
        rcases HLAW.out.2 with h1 | h2
        · have g2 : (d.kind == 1) = true := by simpa using h1
          clear h1
          have hr_ := H.rules; simp only [Rules, and_true] at hr_; have hd_ := H.dif; simp only [Dif, Neq, and_true] at hd_; obtain ⟨ho_, hz_⟩ := H.old0
          go_wp2_with fail
          (try clear hr_ hd_ ho_ hz_)
          go_ret
          exact ⟨rfl, H.ext⟩
        · have g2 : (d.kind == 1) = false := by simp [h2]
          have g3 : (d.kind == 2) = true := by simpa using h2
          clear h2
          have hr_ := H.rules; simp only [Rules, and_true] at hr_; have hd_ := H.dif; simp only [Dif, Neq, and_true] at hd_; obtain ⟨ho_, hz_⟩ := H.old0
          go_wp2_with fail
          (try clear hr_ hd_ ho_ hz_)
          go_ret
          exact ⟨rfl, H.ext⟩
  · have hr_ := H.rules; simp only [Rules, and_true] at hr_; have hd_ := H.dif; simp only [Dif, Neq, and_true] at hd_; obtain ⟨ho_, hz_⟩ := H.old0
    go_wp2_with fail
    (try clear hr_ hd_ ho_ hz_)
    go_ret
    exact ⟨rfl, H.ext⟩
end Go.Proofs.YtgbokmphbimihaaDoor
