/- Reference 11: named: contract. No statement of the seat is proved here. -/
import Derived.Deep.DeepCutAuto
import Derived.Test.YteelplgdojjakaaDoorSrcSpec
import Derived.Test.YteelplgdojjakaaDoorMgSrc4
namespace Go.Proofs.YteelplgdojjakaaDoor
set_option linter.unusedSimpArgs false
set_option linter.unusedVariables false
open Go.RowKit

theorem RC.dcI {w : World} {S : Nat → Prop} {d : Dc} {cs : List Value} (h : RC w S d.d cs) : inI d.kind ∧ inI d.levels := by
  obtain ⟨Aty, cty, Kty, kty, Abody, cbody, Kbody, kbody, Aparams, cparams, Asort, csort, Amembers, cmembers, Actors, cctors, rfl, h1, h2, _⟩ := RC.dc.1 h
  exact ⟨h1, h2⟩
theorem wrap_inI {n : Int} (h : inI n) : wrap64 (n + 0) = n := by unfold inI at h; unfold wrap64; omega
set_option maxRecDepth 100000 in
set_option maxHeartbeats 8000000 in
theorem named_8 {w : World} {S : Nat → Prop} {ds : List Dc} {m a : Int} {ls : List Lv} {ks : List Tm} {A A0 K0 : Option Addr} {c ca ck : Nat} {sf : Int} (h : RC w S (.l 42 16 (ds.map Dc.d)) [.slice A ds.length c]) (h0 : 0 ≤ m) :
    Calls Tryd.prog 111 #[.slice A ds.length c, .int .i64 sf, .agg #[.int .i64 8, .int .i64 m, .int .i64 a, .slice A0 ls.length ca, .slice K0 ks.length ck]] w (PV w (.bool (memQ ds (.mk 8 m a ls ks)))) := by
  have hM := h.lenM
  obtain ⟨j, rfl⟩ := Int.eq_ofNat_of_zero_le h0
  by_cases hlt : j < ds.length
  case neg =>
    have HB : Hid (memQ ds (.mk 8 (j : Int) a ls ks) = false) := by
      have e : declAt ds (j : Int) ls.length 0 = none := by unfold declAt; rw [dif_neg (by simpa using hlt)]
      unfold Hid memQ
      simp only [Tm.n_mk, Tm.ls_mk]
      rw [e]
    go_enter Tryd.func111, Tryd.ntmps111
    go_wp2_with fail
    go_ret
    exact ⟨by rw [HB.out]; rfl, (Ext.refl _ _).alloc _⟩
  obtain ⟨b, o, cs, rfl, hb, hS, hd, hl, hcell⟩ := h.el (i := j) (d := ds[j].d) (by simp [hlt])
  obtain ⟨Am, cm, Ac, cc, hl0, g0, g14, g15, hmm0, hcc0⟩ := hd.dcG
  have g1 := hd.dcL
  have hlm := hd.dcM
  obtain ⟨L, hL⟩ : ∃ L, L = wrap64 (ds[j].levels + 0) := ⟨_, rfl⟩
  have hAt : declAt ds (j : Int) ls.length 0 = if (ls.length : Int) = L then some ds[j] else none := by
    unfold declAt
    rw [dif_pos (by simpa using hlt), hL]
    simp
  rw [wrap_inI hd.dcI.2] at hL; rw [← hL] at g1
  have HAT := Lib.hid hAt
  have HI := Lib.hid hcell
  have HL := Lib.hid hl
  have one := Lib.hid (RC.one _ _ hd)
  generalize ds[j] = d at *
  clear hcell hl hd hL hAt hl0 hmm0 hcc0
  by_cases k3 : d.kind = 3
  · have gk : (d.kind == 3) = true := by simpa using k3
    by_cases q : (ls.length : Int) = L
    · have gq : ((ls.length : Int) == L) = true := by simpa using q
      by_cases q2 : a < d.members.length
      · have HB : Hid (memQ ds (.mk 8 (j : Int) a ls ks) = true) := by unfold Hid memQ; simp only [Tm.n_mk, Tm.ls_mk, Tm.a_mk]; rw [HAT.out, if_pos q]; simp [q2, k3]
        clear k3 q
        go_enter Tryd.func111, Tryd.ntmps111
        have H := Hp.start no w
        go_upto_region 7 with fail
        refine codeH (by (repeat (first | with_reducible exact H | with_reducible exact H0_ | with_reducible apply Hp.alloc | with_reducible apply Hp.allocMap | with_reducible apply Hp.drew | with_reducible apply Hp.drewN | with_reducible apply Hp.set)); (try any_goals (repeat (first | with_reducible exact Upd.head | with_reducible apply Upd.tail)))) ?_
        clear H; intro w1 H; (try simp only [size_drew_, size_drewN_, World.size_alloc, World.size_setCell, List.set_cons_zero, List.set_cons_succ] at H)
        have hr_ := H.rules; simp only [Rules, and_true] at hr_; have hd_ := H.dif; simp only [Dif, Neq, and_true] at hd_; obtain ⟨ho_, hz_⟩ := H.old0
        go_wp2_with (first | ((with_reducible refine atLoad (t := 42) ?_); (refine wpList_run (v := .agg (cs).toArray) rfl (run_loadL aggDecl rfl ?_ HL.out (H.lies hb no_not HI.out)) ?_); (focus (go_simp; done))) | ((with_reducible refine atStore (t := 42) ?_); go_must (refine wpList_storeH (t := 42) (cs' := cs) rfl rfl (by go_simp <;> first | rfl | exact ⟨rfl, rfl⟩) (by go_simp <;> first | rfl | exact ⟨rfl, rfl⟩) (by exact Hp.norm (by (repeat (first | with_reducible exact H | with_reducible exact H0_ | with_reducible apply Hp.alloc | with_reducible apply Hp.allocMap | with_reducible apply Hp.drew | with_reducible apply Hp.drewN | with_reducible apply Hp.set)); (try any_goals (repeat (first | with_reducible exact Upd.head | with_reducible apply Upd.tail)))) (by ((try simp only [size_drew_, size_drewN_, World.size_alloc, World.size_setCell, List.set_cons_zero, List.set_cons_succ, List.nil_append, List.cons_append]) <;> rfl))) (by (repeat (first | with_reducible exact Upd.head | with_reducible apply Upd.tail))) (by rw [HL.out]; exact aggDecl) (by rw [HL.out]; rfl) one.out ?_; clear H; intro w3 H; (try simp only [size_drew_, size_drewN_, World.size_alloc, World.size_setCell, List.set_cons_zero, List.set_cons_succ] at H); have hr2_ := H.rules; simp only [Rules, and_true] at hr2_; have hs2_ := H.ext.size)))
        (try clear hr2_ hs2_)
        go_ret
        exact ⟨by rw [HB.out]; rfl, H.ext⟩
      · have HB : Hid (memQ ds (.mk 8 (j : Int) a ls ks) = false) := by unfold Hid memQ; simp only [Tm.n_mk, Tm.ls_mk, Tm.a_mk]; rw [HAT.out, if_pos q]; simp [q2]
        clear k3 q
        go_enter Tryd.func111, Tryd.ntmps111
        have H := Hp.start no w
        go_upto_region 7 with fail
        refine codeH (by (repeat (first | with_reducible exact H | with_reducible exact H0_ | with_reducible apply Hp.alloc | with_reducible apply Hp.allocMap | with_reducible apply Hp.drew | with_reducible apply Hp.drewN | with_reducible apply Hp.set)); (try any_goals (repeat (first | with_reducible exact Upd.head | with_reducible apply Upd.tail)))) ?_
        clear H; intro w1 H; (try simp only [size_drew_, size_drewN_, World.size_alloc, World.size_setCell, List.set_cons_zero, List.set_cons_succ] at H)
        have hr_ := H.rules; simp only [Rules, and_true] at hr_; have hd_ := H.dif; simp only [Dif, Neq, and_true] at hd_; obtain ⟨ho_, hz_⟩ := H.old0
        go_wp2_with (first | ((with_reducible refine atLoad (t := 42) ?_); (refine wpList_run (v := .agg (cs).toArray) rfl (run_loadL aggDecl rfl ?_ HL.out (H.lies hb no_not HI.out)) ?_); (focus (go_simp; done))) | ((with_reducible refine atStore (t := 42) ?_); go_must (refine wpList_storeH (t := 42) (cs' := cs) rfl rfl (by go_simp <;> first | rfl | exact ⟨rfl, rfl⟩) (by go_simp <;> first | rfl | exact ⟨rfl, rfl⟩) (by exact Hp.norm (by (repeat (first | with_reducible exact H | with_reducible exact H0_ | with_reducible apply Hp.alloc | with_reducible apply Hp.allocMap | with_reducible apply Hp.drew | with_reducible apply Hp.drewN | with_reducible apply Hp.set)); (try any_goals (repeat (first | with_reducible exact Upd.head | with_reducible apply Upd.tail)))) (by ((try simp only [size_drew_, size_drewN_, World.size_alloc, World.size_setCell, List.set_cons_zero, List.set_cons_succ, List.nil_append, List.cons_append]) <;> rfl))) (by (repeat (first | with_reducible exact Upd.head | with_reducible apply Upd.tail))) (by rw [HL.out]; exact aggDecl) (by rw [HL.out]; rfl) one.out ?_; clear H; intro w3 H; (try simp only [size_drew_, size_drewN_, World.size_alloc, World.size_setCell, List.set_cons_zero, List.set_cons_succ] at H); have hr2_ := H.rules; simp only [Rules, and_true] at hr2_; have hs2_ := H.ext.size)))
        (try clear hr2_ hs2_)
        go_ret
        exact ⟨by rw [HB.out]; rfl, H.ext⟩
    · have gq : ((ls.length : Int) == L) = false := by simpa using q
      have HB : Hid (memQ ds (.mk 8 (j : Int) a ls ks) = false) := by unfold Hid memQ; simp only [Tm.n_mk, Tm.ls_mk, Tm.a_mk]; rw [HAT.out, if_neg q]
      clear k3 q
      go_enter Tryd.func111, Tryd.ntmps111
      have H := Hp.start no w
      go_upto_region 7 with fail
      refine codeH (by (repeat (first | with_reducible exact H | with_reducible exact H0_ | with_reducible apply Hp.alloc | with_reducible apply Hp.allocMap | with_reducible apply Hp.drew | with_reducible apply Hp.drewN | with_reducible apply Hp.set)); (try any_goals (repeat (first | with_reducible exact Upd.head | with_reducible apply Upd.tail)))) ?_
      clear H; intro w1 H; (try simp only [size_drew_, size_drewN_, World.size_alloc, World.size_setCell, List.set_cons_zero, List.set_cons_succ] at H)
      have hr_ := H.rules; simp only [Rules, and_true] at hr_; have hd_ := H.dif; simp only [Dif, Neq, and_true] at hd_; obtain ⟨ho_, hz_⟩ := H.old0
      go_wp2_with (first | ((with_reducible refine atLoad (t := 42) ?_); (refine wpList_run (v := .agg (cs).toArray) rfl (run_loadL aggDecl rfl ?_ HL.out (H.lies hb no_not HI.out)) ?_); (focus (go_simp; done))) | ((with_reducible refine atStore (t := 42) ?_); go_must (refine wpList_storeH (t := 42) (cs' := cs) rfl rfl (by go_simp <;> first | rfl | exact ⟨rfl, rfl⟩) (by go_simp <;> first | rfl | exact ⟨rfl, rfl⟩) (by exact Hp.norm (by (repeat (first | with_reducible exact H | with_reducible exact H0_ | with_reducible apply Hp.alloc | with_reducible apply Hp.allocMap | with_reducible apply Hp.drew | with_reducible apply Hp.drewN | with_reducible apply Hp.set)); (try any_goals (repeat (first | with_reducible exact Upd.head | with_reducible apply Upd.tail)))) (by ((try simp only [size_drew_, size_drewN_, World.size_alloc, World.size_setCell, List.set_cons_zero, List.set_cons_succ, List.nil_append, List.cons_append]) <;> rfl))) (by (repeat (first | with_reducible exact Upd.head | with_reducible apply Upd.tail))) (by rw [HL.out]; exact aggDecl) (by rw [HL.out]; rfl) one.out ?_; clear H; intro w3 H; (try simp only [size_drew_, size_drewN_, World.size_alloc, World.size_setCell, List.set_cons_zero, List.set_cons_succ] at H); have hr2_ := H.rules; simp only [Rules, and_true] at hr2_; have hs2_ := H.ext.size)))
      (try clear hr2_ hs2_)
      go_ret
      exact ⟨by rw [HB.out]; rfl, H.ext⟩
  · have gk : (d.kind == 3) = false := by simpa using k3
    have HB : Hid (memQ ds (.mk 8 (j : Int) a ls ks) = false) := by unfold Hid memQ; simp only [Tm.n_mk, Tm.ls_mk, Tm.a_mk]; rw [HAT.out]; split <;> simp_all
    clear k3
    go_enter Tryd.func111, Tryd.ntmps111
    have H := Hp.start no w
    go_upto_region 7 with fail
    refine codeH (by (repeat (first | with_reducible exact H | with_reducible exact H0_ | with_reducible apply Hp.alloc | with_reducible apply Hp.allocMap | with_reducible apply Hp.drew | with_reducible apply Hp.drewN | with_reducible apply Hp.set)); (try any_goals (repeat (first | with_reducible exact Upd.head | with_reducible apply Upd.tail)))) ?_
    clear H; intro w1 H; (try simp only [size_drew_, size_drewN_, World.size_alloc, World.size_setCell, List.set_cons_zero, List.set_cons_succ] at H)
    have hr_ := H.rules; simp only [Rules, and_true] at hr_; have hd_ := H.dif; simp only [Dif, Neq, and_true] at hd_; obtain ⟨ho_, hz_⟩ := H.old0
    go_wp2_with (first | ((with_reducible refine atLoad (t := 42) ?_); (refine wpList_run (v := .agg (cs).toArray) rfl (run_loadL aggDecl rfl ?_ HL.out (H.lies hb no_not HI.out)) ?_); (focus (go_simp; done))) | ((with_reducible refine atStore (t := 42) ?_); go_must (refine wpList_storeH (t := 42) (cs' := cs) rfl rfl (by go_simp <;> first | rfl | exact ⟨rfl, rfl⟩) (by go_simp <;> first | rfl | exact ⟨rfl, rfl⟩) (by exact Hp.norm (by (repeat (first | with_reducible exact H | with_reducible exact H0_ | with_reducible apply Hp.alloc | with_reducible apply Hp.allocMap | with_reducible apply Hp.drew | with_reducible apply Hp.drewN | with_reducible apply Hp.set)); (try any_goals (repeat (first | with_reducible exact Upd.head | with_reducible apply Upd.tail)))) (by ((try simp only [size_drew_, size_drewN_, World.size_alloc, World.size_setCell, List.set_cons_zero, List.set_cons_succ, List.nil_append, List.cons_append]) <;> rfl))) (by (repeat (first | with_reducible exact Upd.head | with_reducible apply Upd.tail))) (by rw [HL.out]; exact aggDecl) (by rw [HL.out]; rfl) one.out ?_; clear H; intro w3 H; (try simp only [size_drew_, size_drewN_, World.size_alloc, World.size_setCell, List.set_cons_zero, List.set_cons_succ] at H); have hr2_ := H.rules; simp only [Rules, and_true] at hr2_; have hs2_ := H.ext.size)))
    (try clear hr2_ hs2_)
    go_ret
    exact ⟨by rw [HB.out]; rfl, H.ext⟩
set_option maxRecDepth 100000 in
set_option maxHeartbeats 8000000 in
theorem named_9 {w : World} {S : Nat → Prop} {ds : List Dc} {m a : Int} {ls : List Lv} {ks : List Tm} {A A0 K0 : Option Addr} {c ca ck : Nat} {sf : Int} (h : RC w S (.l 42 16 (ds.map Dc.d)) [.slice A ds.length c]) (h0 : 0 ≤ m) :
    Calls Tryd.prog 111 #[.slice A ds.length c, .int .i64 sf, .agg #[.int .i64 9, .int .i64 m, .int .i64 a, .slice A0 ls.length ca, .slice K0 ks.length ck]] w (PV w (.bool (ctorQ ds (.mk 9 m a ls ks)))) := by
  have hM := h.lenM
  obtain ⟨j, rfl⟩ := Int.eq_ofNat_of_zero_le h0
  by_cases hlt : j < ds.length
  case neg =>
    have HB : Hid (ctorQ ds (.mk 9 (j : Int) a ls ks) = false) := by
      have e : declAt ds (j : Int) ls.length 0 = none := by unfold declAt; rw [dif_neg (by simpa using hlt)]
      unfold Hid ctorQ
      simp only [Tm.n_mk, Tm.ls_mk]
      rw [e]
    go_enter Tryd.func111, Tryd.ntmps111
    go_wp2_with fail
    go_ret
    exact ⟨by rw [HB.out]; rfl, (Ext.refl _ _).alloc _⟩
  obtain ⟨b, o, cs, rfl, hb, hS, hd, hl, hcell⟩ := h.el (i := j) (d := ds[j].d) (by simp [hlt])
  obtain ⟨Am, cm, Ac, cc, hl0, g0, g14, g15, hmm0, hcc0⟩ := hd.dcG
  have g1 := hd.dcL
  have hlm := hd.dcM
  obtain ⟨L, hL⟩ : ∃ L, L = wrap64 (ds[j].levels + 0) := ⟨_, rfl⟩
  have hAt : declAt ds (j : Int) ls.length 0 = if (ls.length : Int) = L then some ds[j] else none := by
    unfold declAt
    rw [dif_pos (by simpa using hlt), hL]
    simp
  rw [wrap_inI hd.dcI.2] at hL; rw [← hL] at g1
  have HAT := Lib.hid hAt
  have HI := Lib.hid hcell
  have HL := Lib.hid hl
  have one := Lib.hid (RC.one _ _ hd)
  generalize ds[j] = d at *
  clear hcell hl hd hL hAt hl0 hmm0 hcc0
  by_cases k3 : d.kind = 3
  · have gk : (d.kind == 3) = true := by simpa using k3
    by_cases q : (ls.length : Int) = L
    · have gq : ((ls.length : Int) == L) = true := by simpa using q
      by_cases q2 : a < d.ctors.length
      · have HB : Hid (ctorQ ds (.mk 9 (j : Int) a ls ks) = true) := by unfold Hid ctorQ; simp only [Tm.n_mk, Tm.ls_mk, Tm.a_mk]; rw [HAT.out, if_pos q]; simp [q2, k3]
        clear k3 q
        go_enter Tryd.func111, Tryd.ntmps111
        have H := Hp.start no w
        go_upto_region 7 with fail
        refine codeH (by (repeat (first | with_reducible exact H | with_reducible exact H0_ | with_reducible apply Hp.alloc | with_reducible apply Hp.allocMap | with_reducible apply Hp.drew | with_reducible apply Hp.drewN | with_reducible apply Hp.set)); (try any_goals (repeat (first | with_reducible exact Upd.head | with_reducible apply Upd.tail)))) ?_
        clear H; intro w1 H; (try simp only [size_drew_, size_drewN_, World.size_alloc, World.size_setCell, List.set_cons_zero, List.set_cons_succ] at H)
        have hr_ := H.rules; simp only [Rules, and_true] at hr_; have hd_ := H.dif; simp only [Dif, Neq, and_true] at hd_; obtain ⟨ho_, hz_⟩ := H.old0
        go_wp2_with (first | ((with_reducible refine atLoad (t := 42) ?_); (refine wpList_run (v := .agg (cs).toArray) rfl (run_loadL aggDecl rfl ?_ HL.out (H.lies hb no_not HI.out)) ?_); (focus (go_simp; done))) | ((with_reducible refine atStore (t := 42) ?_); go_must (refine wpList_storeH (t := 42) (cs' := cs) rfl rfl (by go_simp <;> first | rfl | exact ⟨rfl, rfl⟩) (by go_simp <;> first | rfl | exact ⟨rfl, rfl⟩) (by exact Hp.norm (by (repeat (first | with_reducible exact H | with_reducible exact H0_ | with_reducible apply Hp.alloc | with_reducible apply Hp.allocMap | with_reducible apply Hp.drew | with_reducible apply Hp.drewN | with_reducible apply Hp.set)); (try any_goals (repeat (first | with_reducible exact Upd.head | with_reducible apply Upd.tail)))) (by ((try simp only [size_drew_, size_drewN_, World.size_alloc, World.size_setCell, List.set_cons_zero, List.set_cons_succ, List.nil_append, List.cons_append]) <;> rfl))) (by (repeat (first | with_reducible exact Upd.head | with_reducible apply Upd.tail))) (by rw [HL.out]; exact aggDecl) (by rw [HL.out]; rfl) one.out ?_; clear H; intro w3 H; (try simp only [size_drew_, size_drewN_, World.size_alloc, World.size_setCell, List.set_cons_zero, List.set_cons_succ] at H); have hr2_ := H.rules; simp only [Rules, and_true] at hr2_; have hs2_ := H.ext.size)))
        (try clear hr2_ hs2_)
        go_ret
        exact ⟨by rw [HB.out]; rfl, H.ext⟩
      · have HB : Hid (ctorQ ds (.mk 9 (j : Int) a ls ks) = false) := by unfold Hid ctorQ; simp only [Tm.n_mk, Tm.ls_mk, Tm.a_mk]; rw [HAT.out, if_pos q]; simp [q2]
        clear k3 q
        go_enter Tryd.func111, Tryd.ntmps111
        have H := Hp.start no w
        go_upto_region 7 with fail
        refine codeH (by (repeat (first | with_reducible exact H | with_reducible exact H0_ | with_reducible apply Hp.alloc | with_reducible apply Hp.allocMap | with_reducible apply Hp.drew | with_reducible apply Hp.drewN | with_reducible apply Hp.set)); (try any_goals (repeat (first | with_reducible exact Upd.head | with_reducible apply Upd.tail)))) ?_
        clear H; intro w1 H; (try simp only [size_drew_, size_drewN_, World.size_alloc, World.size_setCell, List.set_cons_zero, List.set_cons_succ] at H)
        have hr_ := H.rules; simp only [Rules, and_true] at hr_; have hd_ := H.dif; simp only [Dif, Neq, and_true] at hd_; obtain ⟨ho_, hz_⟩ := H.old0
        go_wp2_with (first | ((with_reducible refine atLoad (t := 42) ?_); (refine wpList_run (v := .agg (cs).toArray) rfl (run_loadL aggDecl rfl ?_ HL.out (H.lies hb no_not HI.out)) ?_); (focus (go_simp; done))) | ((with_reducible refine atStore (t := 42) ?_); go_must (refine wpList_storeH (t := 42) (cs' := cs) rfl rfl (by go_simp <;> first | rfl | exact ⟨rfl, rfl⟩) (by go_simp <;> first | rfl | exact ⟨rfl, rfl⟩) (by exact Hp.norm (by (repeat (first | with_reducible exact H | with_reducible exact H0_ | with_reducible apply Hp.alloc | with_reducible apply Hp.allocMap | with_reducible apply Hp.drew | with_reducible apply Hp.drewN | with_reducible apply Hp.set)); (try any_goals (repeat (first | with_reducible exact Upd.head | with_reducible apply Upd.tail)))) (by ((try simp only [size_drew_, size_drewN_, World.size_alloc, World.size_setCell, List.set_cons_zero, List.set_cons_succ, List.nil_append, List.cons_append]) <;> rfl))) (by (repeat (first | with_reducible exact Upd.head | with_reducible apply Upd.tail))) (by rw [HL.out]; exact aggDecl) (by rw [HL.out]; rfl) one.out ?_; clear H; intro w3 H; (try simp only [size_drew_, size_drewN_, World.size_alloc, World.size_setCell, List.set_cons_zero, List.set_cons_succ] at H); have hr2_ := H.rules; simp only [Rules, and_true] at hr2_; have hs2_ := H.ext.size)))
        (try clear hr2_ hs2_)
        go_ret
        exact ⟨by rw [HB.out]; rfl, H.ext⟩
    · have gq : ((ls.length : Int) == L) = false := by simpa using q
      have HB : Hid (ctorQ ds (.mk 9 (j : Int) a ls ks) = false) := by unfold Hid ctorQ; simp only [Tm.n_mk, Tm.ls_mk, Tm.a_mk]; rw [HAT.out, if_neg q]
      clear k3 q
      go_enter Tryd.func111, Tryd.ntmps111
      have H := Hp.start no w
      go_upto_region 7 with fail
      refine codeH (by (repeat (first | with_reducible exact H | with_reducible exact H0_ | with_reducible apply Hp.alloc | with_reducible apply Hp.allocMap | with_reducible apply Hp.drew | with_reducible apply Hp.drewN | with_reducible apply Hp.set)); (try any_goals (repeat (first | with_reducible exact Upd.head | with_reducible apply Upd.tail)))) ?_
      clear H; intro w1 H; (try simp only [size_drew_, size_drewN_, World.size_alloc, World.size_setCell, List.set_cons_zero, List.set_cons_succ] at H)
      have hr_ := H.rules; simp only [Rules, and_true] at hr_; have hd_ := H.dif; simp only [Dif, Neq, and_true] at hd_; obtain ⟨ho_, hz_⟩ := H.old0
      go_wp2_with (first | ((with_reducible refine atLoad (t := 42) ?_); (refine wpList_run (v := .agg (cs).toArray) rfl (run_loadL aggDecl rfl ?_ HL.out (H.lies hb no_not HI.out)) ?_); (focus (go_simp; done))) | ((with_reducible refine atStore (t := 42) ?_); go_must (refine wpList_storeH (t := 42) (cs' := cs) rfl rfl (by go_simp <;> first | rfl | exact ⟨rfl, rfl⟩) (by go_simp <;> first | rfl | exact ⟨rfl, rfl⟩) (by exact Hp.norm (by (repeat (first | with_reducible exact H | with_reducible exact H0_ | with_reducible apply Hp.alloc | with_reducible apply Hp.allocMap | with_reducible apply Hp.drew | with_reducible apply Hp.drewN | with_reducible apply Hp.set)); (try any_goals (repeat (first | with_reducible exact Upd.head | with_reducible apply Upd.tail)))) (by ((try simp only [size_drew_, size_drewN_, World.size_alloc, World.size_setCell, List.set_cons_zero, List.set_cons_succ, List.nil_append, List.cons_append]) <;> rfl))) (by (repeat (first | with_reducible exact Upd.head | with_reducible apply Upd.tail))) (by rw [HL.out]; exact aggDecl) (by rw [HL.out]; rfl) one.out ?_; clear H; intro w3 H; (try simp only [size_drew_, size_drewN_, World.size_alloc, World.size_setCell, List.set_cons_zero, List.set_cons_succ] at H); have hr2_ := H.rules; simp only [Rules, and_true] at hr2_; have hs2_ := H.ext.size)))
      (try clear hr2_ hs2_)
      go_ret
      exact ⟨by rw [HB.out]; rfl, H.ext⟩
  · have gk : (d.kind == 3) = false := by simpa using k3
    have HB : Hid (ctorQ ds (.mk 9 (j : Int) a ls ks) = false) := by unfold Hid ctorQ; simp only [Tm.n_mk, Tm.ls_mk, Tm.a_mk]; rw [HAT.out]; split <;> simp_all
    clear k3
    go_enter Tryd.func111, Tryd.ntmps111
    have H := Hp.start no w
    go_upto_region 7 with fail
    refine codeH (by (repeat (first | with_reducible exact H | with_reducible exact H0_ | with_reducible apply Hp.alloc | with_reducible apply Hp.allocMap | with_reducible apply Hp.drew | with_reducible apply Hp.drewN | with_reducible apply Hp.set)); (try any_goals (repeat (first | with_reducible exact Upd.head | with_reducible apply Upd.tail)))) ?_
    clear H; intro w1 H; (try simp only [size_drew_, size_drewN_, World.size_alloc, World.size_setCell, List.set_cons_zero, List.set_cons_succ] at H)
    have hr_ := H.rules; simp only [Rules, and_true] at hr_; have hd_ := H.dif; simp only [Dif, Neq, and_true] at hd_; obtain ⟨ho_, hz_⟩ := H.old0
    go_wp2_with (first | ((with_reducible refine atLoad (t := 42) ?_); (refine wpList_run (v := .agg (cs).toArray) rfl (run_loadL aggDecl rfl ?_ HL.out (H.lies hb no_not HI.out)) ?_); (focus (go_simp; done))) | ((with_reducible refine atStore (t := 42) ?_); go_must (refine wpList_storeH (t := 42) (cs' := cs) rfl rfl (by go_simp <;> first | rfl | exact ⟨rfl, rfl⟩) (by go_simp <;> first | rfl | exact ⟨rfl, rfl⟩) (by exact Hp.norm (by (repeat (first | with_reducible exact H | with_reducible exact H0_ | with_reducible apply Hp.alloc | with_reducible apply Hp.allocMap | with_reducible apply Hp.drew | with_reducible apply Hp.drewN | with_reducible apply Hp.set)); (try any_goals (repeat (first | with_reducible exact Upd.head | with_reducible apply Upd.tail)))) (by ((try simp only [size_drew_, size_drewN_, World.size_alloc, World.size_setCell, List.set_cons_zero, List.set_cons_succ, List.nil_append, List.cons_append]) <;> rfl))) (by (repeat (first | with_reducible exact Upd.head | with_reducible apply Upd.tail))) (by rw [HL.out]; exact aggDecl) (by rw [HL.out]; rfl) one.out ?_; clear H; intro w3 H; (try simp only [size_drew_, size_drewN_, World.size_alloc, World.size_setCell, List.set_cons_zero, List.set_cons_succ] at H); have hr2_ := H.rules; simp only [Rules, and_true] at hr2_; have hs2_ := H.ext.size)))
    (try clear hr2_ hs2_)
    go_ret
    exact ⟨by rw [HB.out]; rfl, H.ext⟩
set_option maxRecDepth 100000 in
set_option maxHeartbeats 8000000 in
theorem named_10 {w : World} {S : Nat → Prop} {ds : List Dc} {m a : Int} {ls : List Lv} {ks : List Tm} {A A0 K0 : Option Addr} {c ca ck : Nat} {sf : Int} (h : RC w S (.l 42 16 (ds.map Dc.d)) [.slice A ds.length c]) (h0 : 0 ≤ m) :
    Calls Tryd.prog 111 #[.slice A ds.length c, .int .i64 sf, .agg #[.int .i64 10, .int .i64 m, .int .i64 a, .slice A0 ls.length ca, .slice K0 ks.length ck]] w (PV w (.bool (recQ ds (.mk 10 m a ls ks)))) := by
  have hM := h.lenM
  obtain ⟨j, rfl⟩ := Int.eq_ofNat_of_zero_le h0
  by_cases hlt : j < ds.length
  case neg =>
    have HB : Hid (recQ ds (.mk 10 (j : Int) a ls ks) = false) := by
      have e : declAt ds (j : Int) ls.length 1 = none := by unfold declAt; rw [dif_neg (by simpa using hlt)]
      unfold Hid recQ
      simp only [Tm.n_mk, Tm.ls_mk]
      rw [e]
    go_enter Tryd.func111, Tryd.ntmps111
    go_wp2_with fail
    go_ret
    exact ⟨by rw [HB.out]; rfl, (Ext.refl _ _).alloc _⟩
  obtain ⟨b, o, cs, rfl, hb, hS, hd, hl, hcell⟩ := h.el (i := j) (d := ds[j].d) (by simp [hlt])
  obtain ⟨Am, cm, Ac, cc, hl0, g0, g14, g15, hmm0, hcc0⟩ := hd.dcG
  have g1 := hd.dcL
  have hlm := hd.dcM
  obtain ⟨L, hL⟩ : ∃ L, L = wrap64 (ds[j].levels + 1) := ⟨_, rfl⟩
  have hAt : declAt ds (j : Int) ls.length 1 = if (ls.length : Int) = L then some ds[j] else none := by
    unfold declAt
    rw [dif_pos (by simpa using hlt), hL]
    simp
  have hwL : IntKind.i64.wrap (ds[j].levels + 1) = L := by rw [hL, IntKind.wrap_i64]; unfold wrap64; omega
  have HAT := Lib.hid hAt
  have HI := Lib.hid hcell
  have HL := Lib.hid hl
  have one := Lib.hid (RC.one _ _ hd)
  generalize ds[j] = d at *
  clear hcell hl hd hL hAt hl0 hmm0 hcc0
  by_cases k3 : d.kind = 3
  · have gk : (d.kind == 3) = true := by simpa using k3
    by_cases q : (ls.length : Int) = L
    · have gq : ((ls.length : Int) == L) = true := by simpa using q
      by_cases q2 : a < d.members.length
      · have HB : Hid (recQ ds (.mk 10 (j : Int) a ls ks) = true) := by unfold Hid recQ; simp only [Tm.n_mk, Tm.ls_mk, Tm.a_mk]; rw [HAT.out, if_pos q]; simp [q2, k3]
        clear k3 q
        go_enter Tryd.func111, Tryd.ntmps111
        have H := Hp.start no w
        go_upto_region 7 with fail
        refine codeH (by (repeat (first | with_reducible exact H | with_reducible exact H0_ | with_reducible apply Hp.alloc | with_reducible apply Hp.allocMap | with_reducible apply Hp.drew | with_reducible apply Hp.drewN | with_reducible apply Hp.set)); (try any_goals (repeat (first | with_reducible exact Upd.head | with_reducible apply Upd.tail)))) ?_
        clear H; intro w1 H; (try simp only [size_drew_, size_drewN_, World.size_alloc, World.size_setCell, List.set_cons_zero, List.set_cons_succ] at H)
        have hr_ := H.rules; simp only [Rules, and_true] at hr_; have hd_ := H.dif; simp only [Dif, Neq, and_true] at hd_; obtain ⟨ho_, hz_⟩ := H.old0
        go_wp2_with (first | ((with_reducible refine atLoad (t := 42) ?_); (refine wpList_run (v := .agg (cs).toArray) rfl (run_loadL aggDecl rfl ?_ HL.out (H.lies hb no_not HI.out)) ?_); (focus (go_simp; done))) | ((with_reducible refine atStore (t := 42) ?_); go_must (refine wpList_storeH (t := 42) (cs' := cs) rfl rfl (by go_simp <;> first | rfl | exact ⟨rfl, rfl⟩) (by go_simp <;> first | rfl | exact ⟨rfl, rfl⟩) (by exact Hp.norm (by (repeat (first | with_reducible exact H | with_reducible exact H0_ | with_reducible apply Hp.alloc | with_reducible apply Hp.allocMap | with_reducible apply Hp.drew | with_reducible apply Hp.drewN | with_reducible apply Hp.set)); (try any_goals (repeat (first | with_reducible exact Upd.head | with_reducible apply Upd.tail)))) (by ((try simp only [size_drew_, size_drewN_, World.size_alloc, World.size_setCell, List.set_cons_zero, List.set_cons_succ, List.nil_append, List.cons_append]) <;> rfl))) (by (repeat (first | with_reducible exact Upd.head | with_reducible apply Upd.tail))) (by rw [HL.out]; exact aggDecl) (by rw [HL.out]; rfl) one.out ?_; clear H; intro w3 H; (try simp only [size_drew_, size_drewN_, World.size_alloc, World.size_setCell, List.set_cons_zero, List.set_cons_succ] at H); have hr2_ := H.rules; simp only [Rules, and_true] at hr2_; have hs2_ := H.ext.size)))
        (try clear hr2_ hs2_)
        go_ret
        exact ⟨by rw [HB.out]; rfl, H.ext⟩
      · have HB : Hid (recQ ds (.mk 10 (j : Int) a ls ks) = false) := by unfold Hid recQ; simp only [Tm.n_mk, Tm.ls_mk, Tm.a_mk]; rw [HAT.out, if_pos q]; simp [q2]
        clear k3 q
        go_enter Tryd.func111, Tryd.ntmps111
        have H := Hp.start no w
        go_upto_region 7 with fail
        refine codeH (by (repeat (first | with_reducible exact H | with_reducible exact H0_ | with_reducible apply Hp.alloc | with_reducible apply Hp.allocMap | with_reducible apply Hp.drew | with_reducible apply Hp.drewN | with_reducible apply Hp.set)); (try any_goals (repeat (first | with_reducible exact Upd.head | with_reducible apply Upd.tail)))) ?_
        clear H; intro w1 H; (try simp only [size_drew_, size_drewN_, World.size_alloc, World.size_setCell, List.set_cons_zero, List.set_cons_succ] at H)
        have hr_ := H.rules; simp only [Rules, and_true] at hr_; have hd_ := H.dif; simp only [Dif, Neq, and_true] at hd_; obtain ⟨ho_, hz_⟩ := H.old0
        go_wp2_with (first | ((with_reducible refine atLoad (t := 42) ?_); (refine wpList_run (v := .agg (cs).toArray) rfl (run_loadL aggDecl rfl ?_ HL.out (H.lies hb no_not HI.out)) ?_); (focus (go_simp; done))) | ((with_reducible refine atStore (t := 42) ?_); go_must (refine wpList_storeH (t := 42) (cs' := cs) rfl rfl (by go_simp <;> first | rfl | exact ⟨rfl, rfl⟩) (by go_simp <;> first | rfl | exact ⟨rfl, rfl⟩) (by exact Hp.norm (by (repeat (first | with_reducible exact H | with_reducible exact H0_ | with_reducible apply Hp.alloc | with_reducible apply Hp.allocMap | with_reducible apply Hp.drew | with_reducible apply Hp.drewN | with_reducible apply Hp.set)); (try any_goals (repeat (first | with_reducible exact Upd.head | with_reducible apply Upd.tail)))) (by ((try simp only [size_drew_, size_drewN_, World.size_alloc, World.size_setCell, List.set_cons_zero, List.set_cons_succ, List.nil_append, List.cons_append]) <;> rfl))) (by (repeat (first | with_reducible exact Upd.head | with_reducible apply Upd.tail))) (by rw [HL.out]; exact aggDecl) (by rw [HL.out]; rfl) one.out ?_; clear H; intro w3 H; (try simp only [size_drew_, size_drewN_, World.size_alloc, World.size_setCell, List.set_cons_zero, List.set_cons_succ] at H); have hr2_ := H.rules; simp only [Rules, and_true] at hr2_; have hs2_ := H.ext.size)))
        (try clear hr2_ hs2_)
        go_ret
        exact ⟨by rw [HB.out]; rfl, H.ext⟩
    · have gq : ((ls.length : Int) == L) = false := by simpa using q
      have HB : Hid (recQ ds (.mk 10 (j : Int) a ls ks) = false) := by unfold Hid recQ; simp only [Tm.n_mk, Tm.ls_mk, Tm.a_mk]; rw [HAT.out, if_neg q]
      clear k3 q
      go_enter Tryd.func111, Tryd.ntmps111
      have H := Hp.start no w
      go_upto_region 7 with fail
      refine codeH (by (repeat (first | with_reducible exact H | with_reducible exact H0_ | with_reducible apply Hp.alloc | with_reducible apply Hp.allocMap | with_reducible apply Hp.drew | with_reducible apply Hp.drewN | with_reducible apply Hp.set)); (try any_goals (repeat (first | with_reducible exact Upd.head | with_reducible apply Upd.tail)))) ?_
      clear H; intro w1 H; (try simp only [size_drew_, size_drewN_, World.size_alloc, World.size_setCell, List.set_cons_zero, List.set_cons_succ] at H)
      have hr_ := H.rules; simp only [Rules, and_true] at hr_; have hd_ := H.dif; simp only [Dif, Neq, and_true] at hd_; obtain ⟨ho_, hz_⟩ := H.old0
      go_wp2_with (first | ((with_reducible refine atLoad (t := 42) ?_); (refine wpList_run (v := .agg (cs).toArray) rfl (run_loadL aggDecl rfl ?_ HL.out (H.lies hb no_not HI.out)) ?_); (focus (go_simp; done))) | ((with_reducible refine atStore (t := 42) ?_); go_must (refine wpList_storeH (t := 42) (cs' := cs) rfl rfl (by go_simp <;> first | rfl | exact ⟨rfl, rfl⟩) (by go_simp <;> first | rfl | exact ⟨rfl, rfl⟩) (by exact Hp.norm (by (repeat (first | with_reducible exact H | with_reducible exact H0_ | with_reducible apply Hp.alloc | with_reducible apply Hp.allocMap | with_reducible apply Hp.drew | with_reducible apply Hp.drewN | with_reducible apply Hp.set)); (try any_goals (repeat (first | with_reducible exact Upd.head | with_reducible apply Upd.tail)))) (by ((try simp only [size_drew_, size_drewN_, World.size_alloc, World.size_setCell, List.set_cons_zero, List.set_cons_succ, List.nil_append, List.cons_append]) <;> rfl))) (by (repeat (first | with_reducible exact Upd.head | with_reducible apply Upd.tail))) (by rw [HL.out]; exact aggDecl) (by rw [HL.out]; rfl) one.out ?_; clear H; intro w3 H; (try simp only [size_drew_, size_drewN_, World.size_alloc, World.size_setCell, List.set_cons_zero, List.set_cons_succ] at H); have hr2_ := H.rules; simp only [Rules, and_true] at hr2_; have hs2_ := H.ext.size)))
      (try clear hr2_ hs2_)
      go_ret
      exact ⟨by rw [HB.out]; rfl, H.ext⟩
  · have gk : (d.kind == 3) = false := by simpa using k3
    have HB : Hid (recQ ds (.mk 10 (j : Int) a ls ks) = false) := by unfold Hid recQ; simp only [Tm.n_mk, Tm.ls_mk, Tm.a_mk]; rw [HAT.out]; split <;> simp_all
    clear k3
    go_enter Tryd.func111, Tryd.ntmps111
    have H := Hp.start no w
    go_upto_region 7 with fail
    refine codeH (by (repeat (first | with_reducible exact H | with_reducible exact H0_ | with_reducible apply Hp.alloc | with_reducible apply Hp.allocMap | with_reducible apply Hp.drew | with_reducible apply Hp.drewN | with_reducible apply Hp.set)); (try any_goals (repeat (first | with_reducible exact Upd.head | with_reducible apply Upd.tail)))) ?_
    clear H; intro w1 H; (try simp only [size_drew_, size_drewN_, World.size_alloc, World.size_setCell, List.set_cons_zero, List.set_cons_succ] at H)
    have hr_ := H.rules; simp only [Rules, and_true] at hr_; have hd_ := H.dif; simp only [Dif, Neq, and_true] at hd_; obtain ⟨ho_, hz_⟩ := H.old0
    go_wp2_with (first | ((with_reducible refine atLoad (t := 42) ?_); (refine wpList_run (v := .agg (cs).toArray) rfl (run_loadL aggDecl rfl ?_ HL.out (H.lies hb no_not HI.out)) ?_); (focus (go_simp; done))) | ((with_reducible refine atStore (t := 42) ?_); go_must (refine wpList_storeH (t := 42) (cs' := cs) rfl rfl (by go_simp <;> first | rfl | exact ⟨rfl, rfl⟩) (by go_simp <;> first | rfl | exact ⟨rfl, rfl⟩) (by exact Hp.norm (by (repeat (first | with_reducible exact H | with_reducible exact H0_ | with_reducible apply Hp.alloc | with_reducible apply Hp.allocMap | with_reducible apply Hp.drew | with_reducible apply Hp.drewN | with_reducible apply Hp.set)); (try any_goals (repeat (first | with_reducible exact Upd.head | with_reducible apply Upd.tail)))) (by ((try simp only [size_drew_, size_drewN_, World.size_alloc, World.size_setCell, List.set_cons_zero, List.set_cons_succ, List.nil_append, List.cons_append]) <;> rfl))) (by (repeat (first | with_reducible exact Upd.head | with_reducible apply Upd.tail))) (by rw [HL.out]; exact aggDecl) (by rw [HL.out]; rfl) one.out ?_; clear H; intro w3 H; (try simp only [size_drew_, size_drewN_, World.size_alloc, World.size_setCell, List.set_cons_zero, List.set_cons_succ] at H); have hr2_ := H.rules; simp only [Rules, and_true] at hr2_; have hs2_ := H.ext.size)))
    (try clear hr2_ hs2_)
    go_ret
    exact ⟨by rw [HB.out]; rfl, H.ext⟩
set_option maxRecDepth 100000 in
set_option maxHeartbeats 8000000 in
theorem named_3 {w : World} {S : Nat → Prop} {ds : List Dc} {m a : Int} {ls : List Lv} {ks : List Tm} {A A0 K0 : Option Addr} {c ca ck : Nat} {sf : Int} (h : RC w S (.l 42 16 (ds.map Dc.d)) [.slice A ds.length c]) (h0 : 0 ≤ m) :
    Calls Tryd.prog 111 #[.slice A ds.length c, .int .i64 sf, .agg #[.int .i64 3, .int .i64 m, .int .i64 a, .slice A0 ls.length ca, .slice K0 ks.length ck]] w (PV w (.bool (constQ ds (.mk 3 m a ls ks)))) := by
  have hM := h.lenM
  obtain ⟨j, rfl⟩ := Int.eq_ofNat_of_zero_le h0
  by_cases hlt : j < ds.length
  case neg =>
    have HB : Hid (constQ ds (.mk 3 (j : Int) a ls ks) = false) := by
      have e : declAt ds (j : Int) ls.length 0 = none := by unfold declAt; rw [dif_neg (by simpa using hlt)]
      unfold Hid constQ
      simp only [Tm.n_mk, Tm.ls_mk]
      rw [e]
    go_enter Tryd.func111, Tryd.ntmps111
    go_wp2_with fail
    go_ret
    exact ⟨by rw [HB.out]; rfl, (Ext.refl _ _).alloc _⟩
  obtain ⟨b, o, cs, rfl, hb, hS, hd, hl, hcell⟩ := h.el (i := j) (d := ds[j].d) (by simp [hlt])
  obtain ⟨Am, cm, Ac, cc, hl0, g0, g14, g15, hmm0, hcc0⟩ := hd.dcG
  have g1 := hd.dcL
  have hlm := hd.dcM
  obtain ⟨L, hL⟩ : ∃ L, L = wrap64 (ds[j].levels + 0) := ⟨_, rfl⟩
  have hAt : declAt ds (j : Int) ls.length 0 = if (ls.length : Int) = L then some ds[j] else none := by
    unfold declAt
    rw [dif_pos (by simpa using hlt), hL]
    simp
  rw [wrap_inI hd.dcI.2] at hL; rw [← hL] at g1
  have HAT := Lib.hid hAt
  have HI := Lib.hid hcell
  have HL := Lib.hid hl
  have one := Lib.hid (RC.one _ _ hd)
  generalize ds[j] = d at *
  clear hcell hl hd hL hAt hl0 hmm0 hcc0
  by_cases k1 : d.kind = 1 ∨ d.kind = 2
  · by_cases q : (ls.length : Int) = L
    · have gq : ((ls.length : Int) == L) = true := by simpa using q
      have HB : Hid (constQ ds (.mk 3 (j : Int) a ls ks) = true) := by unfold Hid constQ; simp only [Tm.n_mk, Tm.ls_mk, Tm.a_mk]; rw [HAT.out, if_pos q]; simp [k1]
      clear q
      rcases k1 with k1 | k1
      · rw [k1] at g0
        clear k1
        go_enter Tryd.func111, Tryd.ntmps111
        have H := Hp.start no w
        go_upto_region 7 with fail
        refine codeH (by (repeat (first | with_reducible exact H | with_reducible exact H0_ | with_reducible apply Hp.alloc | with_reducible apply Hp.allocMap | with_reducible apply Hp.drew | with_reducible apply Hp.drewN | with_reducible apply Hp.set)); (try any_goals (repeat (first | with_reducible exact Upd.head | with_reducible apply Upd.tail)))) ?_
        clear H; intro w1 H; (try simp only [size_drew_, size_drewN_, World.size_alloc, World.size_setCell, List.set_cons_zero, List.set_cons_succ] at H)
        have hr_ := H.rules; simp only [Rules, and_true] at hr_; have hd_ := H.dif; simp only [Dif, Neq, and_true] at hd_; obtain ⟨ho_, hz_⟩ := H.old0
        go_wp2_with (first | ((with_reducible refine atLoad (t := 42) ?_); (refine wpList_run (v := .agg (cs).toArray) rfl (run_loadL aggDecl rfl ?_ HL.out (H.lies hb no_not HI.out)) ?_); (focus (go_simp; done))) | ((with_reducible refine atStore (t := 42) ?_); go_must (refine wpList_storeH (t := 42) (cs' := cs) rfl rfl (by go_simp <;> first | rfl | exact ⟨rfl, rfl⟩) (by go_simp <;> first | rfl | exact ⟨rfl, rfl⟩) (by exact Hp.norm (by (repeat (first | with_reducible exact H | with_reducible exact H0_ | with_reducible apply Hp.alloc | with_reducible apply Hp.allocMap | with_reducible apply Hp.drew | with_reducible apply Hp.drewN | with_reducible apply Hp.set)); (try any_goals (repeat (first | with_reducible exact Upd.head | with_reducible apply Upd.tail)))) (by ((try simp only [size_drew_, size_drewN_, World.size_alloc, World.size_setCell, List.set_cons_zero, List.set_cons_succ, List.nil_append, List.cons_append]) <;> rfl))) (by (repeat (first | with_reducible exact Upd.head | with_reducible apply Upd.tail))) (by rw [HL.out]; exact aggDecl) (by rw [HL.out]; rfl) one.out ?_; clear H; intro w3 H; (try simp only [size_drew_, size_drewN_, World.size_alloc, World.size_setCell, List.set_cons_zero, List.set_cons_succ] at H); have hr2_ := H.rules; simp only [Rules, and_true] at hr2_; have hs2_ := H.ext.size)))
        (try clear hr2_ hs2_)
        go_ret
        exact ⟨by rw [HB.out]; rfl, H.ext⟩
      · rw [k1] at g0
        clear k1
        go_enter Tryd.func111, Tryd.ntmps111
        have H := Hp.start no w
        go_upto_region 7 with fail
        refine codeH (by (repeat (first | with_reducible exact H | with_reducible exact H0_ | with_reducible apply Hp.alloc | with_reducible apply Hp.allocMap | with_reducible apply Hp.drew | with_reducible apply Hp.drewN | with_reducible apply Hp.set)); (try any_goals (repeat (first | with_reducible exact Upd.head | with_reducible apply Upd.tail)))) ?_
        clear H; intro w1 H; (try simp only [size_drew_, size_drewN_, World.size_alloc, World.size_setCell, List.set_cons_zero, List.set_cons_succ] at H)
        have hr_ := H.rules; simp only [Rules, and_true] at hr_; have hd_ := H.dif; simp only [Dif, Neq, and_true] at hd_; obtain ⟨ho_, hz_⟩ := H.old0
        go_wp2_with (first | ((with_reducible refine atLoad (t := 42) ?_); (refine wpList_run (v := .agg (cs).toArray) rfl (run_loadL aggDecl rfl ?_ HL.out (H.lies hb no_not HI.out)) ?_); (focus (go_simp; done))) | ((with_reducible refine atStore (t := 42) ?_); go_must (refine wpList_storeH (t := 42) (cs' := cs) rfl rfl (by go_simp <;> first | rfl | exact ⟨rfl, rfl⟩) (by go_simp <;> first | rfl | exact ⟨rfl, rfl⟩) (by exact Hp.norm (by (repeat (first | with_reducible exact H | with_reducible exact H0_ | with_reducible apply Hp.alloc | with_reducible apply Hp.allocMap | with_reducible apply Hp.drew | with_reducible apply Hp.drewN | with_reducible apply Hp.set)); (try any_goals (repeat (first | with_reducible exact Upd.head | with_reducible apply Upd.tail)))) (by ((try simp only [size_drew_, size_drewN_, World.size_alloc, World.size_setCell, List.set_cons_zero, List.set_cons_succ, List.nil_append, List.cons_append]) <;> rfl))) (by (repeat (first | with_reducible exact Upd.head | with_reducible apply Upd.tail))) (by rw [HL.out]; exact aggDecl) (by rw [HL.out]; rfl) one.out ?_; clear H; intro w3 H; (try simp only [size_drew_, size_drewN_, World.size_alloc, World.size_setCell, List.set_cons_zero, List.set_cons_succ] at H); have hr2_ := H.rules; simp only [Rules, and_true] at hr2_; have hs2_ := H.ext.size)))
        (try clear hr2_ hs2_)
        go_ret
        exact ⟨by rw [HB.out]; rfl, H.ext⟩
    · have gq : ((ls.length : Int) == L) = false := by simpa using q
      have HB : Hid (constQ ds (.mk 3 (j : Int) a ls ks) = false) := by unfold Hid constQ; simp only [Tm.n_mk, Tm.ls_mk, Tm.a_mk]; rw [HAT.out, if_neg q]
      clear q
      rcases k1 with k1 | k1
      · rw [k1] at g0
        clear k1
        go_enter Tryd.func111, Tryd.ntmps111
        have H := Hp.start no w
        go_upto_region 7 with fail
        refine codeH (by (repeat (first | with_reducible exact H | with_reducible exact H0_ | with_reducible apply Hp.alloc | with_reducible apply Hp.allocMap | with_reducible apply Hp.drew | with_reducible apply Hp.drewN | with_reducible apply Hp.set)); (try any_goals (repeat (first | with_reducible exact Upd.head | with_reducible apply Upd.tail)))) ?_
        clear H; intro w1 H; (try simp only [size_drew_, size_drewN_, World.size_alloc, World.size_setCell, List.set_cons_zero, List.set_cons_succ] at H)
        have hr_ := H.rules; simp only [Rules, and_true] at hr_; have hd_ := H.dif; simp only [Dif, Neq, and_true] at hd_; obtain ⟨ho_, hz_⟩ := H.old0
        go_wp2_with (first | ((with_reducible refine atLoad (t := 42) ?_); (refine wpList_run (v := .agg (cs).toArray) rfl (run_loadL aggDecl rfl ?_ HL.out (H.lies hb no_not HI.out)) ?_); (focus (go_simp; done))) | ((with_reducible refine atStore (t := 42) ?_); go_must (refine wpList_storeH (t := 42) (cs' := cs) rfl rfl (by go_simp <;> first | rfl | exact ⟨rfl, rfl⟩) (by go_simp <;> first | rfl | exact ⟨rfl, rfl⟩) (by exact Hp.norm (by (repeat (first | with_reducible exact H | with_reducible exact H0_ | with_reducible apply Hp.alloc | with_reducible apply Hp.allocMap | with_reducible apply Hp.drew | with_reducible apply Hp.drewN | with_reducible apply Hp.set)); (try any_goals (repeat (first | with_reducible exact Upd.head | with_reducible apply Upd.tail)))) (by ((try simp only [size_drew_, size_drewN_, World.size_alloc, World.size_setCell, List.set_cons_zero, List.set_cons_succ, List.nil_append, List.cons_append]) <;> rfl))) (by (repeat (first | with_reducible exact Upd.head | with_reducible apply Upd.tail))) (by rw [HL.out]; exact aggDecl) (by rw [HL.out]; rfl) one.out ?_; clear H; intro w3 H; (try simp only [size_drew_, size_drewN_, World.size_alloc, World.size_setCell, List.set_cons_zero, List.set_cons_succ] at H); have hr2_ := H.rules; simp only [Rules, and_true] at hr2_; have hs2_ := H.ext.size)))
        (try clear hr2_ hs2_)
        go_ret
        exact ⟨by rw [HB.out]; rfl, H.ext⟩
      · rw [k1] at g0
        clear k1
        go_enter Tryd.func111, Tryd.ntmps111
        have H := Hp.start no w
        go_upto_region 7 with fail
        refine codeH (by (repeat (first | with_reducible exact H | with_reducible exact H0_ | with_reducible apply Hp.alloc | with_reducible apply Hp.allocMap | with_reducible apply Hp.drew | with_reducible apply Hp.drewN | with_reducible apply Hp.set)); (try any_goals (repeat (first | with_reducible exact Upd.head | with_reducible apply Upd.tail)))) ?_
        clear H; intro w1 H; (try simp only [size_drew_, size_drewN_, World.size_alloc, World.size_setCell, List.set_cons_zero, List.set_cons_succ] at H)
        have hr_ := H.rules; simp only [Rules, and_true] at hr_; have hd_ := H.dif; simp only [Dif, Neq, and_true] at hd_; obtain ⟨ho_, hz_⟩ := H.old0
        go_wp2_with (first | ((with_reducible refine atLoad (t := 42) ?_); (refine wpList_run (v := .agg (cs).toArray) rfl (run_loadL aggDecl rfl ?_ HL.out (H.lies hb no_not HI.out)) ?_); (focus (go_simp; done))) | ((with_reducible refine atStore (t := 42) ?_); go_must (refine wpList_storeH (t := 42) (cs' := cs) rfl rfl (by go_simp <;> first | rfl | exact ⟨rfl, rfl⟩) (by go_simp <;> first | rfl | exact ⟨rfl, rfl⟩) (by exact Hp.norm (by (repeat (first | with_reducible exact H | with_reducible exact H0_ | with_reducible apply Hp.alloc | with_reducible apply Hp.allocMap | with_reducible apply Hp.drew | with_reducible apply Hp.drewN | with_reducible apply Hp.set)); (try any_goals (repeat (first | with_reducible exact Upd.head | with_reducible apply Upd.tail)))) (by ((try simp only [size_drew_, size_drewN_, World.size_alloc, World.size_setCell, List.set_cons_zero, List.set_cons_succ, List.nil_append, List.cons_append]) <;> rfl))) (by (repeat (first | with_reducible exact Upd.head | with_reducible apply Upd.tail))) (by rw [HL.out]; exact aggDecl) (by rw [HL.out]; rfl) one.out ?_; clear H; intro w3 H; (try simp only [size_drew_, size_drewN_, World.size_alloc, World.size_setCell, List.set_cons_zero, List.set_cons_succ] at H); have hr2_ := H.rules; simp only [Rules, and_true] at hr2_; have hs2_ := H.ext.size)))
        (try clear hr2_ hs2_)
        go_ret
        exact ⟨by rw [HB.out]; rfl, H.ext⟩
  · have e1 : (d.kind == 1) = false := by simp; omega
    have e2 : (d.kind == 2) = false := by simp; omega
    have HB : Hid (constQ ds (.mk 3 (j : Int) a ls ks) = false) := by unfold Hid constQ; simp only [Tm.n_mk, Tm.ls_mk, Tm.a_mk]; rw [HAT.out]; split <;> simp_all
    clear k1
    go_enter Tryd.func111, Tryd.ntmps111
    have H := Hp.start no w
    go_upto_region 7 with fail
    refine codeH (by (repeat (first | with_reducible exact H | with_reducible exact H0_ | with_reducible apply Hp.alloc | with_reducible apply Hp.allocMap | with_reducible apply Hp.drew | with_reducible apply Hp.drewN | with_reducible apply Hp.set)); (try any_goals (repeat (first | with_reducible exact Upd.head | with_reducible apply Upd.tail)))) ?_
    clear H; intro w1 H; (try simp only [size_drew_, size_drewN_, World.size_alloc, World.size_setCell, List.set_cons_zero, List.set_cons_succ] at H)
    have hr_ := H.rules; simp only [Rules, and_true] at hr_; have hd_ := H.dif; simp only [Dif, Neq, and_true] at hd_; obtain ⟨ho_, hz_⟩ := H.old0
    go_wp2_with (first | ((with_reducible refine atLoad (t := 42) ?_); (refine wpList_run (v := .agg (cs).toArray) rfl (run_loadL aggDecl rfl ?_ HL.out (H.lies hb no_not HI.out)) ?_); (focus (go_simp; done))) | ((with_reducible refine atStore (t := 42) ?_); go_must (refine wpList_storeH (t := 42) (cs' := cs) rfl rfl (by go_simp <;> first | rfl | exact ⟨rfl, rfl⟩) (by go_simp <;> first | rfl | exact ⟨rfl, rfl⟩) (by exact Hp.norm (by (repeat (first | with_reducible exact H | with_reducible exact H0_ | with_reducible apply Hp.alloc | with_reducible apply Hp.allocMap | with_reducible apply Hp.drew | with_reducible apply Hp.drewN | with_reducible apply Hp.set)); (try any_goals (repeat (first | with_reducible exact Upd.head | with_reducible apply Upd.tail)))) (by ((try simp only [size_drew_, size_drewN_, World.size_alloc, World.size_setCell, List.set_cons_zero, List.set_cons_succ, List.nil_append, List.cons_append]) <;> rfl))) (by (repeat (first | with_reducible exact Upd.head | with_reducible apply Upd.tail))) (by rw [HL.out]; exact aggDecl) (by rw [HL.out]; rfl) one.out ?_; clear H; intro w3 H; (try simp only [size_drew_, size_drewN_, World.size_alloc, World.size_setCell, List.set_cons_zero, List.set_cons_succ] at H); have hr2_ := H.rules; simp only [Rules, and_true] at hr2_; have hs2_ := H.ext.size)))
    (try clear hr2_ hs2_)
    go_ret
    exact ⟨by rw [HB.out]; rfl, H.ext⟩
set_option maxRecDepth 100000 in
set_option maxHeartbeats 8000000 in
theorem named_calls {w : World} {S S1 : Nat → Prop} {ds : List Dc} {t : Tm} {v : Value} {A : Option Addr} {c : Nat} {sf : Int} (h : RC w S (.l 42 16 (ds.map Dc.d)) [.slice A ds.length c]) (ht : TV w S1 t v) (h0 : 0 ≤ t.n) :
    Calls Tryd.prog 111 #[.slice A ds.length c, .int .i64 sf, v] w (PV w (.bool (askR ds sf t))) := by
  obtain ⟨A0, ca, K0, ck, rfl, hrc⟩ := ht
  clear hrc
  obtain ⟨k, m, a, ls, ks⟩ := t
  simp only [Tm.ls_mk, Tm.ks_mk, Tm.k_mk, Tm.n_mk, Tm.a_mk] at h0 ⊢
  by_cases k11 : k = 11
  · subst k11
    by_cases q : a < sf
    · have HB : Hid (askR ds sf (.mk 11 m a ls ks) = true) := by unfold Hid askR; simp [Tm.k_mk, Tm.a_mk, q]
      go_enter Tryd.func111, Tryd.ntmps111
      go_wp2_with fail
      go_ret
      exact ⟨by rw [HB.out]; rfl, (Ext.refl _ _).alloc _⟩
    · have HB : Hid (askR ds sf (.mk 11 m a ls ks) = false) := by unfold Hid askR; simp [Tm.k_mk, Tm.a_mk, q]
      go_enter Tryd.func111, Tryd.ntmps111
      go_wp2_with fail
      go_ret
      exact ⟨by rw [HB.out]; rfl, (Ext.refl _ _).alloc _⟩
  by_cases k3 : k = 3
  · subst k3; exact named_3 h h0
  by_cases k8 : k = 8
  · subst k8; exact named_8 h h0
  by_cases k9 : k = 9
  · subst k9; exact named_9 h h0
  by_cases k10 : k = 10
  · subst k10; exact named_10 h h0
  have hA : askR ds sf (.mk k m a ls ks) = decide (1 ≤ k ∧ k ≤ 7) := by
    unfold askR
    rw [if_neg (show ¬ Tm.k (.mk k m a ls ks) = 11 from k11), if_neg (show ¬ Tm.k (.mk k m a ls ks) = 3 from k3), if_neg (show ¬ Tm.k (.mk k m a ls ks) = 8 from k8), if_neg (show ¬ Tm.k (.mk k m a ls ks) = 9 from k9), if_neg (show ¬ Tm.k (.mk k m a ls ks) = 10 from k10)]
    rfl
  have g11 : (k == 11) = false := by simpa using k11
  have HA := Lib.hid hA
  clear hA
  by_cases c1 : k < 3
  · by_cases c2 : 1 ≤ k
    · have HB : Hid (askR ds sf (.mk k m a ls ks) = true) := by unfold Hid; rw [HA.out, decide_eq_true (by omega)]
      have c3 : k ≤ 7 := by omega
      clear k11 k3 k8 k9 k10
      go_enter Tryd.func111, Tryd.ntmps111
      go_wp2_with fail
      go_ret
      exact ⟨by rw [HB.out]; rfl, (Ext.refl _ _).alloc _⟩
    · have HB : Hid (askR ds sf (.mk k m a ls ks) = false) := by unfold Hid; rw [HA.out, decide_eq_false (by omega)]
      clear k11 k3 k8 k9 k10
      go_enter Tryd.func111, Tryd.ntmps111
      go_wp2_with fail
      go_ret
      exact ⟨by rw [HB.out]; rfl, (Ext.refl _ _).alloc _⟩
  · by_cases c2 : 10 < k
    · have HB : Hid (askR ds sf (.mk k m a ls ks) = false) := by unfold Hid; rw [HA.out, decide_eq_false (by omega)]
      have c3 : 1 ≤ k := by omega
      have c4 : ¬ k ≤ 7 := by omega
      clear k11 k3 k8 k9 k10
      go_enter Tryd.func111, Tryd.ntmps111
      go_wp2_with fail
      go_ret
      exact ⟨by rw [HB.out]; rfl, (Ext.refl _ _).alloc _⟩
    · have c3 : 3 < k := by omega
      have c4 : k < 8 := by omega
      have c5 : 1 ≤ k := by omega
      have c6 : k ≤ 7 := by omega
      have HB : Hid (askR ds sf (.mk k m a ls ks) = true) := by unfold Hid; rw [HA.out, decide_eq_true (by omega)]
      clear k11 k3 k8 k9 k10
      go_enter Tryd.func111, Tryd.ntmps111
      go_wp2_with fail
      go_ret
      exact ⟨by rw [HB.out]; rfl, (Ext.refl _ _).alloc _⟩
end Go.Proofs.YteelplgdojjakaaDoor
