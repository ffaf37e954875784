/- CarryApart: what the walk answers. No statement of the seat is proved here. -/
import Derived.Test.YteelplgdojjakaaDoorApart0
import Derived.Test.YteelplgdojjakaaDoorApart1
import Derived.Test.YteelplgdojjakaaDoorAwake
import Derived.Test.YteelplgdojjakaaDoorCountD
namespace Go.Proofs.YteelplgdojjakaaDoor
set_option linter.unusedSimpArgs false
set_option linter.unusedVariables false
open Go.RowKit

def nmsAt (i : Nat) (d : Dc) (m : Nat) : List Tm := (List.range m).map (nameAt i d)
theorem nmsAt_zero (i : Nat) (d : Dc) : nmsAt i d 0 = [] := rfl
theorem nmsAt_succ (i : Nat) (d : Dc) (m : Nat) : nmsAt i d (m + 1) = nmsAt i d m ++ [nameAt i d m] := by simp [nmsAt, List.range_succ]
theorem nmsAt_len (i : Nat) (d : Dc) (m : Nat) : (nmsAt i d m).length = m := by simp [nmsAt]
theorem nmsAt_get {i : Nat} {d : Dc} {m k : Nat} (h : k < (nmsAt i d m).length) : (nmsAt i d m)[k] = nameAt i d k := by simp [nmsAt]
theorem namA {i m : Nat} {d : Dc} (h3 : d.kind = 3) (h : m < d.members.length) : nameAt i d (2 * m) = .mk 8 i m [] [] := by
  rw [nameAt, if_pos h3, if_pos (by omega), if_pos (by omega), show 2 * m / 2 = m by omega]
theorem namB {i m : Nat} {d : Dc} (h3 : d.kind = 3) (h : m < d.members.length) : nameAt i d (2 * m + 1) = .mk 10 i m [] [] := by
  rw [nameAt, if_pos h3, if_pos (by omega), if_neg (by omega), show (2 * m + 1) / 2 = m by omega]
theorem namC {i m : Nat} {d : Dc} (h3 : d.kind = 3) : nameAt i d (2 * d.members.length + m) = .mk 9 i m [] [] := by
  rw [nameAt, if_pos h3, if_neg (by omega), show 2 * d.members.length + m - 2 * d.members.length = m by omega]
theorem namD {i : Nat} {d : Dc} (h3 : ¬ d.kind = 3) : nameAt i d 0 = .mk 3 i 0 [] [] := by
  rw [nameAt, if_neg h3]
theorem iN {n : Nat} (h : n ≤ 4294967296) : inI (n : Int) := by unfold inI; omega
theorem bulk_lens {ds : List Dc} (hb : D.bulks (ds.map Dc.d) ≤ 1048576) {k : Nat} (hk : k < ds.length) : 2 * ds[k].members.length + ds[k].ctors.length ≤ 8388608 := by
  have h1 := cntN_bulk ds[k]
  have hm : ds[k].d.bulk ≤ D.bulks (ds.map Dc.d) := D.mem_bulks (List.mem_map_of_mem (List.getElem_mem hk))
  have h2 := D.len_bulks (ds[k].members.map Mb.d)
  have h4 := D.len_bulks (ds[k].ctors.map Ct.d)
  have h3 : D.bulks (ds[k].members.map Mb.d) + D.bulks (ds[k].ctors.map Ct.d) + 1 ≤ ds[k].d.bulk := by
    simp only [Dc.d, D.bulk, D.bulks]
    omega
  simp only [List.length_map] at h2 h4
  omega
set_option maxRecDepth 100000 in
set_option maxHeartbeats 8000000 in
theorem carryApart_calls {w : World} {S : Nat → Prop} {ds : List Dc} {A : Option Addr} {c : Nat} (hT : Tab w) (h : RC w S (.l 42 16 (ds.map Dc.d)) [.slice A ds.length c]) (hb : D.bulks (ds.map Dc.d) ≤ 1048576) :
    Calls Tryd.prog 4 #[.slice A ds.length c] w (PV w (.bool true)) := by
  have hM := h.lenM
  have HT := Lib.hid hT
  have HB := Lib.hid hb
  have HDS := Lib.hid h
  have hNb : baseN ds ds.length ≤ 8388608 := by have := baseN_bulk ds ds.length; omega
  clear hT hb
  go_enter Tryd.func4, Tryd.ntmps4
  go_wp2_with fail
  have H := Hp.start no w
  refine callsH (by (repeat (first | with_reducible exact H | with_reducible exact H0_ | with_reducible apply Hp.alloc | with_reducible apply Hp.allocMap | with_reducible apply Hp.drew | with_reducible apply Hp.drewN | with_reducible apply Hp.set)); (try any_goals (repeat (first | with_reducible exact Upd.head | with_reducible apply Upd.tail)))) ?_
  clear H; intro w1 H; (try simp only [size_drew_, size_drewN_, World.size_alloc, World.size_setCell, List.set_cons_zero, List.set_cons_succ] at H)
  refine (awake21_calls (HT.out.ext H.ext)).mono ?_
  rintro e w_ ⟨rfl, hx⟩
  replace H := H.call hx
  clear hx
  go_wp2_with fail
  refine callsH (by (repeat (first | with_reducible exact H | with_reducible exact H0_ | with_reducible apply Hp.alloc | with_reducible apply Hp.allocMap | with_reducible apply Hp.drew | with_reducible apply Hp.drewN | with_reducible apply Hp.set)); (try any_goals (repeat (first | with_reducible exact Upd.head | with_reducible apply Upd.tail)))) ?_
  clear H; intro w1 H; (try simp only [size_drew_, size_drewN_, World.size_alloc, World.size_setCell, List.set_cons_zero, List.set_cons_succ] at H)
  refine (declsOf_calls (h.ext0 H.ext) 1500).mono ?_
  rintro e w_ ⟨rfl, hx⟩
  replace H := H.call hx
  clear hx
  generalize cntS (declF 1500) 1500 ds 0 = mm
  by_cases hmm : 1500 < mm
  · go_wp2_with fail
    go_ret
    exact ⟨rfl, H.ext⟩
  · go_wp2_with fail
    refine callsH (by (repeat (first | with_reducible exact H | with_reducible exact H0_ | with_reducible apply Hp.alloc | with_reducible apply Hp.allocMap | with_reducible apply Hp.drew | with_reducible apply Hp.drewN | with_reducible apply Hp.set)); (try any_goals (repeat (first | with_reducible exact Upd.head | with_reducible apply Upd.tail)))) ?_
    clear H; intro w1 H; (try simp only [size_drew_, size_drewN_, World.size_alloc, World.size_setCell, List.set_cons_zero, List.set_cons_succ] at H)
    refine (carry_At (h.ext0 H.ext) rfl).mono ?_
    rintro e w_ ⟨B1, Bc, rfl, hacc, hx⟩
    replace H := H.resSl hx hacc
    clear hx hacc
    simp only [List.length_map, atL_len] at H ⊢
    clear hmm
    go_wp2_with fail
    go_loopw [4, 5] (fun a i wr => ∃ j : Nat, j ≤ ds.length ∧ i = .int .i64 j ∧ a = .int .i64 (baseN ds j : Nat) ∧ Hp no w wr [.dat (.l 3 1 ((atL ds).map D.i)) [.slice B1 ds.length Bc]]) (fun _ i _ => ds.length - (intOf i).toNat)
    case atStart => exact ⟨0, Nat.zero_le _, rfl, by rw [baseN_zero]; rfl, H⟩
    case round =>
      clear H
      obtain ⟨j, hj, rfl, rfl, H⟩ := hrel
      by_cases hlt : j < ds.length
      · obtain ⟨b, o, cs, rfl, hb, hS, hd, hl, hcell⟩ := h.el (i := j) (d := ds[j].d) (by simp [hlt])
        have HI := Lib.hid hcell
        have HL := Lib.hid hl
        have HR := Lib.hid hd
        clear hcell hl hd
        have E : wrap64 ((baseN ds j : Int) + countD ds[j]) = (baseN ds (j + 1) : Nat) := by
          have h1 := baseN_le hlt
          rw [countD_nat, baseN_succ hlt, ws (by omega) (by omega)]
          push_cast
          rfl
        have HE := Lib.hid E
        clear E
        have hr_ := H.rules; simp only [Rules, and_true] at hr_; have hd_ := H.dif; simp only [Dif, Neq, and_true] at hd_; obtain ⟨ho_, hz_⟩ := H.old0
        go_wp2_with ((with_reducible refine atLoad (t := 42) ?_); (refine wpList_run (v := .agg (cs).toArray) rfl (run_loadL aggDecl rfl ?_ HL.out (H.lies hb no_not HI.out)) ?_); (focus (go_simp; done)))
        clear hr_ hd_ ho_ hz_
        refine (count_calls ⟨cs, rfl, HR.out.ext0 H.ext⟩).mono ?_
        rintro e w_ ⟨rfl, hx⟩
        replace H := H.call hx
        clear hx
        go_wp2_with fail
        go_roundw
        case rel => exact ⟨j + 1, by omega, by go_num, by rw [← HE.out], H⟩
        case measure => simp [intOf]; omega
      · obtain rfl : j = ds.length := by omega
        obtain ⟨N, HN⟩ : ∃ N, Hid (baseN ds ds.length = N) := ⟨_, Lib.hid rfl⟩
        rw [HN.out] at hNb
        have hmk := fun w => makeBools N (by omega) w
        rw [HN.out]
        go_wp2_with fail
        clear hmk
        refine codeH (by (repeat (first | with_reducible exact H | with_reducible exact H0_ | with_reducible apply Hp.alloc | with_reducible apply Hp.allocMap | with_reducible apply Hp.drew | with_reducible apply Hp.drewN | with_reducible apply Hp.set)); (try any_goals (repeat (first | with_reducible exact Upd.head | with_reducible apply Upd.tail)))) ?_
        clear H; intro w2 H; (try simp only [size_drew_, size_drewN_, World.size_alloc, World.size_setCell, List.set_cons_zero, List.set_cons_succ] at H)
        generalize wr.heap.size = g at H ⊢
        go_loopw [7] (fun i wr => ∃ (k : Nat) (bs : List Bool), k ≤ ds.length ∧ i = .int .i64 k ∧ bs.length = N ∧ (∀ d, Used bs (baseN ds k) d 0) ∧ Hp no w wr [.box g 4 (bcells bs), .dat (.l 3 1 ((atL ds).map D.i)) [.slice B1 ds.length Bc]]) (fun i _ => ds.length - (intOf i).toNat)
        case atStart => exact ⟨0, List.replicate N false, Nat.zero_le _, rfl, by simp, fun d => Used.none, (H.arr (by (repeat (first | with_reducible exact Arr.nil | refine Arr.cons (by (repeat (first | with_reducible exact Pick.head | with_reducible apply Pick.tail))) ?_)) <;> exact Arr.of_subl (by (repeat (first | with_reducible exact Subl.refl _ | with_reducible apply Subl.drop)))))⟩
        case round =>
          clear H
          obtain ⟨k, bs, hk, rfl, hbs, hU, H⟩ := hrel
          by_cases hlt : k < ds.length
          · obtain ⟨b, o, cs, rfl, hb, hS, hd, hl, hcell⟩ := h.el (i := k) (d := ds[k].d) (by simp [hlt])
            obtain ⟨Aty, cty, Kty, kty, Abody, cbody, Kbody, kbody, Aparams, cparams, Asort, csort, Amembers, cmembers, Actors, cctors, rfl, _⟩ := RC.dc.1 hd
            obtain ⟨_, _, _, _, _, _, hm, hc⟩ := hd.dcs
            have hM1 := hm.lenM.1
            have hM2 := hc.lenM.1
            have q0 := hcell 0 _ rfl
            have q14 := hcell 14 _ rfl
            have q15 := hcell 15 _ rfl
            simp only [Nat.add_zero] at q0
            clear hcell hd hl hm hc
            have hbk := bulk_lens HB.out hlt
            have H := H.nil 30 5
            by_cases h3 : ds[k].kind = 3
            · have HNN : Hid (nNames ds[k] = 2 * ds[k].members.length + ds[k].ctors.length) := by unfold Hid nNames; rw [if_pos h3]
              have hr_ := H.rules; simp only [Rules, and_true] at hr_; have hd_ := H.dif; simp only [Dif, Neq, and_true] at hd_; obtain ⟨ho_, hz_⟩ := H.old0
              go_wp2_with fail
              clear hr_ hd_ ho_ hz_
              go_loopw [8, 9] (fun v i wr => ∃ j : Nat, j ≤ ds[k].members.length ∧ i = .int .i64 j ∧ Hp no w wr [.dat (.l 30 5 ((nmsAt k ds[k] (2 * j)).map Tm.d)) [v], .box g 4 (bcells bs), .dat (.l 3 1 ((atL ds).map D.i)) [.slice B1 ds.length Bc]]) (fun _ i _ => ds[k].members.length - (intOf i).toNat)
              case atStart => exact ⟨0, Nat.zero_le _, rfl, H⟩
              case round =>
                clear H
                obtain ⟨j, hj, rfl, H⟩ := hrel
                by_cases hlj : j < ds[k].members.length
                · have hr_ := H.rules; simp only [Rules, and_true] at hr_; have hd_ := H.dif; simp only [Dif, Neq, and_true] at hd_; obtain ⟨ho_, hz_⟩ := H.old0
                  go_wp2_with fail
                  clear hr_ hd_ ho_ hz_
                  refine callsH (by (repeat (first | with_reducible exact H | with_reducible exact H0_ | with_reducible apply Hp.alloc | with_reducible apply Hp.allocMap | with_reducible apply Hp.drew | with_reducible apply Hp.drewN | with_reducible apply Hp.set)); (try any_goals (repeat (first | with_reducible exact Upd.head | with_reducible apply Upd.tail)))) ?_
                  clear H; intro w1 H; (try simp only [size_drew_, size_drewN_, World.size_alloc, World.size_setCell, List.set_cons_zero, List.set_cons_succ] at H)
                  refine (name21_calls (k := 8) (n := k) (a := j) (iN (by decide)) (iN (by omega)) (iN (by omega))).mono ?_
                  rintro e w_ ⟨v, rfl, hto, hx⟩
                  obtain ⟨D1, Dc, D2, Dk, rfl, H_⟩ := H.resTm hx hto
                  clear H hx hto
                  have H := H_
                  clear H_
                  go_wp2_with fail
                  refine callsH (by (repeat (first | with_reducible exact H | with_reducible exact H0_ | with_reducible apply Hp.alloc | with_reducible apply Hp.allocMap | with_reducible apply Hp.drew | with_reducible apply Hp.drewN | with_reducible apply Hp.set)); (try any_goals (repeat (first | with_reducible exact Upd.head | with_reducible apply Upd.tail)))) ?_
                  clear H; intro w1 H; (try simp only [size_drew_, size_drewN_, World.size_alloc, World.size_setCell, List.set_cons_zero, List.set_cons_succ] at H)
                  refine (name21_calls (k := 10) (n := k) (a := j) (iN (by decide)) (iN (by omega)) (iN (by omega))).mono ?_
                  rintro e w_ ⟨v, rfl, hto, hx⟩
                  obtain ⟨E1, Ec, E2, Ek, rfl, H_⟩ := H.resTm hx hto
                  clear H hx hto
                  have H := H_
                  clear H_
                  simp only [Tm.k_mk, Tm.n_mk, Tm.a_mk, Tm.ls_mk, Tm.ks_mk, List.length_nil] at H ⊢
                  have H := (H.one1 (d := (Tm.mk 8 k j [] []).d) (by (repeat (first | with_reducible exact Pick.head | with_reducible apply Pick.tail)))).one1 (d := (Tm.mk 10 k j [] []).d) (by (repeat (first | with_reducible exact Pick.head | with_reducible apply Pick.tail)))
                  have H := H.join (a := [(Tm.mk 8 k j [] []).d]) (b := [(Tm.mk 10 k j [] []).d]) (by (repeat (first | with_reducible exact Pick.head | with_reducible apply Pick.tail))) (by (repeat (first | with_reducible exact Pick.head | with_reducible apply Pick.tail)))
                  simp only [List.nil_append, List.cons_append] at H
                  obtain ⟨EE⟩ : Nonempty (Hid ((nmsAt k ds[k] (2 * (j + 1))).map Tm.d = (nmsAt k ds[k] (2 * j)).map Tm.d ++ [(Tm.mk 8 k j [] []).d, (Tm.mk 10 k j [] []).d])) := ⟨by unfold Hid; rw [show 2 * (j + 1) = 2 * j + 1 + 1 by omega, nmsAt_succ, nmsAt_succ, namB h3 hlj, namA h3 hlj]; simp⟩
                  go_wp2_with (at_builtin; go_must (refine wpList_pushHs rfl (.tmp 57) (.tmp 64) 28 rfl stTerms (by go_simp <;> first | rfl | exact ⟨rfl, rfl⟩) (by go_simp <;> first | rfl | exact ⟨rfl, rfl⟩ | exact ⟨rfl, rfl, rfl⟩) (by exact Hp.norm (by (repeat (first | with_reducible exact H | with_reducible exact H0_ | with_reducible apply Hp.alloc | with_reducible apply Hp.allocMap | with_reducible apply Hp.drew | with_reducible apply Hp.drewN | with_reducible apply Hp.set)); (try any_goals (repeat (first | with_reducible exact Upd.head | with_reducible apply Upd.tail)))) (by ((try simp only [size_drew_, size_drewN_, World.size_alloc, World.size_setCell, List.set_cons_zero, List.set_cons_succ, List.nil_append, List.cons_append]) <;> rfl))) (by (repeat (first | with_reducible exact Pick.head | with_reducible apply Pick.tail))) (by (repeat (first | with_reducible exact Pick.head | with_reducible apply Pick.tail))) (by (repeat (first | with_reducible exact Pick.head | with_reducible apply Pick.tail))) ?_ ?_ ?_ ?_; (focus (intro d hd; simp only [List.mem_cons, List.not_mem_nil, or_false] at hd; rcases hd with rfl | rfl <;> exact Tm.size_d _)); (focus (simp only [M, List.length_map, nmsAt_len, List.length_cons, List.length_nil]; omega)); (focus rfl); clear H; intro v' w4 H))
                  go_roundw
                  case rel => exact ⟨j + 1, by omega, by go_num, by rw [EE.out]; exact (H.arr (by (repeat (first | with_reducible exact Arr.nil | refine Arr.cons (by (repeat (first | with_reducible exact Pick.head | with_reducible apply Pick.tail))) ?_)) <;> exact Arr.of_subl (by (repeat (first | with_reducible exact Subl.refl _ | with_reducible apply Subl.drop)))))⟩
                  case measure => simp [intOf]; omega
                · obtain rfl : j = ds[k].members.length := by omega
                  have hr_ := H.rules; simp only [Rules, and_true] at hr_; have hd_ := H.dif; simp only [Dif, Neq, and_true] at hd_; obtain ⟨ho_, hz_⟩ := H.old0
                  go_wp2_with fail
                  clear hr_ hd_ ho_ hz_
                  go_loopw [8, 10] (fun v i wr => ∃ j : Nat, j ≤ ds[k].ctors.length ∧ i = .int .i64 j ∧ Hp no w wr [.dat (.l 30 5 ((nmsAt k ds[k] (2 * ds[k].members.length + j)).map Tm.d)) [v], .box g 4 (bcells bs), .dat (.l 3 1 ((atL ds).map D.i)) [.slice B1 ds.length Bc]]) (fun _ i _ => ds[k].ctors.length - (intOf i).toNat)
                  case atStart => exact ⟨0, Nat.zero_le _, rfl, H⟩
                  case round =>
                    clear H
                    obtain ⟨j, hj, rfl, H⟩ := hrel
                    by_cases hlj : j < ds[k].ctors.length
                    · have hr_ := H.rules; simp only [Rules, and_true] at hr_; have hd_ := H.dif; simp only [Dif, Neq, and_true] at hd_; obtain ⟨ho_, hz_⟩ := H.old0
                      go_wp2_with fail
                      clear hr_ hd_ ho_ hz_
                      refine callsH (by (repeat (first | with_reducible exact H | with_reducible exact H0_ | with_reducible apply Hp.alloc | with_reducible apply Hp.allocMap | with_reducible apply Hp.drew | with_reducible apply Hp.drewN | with_reducible apply Hp.set)); (try any_goals (repeat (first | with_reducible exact Upd.head | with_reducible apply Upd.tail)))) ?_
                      clear H; intro w1 H; (try simp only [size_drew_, size_drewN_, World.size_alloc, World.size_setCell, List.set_cons_zero, List.set_cons_succ] at H)
                      refine (name21_calls (k := 9) (n := k) (a := j) (iN (by decide)) (iN (by omega)) (iN (by omega))).mono ?_
                      rintro e w_ ⟨v, rfl, hto, hx⟩
                      obtain ⟨D1, Dc, D2, Dk, rfl, H_⟩ := H.resTm hx hto
                      clear H hx hto
                      have H := H_
                      clear H_
                      simp only [Tm.k_mk, Tm.n_mk, Tm.a_mk, Tm.ls_mk, Tm.ks_mk, List.length_nil] at H ⊢
                      obtain ⟨EE⟩ : Nonempty (Hid ((nmsAt k ds[k] (2 * ds[k].members.length + (j + 1))).map Tm.d = (nmsAt k ds[k] (2 * ds[k].members.length + j)).map Tm.d ++ [(Tm.mk 9 k j [] []).d])) := ⟨by unfold Hid; rw [← Nat.add_assoc, nmsAt_succ, namC h3]; simp⟩
                      have hnl := nmsAt_len k ds[k] (2 * ds[k].members.length + j)
                      go_wp2_with (at_builtin; go_must (refine wpList_pushH rfl (.tmp 76) (.tmp 80) 28 rfl stTerms (by go_simp <;> first | rfl | exact ⟨rfl, rfl⟩) (by go_simp <;> first | rfl | exact ⟨rfl, rfl⟩) (by exact Hp.norm (by (repeat (first | with_reducible exact H | with_reducible exact H0_ | with_reducible apply Hp.alloc | with_reducible apply Hp.allocMap | with_reducible apply Hp.drew | with_reducible apply Hp.drewN | with_reducible apply Hp.set)); (try any_goals (repeat (first | with_reducible exact Upd.head | with_reducible apply Upd.tail)))) (by ((try simp only [size_drew_, size_drewN_, World.size_alloc, World.size_setCell, List.set_cons_zero, List.set_cons_succ, List.nil_append, List.cons_append]) <;> rfl))) (by (repeat (first | with_reducible exact Pick.head | with_reducible apply Pick.tail))) (by (repeat (first | with_reducible exact Pick.head | with_reducible apply Pick.tail))) (by (repeat (first | with_reducible exact Pick.head | with_reducible apply Pick.tail))) (Tm.size_d _) ?_ ?_; (focus (simp [M]; omega)); clear H; intro v' w4 H))
                      go_roundw
                      case rel => exact ⟨j + 1, by omega, by go_num, by rw [EE.out]; exact (H.arr (by (repeat (first | with_reducible exact Arr.nil | refine Arr.cons (by (repeat (first | with_reducible exact Pick.head | with_reducible apply Pick.tail))) ?_)) <;> exact Arr.of_subl (by (repeat (first | with_reducible exact Subl.refl _ | with_reducible apply Subl.drop)))))⟩
                      case measure => simp [intOf]; omega
                    · obtain rfl : j = ds[k].ctors.length := by omega
                      have hr_ := H.rules; simp only [Rules, and_true] at hr_; have hd_ := H.dif; simp only [Dif, Neq, and_true] at hd_; obtain ⟨ho_, hz_⟩ := H.old0
                      go_wp2_with fail
                      clear hr_ hd_ ho_ hz_
                      -- the names are made: t8 = v, with nNames names
                      obtain ⟨E1, e1, rfl, _, _, _⟩ := H.slice (e := 30) (by (repeat (first | with_reducible exact Pick.head | with_reducible apply Pick.tail)))
                      simp only [List.length_map, nmsAt_len] at H ⊢
                      go_loopw [11] (fun i wr => ∃ (x : Nat) (bs : List Bool), x ≤ 2 * ds[k].members.length + ds[k].ctors.length ∧ i = .int .i64 x ∧ bs.length = N ∧ Used bs (baseN ds k) ds[k] x ∧ Hp no w wr [.dat (.l 30 5 ((nmsAt k ds[k] (2 * ds[k].members.length + ds[k].ctors.length)).map Tm.d)) [.slice E1 (2 * ds[k].members.length + ds[k].ctors.length) e1], .box g 4 (bcells bs), .dat (.l 3 1 ((atL ds).map D.i)) [.slice B1 ds.length Bc]]) (fun i _ => 2 * ds[k].members.length + ds[k].ctors.length - (intOf i).toNat)
                      case atStart => exact ⟨0, bs, Nat.zero_le _, rfl, hbs, hU _, (H.arr (by (repeat (first | with_reducible exact Arr.nil | refine Arr.cons (by (repeat (first | with_reducible exact Pick.head | with_reducible apply Pick.tail))) ?_)) <;> exact Arr.of_subl (by (repeat (first | with_reducible exact Subl.refl _ | with_reducible apply Subl.drop)))))⟩
                      case round =>
                        clear H hU hbs
                        obtain ⟨x, bs, hx, rfl, hbs, hU, H⟩ := hrel
                        by_cases hlx : x < 2 * ds[k].members.length + ds[k].ctors.length
                        · have hr := H.rd (d := .l 30 5 ((nmsAt k ds[k] (2 * ds[k].members.length + ds[k].ctors.length)).map Tm.d)) (by (repeat (first | with_reducible exact Pick.head | with_reducible apply Pick.tail)))
                          obtain ⟨b', o', A1, ca1, K1, ck1, rfl, hb', hS', hd', p0, p1, p2, p3, p4⟩ := hr.atTm (ts := nmsAt k ds[k] (2 * ds[k].members.length + ds[k].ctors.length)) (by rw [nmsAt_len]; exact hlx)
                          simp only [nmsAt_get] at hd' p0 p1 p2 p3 p4
                          have HD' := Lib.hid hd'
                          clear hd' hr
                          have hoff := offAt_lt (d := ds[k]) (j := x) (by rw [HNN.out]; exact hlx)
                          have hKN : baseN ds k + offAt ds[k] x < N := by have h1 := baseN_le hlt; have h2 := HN.out; omega
                          have hfree := bcells_get (hU.free (by rw [HNN.out]; exact hlx) (by omega))
                          have HC := Lib.hid (name_const HB.out hlt (j := x) (by rw [HNN.out]; exact hlx))
                          have HU := Lib.hid hU.mark
                          clear hU hoff
                          generalize baseN ds k + offAt ds[k] x = KK at *
                          have hr_ := H.rules; simp only [Rules, and_true] at hr_; have hd_ := H.dif; simp only [Dif, Neq, and_true] at hd_; obtain ⟨ho_, hz_⟩ := H.old0
                          go_wp2_with fail
                          clear hr_ hd_ ho_ hz_
                          refine (show Calls Tryd.prog 13 #[.slice (some ⟨b, o, none⟩) ds.length c, .slice B1 ds.length Bc, _] wr (PTm wr (.mk 3 KK 0 [] [])) from by
                            have := carry_Term (t := nameAt k ds[k] x) ⟨HDS.out.ext0 H.ext, by rw [atL_len]; exact H.rd (.tail (.tail .head)), HT.out.ext H.ext⟩ ⟨_, _, _, _, rfl, HD'.out⟩
                            rw [HC.out] at this
                            rw [atL_len] at this
                            exact this).mono ?_
                          rintro e w_ ⟨v, rfl, hto, hx⟩
                          obtain ⟨D1, Dc, D2, Dk, rfl, H_⟩ := H.resTm hx hto
                          clear H hx hto
                          have H := H_
                          clear H_
                          simp only [Tm.k_mk, Tm.n_mk, Tm.a_mk, Tm.ls_mk, Tm.ks_mk, List.length_nil] at H ⊢
                          have hr_ := H.rules; simp only [Rules, and_true] at hr_; have hd_ := H.dif; simp only [Dif, Neq, and_true] at hd_; obtain ⟨ho_, hz_⟩ := H.old0
                          go_wp2_with ((with_reducible refine atStore (t := 30) ?_); go_must (refine wpList_storeH (t := 30) rfl rfl (by go_simp <;> first | rfl | exact ⟨rfl, rfl⟩) (by go_simp <;> first | rfl | exact ⟨rfl, rfl⟩) (by exact Hp.norm (by (repeat (first | with_reducible exact H | with_reducible exact H0_ | with_reducible apply Hp.alloc | with_reducible apply Hp.allocMap | with_reducible apply Hp.drew | with_reducible apply Hp.drewN | with_reducible apply Hp.set)); (try any_goals (repeat (first | with_reducible exact Upd.head | with_reducible apply Upd.tail)))) (by ((try simp only [size_drew_, size_drewN_, World.size_alloc, World.size_setCell, List.set_cons_zero, List.set_cons_succ, List.nil_append, List.cons_append]) <;> rfl))) (by (repeat (first | with_reducible exact Upd.head | with_reducible apply Upd.tail))) (by exact aggTerm) (by rfl) (by simp [Value.oneCell']) ?_; clear H; intro w7 H; (try simp only [size_drew_, size_drewN_, World.size_alloc, World.size_setCell, List.set_cons_zero, List.set_cons_succ] at H); (try clear hr_ hd_ ho_ hz_); have hr_ := H.rules; simp only [Rules, and_true] at hr_; have hd_ := H.dif; simp only [Dif, Neq, and_true] at hd_; obtain ⟨ho_, hz_⟩ := H.old0))
                          clear hr_ hd_ ho_ hz_
                          have H := H.set (g := g) (t := 4) (i := KK) (cs := bcells bs) (v := .bool true) (by (repeat (first | with_reducible exact Upd.head | with_reducible apply Upd.tail)))
                          rw [bcells_set] at H
                          go_roundw
                          case rel => exact ⟨x + 1, bs.set KK true, by omega, by go_num, by simp [hbs], HU.out, (H.arr (by (repeat (first | with_reducible exact Arr.nil | refine Arr.cons (by (repeat (first | with_reducible exact Pick.head | with_reducible apply Pick.tail))) ?_)) <;> exact Arr.of_subl (by (repeat (first | with_reducible exact Subl.refl _ | with_reducible apply Subl.drop)))))⟩
                          case measure => simp [intOf]; omega
                        · have hxe : x = 2 * ds[k].members.length + ds[k].ctors.length := by omega
                          rw [hxe] at hU
                          have hU2 : ∀ d, Used bs (baseN ds (k + 1)) d 0 := fun d => by rw [baseN_succ hlt]; exact Used.next (by rw [HNN.out]; exact hU)
                          have HU := Lib.hid hU2
                          clear hU hU2
                          go_wp2_with fail
                          go_roundw
                          case rel => exact ⟨k + 1, bs, by omega, by go_num, hbs, HU.out, (H.arr (by (repeat (first | with_reducible exact Arr.nil | refine Arr.cons (by (repeat (first | with_reducible exact Pick.head | with_reducible apply Pick.tail))) ?_)) <;> exact Arr.of_subl (by (repeat (first | with_reducible exact Subl.refl _ | with_reducible apply Subl.drop)))))⟩
                          case measure => simp [intOf]; omega
            · by_cases h12 : ds[k].kind = 1 ∨ ds[k].kind = 2
              · have HNN : Hid (nNames ds[k] = 1) := by unfold Hid nNames; rw [if_neg h3, if_pos h12]
                obtain ⟨EE⟩ : Nonempty (Hid ((nmsAt k ds[k] 1).map Tm.d = [(Tm.mk 3 k 0 [] []).d])) := ⟨by unfold Hid; rw [nmsAt_succ, nmsAt_zero, namD h3]; simp⟩
                rcases h12 with h1 | h2
                · skip
                  have hr_ := H.rules; simp only [Rules, and_true] at hr_; have hd_ := H.dif; simp only [Dif, Neq, and_true] at hd_; obtain ⟨ho_, hz_⟩ := H.old0
                  go_wp2_with fail
                  clear hr_ hd_ ho_ hz_
                  refine callsH (by (repeat (first | with_reducible exact H | with_reducible exact H0_ | with_reducible apply Hp.alloc | with_reducible apply Hp.allocMap | with_reducible apply Hp.drew | with_reducible apply Hp.drewN | with_reducible apply Hp.set)); (try any_goals (repeat (first | with_reducible exact Upd.head | with_reducible apply Upd.tail)))) ?_
                  clear H; intro w1 H; (try simp only [size_drew_, size_drewN_, World.size_alloc, World.size_setCell, List.set_cons_zero, List.set_cons_succ] at H)
                  refine (name21_calls (k := 3) (n := k) (a := 0) (iN (n := 3) (by decide)) (iN (by omega)) (iN (n := 0) (by decide))).mono ?_
                  rintro e w_ ⟨v, rfl, hto, hx⟩
                  obtain ⟨D1, Dc, D2, Dk, rfl, H_⟩ := H.resTm hx hto
                  clear H hx hto
                  have H := H_
                  clear H_
                  simp only [Tm.k_mk, Tm.n_mk, Tm.a_mk, Tm.ls_mk, Tm.ks_mk, List.length_nil] at H ⊢
                  go_wp2_with (at_builtin; go_must (refine wpList_pushH rfl (.tmp 96) (.tmp 99) 28 rfl stTerms (by go_simp <;> first | rfl | exact ⟨rfl, rfl⟩) (by go_simp <;> first | rfl | exact ⟨rfl, rfl⟩) (by exact Hp.norm (by (repeat (first | with_reducible exact H | with_reducible exact H0_ | with_reducible apply Hp.alloc | with_reducible apply Hp.allocMap | with_reducible apply Hp.drew | with_reducible apply Hp.drewN | with_reducible apply Hp.set)); (try any_goals (repeat (first | with_reducible exact Upd.head | with_reducible apply Upd.tail)))) (by ((try simp only [size_drew_, size_drewN_, World.size_alloc, World.size_setCell, List.set_cons_zero, List.set_cons_succ, List.nil_append, List.cons_append]) <;> rfl))) (by (repeat (first | with_reducible exact Pick.head | with_reducible apply Pick.tail))) (by (repeat (first | with_reducible exact Pick.head | with_reducible apply Pick.tail))) (by (repeat (first | with_reducible exact Pick.head | with_reducible apply Pick.tail))) (Tm.size_d _) ?_ ?_; (focus (first | (simp [M]; done) | (simp [M]; omega))); clear H; intro v' w4 H))
                  simp only [List.nil_append] at H
                  rw [← EE.out] at H
                  -- the names are made: t8 = v, with nNames names
                  obtain ⟨E1, e1, rfl, _, _, _⟩ := H.slice (e := 30) (by (repeat (first | with_reducible exact Pick.head | with_reducible apply Pick.tail)))
                  simp only [List.length_map, nmsAt_len] at H ⊢
                  go_loopw [11] (fun i wr => ∃ (x : Nat) (bs : List Bool), x ≤ 1 ∧ i = .int .i64 x ∧ bs.length = N ∧ Used bs (baseN ds k) ds[k] x ∧ Hp no w wr [.dat (.l 30 5 ((nmsAt k ds[k] (1)).map Tm.d)) [.slice E1 (1) e1], .box g 4 (bcells bs), .dat (.l 3 1 ((atL ds).map D.i)) [.slice B1 ds.length Bc]]) (fun i _ => 1 - (intOf i).toNat)
                  case atStart => exact ⟨0, bs, Nat.zero_le _, rfl, hbs, hU _, (H.arr (by (repeat (first | with_reducible exact Arr.nil | refine Arr.cons (by (repeat (first | with_reducible exact Pick.head | with_reducible apply Pick.tail))) ?_)) <;> exact Arr.of_subl (by (repeat (first | with_reducible exact Subl.refl _ | with_reducible apply Subl.drop)))))⟩
                  case round =>
                    clear H hU hbs
                    obtain ⟨x, bs, hx, rfl, hbs, hU, H⟩ := hrel
                    by_cases hlx : x < 1
                    · have hr := H.rd (d := .l 30 5 ((nmsAt k ds[k] (1)).map Tm.d)) (by (repeat (first | with_reducible exact Pick.head | with_reducible apply Pick.tail)))
                      obtain ⟨b', o', A1, ca1, K1, ck1, rfl, hb', hS', hd', p0, p1, p2, p3, p4⟩ := hr.atTm (ts := nmsAt k ds[k] (1)) (by rw [nmsAt_len]; exact hlx)
                      simp only [nmsAt_get] at hd' p0 p1 p2 p3 p4
                      have HD' := Lib.hid hd'
                      clear hd' hr
                      have hoff := offAt_lt (d := ds[k]) (j := x) (by rw [HNN.out]; exact hlx)
                      have hKN : baseN ds k + offAt ds[k] x < N := by have h1 := baseN_le hlt; have h2 := HN.out; omega
                      have hfree := bcells_get (hU.free (by rw [HNN.out]; exact hlx) (by omega))
                      have HC := Lib.hid (name_const HB.out hlt (j := x) (by rw [HNN.out]; exact hlx))
                      have HU := Lib.hid hU.mark
                      clear hU hoff
                      generalize baseN ds k + offAt ds[k] x = KK at *
                      have hr_ := H.rules; simp only [Rules, and_true] at hr_; have hd_ := H.dif; simp only [Dif, Neq, and_true] at hd_; obtain ⟨ho_, hz_⟩ := H.old0
                      go_wp2_with fail
                      clear hr_ hd_ ho_ hz_
                      refine (show Calls Tryd.prog 13 #[.slice (some ⟨b, o, none⟩) ds.length c, .slice B1 ds.length Bc, _] wr (PTm wr (.mk 3 KK 0 [] [])) from by
                        have := carry_Term (t := nameAt k ds[k] x) ⟨HDS.out.ext0 H.ext, by rw [atL_len]; exact H.rd (.tail (.tail .head)), HT.out.ext H.ext⟩ ⟨_, _, _, _, rfl, HD'.out⟩
                        rw [HC.out] at this
                        rw [atL_len] at this
                        exact this).mono ?_
                      rintro e w_ ⟨v, rfl, hto, hx⟩
                      obtain ⟨D1, Dc, D2, Dk, rfl, H_⟩ := H.resTm hx hto
                      clear H hx hto
                      have H := H_
                      clear H_
                      simp only [Tm.k_mk, Tm.n_mk, Tm.a_mk, Tm.ls_mk, Tm.ks_mk, List.length_nil] at H ⊢
                      have hr_ := H.rules; simp only [Rules, and_true] at hr_; have hd_ := H.dif; simp only [Dif, Neq, and_true] at hd_; obtain ⟨ho_, hz_⟩ := H.old0
                      go_wp2_with ((with_reducible refine atStore (t := 30) ?_); go_must (refine wpList_storeH (t := 30) rfl rfl (by go_simp <;> first | rfl | exact ⟨rfl, rfl⟩) (by go_simp <;> first | rfl | exact ⟨rfl, rfl⟩) (by exact Hp.norm (by (repeat (first | with_reducible exact H | with_reducible exact H0_ | with_reducible apply Hp.alloc | with_reducible apply Hp.allocMap | with_reducible apply Hp.drew | with_reducible apply Hp.drewN | with_reducible apply Hp.set)); (try any_goals (repeat (first | with_reducible exact Upd.head | with_reducible apply Upd.tail)))) (by ((try simp only [size_drew_, size_drewN_, World.size_alloc, World.size_setCell, List.set_cons_zero, List.set_cons_succ, List.nil_append, List.cons_append]) <;> rfl))) (by (repeat (first | with_reducible exact Upd.head | with_reducible apply Upd.tail))) (by exact aggTerm) (by rfl) (by simp [Value.oneCell']) ?_; clear H; intro w7 H; (try simp only [size_drew_, size_drewN_, World.size_alloc, World.size_setCell, List.set_cons_zero, List.set_cons_succ] at H); (try clear hr_ hd_ ho_ hz_); have hr_ := H.rules; simp only [Rules, and_true] at hr_; have hd_ := H.dif; simp only [Dif, Neq, and_true] at hd_; obtain ⟨ho_, hz_⟩ := H.old0))
                      clear hr_ hd_ ho_ hz_
                      have H := H.set (g := g) (t := 4) (i := KK) (cs := bcells bs) (v := .bool true) (by (repeat (first | with_reducible exact Upd.head | with_reducible apply Upd.tail)))
                      rw [bcells_set] at H
                      go_roundw
                      case rel => exact ⟨x + 1, bs.set KK true, by omega, by go_num, by simp [hbs], HU.out, (H.arr (by (repeat (first | with_reducible exact Arr.nil | refine Arr.cons (by (repeat (first | with_reducible exact Pick.head | with_reducible apply Pick.tail))) ?_)) <;> exact Arr.of_subl (by (repeat (first | with_reducible exact Subl.refl _ | with_reducible apply Subl.drop)))))⟩
                      case measure => simp [intOf]; omega
                    · have hxe : x = 1 := by omega
                      rw [hxe] at hU
                      have hU2 : ∀ d, Used bs (baseN ds (k + 1)) d 0 := fun d => by rw [baseN_succ hlt]; exact Used.next (by rw [HNN.out]; exact hU)
                      have HU := Lib.hid hU2
                      clear hU hU2
                      go_wp2_with fail
                      go_roundw
                      case rel => exact ⟨k + 1, bs, by omega, by go_num, hbs, HU.out, (H.arr (by (repeat (first | with_reducible exact Arr.nil | refine Arr.cons (by (repeat (first | with_reducible exact Pick.head | with_reducible apply Pick.tail))) ?_)) <;> exact Arr.of_subl (by (repeat (first | with_reducible exact Subl.refl _ | with_reducible apply Subl.drop)))))⟩
                      case measure => simp [intOf]; omega
                · have h1 : ¬ ds[k].kind = 1 := by omega
                  have hr_ := H.rules; simp only [Rules, and_true] at hr_; have hd_ := H.dif; simp only [Dif, Neq, and_true] at hd_; obtain ⟨ho_, hz_⟩ := H.old0
                  go_wp2_with fail
                  clear hr_ hd_ ho_ hz_
                  refine callsH (by (repeat (first | with_reducible exact H | with_reducible exact H0_ | with_reducible apply Hp.alloc | with_reducible apply Hp.allocMap | with_reducible apply Hp.drew | with_reducible apply Hp.drewN | with_reducible apply Hp.set)); (try any_goals (repeat (first | with_reducible exact Upd.head | with_reducible apply Upd.tail)))) ?_
                  clear H; intro w1 H; (try simp only [size_drew_, size_drewN_, World.size_alloc, World.size_setCell, List.set_cons_zero, List.set_cons_succ] at H)
                  refine (name21_calls (k := 3) (n := k) (a := 0) (iN (n := 3) (by decide)) (iN (by omega)) (iN (n := 0) (by decide))).mono ?_
                  rintro e w_ ⟨v, rfl, hto, hx⟩
                  obtain ⟨D1, Dc, D2, Dk, rfl, H_⟩ := H.resTm hx hto
                  clear H hx hto
                  have H := H_
                  clear H_
                  simp only [Tm.k_mk, Tm.n_mk, Tm.a_mk, Tm.ls_mk, Tm.ks_mk, List.length_nil] at H ⊢
                  go_wp2_with (at_builtin; go_must (refine wpList_pushH rfl (.tmp 96) (.tmp 99) 28 rfl stTerms (by go_simp <;> first | rfl | exact ⟨rfl, rfl⟩) (by go_simp <;> first | rfl | exact ⟨rfl, rfl⟩) (by exact Hp.norm (by (repeat (first | with_reducible exact H | with_reducible exact H0_ | with_reducible apply Hp.alloc | with_reducible apply Hp.allocMap | with_reducible apply Hp.drew | with_reducible apply Hp.drewN | with_reducible apply Hp.set)); (try any_goals (repeat (first | with_reducible exact Upd.head | with_reducible apply Upd.tail)))) (by ((try simp only [size_drew_, size_drewN_, World.size_alloc, World.size_setCell, List.set_cons_zero, List.set_cons_succ, List.nil_append, List.cons_append]) <;> rfl))) (by (repeat (first | with_reducible exact Pick.head | with_reducible apply Pick.tail))) (by (repeat (first | with_reducible exact Pick.head | with_reducible apply Pick.tail))) (by (repeat (first | with_reducible exact Pick.head | with_reducible apply Pick.tail))) (Tm.size_d _) ?_ ?_; (focus (first | (simp [M]; done) | (simp [M]; omega))); clear H; intro v' w4 H))
                  simp only [List.nil_append] at H
                  rw [← EE.out] at H
                  -- the names are made: t8 = v, with nNames names
                  obtain ⟨E1, e1, rfl, _, _, _⟩ := H.slice (e := 30) (by (repeat (first | with_reducible exact Pick.head | with_reducible apply Pick.tail)))
                  simp only [List.length_map, nmsAt_len] at H ⊢
                  go_loopw [11] (fun i wr => ∃ (x : Nat) (bs : List Bool), x ≤ 1 ∧ i = .int .i64 x ∧ bs.length = N ∧ Used bs (baseN ds k) ds[k] x ∧ Hp no w wr [.dat (.l 30 5 ((nmsAt k ds[k] (1)).map Tm.d)) [.slice E1 (1) e1], .box g 4 (bcells bs), .dat (.l 3 1 ((atL ds).map D.i)) [.slice B1 ds.length Bc]]) (fun i _ => 1 - (intOf i).toNat)
                  case atStart => exact ⟨0, bs, Nat.zero_le _, rfl, hbs, hU _, (H.arr (by (repeat (first | with_reducible exact Arr.nil | refine Arr.cons (by (repeat (first | with_reducible exact Pick.head | with_reducible apply Pick.tail))) ?_)) <;> exact Arr.of_subl (by (repeat (first | with_reducible exact Subl.refl _ | with_reducible apply Subl.drop)))))⟩
                  case round =>
                    clear H hU hbs
                    obtain ⟨x, bs, hx, rfl, hbs, hU, H⟩ := hrel
                    by_cases hlx : x < 1
                    · have hr := H.rd (d := .l 30 5 ((nmsAt k ds[k] (1)).map Tm.d)) (by (repeat (first | with_reducible exact Pick.head | with_reducible apply Pick.tail)))
                      obtain ⟨b', o', A1, ca1, K1, ck1, rfl, hb', hS', hd', p0, p1, p2, p3, p4⟩ := hr.atTm (ts := nmsAt k ds[k] (1)) (by rw [nmsAt_len]; exact hlx)
                      simp only [nmsAt_get] at hd' p0 p1 p2 p3 p4
                      have HD' := Lib.hid hd'
                      clear hd' hr
                      have hoff := offAt_lt (d := ds[k]) (j := x) (by rw [HNN.out]; exact hlx)
                      have hKN : baseN ds k + offAt ds[k] x < N := by have h1 := baseN_le hlt; have h2 := HN.out; omega
                      have hfree := bcells_get (hU.free (by rw [HNN.out]; exact hlx) (by omega))
                      have HC := Lib.hid (name_const HB.out hlt (j := x) (by rw [HNN.out]; exact hlx))
                      have HU := Lib.hid hU.mark
                      clear hU hoff
                      generalize baseN ds k + offAt ds[k] x = KK at *
                      have hr_ := H.rules; simp only [Rules, and_true] at hr_; have hd_ := H.dif; simp only [Dif, Neq, and_true] at hd_; obtain ⟨ho_, hz_⟩ := H.old0
                      go_wp2_with fail
                      clear hr_ hd_ ho_ hz_
                      refine (show Calls Tryd.prog 13 #[.slice (some ⟨b, o, none⟩) ds.length c, .slice B1 ds.length Bc, _] wr (PTm wr (.mk 3 KK 0 [] [])) from by
                        have := carry_Term (t := nameAt k ds[k] x) ⟨HDS.out.ext0 H.ext, by rw [atL_len]; exact H.rd (.tail (.tail .head)), HT.out.ext H.ext⟩ ⟨_, _, _, _, rfl, HD'.out⟩
                        rw [HC.out] at this
                        rw [atL_len] at this
                        exact this).mono ?_
                      rintro e w_ ⟨v, rfl, hto, hx⟩
                      obtain ⟨D1, Dc, D2, Dk, rfl, H_⟩ := H.resTm hx hto
                      clear H hx hto
                      have H := H_
                      clear H_
                      simp only [Tm.k_mk, Tm.n_mk, Tm.a_mk, Tm.ls_mk, Tm.ks_mk, List.length_nil] at H ⊢
                      have hr_ := H.rules; simp only [Rules, and_true] at hr_; have hd_ := H.dif; simp only [Dif, Neq, and_true] at hd_; obtain ⟨ho_, hz_⟩ := H.old0
                      go_wp2_with ((with_reducible refine atStore (t := 30) ?_); go_must (refine wpList_storeH (t := 30) rfl rfl (by go_simp <;> first | rfl | exact ⟨rfl, rfl⟩) (by go_simp <;> first | rfl | exact ⟨rfl, rfl⟩) (by exact Hp.norm (by (repeat (first | with_reducible exact H | with_reducible exact H0_ | with_reducible apply Hp.alloc | with_reducible apply Hp.allocMap | with_reducible apply Hp.drew | with_reducible apply Hp.drewN | with_reducible apply Hp.set)); (try any_goals (repeat (first | with_reducible exact Upd.head | with_reducible apply Upd.tail)))) (by ((try simp only [size_drew_, size_drewN_, World.size_alloc, World.size_setCell, List.set_cons_zero, List.set_cons_succ, List.nil_append, List.cons_append]) <;> rfl))) (by (repeat (first | with_reducible exact Upd.head | with_reducible apply Upd.tail))) (by exact aggTerm) (by rfl) (by simp [Value.oneCell']) ?_; clear H; intro w7 H; (try simp only [size_drew_, size_drewN_, World.size_alloc, World.size_setCell, List.set_cons_zero, List.set_cons_succ] at H); (try clear hr_ hd_ ho_ hz_); have hr_ := H.rules; simp only [Rules, and_true] at hr_; have hd_ := H.dif; simp only [Dif, Neq, and_true] at hd_; obtain ⟨ho_, hz_⟩ := H.old0))
                      clear hr_ hd_ ho_ hz_
                      have H := H.set (g := g) (t := 4) (i := KK) (cs := bcells bs) (v := .bool true) (by (repeat (first | with_reducible exact Upd.head | with_reducible apply Upd.tail)))
                      rw [bcells_set] at H
                      go_roundw
                      case rel => exact ⟨x + 1, bs.set KK true, by omega, by go_num, by simp [hbs], HU.out, (H.arr (by (repeat (first | with_reducible exact Arr.nil | refine Arr.cons (by (repeat (first | with_reducible exact Pick.head | with_reducible apply Pick.tail))) ?_)) <;> exact Arr.of_subl (by (repeat (first | with_reducible exact Subl.refl _ | with_reducible apply Subl.drop)))))⟩
                      case measure => simp [intOf]; omega
                    · have hxe : x = 1 := by omega
                      rw [hxe] at hU
                      have hU2 : ∀ d, Used bs (baseN ds (k + 1)) d 0 := fun d => by rw [baseN_succ hlt]; exact Used.next (by rw [HNN.out]; exact hU)
                      have HU := Lib.hid hU2
                      clear hU hU2
                      go_wp2_with fail
                      go_roundw
                      case rel => exact ⟨k + 1, bs, by omega, by go_num, hbs, HU.out, (H.arr (by (repeat (first | with_reducible exact Arr.nil | refine Arr.cons (by (repeat (first | with_reducible exact Pick.head | with_reducible apply Pick.tail))) ?_)) <;> exact Arr.of_subl (by (repeat (first | with_reducible exact Subl.refl _ | with_reducible apply Subl.drop)))))⟩
                      case measure => simp [intOf]; omega
              · have HNN : Hid (nNames ds[k] = 0) := by unfold Hid nNames; rw [if_neg h3, if_neg h12]
                have h1 : ¬ ds[k].kind = 1 := fun h => h12 (.inl h)
                have h2 : ¬ ds[k].kind = 2 := fun h => h12 (.inr h)
                clear h12
                have hr_ := H.rules; simp only [Rules, and_true] at hr_; have hd_ := H.dif; simp only [Dif, Neq, and_true] at hd_; obtain ⟨ho_, hz_⟩ := H.old0
                go_wp2_with fail
                · rename_i hx_ _ _
                  exfalso
                  rcases hx_ with hx_ | hx_ <;> (simp only [beq_iff_eq] at hx_; omega)
                clear hr_ hd_ ho_ hz_
                have H : Hp no w _ [.dat (.l 30 5 ((nmsAt k ds[k] 0).map Tm.d)) [.slice none 0 0], .box g 4 (bcells bs), .dat (.l 3 1 ((atL ds).map D.i)) [.slice B1 ds.length Bc]] := H
                go_loopw [11] (fun i wr => i = .int .i64 0 ∧ Hp no w wr [.dat (.l 30 5 []) [.slice none 0 0], .box g 4 (bcells bs), .dat (.l 3 1 ((atL ds).map D.i)) [.slice B1 ds.length Bc]]) (fun i _ => 0)
                case atStart => exact ⟨rfl, H⟩
                case round =>
                  clear H
                  obtain ⟨rfl, H⟩ := hrel
                  have hU2 : ∀ d, Used bs (baseN ds (k + 1)) d 0 := fun d => by rw [baseN_succ hlt]; exact Used.next (by rw [HNN.out]; exact hU _)
                  have HU := Lib.hid hU2
                  clear hU hU2
                  go_wp2_with fail
                  go_roundw
                  case rel => exact ⟨k + 1, bs, by omega, by go_num, hbs, HU.out, (H.arr (by (repeat (first | with_reducible exact Arr.nil | refine Arr.cons (by (repeat (first | with_reducible exact Pick.head | with_reducible apply Pick.tail))) ?_)) <;> exact Arr.of_subl (by (repeat (first | with_reducible exact Subl.refl _ | with_reducible apply Subl.drop)))))⟩
                  case measure => simp [intOf]; omega
          · go_wp2_with fail
            go_ret
            exact ⟨rfl, H.ext⟩
end Go.Proofs.YteelplgdojjakaaDoor
