/- strict: Param: contract. No statement of the seat is proved here. -/
import Derived.Test.YtmedomglemllnaaGreatDoorStr9
namespace Go.Proofs.YtmedomglemllnaaGreatDoor
set_option linter.unusedSimpArgs false
set_option linter.unusedVariables false
open Go.RowKit

theorem ask_members {w W : World} {S : Nat → Prop} {ds : List Dc} {A0 : Option Addr} {c g : Nat} (hT : Tab W) (h : RC w S (.l 51 16 (ds.map Dc.d)) [.slice A0 ds.length c]) (hx : Ext no w W) (hg : w.heap.size ≤ g) (hm : W.heap[g]? = some (mapO [])) (sm : ∀ d ∈ ds, SmDc d) :
    Ask W g ds ds.length A0 c [] none (.func (.func 204) #[] #[]) (.func (.func 206) #[] #[]) where
  tab := hT
  dcs := ⟨fun k => S k ∧ k < w.heap.size, by rw [List.take_length]; exact (h.bd).ext0 hx, fun e => by have := e.2; omega⟩
  hn := Nat.le_refl _
  mp := hm
  rt := Right.nil
  st := members_st.1
  is := members_st.2
  ok := fun n h => by cases h
  sm := sm
theorem Hp.mapAt {w0 w : World} {l l' : List Ch} {g : Nat} (H : Hp no w0 w l) (p : Pick l (.map g []) l') : w0.heap.size ≤ g ∧ w.heap[g]? = some (mapO []) := by
  obtain ⟨L, h, _⟩ := (H.pick p).own
  unfold Chs at h
  obtain ⟨L1, L2, rfl, h1, h2⟩ := h
  exact ⟨h1.2.1, h1.2.2⟩
set_option maxRecDepth 100000 in
set_option maxHeartbeats 4000000 in
theorem param_calls {w : World} {S : Nat → Prop} {ds : List Dc} {A0 : Option Addr} {c : Nat} (hT : Tab w) (h : RC w S (.l 51 16 (ds.map Dc.d)) [.slice A0 ds.length c]) (sm : ∀ d ∈ ds, SmDc d) (num a : Int) :
    Calls Tryz.prog 42 #[.slice A0 ds.length c, .int .i64 num, .int .i64 a] w (PV w (.bool (paramV ds num a))) := by
  have hM := h.lenM
  obtain ⟨q, hq⟩ : ∃ q, q = paramV ds num a := ⟨_, rfl⟩
  rw [← hq]
  unfold paramV at hq
  have HT := Lib.hid hT
  have HH := Lib.hid h
  have HSM := Lib.hid sm
  by_cases h1 : num < 0
  · rw [if_neg (by omega)] at hq
    have HQ := Lib.hid hq
    clear hq hT h sm
    go_enter Tryz.func42, Tryz.ntmps42
    go_wp2_with fail
    go_ret
    exact ⟨by rw [HQ.out]; rfl, Ext.refl _ _⟩
  by_cases h2 : (ds.length : Int) ≤ num
  · rw [if_neg (by omega)] at hq
    have HQ := Lib.hid hq
    clear hq hT h sm
    go_enter Tryz.func42, Tryz.ntmps42
    go_wp2_with fail
    go_ret
    exact ⟨by rw [HQ.out]; rfl, Ext.refl _ _⟩
  obtain ⟨n, rfl⟩ : ∃ n : Nat, num = n := ⟨num.toNat, by omega⟩
  have hn : n < ds.length := by omega
  have hdd : ds[n] = ds.getD n zDc := by rw [List.getD_eq_getElem?_getD, List.getElem?_eq_getElem hn]; rfl
  obtain ⟨b_, o, Aty, cty, Kty, kty, Abody, cbody, Kbody, kbody, Aparams, cparams, Asort, csort, Amembers, cmembers, Actors, cctors, hA_, hbd, hS_, hdc, u0, u1, u2, u3, u4, u5, u6, u7, u8, u9, u10, u11, u12, u13, u14, u15⟩ := h.atDc hn
  rw [hdd] at u0 u12
  rw [Int.toNat_natCast] at hq
  have hpk : ParamOK ds n := @params_ok ds n
  subst hA_
  have hsz : (ds.getD n zDc).params.length ≤ 100000000 := by rw [← hdd]; exact (sm _ (List.getElem_mem hn)).pa
  obtain ⟨P, hP⟩ : ∃ P, P = (ds.getD n zDc).params.length := ⟨_, rfl⟩
  obtain ⟨kk, hkk⟩ : ∃ kk, kk = (ds.getD n zDc).kind := ⟨_, rfl⟩
  rw [← hP] at u12 hq hsz
  rw [← hkk] at u0 hq
  have HHP := Lib.hid hP
  have HHK := Lib.hid hkk
  clear hP hkk hdd u1 u2 u3 u4 u5 u6 u7 u8 u9 u10 u11 u13 u14 u15
  by_cases h3 : kk = 3
  · by_cases h4 : a < 0
    · have HK := Lib.hid h3
      rw [if_neg (by omega)] at hq
      have HQ := Lib.hid hq
      have e3 : (kk != 3) = false := by rw [h3]; rfl
      clear hq hT h sm hdc hS_ hpk h3
      go_enter Tryz.func42, Tryz.ntmps42
      go_wp2_with fail
      go_ret
      exact ⟨by rw [HQ.out]; rfl, Ext.refl _ _⟩
    · by_cases h5 : (P : Int) ≤ a
      · rw [if_neg (by omega)] at hq
        have HQ := Lib.hid hq
        have e3 : (kk != 3) = false := by rw [h3]; rfl
        clear hq hT h sm hdc hS_ hpk h3
        go_enter Tryz.func42, Tryz.ntmps42
        go_wp2_with fail
        go_ret
        exact ⟨by rw [HQ.out]; rfl, Ext.refl _ _⟩
      · obtain ⟨x, rfl⟩ : ∃ x : Nat, a = x := ⟨a.toNat, by omega⟩
        rw [if_pos ⟨by omega, by omega, h3, by omega, by omega⟩, Int.toNat_natCast] at hq
        have HQ := Lib.hid hq
        have HP : Hid (∀ W g A1 c1 mk fs fi, Ask W g ds ds.length A1 c1 [] mk fs fi → Calls Tryz.prog 132 #[asV fs fi A1 ds.length c1 g, .int .i64 (n : Int), .int .i64 (x : Int)] W (fun e w' => e = .returned (.bool (parQ ds n x)) ∧ Kn W g ds (n + 1) [] w')) := Lib.hid (fun W g A1 c1 mk fs fi ha => hpk ha hn (by rw [← HHK.out]; exact h3) x (by rw [← HHP.out]; omega))
        have e3 : (kk != 3) = false := by rw [h3]; rfl
        clear hq hT h sm hdc hS_ hpk h3
        have hmm : ∀ w : World, (Instr.makeMap 159 none).run Tryz.prog w = .ok (.map (some w.heap.size)) (w.alloc (.map #[] 0)) := fun _ => rfl
        go_enter Tryz.func42, Tryz.ntmps42
        have H := Hp.start no w
        go_wp2_with fail
        refine callsH (by (repeat (first | with_reducible exact H | with_reducible exact H0_ | with_reducible apply Hp.alloc | with_reducible apply Hp.allocMap | with_reducible apply Hp.drew | with_reducible apply Hp.drewN | with_reducible apply Hp.set)); (try any_goals (repeat (first | with_reducible exact Upd.head | with_reducible apply Upd.tail)))) ?_
        clear H; intro w1 H; (try simp only [size_drew_, size_drewN_, World.size_alloc, World.size_setCell, List.set_cons_zero, List.set_cons_succ] at H)
        refine (members_calls).mono ?_
        rintro e w_ ⟨rfl, hx⟩
        replace H := H.call hx
        clear hx
        go_wp2_with fail
        refine callsH (by (repeat (first | with_reducible exact H | with_reducible exact H0_ | with_reducible apply Hp.alloc | with_reducible apply Hp.allocMap | with_reducible apply Hp.drew | with_reducible apply Hp.drewN | with_reducible apply Hp.set)); (try any_goals (repeat (first | with_reducible exact Upd.head | with_reducible apply Upd.tail)))) ?_
        clear H; intro w2 H; (try simp only [size_drew_, size_drewN_, World.size_alloc, World.size_setCell, List.set_cons_zero, List.set_cons_succ] at H)
        obtain ⟨hg, hm⟩ := H.mapAt .head
        refine (HP.out w2 _ _ _ _ _ _ (ask_members (HT.out.ext H.ext) HH.out H.ext hg hm HSM.out)).mono ?_
        rintro e w3 ⟨rfl, hk⟩
        obtain ⟨ex, hx, _, _⟩ := hk
        have H2 := H.callG hx
        have HX := H2.ext
        obtain ⟨z, hz⟩ : ∃ z, z = parQ ds n x := ⟨_, rfl⟩
        rw [← hz] at HQ ⊢
        clear hz HP H H2 hx hg hm
        go_wp2_with fail
        go_ret
        exact ⟨by rw [HQ.out]; rfl, HX⟩
  · have e3 : (kk != 3) = true := by rw [bne_iff_ne]; exact h3
    rw [if_neg (fun h => h3 h.2.2.1)] at hq
    have HQ := Lib.hid hq
    clear hq hT h sm hdc hS_ hpk h3
    go_enter Tryz.func42, Tryz.ntmps42
    go_wp2_with fail
    go_ret
    exact ⟨by rw [HQ.out]; rfl, Ext.refl _ _⟩
end Go.Proofs.YtmedomglemllnaaGreatDoor
