/- strict's laws: bounds out of a declaration's bulk; an empty box as a row. No statement of the seat is proved here. -/
import Derived.Test.YtmedomglemllnaaGreatDoorStr11
import Derived.Test.YtmedomglemllnaaGreatDoorRead
import Derived.Test.YtmedomglemllnaaGreatDoorMgSelf
import Derived.Test.YtmedomglemllnaaGreatDoorMgStrictLaw3
import Derived.Test.YtmedomglemllnaaGreatDoorL18g
import Derived.Test.YtmedomglemllnaaGreatDoorBase
namespace Go.Proofs.YtmedomglemllnaaGreatDoor
set_option linter.unusedSimpArgs false
set_option linter.unusedVariables false
open Go.RowKit

theorem bulk_tmP (k n a : Int) (ls : List Lv) (ks : List Tm) : D.bulks (ks.map Tm.d) + 1 ≤ (Tm.mk k n a ls ks).d.bulk := by
  rw [Tm.d]
  simp only [D.bulk, D.bulks, Tm.ds_eq]
  omega
theorem sizesT_bulkP {ks : List Tm} (h : ∀ t ∈ ks, sizeT t ≤ t.d.bulk) : sizesT ks ≤ D.bulks (ks.map Tm.d) := by
  induction ks with
  | nil => simp [sizesT]
  | cons t ks ih =>
    have h1 := h t (by simp)
    have h2 := ih fun t ht => h t (by simp [ht])
    simp only [sizesT, List.map_cons, D.bulks]
    omega
theorem sizeT_bulkP : ∀ t : Tm, sizeT t ≤ t.d.bulk := by
  intro t
  induction t using Tm.ind_ with
  | h k n a ls ks ih =>
    have h1 := bulk_tmP k n a ls ks
    have h2 := sizesT_bulkP ih
    rw [sizeT]
    omega
theorem bulks_memP {ds : List D} {d : D} (h : d ∈ ds) : d.bulk ≤ D.bulks ds := by
  induction ds with
  | nil => cases h
  | cons e ds ih =>
    simp only [D.bulks]
    rcases List.mem_cons.1 h with rfl | h
    · omega
    · have := ih h
      omega
theorem bulks_lenP {ds : List D} (h : ∀ d ∈ ds, 1 ≤ d.bulk) : ds.length ≤ D.bulks ds := by
  induction ds with
  | nil => simp
  | cons d ds ih =>
    have h1 := h d (by simp)
    have h2 := ih fun x hx => h x (by simp [hx])
    simp only [D.bulks, List.length_cons]
    omega
theorem depth_sizeP : ∀ t : Tm, depthT t ≤ sizeT t := by
  intro t
  induction t using Tm.ind_ with
  | h k n a ls ks ih =>
    have key : ∀ ts : List Tm, (∀ t ∈ ts, depthT t ≤ sizeT t) → depthsT ts ≤ sizesT ts := by
      intro ts
      induction ts with
      | nil => intro _; simp [depthsT, sizesT]
      | cons t ts ihs =>
        intro h
        have h1 := h t (by simp)
        have h2 := ihs fun x hx => h x (by simp [hx])
        rw [depthsT, sizesT]
        omega
    have := key ks ih
    rw [depthT, sizeT]
    omega
theorem smDc_bulk {d : Dc} (h : d.d.bulk ≤ 1048576) : SmDc d ∧ (d.params.length ≤ 4000000 ∧ ∀ m ∈ d.members, m.index.length ≤ 4000000) ∧ d.ctors.length ≤ 4000000 ∧ ∀ c ∈ d.ctors, depthT c.ty ≤ 1000000000 := by
  have hp : D.bulks (d.params.map Tm.d) ≤ d.d.bulk := by simp only [Dc.d, D.bulk, D.bulks]; omega
  have hm : D.bulks (d.members.map Mb.d) ≤ d.d.bulk := by simp only [Dc.d, D.bulk, D.bulks]; omega
  have hc : D.bulks (d.ctors.map Ct.d) ≤ d.d.bulk := by simp only [Dc.d, D.bulk, D.bulks]; omega
  have tb : ∀ t : Tm, 1 ≤ t.d.bulk := fun t => by cases t; rw [Tm.d]; simp only [D.bulk]; omega
  have lp := bulks_lenP (ds := d.params.map Tm.d) (by intro x hx; obtain ⟨t, _, rfl⟩ := List.mem_map.1 hx; exact tb t)
  have lc := bulks_lenP (ds := d.ctors.map Ct.d) (by intro x hx; obtain ⟨t, _, rfl⟩ := List.mem_map.1 hx; simp only [Ct.d, D.bulk]; omega)
  rw [List.length_map] at lp lc
  have mi : ∀ m ∈ d.members, D.bulks (m.index.map Tm.d) ≤ 1048576 := fun m hm2 => by
    have h3 := bulks_memP (List.mem_map_of_mem (f := Mb.d) hm2)
    have h5 : D.bulks (m.index.map Tm.d) ≤ m.d.bulk := by simp only [Mb.d, D.bulk, D.bulks]; omega
    omega
  have ml : ∀ m ∈ d.members, m.index.length ≤ 1048576 := fun m hm2 => by
    have l := bulks_lenP (ds := m.index.map Tm.d) (by intro x hx; obtain ⟨t, _, rfl⟩ := List.mem_map.1 hx; exact tb t)
    rw [List.length_map] at l
    have := mi m hm2
    omega
  have ct : ∀ c ∈ d.ctors, sizeT c.ty ≤ 1048576 := fun c hc2 => by
    have h3 := bulks_memP (List.mem_map_of_mem (f := Ct.d) hc2)
    have h4 := sizeT_bulkP c.ty
    have h5 : c.ty.d.bulk ≤ c.d.bulk := by simp only [Ct.d, D.bulk, D.bulks]; omega
    omega
  refine ⟨⟨fun c hc2 => by have := ct c hc2; omega, fun m hm2 => ⟨by have := ml m hm2; omega, fun t ht => ?_⟩, by omega⟩, ⟨by omega, fun m hm2 => by have := ml m hm2; omega⟩, by omega, fun c hc2 => by have := ct c hc2; have := depth_sizeP c.ty; omega⟩
  have h3 := bulks_memP (List.mem_map_of_mem (f := Tm.d) ht)
  have h4 := sizeT_bulkP t
  have := mi m hm2
  omega
section
variable {w0 w : World} {l l' : List Ch}
theorem Hp.boxRow0P {g e z : Nat} (H : Hp no w0 w l) (p : Pick l (.box g e []) l') : Hp no w0 w (.row e z [] (.slice (some ⟨g, 0, none⟩) 0 0) :: l') := by
  have H1 := H.boxraw (z := z) (n := 0) p (by simp) (by unfold maxLen; omega)
  refine Hp.turn1 (ds' := [_]) H1 .head fun L hL => ?_
  obtain ⟨rfl, hown⟩ := hL
  simp only [Chs]
  exact ⟨_, [], by simp, ⟨rfl, by unfold M; simp, by simp, [], hown, by unfold RCs; rfl⟩, rfl⟩
end
end Go.Proofs.YtmedomglemllnaaGreatDoor
/- StrictRules: its end: params. No statement of the seat is proved here. -/
namespace Go.Proofs.YtmedomglemllnaaGreatDoor
set_option linter.unusedSimpArgs false
set_option linter.unusedVariables false
open Go.RowKit

theorem Blk.cells16 {w : World} {g t : Nat} {v0 v1 v2 v3 v4 v5 v6 v7 v8 v9 va vb vc vd ve vf : Value} (h : Blk w g t [v0, v1, v2, v3, v4, v5, v6, v7, v8, v9, va, vb, vc, vd, ve, vf].toArray) :
    w.cell? ⟨g, 0, none⟩ = some v0 ∧ w.cell? ⟨g, 1, none⟩ = some v1 ∧ w.cell? ⟨g, 2, none⟩ = some v2 ∧ w.cell? ⟨g, 3, none⟩ = some v3 ∧ w.cell? ⟨g, 4, none⟩ = some v4 ∧ w.cell? ⟨g, 5, none⟩ = some v5 ∧ w.cell? ⟨g, 6, none⟩ = some v6 ∧ w.cell? ⟨g, 7, none⟩ = some v7 ∧
    w.cell? ⟨g, 8, none⟩ = some v8 ∧ w.cell? ⟨g, 9, none⟩ = some v9 ∧ w.cell? ⟨g, 10, none⟩ = some va ∧ w.cell? ⟨g, 11, none⟩ = some vb ∧ w.cell? ⟨g, 12, none⟩ = some vc ∧ w.cell? ⟨g, 13, none⟩ = some vd ∧ w.cell? ⟨g, 14, none⟩ = some ve ∧ w.cell? ⟨g, 15, none⟩ = some vf :=
  ⟨h.cells 0, h.cells 1, h.cells 2, h.cells 3, h.cells 4, h.cells 5, h.cells 6, h.cells 7, h.cells 8, h.cells 9, h.cells 10, h.cells 11, h.cells 12, h.cells 13, h.cells 14, h.cells 15⟩
structure Wide (ds wd : List Dc) (d : Dc) : Prop where
  par : ∀ {num : Int} (a : Int), num < ds.length → paramV wd num a = paramV ds num a
  pos : declQ ds d = true → positiveV wd d = positiveV ds d
  sub : ∀ x ∈ ds, x ∈ wd
set_option maxRecDepth 100000 in
set_option maxHeartbeats 8000000 in
theorem srD {w W : World} {S S3 : Nat → Prop} {ds wd : List Dc} {d : Dc} {A0 Aw : Option Addr} {c cw gd : Nat} {num ai : Int} {x1 x2 x5 x6 x8 x9 x10 x12 x13 x14 x15 x16 x17 x18 x19 x20 x21 x22 x23 x24 x25 x26 x27 x28 x29 x30 x31 x32 x33 x34 x35 x36 x37 x38 x39 x40 x41 x42 x43 x44 x45 x46 x47 x48 x49 x50 x51 x52 x53 x54 x55 x56 x57 x58 x59 x60 x61 x62 x63 x64 x65 x66 x67 x68 x69 x70 x71 x72 x73 x74 x75 x76 x77 : Value}
    (hT : Tab w) (hx : Ext no w W) (hds : RC w S (.l 51 16 (ds.map Dc.d)) [.slice A0 ds.length c]) (hwd : RC W S3 (.l 51 16 (wd.map Dc.d)) [.slice Aw wd.length cw]) (sm : ∀ x ∈ wd, SmDc x) (hwl : Wide ds wd d) :
    (fromF 11 (Tryz.f8.body.getD .skip)).wp Tryz.prog (bodyPost Tryz.prog Tryz.f8 (PV w (.bool true))) { tmps := #[.slice A0 ds.length c, x1, x2, .int .i64 num, .int .i64 ai, x5, x6, .pointer (some ⟨gd, 0, none⟩), x8, x9, x10, .slice Aw wd.length cw, x12, x13, x14, x15, x16, x17, x18, x19, x20, x21, x22, x23, x24, x25, x26, x27, x28, x29, x30, x31, x32, x33, x34, x35, x36, x37, x38, x39, x40, x41, x42, x43, x44, x45, x46, x47, x48, x49, x50, x51, x52, x53, x54, x55, x56, x57, x58, x59, x60, x61, x62, x63, x64, x65, x66, x67, x68, x69, x70, x71, x72, x73, x74, x75, x76, x77], defers := [] } W := by
  have HT := Lib.hid (hT.ext hx)
  have HX := Lib.hid hx
  have HH := Lib.hid (hds.ext0 hx)
  have HW := Lib.hid hwd
  have HSM := Lib.hid sm
  have HWL := Lib.hid hwl
  have hM := hds.lenM
  clear hT hx hds hwd sm hwl
  conv => arg 2; whnf
  have H := Hp.start no W
  by_cases hn : (ds.length : Int) ≤ num
  · go_wp2_with fail
    go_ret
    exact ⟨rfl, HX.out⟩
  · go_wp2_with fail
    refine callsH (by (repeat (first | with_reducible exact H | with_reducible exact H0_ | with_reducible apply Hp.alloc | with_reducible apply Hp.allocMap | with_reducible apply Hp.drew | with_reducible apply Hp.drewN | with_reducible apply Hp.set)); (try any_goals (repeat (first | with_reducible exact Upd.head | with_reducible apply Upd.tail)))) ?_
    clear H; intro w2 H; (try simp only [size_drew_, size_drewN_, World.size_alloc, World.size_setCell, List.set_cons_zero, List.set_cons_succ] at H)
    obtain ⟨q, hq⟩ : ∃ q, q = paramV ds num ai := ⟨_, rfl⟩
    have HQ := Lib.hid hq
    clear hq
    have hpm : paramV wd num ai = paramV ds num ai := HWL.out.par ai (by omega)
    have hcall := param_calls (HT.out.ext H.ext) (HW.out.ext0 H.ext) HSM.out num ai
    rw [hpm, ← HQ.out] at hcall
    clear hpm
    refine (hcall).mono ?_
    rintro e w_ ⟨rfl, hx⟩
    replace H := H.call hx
    clear hx
    clear hcall
    have hr_ := H.rules; simp only [Rules, and_true] at hr_; have hd_ := H.dif; simp only [Dif, Neq, and_true] at hd_; obtain ⟨ho_, hz_⟩ := H.old0
    go_wp2_with fail
    (try clear hr_ hd_ ho_ hz_)
    refine callsH (by (repeat (first | with_reducible exact H | with_reducible exact H0_ | with_reducible apply Hp.alloc | with_reducible apply Hp.allocMap | with_reducible apply Hp.drew | with_reducible apply Hp.drewN | with_reducible apply Hp.set)); (try any_goals (repeat (first | with_reducible exact Upd.head | with_reducible apply Upd.tail)))) ?_
    clear H; intro w3 H; (try simp only [size_drew_, size_drewN_, World.size_alloc, World.size_setCell, List.set_cons_zero, List.set_cons_succ] at H)
    have hcall := param_calls (HT.out.ext H.ext) (HH.out.ext0 H.ext) (fun x hx => HSM.out x (HWL.out.sub x hx)) num ai
    rw [← HQ.out] at hcall
    refine (hcall).mono ?_
    rintro e w_ ⟨rfl, hx⟩
    replace H := H.call hx
    clear hx
    clear hcall
    have hr_ := H.rules; simp only [Rules, and_true] at hr_; have hd_ := H.dif; simp only [Dif, Neq, and_true] at hd_; obtain ⟨ho_, hz_⟩ := H.old0
    go_wp2_with fail
    (try clear hr_ hd_ ho_ hz_)
    go_ret
    exact ⟨by simp, HX.out.seq H.ext⟩
end Go.Proofs.YtmedomglemllnaaGreatDoor
/- The parts of a sequence. No statement of the seat is proved here. -/
namespace Go.Proofs.YtmedomglemllnaaGreatDoor
set_option linter.unusedSimpArgs false
set_option linter.unusedVariables false
open Go.RowKit

def fstC : Code → Code | .seq x _ => x | c => c
def sndC : Code → Code | .seq _ y => y | c => c
end Go.Proofs.YtmedomglemllnaaGreatDoor
