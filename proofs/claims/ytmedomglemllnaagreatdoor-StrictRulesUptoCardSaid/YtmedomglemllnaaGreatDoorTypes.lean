/- The struct types of package api as Lean data, and how they lie in memory. WRITTEN BY wip/gen/gen_data.py. No statement of the seat is proved here. -/
import Derived.Test.YtmedomglemllnaaGreatDoorData
namespace Go.Proofs.YtmedomglemllnaaGreatDoor
set_option linter.unusedSimpArgs false
set_option linter.unusedVariables false
open Go.RowKit

theorem RC.lv {w : World} {S : Nat → Prop} {x : Lv} {cs : List Value} : RC w S (lvD x) cs ↔ ∃ A c, cs = [.slice A x.length c] ∧ RC w S (.l 237 2 (x.map ptD)) [.slice A x.length c] := by
  constructor
  · intro h
    unfold lvD RC at h
    simp only [RCs] at h
    obtain ⟨c1, _, rfl, h1, rfl⟩ := h
    have l1 := RC.len _ _ h1
    simp only [D.size] at l1
    match c1, l1 with
    | [v], _ =>
      obtain ⟨A, c, rfl, _⟩ := h1.slice
      simp only [List.length_map] at h1 ⊢
      exact ⟨A, c, rfl, h1⟩
  · rintro ⟨A, c, rfl, h⟩
    unfold lvD RC
    simp only [RCs]
    exact ⟨[_], _, rfl, h, rfl⟩
theorem RO.lv {w : World} {B : Nat} {x : Lv} {cs : List Value} {L : List Nat} : RO w B (lvD x) cs L ↔ ∃ v, cs = [v] ∧ RO w B (.l 237 2 (x.map ptD)) [v] L := by
  constructor
  · intro h
    unfold lvD RO at h
    simp only [ROs] at h
    obtain ⟨c1, _, L1, _, rfl, rfl, h1, rfl, rfl⟩ := h
    have l1 := RO.len h1
    simp only [D.size] at l1
    match c1, l1 with
    | [v], _ => exact ⟨v, rfl, by simpa using h1⟩
  · rintro ⟨v, rfl, h⟩
    unfold lvD RO
    simp only [ROs]
    exact ⟨[_], _, L, [], rfl, by simp, h, rfl, rfl⟩
theorem RC.pt {w : World} {S : Nat → Prop} {x : Int × Int} {cs : List Value} : RC w S (ptD x) cs ↔ cs = [.int .i64 x.1, .int .i64 x.2] ∧ inI x.1 ∧ inI x.2 := by
  constructor
  · intro h
    unfold ptD RC at h
    simp only [RCs] at h
    obtain ⟨c1, _, rfl, h1, c2, _, rfl, h2, rfl⟩ := h
    unfold RC at h1 h2
    obtain ⟨rfl, i1⟩ := h1
    obtain ⟨rfl, i2⟩ := h2
    exact ⟨rfl, i1, i2⟩
  · rintro ⟨rfl, h1, h2⟩
    unfold ptD RC
    simp only [RCs]
    exact ⟨[_], _, rfl, by unfold RC; exact ⟨rfl, h1⟩, [_], _, rfl, by unfold RC; exact ⟨rfl, h2⟩, rfl⟩
theorem RO.pt {w : World} {B : Nat} {x : Int × Int} {cs : List Value} {L : List Nat} : RO w B (ptD x) cs L ↔ cs = [.int .i64 x.1, .int .i64 x.2] ∧ inI x.1 ∧ inI x.2 ∧ L = [] := by
  constructor
  · intro h
    unfold ptD RO at h
    simp only [ROs] at h
    obtain ⟨c1, _, L1, _, rfl, rfl, h1, c2, _, L2, _, rfl, rfl, h2, rfl, rfl⟩ := h
    unfold RO at h1 h2
    obtain ⟨rfl, i1, rfl⟩ := h1
    obtain ⟨rfl, i2, rfl⟩ := h2
    exact ⟨rfl, i1, i2, rfl⟩
  · rintro ⟨rfl, h1, h2, rfl⟩
    unfold ptD RO
    simp only [ROs]
    exact ⟨[_], _, [], _, rfl, rfl, by unfold RO; exact ⟨rfl, h1, rfl⟩, [_], _, [], _, rfl, rfl, by unfold RO; exact ⟨rfl, h2, rfl⟩, rfl, rfl⟩
theorem RC.atLv {w : World} {S : Nat → Prop} {xs : List Lv} {A : Option Addr} {n c k : Nat} (h : RC w S (.l 47 1 (xs.map lvD)) [.slice A n c]) (hk : k < xs.length) :
    ∃ b o A1 c1, A = some ⟨b, o, none⟩ ∧ b < w.heap.size ∧ S b ∧ RC w S (.l 237 2 (xs[k].map ptD)) [.slice A1 xs[k].length c1] ∧ w.cell? ⟨b, o + k, none⟩ = some (.slice A1 xs[k].length c1) := by
  obtain ⟨b, o, cs, rfl, hb, hS, hrc, hl, hcell⟩ := h.at_ (i := k) (d := lvD xs[k]) (by simp [hk])
  obtain ⟨A1, c1, rfl, h1⟩ := RC.lv.1 hrc
  exact ⟨b, o, A1, c1, rfl, hb, hS, h1, by simpa using hcell 0 _ rfl⟩
theorem RC.atPt {w : World} {S : Nat → Prop} {xs : List (Int × Int)} {A : Option Addr} {n c k : Nat} (h : RC w S (.l 237 2 (xs.map ptD)) [.slice A n c]) (hk : k < xs.length) :
    ∃ b o, A = some ⟨b, o, none⟩ ∧ b < w.heap.size ∧ S b ∧ inI xs[k].1 ∧ inI xs[k].2 ∧ w.cell? ⟨b, o + k * 2, none⟩ = some (.int .i64 xs[k].1) ∧ w.cell? ⟨b, o + k * 2 + 1, none⟩ = some (.int .i64 xs[k].2) := by
  obtain ⟨b, o, cs, rfl, hb, hS, hrc, hl, hcell⟩ := h.at_ (i := k) (d := ptD xs[k]) (by simp [hk])
  obtain ⟨rfl, h1, h2⟩ := RC.pt.1 hrc
  exact ⟨b, o, rfl, hb, hS, h1, h2, hcell 0 _ rfl, by rw [Nat.add_assoc]; exact hcell 1 _ rfl⟩
structure Mb where
  index : List Tm
def Mb.d (x : Mb) : D := .s [.l 26 5 (x.index.map Tm.d)]
theorem Mb.size_d (x : Mb) : x.d.size = 1 := by simp [Mb.d, D.size, D.sizes]
theorem RC.mb {w : World} {S : Nat → Prop} {x : Mb} {cs : List Value} : RC w S x.d cs ↔ ∃ Aindex cindex, cs = [.slice Aindex x.index.length cindex] ∧ RC w S (.l 26 5 (x.index.map Tm.d)) [.slice Aindex x.index.length cindex] := by
  constructor
  · intro h
    unfold Mb.d RC at h
    simp only [RCs] at h
    obtain ⟨c0_, _, rfl, h0_, rfl⟩ := h
    obtain ⟨v0_, rfl⟩ : ∃ v, c0_ = [v] := by have := RC.len _ _ h0_; simp only [D.size] at this; match c0_, this with | [v], _ => exact ⟨v, rfl⟩
    obtain ⟨A0_, cc0_, rfl, _⟩ := h0_.slice
    simp only [List.length_map] at h0_
    exact ⟨A0_, cc0_, by simp, h0_⟩
  · rintro ⟨Aindex, cindex, rfl, h0_⟩
    unfold Mb.d RC
    simp only [RCs]
    exact ⟨[_], _, rfl, h0_, rfl⟩
theorem RO.mb {w : World} {B : Nat} {x : Mb} {cs : List Value} {L : List Nat} : RO w B x.d cs L ↔ ∃ vindex Lindex, cs = [vindex] ∧ L = Lindex ∧ RO w B (.l 26 5 (x.index.map Tm.d)) [vindex] Lindex := by
  constructor
  · intro h
    unfold Mb.d RO at h
    simp only [ROs] at h
    obtain ⟨c0_, _, L0_, _, rfl, rfl, h0_, rfl, rfl⟩ := h
    obtain ⟨v0_, rfl⟩ : ∃ v, c0_ = [v] := by have := RO.len h0_; simp only [D.size] at this; match c0_, this with | [v], _ => exact ⟨v, rfl⟩
    exact ⟨v0_, L0_, by simp, by simp, h0_⟩
  · rintro ⟨vindex, Lindex, rfl, rfl, h0_⟩
    unfold Mb.d RO
    simp only [ROs]
    exact ⟨[_], _, _, [], rfl, by simp, h0_, rfl, rfl⟩
theorem RC.atMb {w : World} {S : Nat → Prop} {xs : List Mb} {A : Option Addr} {n c k : Nat} (h : RC w S (.l 73 1 (xs.map Mb.d)) [.slice A n c]) (hk : k < xs.length) :
    ∃ b o Aindex cindex, A = some ⟨b, o, none⟩ ∧ b < w.heap.size ∧ S b ∧ RC w S xs[k].d [.slice Aindex xs[k].index.length cindex] ∧
      w.cell? ⟨b, o + k, none⟩ = some (.slice Aindex xs[k].index.length cindex) := by
  obtain ⟨b, o, cs, rfl, hb, hS, hrc, hl, hcell⟩ := h.at_ (i := k) (d := xs[k].d) (by simp [hk])
  obtain ⟨Aindex, cindex, rfl, _⟩ := RC.mb.1 hrc
  exact ⟨b, o, Aindex, cindex, rfl, hb, hS, hrc, by simpa using hcell 0 _ rfl⟩
structure Ct where
  member : Int
  ty : Tm
def Ct.d (x : Ct) : D := .s [.i x.member, x.ty.d]
theorem Ct.size_d (x : Ct) : x.d.size = 6 := by simp [Ct.d, D.size, D.sizes, Tm.size_d]
theorem RC.ct {w : World} {S : Nat → Prop} {x : Ct} {cs : List Value} : RC w S x.d cs ↔ ∃ Aty cty Kty kty, cs = [.int .i64 x.member, .int .i64 x.ty.k, .int .i64 x.ty.n, .int .i64 x.ty.a, .slice Aty x.ty.ls.length cty, .slice Kty x.ty.ks.length kty] ∧ inI x.member ∧ RC w S x.ty.d [.int .i64 x.ty.k, .int .i64 x.ty.n, .int .i64 x.ty.a, .slice Aty x.ty.ls.length cty, .slice Kty x.ty.ks.length kty] := by
  constructor
  · intro h
    unfold Ct.d RC at h
    simp only [RCs] at h
    obtain ⟨c0_, _, rfl, h0_, c1_, _, rfl, h1_, rfl⟩ := h
    unfold RC at h0_
    obtain ⟨rfl, i0_⟩ := h0_
    obtain ⟨A1_, cc1_, K1_, kk1_, rfl, _⟩ := RC.tm.1 h1_
    exact ⟨A1_, cc1_, K1_, kk1_, by simp, i0_, h1_⟩
  · rintro ⟨Aty, cty, Kty, kty, rfl, h0_, h1_⟩
    unfold Ct.d RC
    simp only [RCs]
    exact ⟨[_], _, rfl, by unfold RC; exact ⟨rfl, h0_⟩, [_, _, _, _, _], _, rfl, h1_, rfl⟩
theorem RO.ct {w : World} {B : Nat} {x : Ct} {cs : List Value} {L : List Nat} : RO w B x.d cs L ↔ ∃ vty uty Lty, cs = [.int .i64 x.member, .int .i64 x.ty.k, .int .i64 x.ty.n, .int .i64 x.ty.a, vty, uty] ∧ L = Lty ∧ inI x.member ∧ RO w B x.ty.d [.int .i64 x.ty.k, .int .i64 x.ty.n, .int .i64 x.ty.a, vty, uty] Lty := by
  constructor
  · intro h
    unfold Ct.d RO at h
    simp only [ROs] at h
    obtain ⟨c0_, _, L0_, _, rfl, rfl, h0_, c1_, _, L1_, _, rfl, rfl, h1_, rfl, rfl⟩ := h
    unfold RO at h0_
    obtain ⟨rfl, i0_, rfl⟩ := h0_
    obtain ⟨v1_, u1_, M1_, N1_, rfl, rfl, _⟩ := RO.tm.1 h1_
    exact ⟨v1_, u1_, _, by simp, by simp, i0_, h1_⟩
  · rintro ⟨vty, uty, Lty, rfl, rfl, h0_, h1_⟩
    unfold Ct.d RO
    simp only [ROs]
    exact ⟨[_], _, [], _, rfl, rfl, by unfold RO; exact ⟨rfl, h0_, rfl⟩, [_, _, _, _, _], _, _, [], rfl, by simp, h1_, rfl, rfl⟩
theorem RC.atCt {w : World} {S : Nat → Prop} {xs : List Ct} {A : Option Addr} {n c k : Nat} (h : RC w S (.l 148 6 (xs.map Ct.d)) [.slice A n c]) (hk : k < xs.length) :
    ∃ b o Aty cty Kty kty, A = some ⟨b, o, none⟩ ∧ b < w.heap.size ∧ S b ∧ RC w S xs[k].d [.int .i64 xs[k].member, .int .i64 xs[k].ty.k, .int .i64 xs[k].ty.n, .int .i64 xs[k].ty.a, .slice Aty xs[k].ty.ls.length cty, .slice Kty xs[k].ty.ks.length kty] ∧
      w.cell? ⟨b, o + k * 6, none⟩ = some (.int .i64 xs[k].member) ∧ w.cell? ⟨b, o + k * 6 + 1, none⟩ = some (.int .i64 xs[k].ty.k) ∧ w.cell? ⟨b, o + k * 6 + 2, none⟩ = some (.int .i64 xs[k].ty.n) ∧ w.cell? ⟨b, o + k * 6 + 3, none⟩ = some (.int .i64 xs[k].ty.a) ∧ w.cell? ⟨b, o + k * 6 + 4, none⟩ = some (.slice Aty xs[k].ty.ls.length cty) ∧ w.cell? ⟨b, o + k * 6 + 5, none⟩ = some (.slice Kty xs[k].ty.ks.length kty) := by
  obtain ⟨b, o, cs, rfl, hb, hS, hrc, hl, hcell⟩ := h.at_ (i := k) (d := xs[k].d) (by simp [hk])
  obtain ⟨Aty, cty, Kty, kty, rfl, _⟩ := RC.ct.1 hrc
  exact ⟨b, o, Aty, cty, Kty, kty, rfl, hb, hS, hrc, hcell 0 _ rfl, by rw [Nat.add_assoc]; exact hcell 1 _ rfl, by rw [Nat.add_assoc]; exact hcell 2 _ rfl, by rw [Nat.add_assoc]; exact hcell 3 _ rfl, by rw [Nat.add_assoc]; exact hcell 4 _ rfl, by rw [Nat.add_assoc]; exact hcell 5 _ rfl⟩
structure Dc where
  kind : Int
  levels : Int
  ty : Tm
  body : Tm
  params : List Tm
  sort : Lv
  members : List Mb
  ctors : List Ct
def Dc.d (x : Dc) : D := .s [.i x.kind, .i x.levels, x.ty.d, x.body.d, .l 26 5 (x.params.map Tm.d), lvD x.sort, .l 73 1 (x.members.map Mb.d), .l 148 6 (x.ctors.map Ct.d)]
theorem Dc.size_d (x : Dc) : x.d.size = 16 := by simp [Dc.d, D.size, D.sizes, Tm.size_d, lvD_size]
theorem RC.dc {w : World} {S : Nat → Prop} {x : Dc} {cs : List Value} : RC w S x.d cs ↔ ∃ Aty cty Kty kty Abody cbody Kbody kbody Aparams cparams Asort csort Amembers cmembers Actors cctors, cs = [.int .i64 x.kind, .int .i64 x.levels, .int .i64 x.ty.k, .int .i64 x.ty.n, .int .i64 x.ty.a, .slice Aty x.ty.ls.length cty, .slice Kty x.ty.ks.length kty, .int .i64 x.body.k, .int .i64 x.body.n, .int .i64 x.body.a, .slice Abody x.body.ls.length cbody, .slice Kbody x.body.ks.length kbody, .slice Aparams x.params.length cparams, .slice Asort x.sort.length csort, .slice Amembers x.members.length cmembers, .slice Actors x.ctors.length cctors] ∧ inI x.kind ∧ inI x.levels ∧ RC w S x.ty.d [.int .i64 x.ty.k, .int .i64 x.ty.n, .int .i64 x.ty.a, .slice Aty x.ty.ls.length cty, .slice Kty x.ty.ks.length kty] ∧ RC w S x.body.d [.int .i64 x.body.k, .int .i64 x.body.n, .int .i64 x.body.a, .slice Abody x.body.ls.length cbody, .slice Kbody x.body.ks.length kbody] ∧ RC w S (.l 26 5 (x.params.map Tm.d)) [.slice Aparams x.params.length cparams] ∧ RC w S (.l 237 2 (x.sort.map ptD)) [.slice Asort x.sort.length csort] ∧ RC w S (.l 73 1 (x.members.map Mb.d)) [.slice Amembers x.members.length cmembers] ∧ RC w S (.l 148 6 (x.ctors.map Ct.d)) [.slice Actors x.ctors.length cctors] := by
  constructor
  · intro h
    unfold Dc.d RC at h
    simp only [RCs] at h
    obtain ⟨c0_, _, rfl, h0_, c1_, _, rfl, h1_, c2_, _, rfl, h2_, c3_, _, rfl, h3_, c4_, _, rfl, h4_, c5_, _, rfl, h5_, c6_, _, rfl, h6_, c7_, _, rfl, h7_, rfl⟩ := h
    unfold RC at h0_
    obtain ⟨rfl, i0_⟩ := h0_
    unfold RC at h1_
    obtain ⟨rfl, i1_⟩ := h1_
    obtain ⟨A2_, cc2_, K2_, kk2_, rfl, _⟩ := RC.tm.1 h2_
    obtain ⟨A3_, cc3_, K3_, kk3_, rfl, _⟩ := RC.tm.1 h3_
    obtain ⟨v4_, rfl⟩ : ∃ v, c4_ = [v] := by have := RC.len _ _ h4_; simp only [D.size] at this; match c4_, this with | [v], _ => exact ⟨v, rfl⟩
    obtain ⟨A4_, cc4_, rfl, _⟩ := h4_.slice
    simp only [List.length_map] at h4_
    obtain ⟨A5_, cc5_, rfl, g5_⟩ := RC.lv.1 h5_
    obtain ⟨v6_, rfl⟩ : ∃ v, c6_ = [v] := by have := RC.len _ _ h6_; simp only [D.size] at this; match c6_, this with | [v], _ => exact ⟨v, rfl⟩
    obtain ⟨A6_, cc6_, rfl, _⟩ := h6_.slice
    simp only [List.length_map] at h6_
    obtain ⟨v7_, rfl⟩ : ∃ v, c7_ = [v] := by have := RC.len _ _ h7_; simp only [D.size] at this; match c7_, this with | [v], _ => exact ⟨v, rfl⟩
    obtain ⟨A7_, cc7_, rfl, _⟩ := h7_.slice
    simp only [List.length_map] at h7_
    exact ⟨A2_, cc2_, K2_, kk2_, A3_, cc3_, K3_, kk3_, A4_, cc4_, A5_, cc5_, A6_, cc6_, A7_, cc7_, by simp, i0_, i1_, h2_, h3_, h4_, g5_, h6_, h7_⟩
  · rintro ⟨Aty, cty, Kty, kty, Abody, cbody, Kbody, kbody, Aparams, cparams, Asort, csort, Amembers, cmembers, Actors, cctors, rfl, h0_, h1_, h2_, h3_, h4_, h5_, h6_, h7_⟩
    unfold Dc.d RC
    simp only [RCs]
    exact ⟨[_], _, rfl, by unfold RC; exact ⟨rfl, h0_⟩, [_], _, rfl, by unfold RC; exact ⟨rfl, h1_⟩, [_, _, _, _, _], _, rfl, h2_, [_, _, _, _, _], _, rfl, h3_, [_], _, rfl, h4_, [_], _, rfl, RC.lv.2 ⟨_, _, rfl, h5_⟩, [_], _, rfl, h6_, [_], _, rfl, h7_, rfl⟩
theorem RO.dc {w : World} {B : Nat} {x : Dc} {cs : List Value} {L : List Nat} : RO w B x.d cs L ↔ ∃ vty uty Lty vbody ubody Lbody vparams Lparams vsort Lsort vmembers Lmembers vctors Lctors, cs = [.int .i64 x.kind, .int .i64 x.levels, .int .i64 x.ty.k, .int .i64 x.ty.n, .int .i64 x.ty.a, vty, uty, .int .i64 x.body.k, .int .i64 x.body.n, .int .i64 x.body.a, vbody, ubody, vparams, vsort, vmembers, vctors] ∧ L = Lty ++ (Lbody ++ (Lparams ++ (Lsort ++ (Lmembers ++ Lctors)))) ∧ inI x.kind ∧ inI x.levels ∧ RO w B x.ty.d [.int .i64 x.ty.k, .int .i64 x.ty.n, .int .i64 x.ty.a, vty, uty] Lty ∧ RO w B x.body.d [.int .i64 x.body.k, .int .i64 x.body.n, .int .i64 x.body.a, vbody, ubody] Lbody ∧ RO w B (.l 26 5 (x.params.map Tm.d)) [vparams] Lparams ∧ RO w B (.l 237 2 (x.sort.map ptD)) [vsort] Lsort ∧ RO w B (.l 73 1 (x.members.map Mb.d)) [vmembers] Lmembers ∧ RO w B (.l 148 6 (x.ctors.map Ct.d)) [vctors] Lctors := by
  constructor
  · intro h
    unfold Dc.d RO at h
    simp only [ROs] at h
    obtain ⟨c0_, _, L0_, _, rfl, rfl, h0_, c1_, _, L1_, _, rfl, rfl, h1_, c2_, _, L2_, _, rfl, rfl, h2_, c3_, _, L3_, _, rfl, rfl, h3_, c4_, _, L4_, _, rfl, rfl, h4_, c5_, _, L5_, _, rfl, rfl, h5_, c6_, _, L6_, _, rfl, rfl, h6_, c7_, _, L7_, _, rfl, rfl, h7_, rfl, rfl⟩ := h
    unfold RO at h0_
    obtain ⟨rfl, i0_, rfl⟩ := h0_
    unfold RO at h1_
    obtain ⟨rfl, i1_, rfl⟩ := h1_
    obtain ⟨v2_, u2_, M2_, N2_, rfl, rfl, _⟩ := RO.tm.1 h2_
    obtain ⟨v3_, u3_, M3_, N3_, rfl, rfl, _⟩ := RO.tm.1 h3_
    obtain ⟨v4_, rfl⟩ : ∃ v, c4_ = [v] := by have := RO.len h4_; simp only [D.size] at this; match c4_, this with | [v], _ => exact ⟨v, rfl⟩
    obtain ⟨v5_, rfl, g5_⟩ := RO.lv.1 h5_
    obtain ⟨v6_, rfl⟩ : ∃ v, c6_ = [v] := by have := RO.len h6_; simp only [D.size] at this; match c6_, this with | [v], _ => exact ⟨v, rfl⟩
    obtain ⟨v7_, rfl⟩ : ∃ v, c7_ = [v] := by have := RO.len h7_; simp only [D.size] at this; match c7_, this with | [v], _ => exact ⟨v, rfl⟩
    exact ⟨v2_, u2_, _, v3_, u3_, _, v4_, L4_, v5_, L5_, v6_, L6_, v7_, L7_, by simp, by simp, i0_, i1_, h2_, h3_, h4_, g5_, h6_, h7_⟩
  · rintro ⟨vty, uty, Lty, vbody, ubody, Lbody, vparams, Lparams, vsort, Lsort, vmembers, Lmembers, vctors, Lctors, rfl, rfl, h0_, h1_, h2_, h3_, h4_, h5_, h6_, h7_⟩
    unfold Dc.d RO
    simp only [ROs]
    exact ⟨[_], _, [], _, rfl, rfl, by unfold RO; exact ⟨rfl, h0_, rfl⟩, [_], _, [], _, rfl, rfl, by unfold RO; exact ⟨rfl, h1_, rfl⟩, [_, _, _, _, _], _, _, _, rfl, rfl, h2_, [_, _, _, _, _], _, _, _, rfl, rfl, h3_, [_], _, _, _, rfl, rfl, h4_, [_], _, _, _, rfl, rfl, RO.lv.2 ⟨_, rfl, h5_⟩, [_], _, _, _, rfl, rfl, h6_, [_], _, _, [], rfl, by simp, h7_, rfl, rfl⟩
theorem RC.atDc {w : World} {S : Nat → Prop} {xs : List Dc} {A : Option Addr} {n c k : Nat} (h : RC w S (.l 51 16 (xs.map Dc.d)) [.slice A n c]) (hk : k < xs.length) :
    ∃ b o Aty cty Kty kty Abody cbody Kbody kbody Aparams cparams Asort csort Amembers cmembers Actors cctors, A = some ⟨b, o, none⟩ ∧ b < w.heap.size ∧ S b ∧ RC w S xs[k].d [.int .i64 xs[k].kind, .int .i64 xs[k].levels, .int .i64 xs[k].ty.k, .int .i64 xs[k].ty.n, .int .i64 xs[k].ty.a, .slice Aty xs[k].ty.ls.length cty, .slice Kty xs[k].ty.ks.length kty, .int .i64 xs[k].body.k, .int .i64 xs[k].body.n, .int .i64 xs[k].body.a, .slice Abody xs[k].body.ls.length cbody, .slice Kbody xs[k].body.ks.length kbody, .slice Aparams xs[k].params.length cparams, .slice Asort xs[k].sort.length csort, .slice Amembers xs[k].members.length cmembers, .slice Actors xs[k].ctors.length cctors] ∧
      w.cell? ⟨b, o + k * 16, none⟩ = some (.int .i64 xs[k].kind) ∧ w.cell? ⟨b, o + k * 16 + 1, none⟩ = some (.int .i64 xs[k].levels) ∧ w.cell? ⟨b, o + k * 16 + 2, none⟩ = some (.int .i64 xs[k].ty.k) ∧ w.cell? ⟨b, o + k * 16 + 3, none⟩ = some (.int .i64 xs[k].ty.n) ∧ w.cell? ⟨b, o + k * 16 + 4, none⟩ = some (.int .i64 xs[k].ty.a) ∧ w.cell? ⟨b, o + k * 16 + 5, none⟩ = some (.slice Aty xs[k].ty.ls.length cty) ∧ w.cell? ⟨b, o + k * 16 + 6, none⟩ = some (.slice Kty xs[k].ty.ks.length kty) ∧ w.cell? ⟨b, o + k * 16 + 7, none⟩ = some (.int .i64 xs[k].body.k) ∧ w.cell? ⟨b, o + k * 16 + 8, none⟩ = some (.int .i64 xs[k].body.n) ∧ w.cell? ⟨b, o + k * 16 + 9, none⟩ = some (.int .i64 xs[k].body.a) ∧ w.cell? ⟨b, o + k * 16 + 10, none⟩ = some (.slice Abody xs[k].body.ls.length cbody) ∧ w.cell? ⟨b, o + k * 16 + 11, none⟩ = some (.slice Kbody xs[k].body.ks.length kbody) ∧ w.cell? ⟨b, o + k * 16 + 12, none⟩ = some (.slice Aparams xs[k].params.length cparams) ∧ w.cell? ⟨b, o + k * 16 + 13, none⟩ = some (.slice Asort xs[k].sort.length csort) ∧ w.cell? ⟨b, o + k * 16 + 14, none⟩ = some (.slice Amembers xs[k].members.length cmembers) ∧ w.cell? ⟨b, o + k * 16 + 15, none⟩ = some (.slice Actors xs[k].ctors.length cctors) := by
  obtain ⟨b, o, cs, rfl, hb, hS, hrc, hl, hcell⟩ := h.at_ (i := k) (d := xs[k].d) (by simp [hk])
  obtain ⟨Aty, cty, Kty, kty, Abody, cbody, Kbody, kbody, Aparams, cparams, Asort, csort, Amembers, cmembers, Actors, cctors, rfl, _⟩ := RC.dc.1 hrc
  exact ⟨b, o, Aty, cty, Kty, kty, Abody, cbody, Kbody, kbody, Aparams, cparams, Asort, csort, Amembers, cmembers, Actors, cctors, rfl, hb, hS, hrc, hcell 0 _ rfl, by rw [Nat.add_assoc]; exact hcell 1 _ rfl, by rw [Nat.add_assoc]; exact hcell 2 _ rfl, by rw [Nat.add_assoc]; exact hcell 3 _ rfl, by rw [Nat.add_assoc]; exact hcell 4 _ rfl, by rw [Nat.add_assoc]; exact hcell 5 _ rfl, by rw [Nat.add_assoc]; exact hcell 6 _ rfl, by rw [Nat.add_assoc]; exact hcell 7 _ rfl, by rw [Nat.add_assoc]; exact hcell 8 _ rfl, by rw [Nat.add_assoc]; exact hcell 9 _ rfl, by rw [Nat.add_assoc]; exact hcell 10 _ rfl, by rw [Nat.add_assoc]; exact hcell 11 _ rfl, by rw [Nat.add_assoc]; exact hcell 12 _ rfl, by rw [Nat.add_assoc]; exact hcell 13 _ rfl, by rw [Nat.add_assoc]; exact hcell 14 _ rfl, by rw [Nat.add_assoc]; exact hcell 15 _ rfl⟩
theorem stDcs : SlT Tryz.prog 43 51 16 := SlT.of Tryz.underlying43 (bytes := 256) (zv := .agg #[.int .i64 0, .int .i64 0, .int .i64 0, .int .i64 0, .int .i64 0, .slice none 0 0, .slice none 0 0, .int .i64 0, .int .i64 0, .int .i64 0, .slice none 0 0, .slice none 0 0, .slice none 0 0, .slice none 0 0, .slice none 0 0, .slice none 0 0]) (by kernel_rfl) rfl (by decide) (by decide)

structure Ar where
  rc : Bool
  ty : Tm
  tele : List Tm
  member : Int
  index : List Tm
def Ar.d (x : Ar) : D := .s [.b x.rc, x.ty.d, .l 26 5 (x.tele.map Tm.d), .i x.member, .l 26 5 (x.index.map Tm.d)]
theorem Ar.size_d (x : Ar) : x.d.size = 9 := by simp [Ar.d, D.size, D.sizes, Tm.size_d]
theorem RC.ar {w : World} {S : Nat → Prop} {x : Ar} {cs : List Value} : RC w S x.d cs ↔ ∃ Aty cty Kty kty Atele ctele Aindex cindex, cs = [.bool x.rc, .int .i64 x.ty.k, .int .i64 x.ty.n, .int .i64 x.ty.a, .slice Aty x.ty.ls.length cty, .slice Kty x.ty.ks.length kty, .slice Atele x.tele.length ctele, .int .i64 x.member, .slice Aindex x.index.length cindex] ∧ RC w S x.ty.d [.int .i64 x.ty.k, .int .i64 x.ty.n, .int .i64 x.ty.a, .slice Aty x.ty.ls.length cty, .slice Kty x.ty.ks.length kty] ∧ RC w S (.l 26 5 (x.tele.map Tm.d)) [.slice Atele x.tele.length ctele] ∧ inI x.member ∧ RC w S (.l 26 5 (x.index.map Tm.d)) [.slice Aindex x.index.length cindex] := by
  constructor
  · intro h
    unfold Ar.d RC at h
    simp only [RCs] at h
    obtain ⟨c0_, _, rfl, h0_, c1_, _, rfl, h1_, c2_, _, rfl, h2_, c3_, _, rfl, h3_, c4_, _, rfl, h4_, rfl⟩ := h
    unfold RC at h0_
    subst h0_
    obtain ⟨A1_, cc1_, K1_, kk1_, rfl, _⟩ := RC.tm.1 h1_
    obtain ⟨v2_, rfl⟩ : ∃ v, c2_ = [v] := by have := RC.len _ _ h2_; simp only [D.size] at this; match c2_, this with | [v], _ => exact ⟨v, rfl⟩
    obtain ⟨A2_, cc2_, rfl, _⟩ := h2_.slice
    simp only [List.length_map] at h2_
    unfold RC at h3_
    obtain ⟨rfl, i3_⟩ := h3_
    obtain ⟨v4_, rfl⟩ : ∃ v, c4_ = [v] := by have := RC.len _ _ h4_; simp only [D.size] at this; match c4_, this with | [v], _ => exact ⟨v, rfl⟩
    obtain ⟨A4_, cc4_, rfl, _⟩ := h4_.slice
    simp only [List.length_map] at h4_
    exact ⟨A1_, cc1_, K1_, kk1_, A2_, cc2_, A4_, cc4_, by simp, h1_, h2_, i3_, h4_⟩
  · rintro ⟨Aty, cty, Kty, kty, Atele, ctele, Aindex, cindex, rfl, h1_, h2_, h3_, h4_⟩
    unfold Ar.d RC
    simp only [RCs]
    exact ⟨[_], _, rfl, by unfold RC; rfl, [_, _, _, _, _], _, rfl, h1_, [_], _, rfl, h2_, [_], _, rfl, by unfold RC; exact ⟨rfl, h3_⟩, [_], _, rfl, h4_, rfl⟩
theorem RO.ar {w : World} {B : Nat} {x : Ar} {cs : List Value} {L : List Nat} : RO w B x.d cs L ↔ ∃ vty uty Lty vtele Ltele vindex Lindex, cs = [.bool x.rc, .int .i64 x.ty.k, .int .i64 x.ty.n, .int .i64 x.ty.a, vty, uty, vtele, .int .i64 x.member, vindex] ∧ L = Lty ++ (Ltele ++ Lindex) ∧ RO w B x.ty.d [.int .i64 x.ty.k, .int .i64 x.ty.n, .int .i64 x.ty.a, vty, uty] Lty ∧ RO w B (.l 26 5 (x.tele.map Tm.d)) [vtele] Ltele ∧ inI x.member ∧ RO w B (.l 26 5 (x.index.map Tm.d)) [vindex] Lindex := by
  constructor
  · intro h
    unfold Ar.d RO at h
    simp only [ROs] at h
    obtain ⟨c0_, _, L0_, _, rfl, rfl, h0_, c1_, _, L1_, _, rfl, rfl, h1_, c2_, _, L2_, _, rfl, rfl, h2_, c3_, _, L3_, _, rfl, rfl, h3_, c4_, _, L4_, _, rfl, rfl, h4_, rfl, rfl⟩ := h
    unfold RO at h0_
    obtain ⟨rfl, rfl⟩ := h0_
    obtain ⟨v1_, u1_, M1_, N1_, rfl, rfl, _⟩ := RO.tm.1 h1_
    obtain ⟨v2_, rfl⟩ : ∃ v, c2_ = [v] := by have := RO.len h2_; simp only [D.size] at this; match c2_, this with | [v], _ => exact ⟨v, rfl⟩
    unfold RO at h3_
    obtain ⟨rfl, i3_, rfl⟩ := h3_
    obtain ⟨v4_, rfl⟩ : ∃ v, c4_ = [v] := by have := RO.len h4_; simp only [D.size] at this; match c4_, this with | [v], _ => exact ⟨v, rfl⟩
    exact ⟨v1_, u1_, _, v2_, L2_, v4_, L4_, by simp, by simp, h1_, h2_, i3_, h4_⟩
  · rintro ⟨vty, uty, Lty, vtele, Ltele, vindex, Lindex, rfl, rfl, h1_, h2_, h3_, h4_⟩
    unfold Ar.d RO
    simp only [ROs]
    exact ⟨[_], _, [], _, rfl, rfl, by unfold RO; exact ⟨rfl, rfl⟩, [_, _, _, _, _], _, _, _, rfl, rfl, h1_, [_], _, _, _, rfl, rfl, h2_, [_], _, [], _, rfl, rfl, by unfold RO; exact ⟨rfl, h3_, rfl⟩, [_], _, _, [], rfl, by simp, h4_, rfl, rfl⟩
theorem RC.atAr {w : World} {S : Nat → Prop} {xs : List Ar} {A : Option Addr} {n c k : Nat} (h : RC w S (.l 145 9 (xs.map Ar.d)) [.slice A n c]) (hk : k < xs.length) :
    ∃ b o Aty cty Kty kty Atele ctele Aindex cindex, A = some ⟨b, o, none⟩ ∧ b < w.heap.size ∧ S b ∧ RC w S xs[k].d [.bool xs[k].rc, .int .i64 xs[k].ty.k, .int .i64 xs[k].ty.n, .int .i64 xs[k].ty.a, .slice Aty xs[k].ty.ls.length cty, .slice Kty xs[k].ty.ks.length kty, .slice Atele xs[k].tele.length ctele, .int .i64 xs[k].member, .slice Aindex xs[k].index.length cindex] ∧
      w.cell? ⟨b, o + k * 9, none⟩ = some (.bool xs[k].rc) ∧ w.cell? ⟨b, o + k * 9 + 1, none⟩ = some (.int .i64 xs[k].ty.k) ∧ w.cell? ⟨b, o + k * 9 + 2, none⟩ = some (.int .i64 xs[k].ty.n) ∧ w.cell? ⟨b, o + k * 9 + 3, none⟩ = some (.int .i64 xs[k].ty.a) ∧ w.cell? ⟨b, o + k * 9 + 4, none⟩ = some (.slice Aty xs[k].ty.ls.length cty) ∧ w.cell? ⟨b, o + k * 9 + 5, none⟩ = some (.slice Kty xs[k].ty.ks.length kty) ∧ w.cell? ⟨b, o + k * 9 + 6, none⟩ = some (.slice Atele xs[k].tele.length ctele) ∧ w.cell? ⟨b, o + k * 9 + 7, none⟩ = some (.int .i64 xs[k].member) ∧ w.cell? ⟨b, o + k * 9 + 8, none⟩ = some (.slice Aindex xs[k].index.length cindex) := by
  obtain ⟨b, o, cs, rfl, hb, hS, hrc, hl, hcell⟩ := h.at_ (i := k) (d := xs[k].d) (by simp [hk])
  obtain ⟨Aty, cty, Kty, kty, Atele, ctele, Aindex, cindex, rfl, _⟩ := RC.ar.1 hrc
  exact ⟨b, o, Aty, cty, Kty, kty, Atele, ctele, Aindex, cindex, rfl, hb, hS, hrc, hcell 0 _ rfl, by rw [Nat.add_assoc]; exact hcell 1 _ rfl, by rw [Nat.add_assoc]; exact hcell 2 _ rfl, by rw [Nat.add_assoc]; exact hcell 3 _ rfl, by rw [Nat.add_assoc]; exact hcell 4 _ rfl, by rw [Nat.add_assoc]; exact hcell 5 _ rfl, by rw [Nat.add_assoc]; exact hcell 6 _ rfl, by rw [Nat.add_assoc]; exact hcell 7 _ rfl, by rw [Nat.add_assoc]; exact hcell 8 _ rfl⟩
theorem stArs : SlT Tryz.prog 141 145 9 := SlT.of Tryz.underlying141 (bytes := 136) (zv := .agg #[.bool false, .int .i64 0, .int .i64 0, .int .i64 0, .slice none 0 0, .slice none 0 0, .slice none 0 0, .int .i64 0, .slice none 0 0]) (by kernel_rfl) rfl (by decide) (by decide)

structure Ru where
  member : Int
  args : List Ar
  index : List Tm
def Ru.d (x : Ru) : D := .s [.i x.member, .l 145 9 (x.args.map Ar.d), .l 26 5 (x.index.map Tm.d)]
theorem Ru.size_d (x : Ru) : x.d.size = 3 := by simp [Ru.d, D.size, D.sizes]
theorem RC.ru {w : World} {S : Nat → Prop} {x : Ru} {cs : List Value} : RC w S x.d cs ↔ ∃ Aargs cargs Aindex cindex, cs = [.int .i64 x.member, .slice Aargs x.args.length cargs, .slice Aindex x.index.length cindex] ∧ inI x.member ∧ RC w S (.l 145 9 (x.args.map Ar.d)) [.slice Aargs x.args.length cargs] ∧ RC w S (.l 26 5 (x.index.map Tm.d)) [.slice Aindex x.index.length cindex] := by
  constructor
  · intro h
    unfold Ru.d RC at h
    simp only [RCs] at h
    obtain ⟨c0_, _, rfl, h0_, c1_, _, rfl, h1_, c2_, _, rfl, h2_, rfl⟩ := h
    unfold RC at h0_
    obtain ⟨rfl, i0_⟩ := h0_
    obtain ⟨v1_, rfl⟩ : ∃ v, c1_ = [v] := by have := RC.len _ _ h1_; simp only [D.size] at this; match c1_, this with | [v], _ => exact ⟨v, rfl⟩
    obtain ⟨A1_, cc1_, rfl, _⟩ := h1_.slice
    simp only [List.length_map] at h1_
    obtain ⟨v2_, rfl⟩ : ∃ v, c2_ = [v] := by have := RC.len _ _ h2_; simp only [D.size] at this; match c2_, this with | [v], _ => exact ⟨v, rfl⟩
    obtain ⟨A2_, cc2_, rfl, _⟩ := h2_.slice
    simp only [List.length_map] at h2_
    exact ⟨A1_, cc1_, A2_, cc2_, by simp, i0_, h1_, h2_⟩
  · rintro ⟨Aargs, cargs, Aindex, cindex, rfl, h0_, h1_, h2_⟩
    unfold Ru.d RC
    simp only [RCs]
    exact ⟨[_], _, rfl, by unfold RC; exact ⟨rfl, h0_⟩, [_], _, rfl, h1_, [_], _, rfl, h2_, rfl⟩
theorem RO.ru {w : World} {B : Nat} {x : Ru} {cs : List Value} {L : List Nat} : RO w B x.d cs L ↔ ∃ vargs Largs vindex Lindex, cs = [.int .i64 x.member, vargs, vindex] ∧ L = Largs ++ Lindex ∧ inI x.member ∧ RO w B (.l 145 9 (x.args.map Ar.d)) [vargs] Largs ∧ RO w B (.l 26 5 (x.index.map Tm.d)) [vindex] Lindex := by
  constructor
  · intro h
    unfold Ru.d RO at h
    simp only [ROs] at h
    obtain ⟨c0_, _, L0_, _, rfl, rfl, h0_, c1_, _, L1_, _, rfl, rfl, h1_, c2_, _, L2_, _, rfl, rfl, h2_, rfl, rfl⟩ := h
    unfold RO at h0_
    obtain ⟨rfl, i0_, rfl⟩ := h0_
    obtain ⟨v1_, rfl⟩ : ∃ v, c1_ = [v] := by have := RO.len h1_; simp only [D.size] at this; match c1_, this with | [v], _ => exact ⟨v, rfl⟩
    obtain ⟨v2_, rfl⟩ : ∃ v, c2_ = [v] := by have := RO.len h2_; simp only [D.size] at this; match c2_, this with | [v], _ => exact ⟨v, rfl⟩
    exact ⟨v1_, L1_, v2_, L2_, by simp, by simp, i0_, h1_, h2_⟩
  · rintro ⟨vargs, Largs, vindex, Lindex, rfl, rfl, h0_, h1_, h2_⟩
    unfold Ru.d RO
    simp only [ROs]
    exact ⟨[_], _, [], _, rfl, rfl, by unfold RO; exact ⟨rfl, h0_, rfl⟩, [_], _, _, _, rfl, rfl, h1_, [_], _, _, [], rfl, by simp, h2_, rfl, rfl⟩
theorem stRus : SlT Tryz.prog 59 143 3 := SlT.of Tryz.underlying59 (bytes := 56) (zv := .agg #[.int .i64 0, .slice none 0 0, .slice none 0 0]) (by kernel_rfl) rfl (by decide) (by decide)

end Go.Proofs.YtmedomglemllnaaGreatDoor
