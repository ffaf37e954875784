/- source: the declaration of a node: contract. No statement of the seat is proved here. -/
import Derived.Test.YtgbokmphbimihaaDoorMgSrc1
namespace Go.Proofs.YtgbokmphbimihaaDoor
set_option linter.unusedSimpArgs false
set_option linter.unusedVariables false
open Go.RowKit

theorem RC.dcL {w : World} {S : Nat → Prop} {d : Dc} {cs : List Value} (h : RC w S d.d cs) : cs[1]? = some (.int .i64 d.levels) := by
  obtain ⟨Aty, cty, Kty, kty, Abody, cbody, Kbody, kbody, Aparams, cparams, Asort, csort, Amembers, cmembers, Actors, cctors, rfl, hr⟩ := RC.dc.1 h
  rfl
/-- Is there a declaration of that number, with so many levels? -/
def declAt (ds : List Dc) (m : Int) (nl : Nat) (more : Int) : Option Dc := if h : m.toNat < ds.length then (if (nl : Int) = wrap64 (ds[m.toNat].levels + more) then some ds[m.toNat] else none) else none
/-- A declaration, or wrong thrown. -/
def PDcl (w : World) (S : Nat → Prop) (o : Option Dc) (e : Ending) (w' : World) : Prop := Ext no w w' ∧ match o with
  | none => e = .panicked wrongP
  | some d => ∃ cs : List Value, e = .returned (.agg cs.toArray) ∧ RC w S d.d cs
set_option maxRecDepth 100000 in
set_option maxHeartbeats 4000000 in
theorem decl11_calls {w : World} {S S1 : Nat → Prop} {ds : List Dc} {t : Tm} {v : Value} {A : Option Addr} {nd c : Nat} {n sf sc more : Int} (h : RC w S (.l 37 16 (ds.map Dc.d)) [.slice A nd c]) (hn : nd = ds.length) (ht : TV w S1 t v) (h0 : 0 ≤ t.n) :
    Calls Tryd.prog 196 #[wkV A nd c n sf sc, v, .int .i64 more] w (PDcl w S (declAt ds t.n t.ls.length more)) := by
  subst hn
  obtain ⟨A0, ca, K0, ck, rfl, hrc⟩ := ht
  have hM := h.lenM
  clear hrc
  obtain ⟨j, hj⟩ : ∃ j : Nat, t.n = (j : Int) := ⟨t.n.toNat, by omega⟩
  rw [hj]
  clear h0 hj
  go_enter Tryd.func196, Tryd.ntmps196
  go_wp2_with fail
  have H := Hp.start no w
  refine callsH (by (repeat (first | with_reducible exact H | with_reducible exact H0_ | with_reducible apply Hp.alloc | with_reducible apply Hp.allocMap | with_reducible apply Hp.drew | with_reducible apply Hp.drewN | with_reducible apply Hp.set)); (try any_goals (repeat (first | with_reducible exact Upd.head | with_reducible apply Upd.tail)))) ?_
  clear H; intro w1 H; (try simp only [size_drew_, size_drewN_, World.size_alloc, World.size_setCell, List.set_cons_zero, List.set_cons_succ] at H)
  refine (smust1 H).mono ?_
  rintro e w2 hm
  have hx := hm.2
  have HM := Lib.hid hm
  clear hm
  replace H := H.call hx
  clear hx
  by_cases hlt : j < ds.length
  · obtain rfl := HM.out.yes (by simpa using hlt)
    obtain ⟨b, o, cs, rfl, hb, hS, hd, hl, hcell⟩ := h.el (i := j) (d := ds[j].d) (by simp [hlt])
    have g1 := hd.dcL
    have HI := Lib.hid hcell
    have HL := Lib.hid hl
    have HD := Lib.hid hd
    have one := Lib.hid (RC.one _ _ hd)
    clear hcell hl hd
    have hr_ := H.rules; simp only [Rules, and_true] at hr_; have hd_ := H.dif; simp only [Dif, Neq, and_true] at hd_; obtain ⟨ho_, hz_⟩ := H.old0
    go_wp2_with (first | ((with_reducible refine atLoad (t := 37) ?_); (refine wpList_run (v := .agg (cs).toArray) rfl (run_loadL aggDecl rfl ?_ HL.out (H.lies hb no_not HI.out)) ?_); (focus (go_simp; done))) | ((with_reducible refine atStore (t := 37) ?_); go_must (refine wpList_storeH (t := 37) (cs' := cs) rfl rfl (by go_simp <;> first | rfl | exact ⟨rfl, rfl⟩) (by go_simp <;> first | rfl | exact ⟨rfl, rfl⟩) (by exact Hp.norm (by (repeat (first | with_reducible exact H | with_reducible exact H0_ | with_reducible apply Hp.alloc | with_reducible apply Hp.allocMap | with_reducible apply Hp.drew | with_reducible apply Hp.drewN | with_reducible apply Hp.set)); (try any_goals (repeat (first | with_reducible exact Upd.head | with_reducible apply Upd.tail)))) (by ((try simp only [size_drew_, size_drewN_, World.size_alloc, World.size_setCell, List.set_cons_zero, List.set_cons_succ, List.nil_append, List.cons_append]) <;> rfl))) (by (repeat (first | with_reducible exact Upd.head | with_reducible apply Upd.tail))) (by rw [HL.out]; exact aggDecl) (by rw [HL.out]; rfl) one.out ?_; clear H; intro w3 H; (try simp only [size_drew_, size_drewN_, World.size_alloc, World.size_setCell, List.set_cons_zero, List.set_cons_succ] at H); have hr2_ := H.rules; simp only [Rules, and_true] at hr2_; have hs2_ := H.ext.size)))
    clear hr2_ hs2_
    refine callsH (by (repeat (first | with_reducible exact H | with_reducible exact H0_ | with_reducible apply Hp.alloc | with_reducible apply Hp.allocMap | with_reducible apply Hp.drew | with_reducible apply Hp.drewN | with_reducible apply Hp.set)); (try any_goals (repeat (first | with_reducible exact Upd.head | with_reducible apply Upd.tail)))) ?_
    clear H; intro w4 H; (try simp only [size_drew_, size_drewN_, World.size_alloc, World.size_setCell, List.set_cons_zero, List.set_cons_succ] at H)
    refine (smust1 H).mono ?_
    rintro e w5 hm
    have hx := hm.2
    have HM := Lib.hid hm
    clear hm
    replace H := H.call hx
    clear hx
    by_cases hq : (t.ls.length : Int) = wrap64 (ds[j].levels + more)
    · obtain rfl := HM.out.yes (by simpa using hq)
      have HQ := Lib.hid hq
      clear hq
      have hr_ := H.rules; simp only [Rules, and_true] at hr_; have hd_ := H.dif; simp only [Dif, Neq, and_true] at hd_; obtain ⟨ho_, hz_⟩ := H.old0
      go_wp2_with (first | ((with_reducible refine atLoad (t := 37) ?_); (refine wpList_run (v := .agg (cs).toArray) rfl (run_loadL aggDecl rfl ?_ HL.out (Hp.boxlies H (by (repeat (first | with_reducible exact Pick.head | with_reducible apply Pick.tail))))) ?_); (focus (go_simp; done))) | ((with_reducible refine atStore (t := 37) ?_); go_must (refine wpList_storeH (t := 37) (cs' := cs) rfl rfl (by go_simp <;> first | rfl | exact ⟨rfl, rfl⟩) (by go_simp <;> first | rfl | exact ⟨rfl, rfl⟩) (by exact Hp.norm (by (repeat (first | with_reducible exact H | with_reducible exact H0_ | with_reducible apply Hp.alloc | with_reducible apply Hp.allocMap | with_reducible apply Hp.drew | with_reducible apply Hp.drewN | with_reducible apply Hp.set)); (try any_goals (repeat (first | with_reducible exact Upd.head | with_reducible apply Upd.tail)))) (by ((try simp only [size_drew_, size_drewN_, World.size_alloc, World.size_setCell, List.set_cons_zero, List.set_cons_succ, List.nil_append, List.cons_append]) <;> rfl))) (by (repeat (first | with_reducible exact Upd.head | with_reducible apply Upd.tail))) (by rw [HL.out]; exact aggDecl) (by rw [HL.out]; rfl) one.out ?_; clear H; intro w6 H; (try simp only [size_drew_, size_drewN_, World.size_alloc, World.size_setCell, List.set_cons_zero, List.set_cons_succ] at H); have hr2_ := H.rules; simp only [Rules, and_true] at hr2_; have hs2_ := H.ext.size)))
      have e : declAt ds (j : Int) t.ls.length more = some ds[j] := by
        unfold declAt
        rw [dif_pos (by simpa using hlt)]
        simpa using HQ.out
      rw [e]
      refine bodyPost_ret (v := .agg cs.toArray) (Res.one Tryd.results196 (H.resBox (by (repeat (first | with_reducible exact Pick.head | with_reducible apply Pick.tail))) aggDecl HL.out rfl)) rfl ⟨H.ext, cs, rfl, HD.out⟩
    · obtain rfl := HM.out.no (by simpa using hq)
      have HQ := Lib.hid hq
      clear hq
      go_wp2_with fail
      have e : declAt ds (j : Int) t.ls.length more = none := by
        unfold declAt
        rw [dif_pos (by simpa using hlt)]
        simpa using HQ.out
      rw [e]
      exact ⟨rfl, H.ext, rfl⟩
  · obtain rfl := HM.out.no (by simpa using hlt)
    have HQ := Lib.hid hlt
    clear hlt
    go_wp2_with fail
    have e : declAt ds (j : Int) t.ls.length more = none := by unfold declAt; rw [dif_neg (by simpa using HQ.out)]
    rw [e]
    exact ⟨rfl, H.ext, rfl⟩
end Go.Proofs.YtgbokmphbimihaaDoor
/- source: a node's name asked: contracts. No statement of the seat is proved here. -/
namespace Go.Proofs.YtgbokmphbimihaaDoor
set_option linter.unusedSimpArgs false
set_option linter.unusedVariables false
open Go.RowKit

def constQ (ds : List Dc) (t : Tm) : Bool := match declAt ds t.n t.ls.length 0 with | some d => decide (d.kind = 1 ∨ d.kind = 2) | none => false
def memQ (ds : List Dc) (t : Tm) : Bool := match declAt ds t.n t.ls.length 0 with | some d => decide (d.kind = 3 ∧ t.a < d.members.length) | none => false
def ctorQ (ds : List Dc) (t : Tm) : Bool := match declAt ds t.n t.ls.length 0 with | some d => decide (d.kind = 3 ∧ t.a < d.ctors.length) | none => false
def recQ (ds : List Dc) (t : Tm) : Bool := match declAt ds t.n t.ls.length 1 with | some d => decide (d.kind = 3 ∧ t.a < d.members.length) | none => false
theorem RC.dcM {w : World} {S : Nat → Prop} {d : Dc} {cs : List Value} (h : RC w S d.d cs) : d.members.length ≤ 4294967296 ∧ d.ctors.length ≤ 4294967296 := by
  obtain ⟨Am, cm, Ac, cc, hl, g0, g14, g15, hm, hc⟩ := h.dcG
  exact ⟨hm.lenM.1, hc.lenM.1⟩
set_option maxRecDepth 100000 in
set_option maxHeartbeats 4000000 in
theorem member11_calls {w : World} {S S1 : Nat → Prop} {ds : List Dc} {t : Tm} {v : Value} {A : Option Addr} {nd c : Nat} {n sf sc : Int} (h : RC w S (.l 37 16 (ds.map Dc.d)) [.slice A nd c]) (hn : nd = ds.length) (ht : TV w S1 t v) (h0 : 0 ≤ t.n) :
    Calls Tryd.prog 168 #[wkV A nd c n sf sc, v] w (PWr w (memQ ds t)) := by
  subst hn
  obtain ⟨A0, ca, K0, ck, rfl, hrc⟩ := ht
  have HRC := Lib.hid hrc
  have HH := Lib.hid h
  have HN := Lib.hid h0
  clear hrc h h0
  go_enter Tryd.func168, Tryd.ntmps168
  go_wp2_with fail
  have H := Hp.start no w
  refine callsH (by (repeat (first | with_reducible exact H | with_reducible exact H0_ | with_reducible apply Hp.alloc | with_reducible apply Hp.allocMap | with_reducible apply Hp.drew | with_reducible apply Hp.drewN | with_reducible apply Hp.set)); (try any_goals (repeat (first | with_reducible exact Upd.head | with_reducible apply Upd.tail)))) ?_
  clear H; intro w1 H; (try simp only [size_drew_, size_drewN_, World.size_alloc, World.size_setCell, List.set_cons_zero, List.set_cons_succ] at H)
  refine (decl11_calls (HH.out.ext0 H.ext) rfl ⟨_, _, _, _, rfl, HRC.out.ext0 H.ext⟩ HN.out).mono ?_
  rintro e w2 ⟨hx, hm⟩
  replace H := H.call hx
  clear hx
  cases hdc : declAt ds t.n t.ls.length 0 with
  | none =>
    rw [hdc] at hm
    obtain rfl := hm
    exact ⟨rfl, by unfold memQ; rw [hdc]; rfl, H.ext⟩
  | some d =>
    rw [hdc] at hm
    obtain ⟨cs, rfl, hd⟩ := hm
    obtain ⟨Am, cm, Ac, cc, hl, g0, g14, g15, _, _⟩ := hd.dcG
    have hlm := hd.dcM
    have one := Lib.hid (RC.one _ _ hd)
    have HL := Lib.hid hl
    have HD := Lib.hid hdc
    clear hl hd hdc
    have hr_ := H.rules; simp only [Rules, and_true] at hr_; have hd_ := H.dif; simp only [Dif, Neq, and_true] at hd_; obtain ⟨ho_, hz_⟩ := H.old0
    go_wp2_with (first | ((with_reducible refine atStore (t := 37) ?_); go_must (refine wpList_storeH (t := 37) (cs' := cs) rfl rfl (by go_simp <;> first | rfl | exact ⟨rfl, rfl⟩) (by go_simp <;> first | rfl | exact ⟨rfl, rfl⟩) (by exact Hp.norm (by (repeat (first | with_reducible exact H | with_reducible exact H0_ | with_reducible apply Hp.alloc | with_reducible apply Hp.allocMap | with_reducible apply Hp.drew | with_reducible apply Hp.drewN | with_reducible apply Hp.set)); (try any_goals (repeat (first | with_reducible exact Upd.head | with_reducible apply Upd.tail)))) (by ((try simp only [size_drew_, size_drewN_, World.size_alloc, World.size_setCell, List.set_cons_zero, List.set_cons_succ, List.nil_append, List.cons_append]) <;> rfl))) (by (repeat (first | with_reducible exact Upd.head | with_reducible apply Upd.tail))) (by rw [HL.out]; exact aggDecl) (by rw [HL.out]; rfl) one.out ?_; clear H; intro w3 H; (try simp only [size_drew_, size_drewN_, World.size_alloc, World.size_setCell, List.set_cons_zero, List.set_cons_succ] at H); have hr2_ := H.rules; simp only [Rules, and_true] at hr2_; have hs2_ := H.ext.size)) | ((with_reducible refine atLoad (t := 37) ?_); (refine wpList_run (v := .agg (cs).toArray) rfl (run_loadL aggDecl rfl ?_ HL.out (Hp.boxlies H (by (repeat (first | with_reducible exact Pick.head | with_reducible apply Pick.tail))))) ?_); (focus (go_simp; done))))
    (try clear hr2_ hs2_)
    refine callsH (by (repeat (first | with_reducible exact H | with_reducible exact H0_ | with_reducible apply Hp.alloc | with_reducible apply Hp.allocMap | with_reducible apply Hp.drew | with_reducible apply Hp.drewN | with_reducible apply Hp.set)); (try any_goals (repeat (first | with_reducible exact Upd.head | with_reducible apply Upd.tail)))) ?_
    clear H; intro w4 H; (try simp only [size_drew_, size_drewN_, World.size_alloc, World.size_setCell, List.set_cons_zero, List.set_cons_succ] at H)
    refine (smust2 H).mono ?_
    rintro e w2 hm
    have hx := hm.2
    have HM := Lib.hid hm
    clear hm
    replace H := H.call hx
    clear hx
    by_cases hq : d.kind = 3 ∧ t.a < d.members.length
    · obtain rfl := HM.out.yes (by simp [hq])
      have HQ := Lib.hid hq
      clear hq
      go_wp2_with fail
      go_end0
      exact ⟨by unfold memQ; rw [HD.out]; simp [HQ.out], H.ext⟩
    · obtain rfl := HM.out.no (by simpa using hq)
      have HQ := Lib.hid hq
      clear hq
      go_wp2_with fail
      exact ⟨rfl, by unfold memQ; rw [HD.out]; simp [HQ.out], H.ext⟩
set_option maxRecDepth 100000 in
set_option maxHeartbeats 4000000 in
theorem ctor11_calls {w : World} {S S1 : Nat → Prop} {ds : List Dc} {t : Tm} {v : Value} {A : Option Addr} {nd c : Nat} {n sf sc : Int} (h : RC w S (.l 37 16 (ds.map Dc.d)) [.slice A nd c]) (hn : nd = ds.length) (ht : TV w S1 t v) (h0 : 0 ≤ t.n) :
    Calls Tryd.prog 169 #[wkV A nd c n sf sc, v] w (PWr w (ctorQ ds t)) := by
  subst hn
  obtain ⟨A0, ca, K0, ck, rfl, hrc⟩ := ht
  have HRC := Lib.hid hrc
  have HH := Lib.hid h
  have HN := Lib.hid h0
  clear hrc h h0
  go_enter Tryd.func169, Tryd.ntmps169
  go_wp2_with fail
  have H := Hp.start no w
  refine callsH (by (repeat (first | with_reducible exact H | with_reducible exact H0_ | with_reducible apply Hp.alloc | with_reducible apply Hp.allocMap | with_reducible apply Hp.drew | with_reducible apply Hp.drewN | with_reducible apply Hp.set)); (try any_goals (repeat (first | with_reducible exact Upd.head | with_reducible apply Upd.tail)))) ?_
  clear H; intro w1 H; (try simp only [size_drew_, size_drewN_, World.size_alloc, World.size_setCell, List.set_cons_zero, List.set_cons_succ] at H)
  refine (decl11_calls (HH.out.ext0 H.ext) rfl ⟨_, _, _, _, rfl, HRC.out.ext0 H.ext⟩ HN.out).mono ?_
  rintro e w2 ⟨hx, hm⟩
  replace H := H.call hx
  clear hx
  cases hdc : declAt ds t.n t.ls.length 0 with
  | none =>
    rw [hdc] at hm
    obtain rfl := hm
    exact ⟨rfl, by unfold ctorQ; rw [hdc]; rfl, H.ext⟩
  | some d =>
    rw [hdc] at hm
    obtain ⟨cs, rfl, hd⟩ := hm
    obtain ⟨Am, cm, Ac, cc, hl, g0, g14, g15, _, _⟩ := hd.dcG
    have hlm := hd.dcM
    have one := Lib.hid (RC.one _ _ hd)
    have HL := Lib.hid hl
    have HD := Lib.hid hdc
    clear hl hd hdc
    have hr_ := H.rules; simp only [Rules, and_true] at hr_; have hd_ := H.dif; simp only [Dif, Neq, and_true] at hd_; obtain ⟨ho_, hz_⟩ := H.old0
    go_wp2_with (first | ((with_reducible refine atStore (t := 37) ?_); go_must (refine wpList_storeH (t := 37) (cs' := cs) rfl rfl (by go_simp <;> first | rfl | exact ⟨rfl, rfl⟩) (by go_simp <;> first | rfl | exact ⟨rfl, rfl⟩) (by exact Hp.norm (by (repeat (first | with_reducible exact H | with_reducible exact H0_ | with_reducible apply Hp.alloc | with_reducible apply Hp.allocMap | with_reducible apply Hp.drew | with_reducible apply Hp.drewN | with_reducible apply Hp.set)); (try any_goals (repeat (first | with_reducible exact Upd.head | with_reducible apply Upd.tail)))) (by ((try simp only [size_drew_, size_drewN_, World.size_alloc, World.size_setCell, List.set_cons_zero, List.set_cons_succ, List.nil_append, List.cons_append]) <;> rfl))) (by (repeat (first | with_reducible exact Upd.head | with_reducible apply Upd.tail))) (by rw [HL.out]; exact aggDecl) (by rw [HL.out]; rfl) one.out ?_; clear H; intro w3 H; (try simp only [size_drew_, size_drewN_, World.size_alloc, World.size_setCell, List.set_cons_zero, List.set_cons_succ] at H); have hr2_ := H.rules; simp only [Rules, and_true] at hr2_; have hs2_ := H.ext.size)) | ((with_reducible refine atLoad (t := 37) ?_); (refine wpList_run (v := .agg (cs).toArray) rfl (run_loadL aggDecl rfl ?_ HL.out (Hp.boxlies H (by (repeat (first | with_reducible exact Pick.head | with_reducible apply Pick.tail))))) ?_); (focus (go_simp; done))))
    (try clear hr2_ hs2_)
    refine callsH (by (repeat (first | with_reducible exact H | with_reducible exact H0_ | with_reducible apply Hp.alloc | with_reducible apply Hp.allocMap | with_reducible apply Hp.drew | with_reducible apply Hp.drewN | with_reducible apply Hp.set)); (try any_goals (repeat (first | with_reducible exact Upd.head | with_reducible apply Upd.tail)))) ?_
    clear H; intro w4 H; (try simp only [size_drew_, size_drewN_, World.size_alloc, World.size_setCell, List.set_cons_zero, List.set_cons_succ] at H)
    refine (smust2 H).mono ?_
    rintro e w2 hm
    have hx := hm.2
    have HM := Lib.hid hm
    clear hm
    replace H := H.call hx
    clear hx
    by_cases hq : d.kind = 3 ∧ t.a < d.ctors.length
    · obtain rfl := HM.out.yes (by simp [hq])
      have HQ := Lib.hid hq
      clear hq
      go_wp2_with fail
      go_end0
      exact ⟨by unfold ctorQ; rw [HD.out]; simp [HQ.out], H.ext⟩
    · obtain rfl := HM.out.no (by simpa using hq)
      have HQ := Lib.hid hq
      clear hq
      go_wp2_with fail
      exact ⟨rfl, by unfold ctorQ; rw [HD.out]; simp [HQ.out], H.ext⟩
set_option maxRecDepth 100000 in
set_option maxHeartbeats 4000000 in
theorem recursor11_calls {w : World} {S S1 : Nat → Prop} {ds : List Dc} {t : Tm} {v : Value} {A : Option Addr} {nd c : Nat} {n sf sc : Int} (h : RC w S (.l 37 16 (ds.map Dc.d)) [.slice A nd c]) (hn : nd = ds.length) (ht : TV w S1 t v) (h0 : 0 ≤ t.n) :
    Calls Tryd.prog 170 #[wkV A nd c n sf sc, v] w (PWr w (recQ ds t)) := by
  subst hn
  obtain ⟨A0, ca, K0, ck, rfl, hrc⟩ := ht
  have HRC := Lib.hid hrc
  have HH := Lib.hid h
  have HN := Lib.hid h0
  clear hrc h h0
  go_enter Tryd.func170, Tryd.ntmps170
  go_wp2_with fail
  have H := Hp.start no w
  refine callsH (by (repeat (first | with_reducible exact H | with_reducible exact H0_ | with_reducible apply Hp.alloc | with_reducible apply Hp.allocMap | with_reducible apply Hp.drew | with_reducible apply Hp.drewN | with_reducible apply Hp.set)); (try any_goals (repeat (first | with_reducible exact Upd.head | with_reducible apply Upd.tail)))) ?_
  clear H; intro w1 H; (try simp only [size_drew_, size_drewN_, World.size_alloc, World.size_setCell, List.set_cons_zero, List.set_cons_succ] at H)
  refine (decl11_calls (HH.out.ext0 H.ext) rfl ⟨_, _, _, _, rfl, HRC.out.ext0 H.ext⟩ HN.out).mono ?_
  rintro e w2 ⟨hx, hm⟩
  replace H := H.call hx
  clear hx
  cases hdc : declAt ds t.n t.ls.length 1 with
  | none =>
    rw [hdc] at hm
    obtain rfl := hm
    exact ⟨rfl, by unfold recQ; rw [hdc]; rfl, H.ext⟩
  | some d =>
    rw [hdc] at hm
    obtain ⟨cs, rfl, hd⟩ := hm
    obtain ⟨Am, cm, Ac, cc, hl, g0, g14, g15, _, _⟩ := hd.dcG
    have hlm := hd.dcM
    have one := Lib.hid (RC.one _ _ hd)
    have HL := Lib.hid hl
    have HD := Lib.hid hdc
    clear hl hd hdc
    have hr_ := H.rules; simp only [Rules, and_true] at hr_; have hd_ := H.dif; simp only [Dif, Neq, and_true] at hd_; obtain ⟨ho_, hz_⟩ := H.old0
    go_wp2_with (first | ((with_reducible refine atStore (t := 37) ?_); go_must (refine wpList_storeH (t := 37) (cs' := cs) rfl rfl (by go_simp <;> first | rfl | exact ⟨rfl, rfl⟩) (by go_simp <;> first | rfl | exact ⟨rfl, rfl⟩) (by exact Hp.norm (by (repeat (first | with_reducible exact H | with_reducible exact H0_ | with_reducible apply Hp.alloc | with_reducible apply Hp.allocMap | with_reducible apply Hp.drew | with_reducible apply Hp.drewN | with_reducible apply Hp.set)); (try any_goals (repeat (first | with_reducible exact Upd.head | with_reducible apply Upd.tail)))) (by ((try simp only [size_drew_, size_drewN_, World.size_alloc, World.size_setCell, List.set_cons_zero, List.set_cons_succ, List.nil_append, List.cons_append]) <;> rfl))) (by (repeat (first | with_reducible exact Upd.head | with_reducible apply Upd.tail))) (by rw [HL.out]; exact aggDecl) (by rw [HL.out]; rfl) one.out ?_; clear H; intro w3 H; (try simp only [size_drew_, size_drewN_, World.size_alloc, World.size_setCell, List.set_cons_zero, List.set_cons_succ] at H); have hr2_ := H.rules; simp only [Rules, and_true] at hr2_; have hs2_ := H.ext.size)) | ((with_reducible refine atLoad (t := 37) ?_); (refine wpList_run (v := .agg (cs).toArray) rfl (run_loadL aggDecl rfl ?_ HL.out (Hp.boxlies H (by (repeat (first | with_reducible exact Pick.head | with_reducible apply Pick.tail))))) ?_); (focus (go_simp; done))))
    (try clear hr2_ hs2_)
    refine callsH (by (repeat (first | with_reducible exact H | with_reducible exact H0_ | with_reducible apply Hp.alloc | with_reducible apply Hp.allocMap | with_reducible apply Hp.drew | with_reducible apply Hp.drewN | with_reducible apply Hp.set)); (try any_goals (repeat (first | with_reducible exact Upd.head | with_reducible apply Upd.tail)))) ?_
    clear H; intro w4 H; (try simp only [size_drew_, size_drewN_, World.size_alloc, World.size_setCell, List.set_cons_zero, List.set_cons_succ] at H)
    refine (smust2 H).mono ?_
    rintro e w2 hm
    have hx := hm.2
    have HM := Lib.hid hm
    clear hm
    replace H := H.call hx
    clear hx
    by_cases hq : d.kind = 3 ∧ t.a < d.members.length
    · obtain rfl := HM.out.yes (by simp [hq])
      have HQ := Lib.hid hq
      clear hq
      go_wp2_with fail
      go_end0
      exact ⟨by unfold recQ; rw [HD.out]; simp [HQ.out], H.ext⟩
    · obtain rfl := HM.out.no (by simpa using hq)
      have HQ := Lib.hid hq
      clear hq
      go_wp2_with fail
      exact ⟨rfl, by unfold recQ; rw [HD.out]; simp [HQ.out], H.ext⟩
set_option maxRecDepth 100000 in
set_option maxHeartbeats 4000000 in
theorem constant11_calls {w : World} {S S1 : Nat → Prop} {ds : List Dc} {t : Tm} {v : Value} {A : Option Addr} {nd c : Nat} {n sf sc : Int} (h : RC w S (.l 37 16 (ds.map Dc.d)) [.slice A nd c]) (hn : nd = ds.length) (ht : TV w S1 t v) (h0 : 0 ≤ t.n) :
    Calls Tryd.prog 167 #[wkV A nd c n sf sc, v] w (PWr w (constQ ds t)) := by
  subst hn
  obtain ⟨A0, ca, K0, ck, rfl, hrc⟩ := ht
  have HRC := Lib.hid hrc
  have HH := Lib.hid h
  have HN := Lib.hid h0
  clear hrc h h0
  go_enter Tryd.func167, Tryd.ntmps167
  go_wp2_with fail
  have H := Hp.start no w
  refine callsH (by (repeat (first | with_reducible exact H | with_reducible exact H0_ | with_reducible apply Hp.alloc | with_reducible apply Hp.allocMap | with_reducible apply Hp.drew | with_reducible apply Hp.drewN | with_reducible apply Hp.set)); (try any_goals (repeat (first | with_reducible exact Upd.head | with_reducible apply Upd.tail)))) ?_
  clear H; intro w1 H; (try simp only [size_drew_, size_drewN_, World.size_alloc, World.size_setCell, List.set_cons_zero, List.set_cons_succ] at H)
  refine (decl11_calls (HH.out.ext0 H.ext) rfl ⟨_, _, _, _, rfl, HRC.out.ext0 H.ext⟩ HN.out).mono ?_
  rintro e w2 ⟨hx, hm⟩
  replace H := H.call hx
  clear hx
  cases hdc : declAt ds t.n t.ls.length 0 with
  | none =>
    rw [hdc] at hm
    obtain rfl := hm
    exact ⟨rfl, by unfold constQ; rw [hdc]; rfl, H.ext⟩
  | some d =>
    rw [hdc] at hm
    obtain ⟨cs, rfl, hd⟩ := hm
    obtain ⟨Am, cm, Ac, cc, hl, g0, g14, g15, _, _⟩ := hd.dcG
    have hlm := hd.dcM
    have one := Lib.hid (RC.one _ _ hd)
    have HL := Lib.hid hl
    have HD := Lib.hid hdc
    clear hl hd hdc
    by_cases k1 : d.kind = 1
    · have HC : Hid (constQ ds t = true) := by unfold Hid constQ; rw [HD.out]; simp [k1]
      rw [k1] at g0
      clear k1
      have hr_ := H.rules; simp only [Rules, and_true] at hr_; have hd_ := H.dif; simp only [Dif, Neq, and_true] at hd_; obtain ⟨ho_, hz_⟩ := H.old0
      go_wp2_with (first | ((with_reducible refine atStore (t := 37) ?_); go_must (refine wpList_storeH (t := 37) (cs' := cs) rfl rfl (by go_simp <;> first | rfl | exact ⟨rfl, rfl⟩) (by go_simp <;> first | rfl | exact ⟨rfl, rfl⟩) (by exact Hp.norm (by (repeat (first | with_reducible exact H | with_reducible exact H0_ | with_reducible apply Hp.alloc | with_reducible apply Hp.allocMap | with_reducible apply Hp.drew | with_reducible apply Hp.drewN | with_reducible apply Hp.set)); (try any_goals (repeat (first | with_reducible exact Upd.head | with_reducible apply Upd.tail)))) (by ((try simp only [size_drew_, size_drewN_, World.size_alloc, World.size_setCell, List.set_cons_zero, List.set_cons_succ, List.nil_append, List.cons_append]) <;> rfl))) (by (repeat (first | with_reducible exact Upd.head | with_reducible apply Upd.tail))) (by rw [HL.out]; exact aggDecl) (by rw [HL.out]; rfl) one.out ?_; clear H; intro w3 H; (try simp only [size_drew_, size_drewN_, World.size_alloc, World.size_setCell, List.set_cons_zero, List.set_cons_succ] at H); have hr2_ := H.rules; simp only [Rules, and_true] at hr2_; have hs2_ := H.ext.size)) | ((with_reducible refine atLoad (t := 37) ?_); (refine wpList_run (v := .agg (cs).toArray) rfl (run_loadL aggDecl rfl ?_ HL.out (Hp.boxlies H (by (repeat (first | with_reducible exact Pick.head | with_reducible apply Pick.tail))))) ?_); (focus (go_simp; done))))
      (try clear hr2_ hs2_)
      refine callsH (by (repeat (first | with_reducible exact H | with_reducible exact H0_ | with_reducible apply Hp.alloc | with_reducible apply Hp.allocMap | with_reducible apply Hp.drew | with_reducible apply Hp.drewN | with_reducible apply Hp.set)); (try any_goals (repeat (first | with_reducible exact Upd.head | with_reducible apply Upd.tail)))) ?_
      clear H; intro w4 H; (try simp only [size_drew_, size_drewN_, World.size_alloc, World.size_setCell, List.set_cons_zero, List.set_cons_succ] at H)
      refine (smust1 H).mono ?_
      rintro e w2 hm
      have hx := hm.2
      have HM := Lib.hid hm
      clear hm
      replace H := H.call hx
      clear hx
      obtain rfl := HM.out.yes rfl
      go_wp2_with fail
      go_end0
      exact ⟨by rw [HC.out]; rfl, H.ext⟩
    · by_cases k2 : d.kind = 2
      · have HC : Hid (constQ ds t = true) := by unfold Hid constQ; rw [HD.out]; simp [k2]
        rw [k2] at g0
        clear k1 k2
        have hr_ := H.rules; simp only [Rules, and_true] at hr_; have hd_ := H.dif; simp only [Dif, Neq, and_true] at hd_; obtain ⟨ho_, hz_⟩ := H.old0
        go_wp2_with (first | ((with_reducible refine atStore (t := 37) ?_); go_must (refine wpList_storeH (t := 37) (cs' := cs) rfl rfl (by go_simp <;> first | rfl | exact ⟨rfl, rfl⟩) (by go_simp <;> first | rfl | exact ⟨rfl, rfl⟩) (by exact Hp.norm (by (repeat (first | with_reducible exact H | with_reducible exact H0_ | with_reducible apply Hp.alloc | with_reducible apply Hp.allocMap | with_reducible apply Hp.drew | with_reducible apply Hp.drewN | with_reducible apply Hp.set)); (try any_goals (repeat (first | with_reducible exact Upd.head | with_reducible apply Upd.tail)))) (by ((try simp only [size_drew_, size_drewN_, World.size_alloc, World.size_setCell, List.set_cons_zero, List.set_cons_succ, List.nil_append, List.cons_append]) <;> rfl))) (by (repeat (first | with_reducible exact Upd.head | with_reducible apply Upd.tail))) (by rw [HL.out]; exact aggDecl) (by rw [HL.out]; rfl) one.out ?_; clear H; intro w3 H; (try simp only [size_drew_, size_drewN_, World.size_alloc, World.size_setCell, List.set_cons_zero, List.set_cons_succ] at H); have hr2_ := H.rules; simp only [Rules, and_true] at hr2_; have hs2_ := H.ext.size)) | ((with_reducible refine atLoad (t := 37) ?_); (refine wpList_run (v := .agg (cs).toArray) rfl (run_loadL aggDecl rfl ?_ HL.out (Hp.boxlies H (by (repeat (first | with_reducible exact Pick.head | with_reducible apply Pick.tail))))) ?_); (focus (go_simp; done))))
        (try clear hr2_ hs2_)
        refine callsH (by (repeat (first | with_reducible exact H | with_reducible exact H0_ | with_reducible apply Hp.alloc | with_reducible apply Hp.allocMap | with_reducible apply Hp.drew | with_reducible apply Hp.drewN | with_reducible apply Hp.set)); (try any_goals (repeat (first | with_reducible exact Upd.head | with_reducible apply Upd.tail)))) ?_
        clear H; intro w4 H; (try simp only [size_drew_, size_drewN_, World.size_alloc, World.size_setCell, List.set_cons_zero, List.set_cons_succ] at H)
        refine (smust1 H).mono ?_
        rintro e w2 hm
        have hx := hm.2
        have HM := Lib.hid hm
        clear hm
        replace H := H.call hx
        clear hx
        obtain rfl := HM.out.yes rfl
        go_wp2_with fail
        go_end0
        exact ⟨by rw [HC.out]; rfl, H.ext⟩
      · have HC : Hid (constQ ds t = false) := by unfold Hid constQ; rw [HD.out]; simp [k1, k2]
        have e1 : (d.kind == 1) = false := by simpa using k1
        have e2 : (d.kind == 2) = false := by simpa using k2
        have hr_ := H.rules; simp only [Rules, and_true] at hr_; have hd_ := H.dif; simp only [Dif, Neq, and_true] at hd_; obtain ⟨ho_, hz_⟩ := H.old0
        go_wp2_with (first | ((with_reducible refine atStore (t := 37) ?_); go_must (refine wpList_storeH (t := 37) (cs' := cs) rfl rfl (by go_simp <;> first | rfl | exact ⟨rfl, rfl⟩) (by go_simp <;> first | rfl | exact ⟨rfl, rfl⟩) (by exact Hp.norm (by (repeat (first | with_reducible exact H | with_reducible exact H0_ | with_reducible apply Hp.alloc | with_reducible apply Hp.allocMap | with_reducible apply Hp.drew | with_reducible apply Hp.drewN | with_reducible apply Hp.set)); (try any_goals (repeat (first | with_reducible exact Upd.head | with_reducible apply Upd.tail)))) (by ((try simp only [size_drew_, size_drewN_, World.size_alloc, World.size_setCell, List.set_cons_zero, List.set_cons_succ, List.nil_append, List.cons_append]) <;> rfl))) (by (repeat (first | with_reducible exact Upd.head | with_reducible apply Upd.tail))) (by rw [HL.out]; exact aggDecl) (by rw [HL.out]; rfl) one.out ?_; clear H; intro w3 H; (try simp only [size_drew_, size_drewN_, World.size_alloc, World.size_setCell, List.set_cons_zero, List.set_cons_succ] at H); have hr2_ := H.rules; simp only [Rules, and_true] at hr2_; have hs2_ := H.ext.size)) | ((with_reducible refine atLoad (t := 37) ?_); (refine wpList_run (v := .agg (cs).toArray) rfl (run_loadL aggDecl rfl ?_ HL.out (Hp.boxlies H (by (repeat (first | with_reducible exact Pick.head | with_reducible apply Pick.tail))))) ?_); (focus (go_simp; done))))
        (try clear hr2_ hs2_)
        refine callsH (by (repeat (first | with_reducible exact H | with_reducible exact H0_ | with_reducible apply Hp.alloc | with_reducible apply Hp.allocMap | with_reducible apply Hp.drew | with_reducible apply Hp.drewN | with_reducible apply Hp.set)); (try any_goals (repeat (first | with_reducible exact Upd.head | with_reducible apply Upd.tail)))) ?_
        clear H; intro w4 H; (try simp only [size_drew_, size_drewN_, World.size_alloc, World.size_setCell, List.set_cons_zero, List.set_cons_succ] at H)
        refine (smust1 H).mono ?_
        rintro e w2 hm
        have hx := hm.2
        have HM := Lib.hid hm
        clear hm
        replace H := H.call hx
        clear hx
        obtain rfl := HM.out.no (by simp [k1, k2])
        go_wp2_with fail
        exact ⟨rfl, by rw [HC.out]; rfl, H.ext⟩
end Go.Proofs.YtgbokmphbimihaaDoor
/- source: levels asked: contracts. No statement of the seat is proved here. -/
namespace Go.Proofs.YtgbokmphbimihaaDoor
set_option linter.unusedSimpArgs false
set_option linter.unusedVariables false
open Go.RowKit

set_option maxRecDepth 100000 in
set_option maxHeartbeats 1000000 in
theorem index_levels {w : World} {S : Nat → Prop} {xs : List Lv} {A : Option Addr} {n c F bn : Nat} {p : Lv → Bool} (h : RC w S (.l 33 1 (xs.map lvD)) [.slice A n c]) (hn : n = xs.length)
    (eg : ∀ args w, (callFunc F args).run Tryd.prog w = .ok (.enter F args) w) (hf : ∀ x ∈ xs, ∀ w' A' c', Ext no w w' → RC w' S (.l 117 2 (x.map ptD)) [.slice A' x.length c'] → Calls Tryd.prog F #[.agg #[.slice A' x.length c'], .pointer (some ⟨bn, 0, none⟩)] w' (PV w' (.bool (p x)))) :
    Calls Tryd.prog 197 #[.slice A n c, .func (.func F) #[] #[.pointer (some ⟨bn, 0, none⟩)]] w fun e w' => ∃ i : Int, e = .returned (.int .i64 i) ∧ ((0 ≤ i) = (xs.any p = true)) ∧ Ext no w w' := by
  subst hn
  have hM := h.lenM
  have HF := Lib.hid hf
  clear hf
  go_enter Tryd.func197, Tryd.ntmps197
  go_wp2_with fail
  go_loopw [5, 8] (fun u i wr => ∃ k : Nat, k ≤ xs.length ∧ i = .int .i64 k ∧ (xs.take k).any p = false ∧ Ext no w wr) (fun _ i _ => xs.length - (intOf i).toNat)
  case atStart => exact ⟨0, Nat.zero_le _, rfl, by simp, Ext.refl _ _⟩
  case round =>
    obtain ⟨k, hk, rfl, hall, hext⟩ := hrel
    have HA := Lib.hid hall
    clear hall
    by_cases hlt : k < xs.length
    · obtain ⟨b, o, A1, c1, rfl, hb, hS, hd, p0⟩ := (h.ext0 hext).atLv hlt
      have HD := Lib.hid hd
      clear hd
      go_wp2_with fail
      refine (HF.out xs[k] (List.getElem_mem hlt) _ _ _ hext HD.out).mono ?_
      rintro e w1 ⟨rfl, hx⟩
      cases hq : p xs[k]
      · have HQ := Lib.hid hq
        clear hq
        go_wp2_with fail
        go_roundw
        case rel => exact ⟨k + 1, by omega, by first | go_num | rfl | simp, any_take hlt HA.out HQ.out, hext.seq hx⟩
        case measure => simp [intOf]; omega
      · have HQ := Lib.hid hq
        clear hq
        go_wp2_with fail
        go_ret
        exact ⟨k, rfl, by simp [any_at hlt HQ.out], hext.seq hx⟩
    · go_wp2_with fail
      go_ret
      refine ⟨-1, rfl, ?_, hext⟩
      have h1 := HA.out
      rw [take_all hlt] at h1
      simp [h1]
set_option maxRecDepth 100000 in
set_option maxHeartbeats 1000000 in
theorem contains_levels {w : World} {S : Nat → Prop} {xs : List Lv} {A : Option Addr} {n c F bn : Nat} {p : Lv → Bool} (h : RC w S (.l 33 1 (xs.map lvD)) [.slice A n c]) (hn : n = xs.length)
    (eg : ∀ args w, (callFunc F args).run Tryd.prog w = .ok (.enter F args) w) (hf : ∀ x ∈ xs, ∀ w' A' c', Ext no w w' → RC w' S (.l 117 2 (x.map ptD)) [.slice A' x.length c'] → Calls Tryd.prog F #[.agg #[.slice A' x.length c'], .pointer (some ⟨bn, 0, none⟩)] w' (PV w' (.bool (p x)))) :
    Calls Tryd.prog 172 #[.slice A n c, .func (.func F) #[] #[.pointer (some ⟨bn, 0, none⟩)]] w (PV w (.bool (xs.any p))) := by
  subst hn
  have hidx := index_levels h rfl eg hf
  have HI := Lib.hid hidx
  clear hidx hf
  go_enter Tryd.func172, Tryd.ntmps172
  go_wp2_with fail
  refine HI.out.mono ?_
  rintro e w1 ⟨i, rfl, hi, hx1⟩
  cases hq : xs.any p
  · have g : decide (0 ≤ i) = false := by rw [hq] at hi; simpa using hi
    have HQ := Lib.hid hq
    clear hi hq
    go_wp2_with fail
    go_ret
    exact ⟨by rw [HQ.out]; rfl, hx1⟩
  · have g : decide (0 ≤ i) = true := by rw [hq] at hi; simpa using hi
    have HQ := Lib.hid hq
    clear hi hq
    go_wp2_with fail
    go_ret
    exact ⟨by rw [HQ.out]; rfl, hx1⟩
set_option maxRecDepth 100000 in
set_option maxHeartbeats 1000000 in
theorem all1_calls {w : World} {S : Nat → Prop} {x : Lv} {A : Option Addr} {c bn : Nat} {n : Int} (h : RC w S (.l 117 2 (x.map ptD)) [.slice A x.length c]) (hc : w.cell? ⟨bn, 1, none⟩ = some (.int .i64 n)) :
    Calls Tryd.prog 173 #[.agg #[.slice A x.length c], .pointer (some ⟨bn, 0, none⟩)] w (PV w (.bool (!lvRight n x))) := by
  have lc := cell_lt hc
  have HH := Lib.hid h
  clear h
  go_enter Tryd.func173, Tryd.ntmps173
  go_wp2_with fail
  have H := Hp.start no w
  refine callsH (by (repeat (first | with_reducible exact H | with_reducible exact H0_ | with_reducible apply Hp.alloc | with_reducible apply Hp.allocMap | with_reducible apply Hp.drew | with_reducible apply Hp.drewN | with_reducible apply Hp.set)); (try any_goals (repeat (first | with_reducible exact Upd.head | with_reducible apply Upd.tail)))) ?_
  clear H; intro w1 H; (try simp only [size_drew_, size_drewN_, World.size_alloc, World.size_setCell, List.set_cons_zero, List.set_cons_succ] at H)
  refine (lvRight_calls (HH.out.ext0 H.ext)).mono ?_
  rintro e w_ ⟨rfl, hx⟩
  replace H := H.call hx
  clear hx
  go_wp2_with fail
  go_ret
  exact ⟨rfl, H.ext⟩
end Go.Proofs.YtgbokmphbimihaaDoor
