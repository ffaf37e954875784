/- law 04: v, of, same, rows: contracts. No statement of the seat is proved here. -/
import Derived.Test.YteelplgdojjakaaDoorTele3
import Derived.Test.YteelplgdojjakaaDoorSame
namespace Go.Proofs.YteelplgdojjakaaDoor
set_option linter.unusedSimpArgs false
set_option linter.unusedVariables false
open Go.RowKit

set_option maxRecDepth 100000 in
set_option maxHeartbeats 2000000 in
theorem v04_calls {w : World} {n : Int} (i2 : inI n) : Calls Tryd.prog 60 #[.int .i64 n] w (PTm w (.mk 1 n 0 [] [])) := by
  go_enter Tryd.func60, Tryd.ntmps60
  have H := Hp.start no w
  go_wp2_with ((with_reducible refine atStore (t := 30) ?_); go_must (refine wpList_storeH (t := 30) rfl rfl (by go_simp <;> first | rfl | exact ⟨rfl, rfl⟩) (by go_simp <;> first | rfl | exact ⟨rfl, rfl⟩) (by exact Hp.norm (by (repeat (first | with_reducible exact H | with_reducible exact H0_ | with_reducible apply Hp.alloc | with_reducible apply Hp.allocMap | with_reducible apply Hp.drew | with_reducible apply Hp.drewN | with_reducible apply Hp.set)); (try any_goals (repeat (first | with_reducible exact Upd.head | with_reducible apply Upd.tail)))) (by ((try simp only [size_drew_, size_drewN_, World.size_alloc, World.size_setCell, List.set_cons_zero, List.set_cons_succ, List.nil_append, List.cons_append]) <;> rfl))) (by (repeat (first | with_reducible exact Upd.head | with_reducible apply Upd.tail))) (by exact aggTerm) (by rfl) (by simp [Value.oneCell']) ?_; clear H; intro w7 H; (try simp only [size_drew_, size_drewN_, World.size_alloc, World.size_setCell, List.set_cons_zero, List.set_cons_succ] at H); (try clear hr_ hd_ ho_ hz_); have hr_ := H.rules; simp only [Rules, and_true] at hr_; have hd_ := H.dif; simp only [Dif, Neq, and_true] at hd_; obtain ⟨ho_, hz_⟩ := H.old0))
  clear hr_ hd_ ho_ hz_
  replace H := (H.nil 30 5).nil 38 1
  refine bodyPost_ret (v := .agg #[.int .i64 1, .int .i64 n, .int .i64 0, .slice none 0 0, .slice none 0 0]) (Res.one Tryd.results60 (H.resBox (by (repeat (first | with_reducible exact Pick.head | with_reducible apply Pick.tail))) aggTerm rfl rfl)) rfl ?_
  have H := H.tm (k := 1) (n := n) (a := 0) (ls := []) (ks := []) .head .head (by unfold inI; omega) i2 (by unfold inI; omega)
  exact H.ptmk .head rfl rfl
set_option maxRecDepth 100000 in
set_option maxHeartbeats 2000000 in
theorem of04_calls {w0 w : World} {l : List Ch} {ks : List Tm} {A : Option Addr} {c : Nat} {k : Int} (H : Hp no w0 w (.dat (.l 30 5 (ks.map Tm.d)) [.slice A ks.length c] :: l)) (hk : inI k) :
    Calls Tryd.prog 59 #[.int .i64 k, .slice A ks.length c] w (PTmH no w0 l (.mk k 0 0 [] ks)) := by
  go_enter Tryd.func59, Tryd.ntmps59
  go_wp2_with ((with_reducible refine atStore (t := 30) ?_); go_must (refine wpList_storeH (t := 30) rfl rfl (by go_simp <;> first | rfl | exact ⟨rfl, rfl⟩) (by go_simp <;> first | rfl | exact ⟨rfl, rfl⟩) (by exact Hp.norm (by (repeat (first | with_reducible exact H | with_reducible exact H0_ | with_reducible apply Hp.alloc | with_reducible apply Hp.allocMap | with_reducible apply Hp.drew | with_reducible apply Hp.drewN | with_reducible apply Hp.set)); (try any_goals (repeat (first | with_reducible exact Upd.head | with_reducible apply Upd.tail)))) (by ((try simp only [size_drew_, size_drewN_, World.size_alloc, World.size_setCell, List.set_cons_zero, List.set_cons_succ, List.nil_append, List.cons_append]) <;> rfl))) (by (repeat (first | with_reducible exact Upd.head | with_reducible apply Upd.tail))) (by exact aggTerm) (by rfl) (by simp [Value.oneCell']) ?_; clear H; intro w7 H; (try simp only [size_drew_, size_drewN_, World.size_alloc, World.size_setCell, List.set_cons_zero, List.set_cons_succ] at H); (try clear hr_ hd_ ho_ hz_); have hr_ := H.rules; simp only [Rules, and_true] at hr_; have hd_ := H.dif; simp only [Dif, Neq, and_true] at hd_; obtain ⟨ho_, hz_⟩ := H.old0))
  clear hr_ hd_ ho_ hz_
  replace H := H.nil 38 1
  refine bodyPost_ret (v := .agg #[.int .i64 k, .int .i64 0, .int .i64 0, .slice none 0 0, .slice A ks.length c]) (Res.one Tryd.results59 (H.resBox (by (repeat (first | with_reducible exact Pick.head | with_reducible apply Pick.tail))) aggTerm rfl rfl)) rfl ?_
  have H := H.tm (k := k) (n := 0) (a := 0) (ls := []) (ks := ks) .head (.tail .head) hk (by unfold inI; omega) (by unfold inI; omega)
  refine ⟨none, 0, A, c, rfl, ?_⟩
  simp only [Tm.k_mk, Tm.n_mk, Tm.a_mk, Tm.ls_mk, Tm.ks_mk, List.length_nil]
  exact (Hp.only (Hp.pick H (by (repeat (first | with_reducible exact Pick.head | with_reducible apply Pick.tail)))) (.keep (by (repeat (first | with_reducible exact Subl.refl _ | with_reducible apply Subl.drop)))))
set_option maxRecDepth 100000 in
set_option maxHeartbeats 2000000 in
theorem same04_calls {w : World} {S1 S2 : Nat → Prop} {x y : Tm} {u v : Value} (h : TV w S1 x u) (k : TV w S2 y v) : Calls Tryd.prog 25 #[u, v] w (PB w (x = y)) := by
  obtain ⟨A0, ca, K0, ck, rfl, hrc⟩ := h
  obtain ⟨A1, ca1, K1, ck1, rfl, hrc1⟩ := k
  have HRC := Lib.hid hrc
  have HRC1 := Lib.hid hrc1
  clear hrc hrc1
  go_enter Tryd.func25, Tryd.ntmps25
  go_wp2_with fail
  have H := Hp.start no w
  refine callsH (by (repeat (first | with_reducible exact H | with_reducible exact H0_ | with_reducible apply Hp.alloc | with_reducible apply Hp.allocMap | with_reducible apply Hp.drew | with_reducible apply Hp.drewN | with_reducible apply Hp.set)); (try any_goals (repeat (first | with_reducible exact Upd.head | with_reducible apply Upd.tail)))) ?_
  clear H; intro w1 H; (try simp only [size_drew_, size_drewN_, World.size_alloc, World.size_setCell, List.set_cons_zero, List.set_cons_succ] at H)
  refine (sameTerm (x := x) (y := y) ⟨_, _, _, _, rfl, HRC.out.ext0 H.ext⟩ ⟨_, _, _, _, rfl, HRC1.out.ext0 H.ext⟩).mono ?_
  rintro e w2 ⟨q, rfl, hq, hx⟩
  replace H := H.call hx
  have HQ := Lib.hid hq
  clear hq hx
  go_wp2_with fail
  go_ret
  exact ⟨q, rfl, HQ.out, H.ext⟩
set_option maxRecDepth 100000 in
set_option maxHeartbeats 2000000 in
theorem rows04_calls {w : World} {S1 S2 : Nat → Prop} {xs ys : List Tm} {A B : Option Addr} {c1 c2 : Nat} (h : RC w S1 (.l 30 5 (xs.map Tm.d)) [.slice A xs.length c1]) (k : RC w S2 (.l 30 5 (ys.map Tm.d)) [.slice B ys.length c2]) : Calls Tryd.prog 24 #[.slice A xs.length c1, .slice B ys.length c2] w (PB w (xs = ys)) := by
  have HRC := Lib.hid h
  have HRC1 := Lib.hid k
  clear h k
  go_enter Tryd.func24, Tryd.ntmps24
  go_wp2_with fail
  have H := Hp.start no w
  refine (sameTerms HRC.out HRC1.out).mono ?_
  rintro e w2 ⟨q, rfl, hq, hx⟩
  replace H := H.call hx
  have HQ := Lib.hid hq
  clear hq hx
  go_wp2_with fail
  go_ret
  exact ⟨q, rfl, HQ.out, H.ext⟩
end Go.Proofs.YteelplgdojjakaaDoor
