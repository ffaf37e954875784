/- tele: with, Puts: contracts. No statement of the seat is proved here. -/
import Derived.Test.YteelplgdojjakaaDoorAboveO
import Derived.Test.YteelplgdojjakaaDoorTele2
import Derived.Test.YteelplgdojjakaaDoorTeleLaw
import Derived.Test.YteelplgdojjakaaDoorSwap
namespace Go.Proofs.YteelplgdojjakaaDoor
set_option linter.unusedSimpArgs false
set_option linter.unusedVariables false
open Go.RowKit

theorem depthT_above (k : Int) (ts : List Tm) (b : Tm) : depthT (aboveT k ts b) ≤ ts.length + depthsT ts + depthT b := by
  induction ts with
  | nil => simp [aboveT, depthsT]
  | cons t ts ih => rw [aboveT, depthT, depthsT, depthsT, depthsT, depthsT, List.length_cons]; omega
set_option maxRecDepth 100000 in
set_option maxHeartbeats 1000000 in
theorem teleWith {w : World} {A : Option Addr} {n c : Nat} : Calls Tryd.prog 70 #[.agg #[.slice none 0 0], .slice A n c] w fun e w' => e = .returned (.agg #[.slice A n c]) ∧ Ext no w w' := by
  go_enter Tryd.func70, Tryd.ntmps70
  have H := Hp.start no w
  go_wp2_with ((with_reducible refine atStore (t := 98) ?_); go_must (refine wpList_storeH (t := 98) rfl rfl (by go_simp <;> first | rfl | exact ⟨rfl, rfl⟩) (by go_simp <;> first | rfl | exact ⟨rfl, rfl⟩) (by exact Hp.norm (by (repeat (first | with_reducible exact H | with_reducible exact H0_ | with_reducible apply Hp.alloc | with_reducible apply Hp.allocMap | with_reducible apply Hp.drew | with_reducible apply Hp.drewN | with_reducible apply Hp.set)); (try any_goals (repeat (first | with_reducible exact Upd.head | with_reducible apply Upd.tail)))) (by ((try simp only [size_drew_, size_drewN_, World.size_alloc, World.size_setCell, List.set_cons_zero, List.set_cons_succ, List.nil_append, List.cons_append]) <;> rfl))) (by (repeat (first | with_reducible exact Upd.head | with_reducible apply Upd.tail))) (by exact aggWork) (by rfl) (by simp [Value.oneCell']) ?_; clear H; intro w7 H; (try simp only [size_drew_, size_drewN_, World.size_alloc, World.size_setCell, List.set_cons_zero, List.set_cons_succ] at H); (try clear hr_ hd_ ho_ hz_); have hr_ := H.rules; simp only [Rules, and_true] at hr_; have hd_ := H.dif; simp only [Dif, Neq, and_true] at hd_; obtain ⟨ho_, hz_⟩ := H.old0))
  (try clear hr_ hd_ ho_ hz_)
  refine endH (by (repeat (first | with_reducible exact H | with_reducible exact H0_ | with_reducible apply Hp.alloc | with_reducible apply Hp.allocMap | with_reducible apply Hp.drew | with_reducible apply Hp.drewN | with_reducible apply Hp.set)); (try any_goals (repeat (first | with_reducible exact Upd.head | with_reducible apply Upd.tail)))) ?_
  clear H; intro w8 H; (try simp only [size_drew_, size_drewN_, World.size_alloc, World.size_setCell, List.set_cons_zero, List.set_cons_succ] at H)
  exact bodyPost_ret (v := .agg #[_]) (Res.one Tryd.results70 (H.resBox (by (repeat (first | with_reducible exact Pick.head | with_reducible apply Pick.tail))) aggWork rfl rfl)) rfl ⟨rfl, H.ext⟩
def zeroT : Tm := .mk 0 0 0 [] []
theorem zero_rc {w : World} {S : Nat → Prop} : RC w S zeroT.d [.int .i64 0, .int .i64 0, .int .i64 0, .slice none 0 0, .slice none 0 0] := RC.tm.2 ⟨none, 0, none, 0, rfl, ⟨by decide, by decide⟩, ⟨by decide, by decide⟩, ⟨by decide, by decide⟩, RC.nil, RC.nil⟩
/-- A term of two kids, its kids' cells in a box. -/
theorem Hp.kids2 {w0 w : World} {l l' : List Ch} {k n a : Int} {x y : Tm} {ls : List Lv} {v4 : Value} {K : Option Addr} {ck m : Nat} (H : Hp no w0 w l) (p : Pick l (.dat (Tm.mk k n a ls [x, y]).d [.int .i64 k, .int .i64 n, .int .i64 a, v4, .slice K m ck]) l') :
    ∃ g A1 c1 K1 k1 A2 c2 K2 k2 sp, K = some ⟨g, 0, none⟩ ∧ m = 2 ∧ 2 ≤ ck ∧
      Hp no w0 w (.box g 30 (.int .i64 x.k :: .int .i64 x.n :: .int .i64 x.a :: .slice A1 x.ls.length c1 :: .slice K1 x.ks.length k1 :: .int .i64 y.k :: .int .i64 y.n :: .int .i64 y.a :: .slice A2 y.ls.length c2 :: .slice K2 y.ks.length k2 :: sp) ::
        .dat x.d [.int .i64 x.k, .int .i64 x.n, .int .i64 x.a, .slice A1 x.ls.length c1, .slice K1 x.ks.length k1] :: .dat y.d [.int .i64 y.k, .int .i64 y.n, .int .i64 y.a, .slice A2 y.ls.length c2, .slice K2 y.ks.length k2] :: l') := by
  have H1 := H.pick p
  obtain ⟨_, _, _, H2⟩ := Hp.untm (t := .mk k n a ls [x, y]) H1
  obtain ⟨es, hes, H3⟩ := H2.unrow (.tail .head)
  obtain ⟨g, c', he, hc, _⟩ := H3.rawAt .head (by simp [Tm.ks_mk])
  simp only [Value.slice.injEq] at he
  obtain ⟨rfl, rfl, rfl⟩ := he
  obtain ⟨sp, hl, hl2, _, hl4, H4⟩ := H3.rawbox .head
  obtain ⟨c1, c2, rfl, l1, l2, H5⟩ := H4.cut (a := [x.d]) (b := [y.d]) (.tail .head)
  have H6 := H5.unone .head
  have H7 := H6.unone (.tail .head)
  obtain ⟨A2, d2, K2, k2, rfl, _⟩ := RC.tm.1 (H7.rd (d := y.d) .head)
  obtain ⟨A1, d1, K1, k1, rfl, _⟩ := RC.tm.1 (H7.rd (d := x.d) (.tail .head))
  refine ⟨g, A1, d1, K1, k1, A2, d2, K2, k2, sp, rfl, by simp [Tm.ks_mk], hc, ?_⟩
  exact H7.arr (.cons (.tail (.tail .head)) (.cons (.tail .head) (.cons .head (Arr.of_subl (.drop (Subl.refl _))))))
set_option maxRecDepth 100000 in
set_option maxHeartbeats 4000000 in
theorem telePuts {S Sb : Nat → Prop} {ts by_ : List Tm} {w : World} {A B : Option Addr} {n c m cb : Nat} (hT : Tab w) (h : RC w S (.l 30 5 (ts.map Tm.d)) [.slice A n c]) (hn : n = ts.length) (hby : RC w Sb (.l 30 5 (by_.map Tm.d)) [.slice B m cb]) (hm : m = by_.length) (hd : ts.length + depthsT ts + 1 ≤ 4000000000) :
    Calls Tryd.prog 30 #[.slice A n c, .slice B m cb] w (PSl w 30 5 ((walkA (putF by_) 0 ts).map Tm.d)) := by
  subst hn hm
  have HT := Lib.hid hT
  have HRC := Lib.hid h
  have HBY := Lib.hid hby
  have HD := Lib.hid hd
  have htl : ts.length ≤ 4000000000 := by omega
  clear hT h hby hd
  have hfw := fieldWork
  go_enter Tryd.func30, Tryd.ntmps30
  go_wp2_with fail
  have H := Hp.start no w
  refine callsH (by (repeat (first | with_reducible exact H | with_reducible exact H0_ | with_reducible apply Hp.alloc | with_reducible apply Hp.allocMap | with_reducible apply Hp.drew | with_reducible apply Hp.drewN | with_reducible apply Hp.set)); (try any_goals (repeat (first | with_reducible exact Upd.head | with_reducible apply Upd.tail)))) ?_
  clear H; intro w1 H; (try simp only [size_drew_, size_drewN_, World.size_alloc, World.size_setCell, List.set_cons_zero, List.set_cons_succ] at H)
  refine teleWith.mono ?_
  rintro e w2 ⟨rfl, hx⟩
  replace H := H.call hx
  clear hx
  go_wp2_with fail
  refine (aboveOld_calls (b := zeroT) (HRC.out.ext0 H.ext) rfl zero_rc (by unfold inI; omega)).mono ?_
  rintro e w3 ⟨v, rfl, htv, hx⟩
  have HV := Lib.hid htv
  replace H := H.call hx
  clear hx htv
  go_wp2_with fail
  refine (put_calls (HT.out.ext H.ext) HV.out (HBY.out.ext0 H.ext) rfl (by have h1 := HD.out; have h2 := depthT_above 4 ts zeroT; have h3 : depthT zeroT = 1 := rfl; omega)).mono ?_
  rintro e w_ ⟨v, rfl, hto, hx⟩
  obtain ⟨C1, Cc, C2, Ck, rfl, H_⟩ := H.resTm hx hto
  clear H hx hto
  have H := H_
  clear H_
  clear hfw
  obtain ⟨xs, b', hput, hxs⟩ : ∃ xs b', putT (aboveT 4 ts zeroT) by_ = aboveT 4 xs b' ∧ xs = walkA (putF by_) 0 ts := ⟨_, _, by rw [putT, walkT_above (putF_pi by_)], rfl⟩
  rw [hput] at H ⊢
  have hxl : xs.length = ts.length := by rw [hxs, walkA_len]
  rw [← hxs]
  rw [← hxl]
  clear hput
  have HXS := Lib.hid hxs
  have HXL := Lib.hid hxl
  clear hxs
  have hxb : xs.length ≤ 4000000000 := by omega
  clear hxl
  have hr_ := H.rules; simp only [Rules, and_true] at hr_; have hd_ := H.dif; simp only [Dif, Neq, and_true] at hd_; obtain ⟨ho_, hz_⟩ := H.old0
  go_wp2_with ((with_reducible refine atStore (t := 30) ?_); go_must (refine wpList_storeH (t := 30) rfl rfl (by go_simp <;> first | rfl | exact ⟨rfl, rfl⟩) (by go_simp <;> first | rfl | exact ⟨rfl, rfl⟩) (by exact Hp.norm (by (repeat (first | with_reducible exact H | with_reducible exact H0_ | with_reducible apply Hp.alloc | with_reducible apply Hp.allocMap | with_reducible apply Hp.drew | with_reducible apply Hp.drewN | with_reducible apply Hp.set)); (try any_goals (repeat (first | with_reducible exact Upd.head | with_reducible apply Upd.tail)))) (by ((try simp only [size_drew_, size_drewN_, World.size_alloc, World.size_setCell, List.set_cons_zero, List.set_cons_succ, List.nil_append, List.cons_append]) <;> rfl))) (by (repeat (first | with_reducible exact Upd.head | with_reducible apply Upd.tail))) (by exact aggTerm) (by rfl) (by simp [Value.oneCell']) ?_; clear H; intro w7 H; (try simp only [size_drew_, size_drewN_, World.size_alloc, World.size_setCell, List.set_cons_zero, List.set_cons_succ] at H); (try clear hr_ hd_ ho_ hz_); have hr_ := H.rules; simp only [Rules, and_true] at hr_; have hd_ := H.dif; simp only [Dif, Neq, and_true] at hd_; obtain ⟨ho_, hz_⟩ := H.old0))
  (try clear hr_ hd_ ho_ hz_)
  replace H := H.nil 30 5
  go_loopw [4, 16] (fun out i wr => ∃ (j : Nat) (r : Tm) (B K : Option Addr) (cb kb : Nat), j ≤ xs.length ∧ i = .int .i64 j ∧ Hid (r = aboveT 4 (xs.drop j) b') ∧ Hp no w wr [.box w_.heap.size 30 [.int .i64 r.k, .int .i64 r.n, .int .i64 r.a, .slice B r.ls.length cb, .slice K r.ks.length kb], .dat r.d [.int .i64 r.k, .int .i64 r.n, .int .i64 r.a, .slice B r.ls.length cb, .slice K r.ks.length kb], .dat (.l 30 5 ((xs.take j).map Tm.d)) [out]]) (fun _ i _ => xs.length - (intOf i).toNat)
  case atStart =>
    refine ⟨0, aboveT 4 xs b', C1, C2, Cc, Ck, Nat.zero_le _, rfl, Lib.hid (by simp), ?_⟩
    simp only [List.take_zero, List.map_nil]
    exact (H.arr (by (repeat (first | with_reducible exact Arr.nil | refine Arr.cons (by (repeat (first | with_reducible exact Pick.head | with_reducible apply Pick.tail))) ?_)) <;> exact Arr.of_subl (by (repeat (first | with_reducible exact Subl.refl _ | with_reducible apply Subl.drop)))))
  case round =>
    clear H
    obtain ⟨j, r, B, K, cb, kb, hj, rfl, hr, H⟩ := hrel
    by_cases hlt : j < xs.length
    · have hr2 := hr.out
      rw [aboveT_drop hlt] at hr2
      obtain ⟨x, hx⟩ : ∃ x, x = xs[j] := ⟨_, rfl⟩
      obtain ⟨y, hy⟩ : ∃ y, y = aboveT 4 (xs.drop (j + 1)) b' := ⟨_, rfl⟩
      rw [← hx, ← hy] at hr2
      subst hr2
      have HX := Lib.hid hx
      have HY := Lib.hid hy
      clear hx hy hr
      simp only [Tm.k_mk, Tm.n_mk, Tm.a_mk, Tm.ls_mk, Tm.ks_mk, List.length_nil, List.length_cons, Nat.zero_add, Nat.reduceAdd] at H
      obtain ⟨g2, A1, c1, K1, k1, A2, c2, K2, k2, sp, rfl, _, hck, H_⟩ := H.kids2 (by (repeat (first | with_reducible exact Pick.head | with_reducible apply Pick.tail)))
      clear H
      have H := H_
      clear H_
      have hr_ := H.rules; simp only [Rules, and_true] at hr_; have hd_ := H.dif; simp only [Dif, Neq, and_true] at hd_; obtain ⟨ho_, hz_⟩ := H.old0
      go_wp2_with (first | ((with_reducible refine atStore (t := 30) ?_); go_must (refine wpList_storeH (t := 30) rfl rfl (by go_simp <;> first | rfl | exact ⟨rfl, rfl⟩) (by go_simp <;> first | rfl | exact ⟨rfl, rfl⟩) (by exact Hp.norm (by (repeat (first | with_reducible exact H | with_reducible exact H0_ | with_reducible apply Hp.alloc | with_reducible apply Hp.allocMap | with_reducible apply Hp.drew | with_reducible apply Hp.drewN | with_reducible apply Hp.set)); (try any_goals (repeat (first | with_reducible exact Upd.head | with_reducible apply Upd.tail)))) (by ((try simp only [size_drew_, size_drewN_, World.size_alloc, World.size_setCell, List.set_cons_zero, List.set_cons_succ, List.nil_append, List.cons_append]) <;> rfl))) (by (repeat (first | with_reducible exact Upd.head | with_reducible apply Upd.tail))) (by exact aggTerm) (by rfl) (by simp [Value.oneCell']) ?_; clear H; intro w7 H; (try simp only [size_drew_, size_drewN_, World.size_alloc, World.size_setCell, List.set_cons_zero, List.set_cons_succ] at H); (try clear hr_ hd_ ho_ hz_); have hr_ := H.rules; simp only [Rules, and_true] at hr_; have hd_ := H.dif; simp only [Dif, Neq, and_true] at hd_; obtain ⟨ho_, hz_⟩ := H.old0)) | (at_builtin; go_must (refine wpList_pushH rfl (.tmp 18) (.tmp 23) 28 rfl stTerms (by go_simp <;> first | rfl | exact ⟨rfl, rfl⟩) (by go_simp <;> first | rfl | exact ⟨rfl, rfl⟩) (by exact Hp.norm (by (repeat (first | with_reducible exact H | with_reducible exact H0_ | with_reducible apply Hp.alloc | with_reducible apply Hp.allocMap | with_reducible apply Hp.drew | with_reducible apply Hp.drewN | with_reducible apply Hp.set)); (try any_goals (repeat (first | with_reducible exact Upd.head | with_reducible apply Upd.tail)))) (by ((try simp only [size_drew_, size_drewN_, World.size_alloc, World.size_setCell, List.set_cons_zero, List.set_cons_succ, List.nil_append, List.cons_append]) <;> rfl))) (by (repeat (first | with_reducible exact Pick.head | with_reducible apply Pick.tail))) (by (repeat (first | with_reducible exact Pick.head | with_reducible apply Pick.tail))) (by (repeat (first | with_reducible exact Pick.head | with_reducible apply Pick.tail))) (Tm.size_d _) ?_ ?_; (focus (simp [M]; omega)); clear H; intro v' w4 H; (try clear hr_ hd_ ho_ hz_); have hr_ := H.rules; simp only [Rules, and_true] at hr_; have hd_ := H.dif; simp only [Dif, Neq, and_true] at hd_; obtain ⟨ho_, hz_⟩ := H.old0)))
      clear hr_ hd_ ho_ hz_
      go_roundw
      case rel =>
        refine ⟨j + 1, y, A2, K2, c2, k2, by omega, by go_num, HY, ?_⟩
        rw [take_map Tm.d hlt, ← HX.out]
        exact (H.arr (by (repeat (first | with_reducible exact Arr.nil | refine Arr.cons (by (repeat (first | with_reducible exact Pick.head | with_reducible apply Pick.tail))) ?_)) <;> exact Arr.of_subl (by (repeat (first | with_reducible exact Subl.refl _ | with_reducible apply Subl.drop)))))
      case measure => simp [intOf]; omega
    · go_wp2_with fail
      go_ret
      rw [take_all hlt, HXS.out] at H
      exact H.psl (.tail (.tail .head))
end Go.Proofs.YteelplgdojjakaaDoor
