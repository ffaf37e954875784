/- source: levels asked: contracts. No statement of the seat is proved here. -/
import Derived.Test.YtmedomglemllnaaGreatDoorMgSrc3
namespace Go.Proofs.YtmedomglemllnaaGreatDoor
set_option linter.unusedSimpArgs false
set_option linter.unusedVariables false
open Go.RowKit

set_option maxRecDepth 100000 in
set_option maxHeartbeats 1000000 in
theorem index_levels {w : World} {S : Nat → Prop} {xs : List Lv} {A : Option Addr} {n c F bn : Nat} {p : Lv → Bool} (h : RC w S (.l 47 1 (xs.map lvD)) [.slice A n c]) (hn : n = xs.length)
    (eg : ∀ args w, (callFunc F args).run Tryz.prog w = .ok (.enter F args) w) (hf : ∀ x ∈ xs, ∀ w' A' c', Ext no w w' → RC w' S (.l 237 2 (x.map ptD)) [.slice A' x.length c'] → Calls Tryz.prog F #[.agg #[.slice A' x.length c'], .pointer (some ⟨bn, 0, none⟩)] w' (PV w' (.bool (p x)))) :
    Calls Tryz.prog 274 #[.slice A n c, .func (.func F) #[] #[.pointer (some ⟨bn, 0, none⟩)]] w fun e w' => ∃ i : Int, e = .returned (.int .i64 i) ∧ ((0 ≤ i) = (xs.any p = true)) ∧ Ext no w w' := by
  subst hn
  have hM := h.lenM
  have HF := Lib.hid hf
  clear hf
  go_enter Tryz.func274, Tryz.ntmps274
  go_wp2_with fail
  go_loopw [5, 8] (fun u i wr => ∃ k : Nat, k ≤ xs.length ∧ i = .int .i64 k ∧ (xs.take k).any p = false ∧ Ext no w wr) (fun _ i _ => xs.length - (intOf i).toNat)
  case atStart => exact ⟨0, Nat.zero_le _, rfl, by simp, Ext.refl _ _⟩
  case round =>
    obtain ⟨k, hk, rfl, hall, hext⟩ := hrel
    have HA := Lib.hid hall
    clear hall
    by_cases hlt : k < xs.length
    · obtain ⟨b, o, A1, c1, rfl, hb, hS, hd, p0⟩ := (h.ext0 hext).atLv hlt
      have HD := Lib.hid hd
      clear hd
      go_wp2_with fail
      refine (HF.out xs[k] (List.getElem_mem hlt) _ _ _ hext HD.out).mono ?_
      rintro e w1 ⟨rfl, hx⟩
      cases hq : p xs[k]
      · have HQ := Lib.hid hq
        clear hq
        go_wp2_with fail
        go_roundw
        case rel => exact ⟨k + 1, by omega, by first | go_num | rfl | simp, any_take hlt HA.out HQ.out, hext.seq hx⟩
        case measure => simp [intOf]; omega
      · have HQ := Lib.hid hq
        clear hq
        go_wp2_with fail
        go_ret
        exact ⟨k, rfl, by simp [any_at hlt HQ.out], hext.seq hx⟩
    · go_wp2_with fail
      go_ret
      refine ⟨-1, rfl, ?_, hext⟩
      have h1 := HA.out
      rw [take_all hlt] at h1
      simp [h1]
set_option maxRecDepth 100000 in
set_option maxHeartbeats 1000000 in
theorem contains_levels {w : World} {S : Nat → Prop} {xs : List Lv} {A : Option Addr} {n c F bn : Nat} {p : Lv → Bool} (h : RC w S (.l 47 1 (xs.map lvD)) [.slice A n c]) (hn : n = xs.length)
    (eg : ∀ args w, (callFunc F args).run Tryz.prog w = .ok (.enter F args) w) (hf : ∀ x ∈ xs, ∀ w' A' c', Ext no w w' → RC w' S (.l 237 2 (x.map ptD)) [.slice A' x.length c'] → Calls Tryz.prog F #[.agg #[.slice A' x.length c'], .pointer (some ⟨bn, 0, none⟩)] w' (PV w' (.bool (p x)))) :
    Calls Tryz.prog 245 #[.slice A n c, .func (.func F) #[] #[.pointer (some ⟨bn, 0, none⟩)]] w (PV w (.bool (xs.any p))) := by
  subst hn
  have hidx := index_levels h rfl eg hf
  have HI := Lib.hid hidx
  clear hidx hf
  go_enter Tryz.func245, Tryz.ntmps245
  go_wp2_with fail
  refine HI.out.mono ?_
  rintro e w1 ⟨i, rfl, hi, hx1⟩
  cases hq : xs.any p
  · have g : decide (0 ≤ i) = false := by rw [hq] at hi; simpa using hi
    have HQ := Lib.hid hq
    clear hi hq
    go_wp2_with fail
    go_ret
    exact ⟨by rw [HQ.out]; rfl, hx1⟩
  · have g : decide (0 ≤ i) = true := by rw [hq] at hi; simpa using hi
    have HQ := Lib.hid hq
    clear hi hq
    go_wp2_with fail
    go_ret
    exact ⟨by rw [HQ.out]; rfl, hx1⟩
set_option maxRecDepth 100000 in
set_option maxHeartbeats 1000000 in
theorem all1_calls {w : World} {S : Nat → Prop} {x : Lv} {A : Option Addr} {c bn : Nat} {n : Int} (h : RC w S (.l 237 2 (x.map ptD)) [.slice A x.length c]) (hc : w.cell? ⟨bn, 1, none⟩ = some (.int .i64 n)) :
    Calls Tryz.prog 246 #[.agg #[.slice A x.length c], .pointer (some ⟨bn, 0, none⟩)] w (PV w (.bool (!lvRight n x))) := by
  have lc := cell_lt hc
  have HH := Lib.hid h
  clear h
  go_enter Tryz.func246, Tryz.ntmps246
  go_wp2_with fail
  have H := Hp.start no w
  refine callsH (by (repeat (first | with_reducible exact H | with_reducible exact H0_ | with_reducible apply Hp.alloc | with_reducible apply Hp.allocMap | with_reducible apply Hp.drew | with_reducible apply Hp.drewN | with_reducible apply Hp.set)); (try any_goals (repeat (first | with_reducible exact Upd.head | with_reducible apply Upd.tail)))) ?_
  clear H; intro w1 H; (try simp only [size_drew_, size_drewN_, World.size_alloc, World.size_setCell, List.set_cons_zero, List.set_cons_succ] at H)
  refine (lvRight_calls (HH.out.ext0 H.ext)).mono ?_
  rintro e w_ ⟨rfl, hx⟩
  replace H := H.call hx
  clear hx
  go_wp2_with fail
  go_ret
  exact ⟨rfl, H.ext⟩
end Go.Proofs.YtmedomglemllnaaGreatDoor
/- source: a walk through a term, from its levels on. No statement of the seat is proved here. -/
namespace Go.Proofs.YtmedomglemllnaaGreatDoor
set_option linter.unusedSimpArgs false
set_option linter.unusedVariables false
open Go.RowKit

def fromN (n : Nat) : Code → Code
  | .seq (.region id ops d) b => if id = n then .seq (.region id ops d) b else fromN n b
  | .seq (.seq (.region id ops d) y) b => if id = n then .seq (.seq (.region id ops d) y) b else fromN n b
  | .seq _ b => fromN n b
  | c => c
def askQ (ds : List Dc) (sf sc : Int) (t : Tm) : Bool := if t.k = 1 then decide (t.n < sc) else if t.k = 3 then constQ ds t else if t.k = 8 then memQ ds t else if t.k = 9 then ctorQ ds t else if t.k = 10 then recQ ds t else if t.k = 11 then decide (t.a < sf) else decide (t.k ≤ 7)
def lvsQ (n : Int) (ls : List Lv) : Bool := !(ls.any fun x => !lvRight n x)
mutual
def allQ (ds : List Dc) (n sf : Int) : Int → Tm → Bool
  | sc, .mk k m a ls ks => askQ ds sf sc (.mk k m a ls ks) && (lvsQ n ls && allsQ ds n sf k sc 0 ks)
def allsQ (ds : List Dc) (n sf k : Int) (sc : Int) : Nat → List Tm → Bool
  | _, [] => true
  | i, t :: ts => allQ ds n sf (downI k i sc) t && allsQ ds n sf k sc (i + 1) ts
end
inductive TmNN : Tm → Prop where
  | mk {k n a : Int} {ls : List Lv} {ks : List Tm} (h : 0 ≤ n) (hk : ∀ t ∈ ks, TmNN t) : TmNN (.mk k n a ls ks)
theorem allsQ_drop {ds : List Dc} {n sf k sc : Int} {ks : List Tm} {j : Nat} (h : j < ks.length) : allsQ ds n sf k sc j (ks.drop j) = (allQ ds n sf (downI k (j : Int) sc) ks[j] && allsQ ds n sf k sc (j + 1) (ks.drop (j + 1))) := by
  rw [List.drop_eq_getElem_cons h, allsQ]
def AllOK (t : Tm) : Prop := ∀ (w : World) (S S1 : Nat → Prop) (ds : List Dc) (v : Value) (A : Option Addr) (c : Nat) (n sf sc : Int), Tab w → RC w S (.l 51 16 (ds.map Dc.d)) [.slice A ds.length c] → TV w S1 t v → TmNN t →
  Calls Tryz.prog 176 #[wkV A ds.length c n sf sc, v] w (PWr w (allQ ds n sf sc t))
theorem aggWalk : AggT Tryz.prog 208 4 := ⟨_, Tryz.underlying208, rfl, by kernel_rfl⟩
set_option maxRecDepth 100000 in
set_option maxHeartbeats 4000000 in
theorem all5 {w W : World} {S S1 : Nat → Prop} {ds : List Dc} {k m a : Int} {ls : List Lv} {ks : List Tm} {A A0 K0 : Option Addr} {c ca ck gw gt : Nat} {n sf sc : Int} {x0 x1 x4 x5 x6 x7 x8 x9 x10 x11 x12 x13 x14 x15 x16 x17 x18 x19 x20 x21 x22 x23 x24 x25 x26 x27 x28 x29 x30 x31 x32 x33 x34 x35 x36 x37 x38 x39 x40 x41 x42 x43 x44 x45 x46 x47 x48 x49 x50 x51 x52 x53 x54 x55 x56 x57 x58 x59 x60 x61 x62 x63 x64 x65 x66 x67 x68 : Value} (IH : Hid (∀ t ∈ ks, AllOK t)) (hT : Tab w)
    (h : RC w S (.l 51 16 (ds.map Dc.d)) [.slice A ds.length c]) (hls : RC w S1 (.l 47 1 (ls.map lvD)) [.slice A0 ls.length ca]) (hks : RC w S1 (.l 26 5 (ks.map Tm.d)) [.slice K0 ks.length ck]) (hnn : ∀ t ∈ ks, TmNN t)
    (H : Hp no w W [.box gt 26 [.int .i64 k, .int .i64 m, .int .i64 a, .slice A0 ls.length ca, .slice K0 ks.length ck], .box gw 208 [.slice A ds.length c, .int .i64 n, .int .i64 sf, .int .i64 sc]]) :
    (fromN 5 (Tryz.f176.body.getD .skip)).wp Tryz.prog (bodyPost Tryz.prog Tryz.f176 (PWr w (lvsQ n ls && allsQ ds n sf k sc 0 ks))) { tmps := #[x0, x1, .pointer (some ⟨gw, 0, none⟩), .pointer (some ⟨gt, 0, none⟩), x4, x5, x6, x7, x8, x9, x10, x11, x12, x13, x14, x15, x16, x17, x18, x19, x20, x21, x22, x23, x24, x25, x26, x27, x28, x29, x30, x31, x32, x33, x34, x35, x36, x37, x38, x39, x40, x41, x42, x43, x44, x45, x46, x47, x48, x49, x50, x51, x52, x53, x54, x55, x56, x57, x58, x59, x60, x61, x62, x63, x64, x65, x66, x67, x68], defers := [] } W := by
  have hM := hks.lenM
  have HT := Lib.hid hT
  have HH := Lib.hid h
  have HN := Lib.hid hnn
  clear hT h hnn
  have hmf : ∀ (fn : Fn) (first cap : Array Value) (w : World), (Instr.makeFunc fn first cap).run Tryz.prog w = .ok (.func fn first cap) w := fun _ _ _ _ => rfl
  conv => arg 2; whnf
  have hr_ := H.rules; simp only [Rules, and_true] at hr_; have hd_ := H.dif; simp only [Dif, Neq, and_true] at hd_; obtain ⟨ho_, hz_⟩ := H.old0
  go_wp2_with fail
  clear hr_ hd_ ho_ hz_
  refine (contains_levels (p := fun x => !lvRight n x) (hls.ext0 H.ext) rfl (enters_of Tryz.func246 (by kernel_rfl) rfl) (fun x _ w' A' c' hx hr => all1_calls hr (hx.keep ((H.blk (g := gw) (by (repeat (first | with_reducible exact Pick.head | with_reducible apply Pick.tail)))).cells 1)))).mono ?_
  rintro e w_ ⟨rfl, hx⟩
  replace H := H.call hx
  clear hx
  cases hq : ls.any fun x => !lvRight n x
  · have HL : Hid (lvsQ n ls = true) := by unfold Hid lvsQ; rw [hq]; rfl
    clear hq
    go_wp2_with fail
    refine callsH (by (repeat (first | with_reducible exact H | with_reducible exact H0_ | with_reducible apply Hp.alloc | with_reducible apply Hp.allocMap | with_reducible apply Hp.drew | with_reducible apply Hp.drewN | with_reducible apply Hp.set)); (try any_goals (repeat (first | with_reducible exact Upd.head | with_reducible apply Upd.tail)))) ?_
    clear H; intro w3 H; (try simp only [size_drew_, size_drewN_, World.size_alloc, World.size_setCell, List.set_cons_zero, List.set_cons_succ] at H)
    refine (smust1 H).mono ?_
    rintro e w2 hm
    have hx := hm.2
    obtain rfl := hm.yes rfl
    clear hm
    replace H := H.call hx
    clear hx
    have hr_ := H.rules; simp only [Rules, and_true] at hr_; have hd_ := H.dif; simp only [Dif, Neq, and_true] at hd_; obtain ⟨ho_, hz_⟩ := H.old0
    go_wp2_with fail
    clear hr_ hd_ ho_ hz_
    go_loopw [51] (fun i wr => ∃ j : Nat, j ≤ ks.length ∧ i = .int .i64 j ∧ Hid (allsQ ds n sf k sc j (ks.drop j) = allsQ ds n sf k sc 0 ks) ∧ Hp no w wr [.box gt 26 [.int .i64 k, .int .i64 m, .int .i64 a, .slice A0 ls.length ca, .slice K0 ks.length ck], .box gw 208 [.slice A ds.length c, .int .i64 n, .int .i64 sf, .int .i64 sc]]) (fun i _ => ks.length - (intOf i).toNat)
    case atStart => exact ⟨0, Nat.zero_le _, rfl, Lib.hid (by simp), (H.arr (by (repeat (first | with_reducible exact Arr.nil | refine Arr.cons (by (repeat (first | with_reducible exact Pick.head | with_reducible apply Pick.tail))) ?_)) <;> exact Arr.of_subl (by (repeat (first | with_reducible exact Subl.refl _ | with_reducible apply Subl.drop)))))⟩
    case round =>
      clear H
      obtain ⟨j, hj, rfl, HS, H⟩ := hrel
      by_cases hlt : j < ks.length
      · obtain ⟨b, o, A1, ca1, K1, ck1, rfl, hb, hS, hd, p0, p1, p2, p3, p4⟩ := hks.atTm hlt
        have HD := Lib.hid hd
        have HE := Lib.hid (allsQ_drop (ds := ds) (n := n) (sf := sf) (k := k) (sc := sc) hlt)
        clear hd
        have hr_ := H.rules; simp only [Rules, and_true] at hr_; have hd_ := H.dif; simp only [Dif, Neq, and_true] at hd_; obtain ⟨ho_, hz_⟩ := H.old0
        go_wp2_with (first | ((with_reducible refine atStore (t := 26) ?_); go_must (refine wpList_storeH (t := 26) rfl rfl (by go_simp <;> first | rfl | exact ⟨rfl, rfl⟩) (by go_simp <;> first | rfl | exact ⟨rfl, rfl⟩) (by exact Hp.norm (by (repeat (first | with_reducible exact H | with_reducible exact H0_ | with_reducible apply Hp.alloc | with_reducible apply Hp.allocMap | with_reducible apply Hp.drew | with_reducible apply Hp.drewN | with_reducible apply Hp.set)); (try any_goals (repeat (first | with_reducible exact Upd.head | with_reducible apply Upd.tail)))) (by ((try simp only [size_drew_, size_drewN_, World.size_alloc, World.size_setCell, List.set_cons_zero, List.set_cons_succ, List.nil_append, List.cons_append]) <;> rfl))) (by (repeat (first | with_reducible exact Upd.head | with_reducible apply Upd.tail))) (by exact aggTerm) (by rfl) (by simp [Value.oneCell']) ?_; clear H; intro w7 H; (try simp only [size_drew_, size_drewN_, World.size_alloc, World.size_setCell, List.set_cons_zero, List.set_cons_succ] at H); (try clear hr_ hd_ ho_ hz_); have hr_ := H.rules; simp only [Rules, and_true] at hr_; have hd_ := H.dif; simp only [Dif, Neq, and_true] at hd_; obtain ⟨ho_, hz_⟩ := H.old0)) | ((with_reducible refine atStore (t := 208) ?_); go_must (refine wpList_storeH (t := 208) rfl rfl (by go_simp <;> first | rfl | exact ⟨rfl, rfl⟩) (by go_simp <;> first | rfl | exact ⟨rfl, rfl⟩) (by exact Hp.norm (by (repeat (first | with_reducible exact H | with_reducible exact H0_ | with_reducible apply Hp.alloc | with_reducible apply Hp.allocMap | with_reducible apply Hp.drew | with_reducible apply Hp.drewN | with_reducible apply Hp.set)); (try any_goals (repeat (first | with_reducible exact Upd.head | with_reducible apply Upd.tail)))) (by ((try simp only [size_drew_, size_drewN_, World.size_alloc, World.size_setCell, List.set_cons_zero, List.set_cons_succ, List.nil_append, List.cons_append]) <;> rfl))) (by (repeat (first | with_reducible exact Upd.head | with_reducible apply Upd.tail))) (by exact aggWalk) (by rfl) (by simp [Value.oneCell']) ?_; clear H; intro w8 H; (try simp only [size_drew_, size_drewN_, World.size_alloc, World.size_setCell, List.set_cons_zero, List.set_cons_succ] at H); (try clear hr_ hd_ ho_ hz_); have hr_ := H.rules; simp only [Rules, and_true] at hr_; have hd_ := H.dif; simp only [Dif, Neq, and_true] at hd_; obtain ⟨ho_, hz_⟩ := H.old0)))
        (try clear hr_ hd_ ho_ hz_)
        refine callsH (by (repeat (first | with_reducible exact H | with_reducible exact H0_ | with_reducible apply Hp.alloc | with_reducible apply Hp.allocMap | with_reducible apply Hp.drew | with_reducible apply Hp.drewN | with_reducible apply Hp.set)); (try any_goals (repeat (first | with_reducible exact Upd.head | with_reducible apply Upd.tail)))) ?_
        clear H; intro w9 H; (try simp only [size_drew_, size_drewN_, World.size_alloc, World.size_setCell, List.set_cons_zero, List.set_cons_succ] at H)
        refine (binds_calls (HT.out.ext H.ext) k (j : Int)).mono ?_
        rintro e w_ ⟨rfl, hx⟩
        replace H := H.call hx
        clear hx
        cases hbd : binds k (j : Int)
        · have hdn : downI k (j : Int) sc = sc := by unfold downI; rw [hbd]; rfl
          have hr_ := H.rules; simp only [Rules, and_true] at hr_; have hd_ := H.dif; simp only [Dif, Neq, and_true] at hd_; obtain ⟨ho_, hz_⟩ := H.old0
          go_wp2_with fail
          clear hr_ hd_ ho_ hz_
          have HDN := Lib.hid hdn
          clear hdn hbd
          refine callsH (by (repeat (first | with_reducible exact H | with_reducible exact H0_ | with_reducible apply Hp.alloc | with_reducible apply Hp.allocMap | with_reducible apply Hp.drew | with_reducible apply Hp.drewN | with_reducible apply Hp.set)); (try any_goals (repeat (first | with_reducible exact Upd.head | with_reducible apply Upd.tail)))) ?_
          clear H; intro w10 H; (try simp only [size_drew_, size_drewN_, World.size_alloc, World.size_setCell, List.set_cons_zero, List.set_cons_succ] at H)
          have he2 := HE.out
          have hcall := IH.out ks[j] (List.getElem_mem hlt) w10 _ _ ds _ A c n sf (downI k (j : Int) sc) (HT.out.ext H.ext) (HH.out.ext0 H.ext) ⟨_, _, _, _, rfl, HD.out.ext0 H.ext⟩ (HN.out _ (List.getElem_mem hlt))
          rw [HDN.out] at hcall he2
          clear HE
          have HE := Lib.hid he2
          clear he2
          refine hcall.mono ?_
          clear hcall
          rintro e w2 hm
          have hx := hm.2
          have HM := Lib.hid hm
          clear hm
          replace H := H.call hx
          clear hx
          cases hq : allQ ds n sf (sc) ks[j]
          · obtain rfl := HM.out.no hq
            have HQ := Lib.hid hq
            clear hq
            exact ⟨rfl, by rw [HL.out, ← HS.out, HE.out, HQ.out]; rfl, H.ext⟩
          · obtain rfl := HM.out.yes hq
            have HQ := Lib.hid hq
            clear hq
            go_wp2_with fail
            go_roundw
            case rel => exact ⟨j + 1, by omega, by first | go_num | rfl | simp, Lib.hid (by rw [← HS.out, HE.out, HQ.out]; rfl), (H.arr (by (repeat (first | with_reducible exact Arr.nil | refine Arr.cons (by (repeat (first | with_reducible exact Pick.head | with_reducible apply Pick.tail))) ?_)) <;> exact Arr.of_subl (by (repeat (first | with_reducible exact Subl.refl _ | with_reducible apply Subl.drop)))))⟩
            case measure => simp [intOf]; omega
        · have hdn : downI k (j : Int) sc = wrap64 (sc + 1) := by unfold downI; rw [hbd]; rfl
          have hr_ := H.rules; simp only [Rules, and_true] at hr_; have hd_ := H.dif; simp only [Dif, Neq, and_true] at hd_; obtain ⟨ho_, hz_⟩ := H.old0
          go_wp2_with fail
          clear hr_ hd_ ho_ hz_
          have HDN := Lib.hid hdn
          clear hdn hbd
          refine callsH (by (repeat (first | with_reducible exact H | with_reducible exact H0_ | with_reducible apply Hp.alloc | with_reducible apply Hp.allocMap | with_reducible apply Hp.drew | with_reducible apply Hp.drewN | with_reducible apply Hp.set)); (try any_goals (repeat (first | with_reducible exact Upd.head | with_reducible apply Upd.tail)))) ?_
          clear H; intro w10 H; (try simp only [size_drew_, size_drewN_, World.size_alloc, World.size_setCell, List.set_cons_zero, List.set_cons_succ] at H)
          have he2 := HE.out
          have hcall := IH.out ks[j] (List.getElem_mem hlt) w10 _ _ ds _ A c n sf (downI k (j : Int) sc) (HT.out.ext H.ext) (HH.out.ext0 H.ext) ⟨_, _, _, _, rfl, HD.out.ext0 H.ext⟩ (HN.out _ (List.getElem_mem hlt))
          rw [HDN.out] at hcall he2
          clear HE
          have HE := Lib.hid he2
          clear he2
          refine hcall.mono ?_
          clear hcall
          rintro e w2 hm
          have hx := hm.2
          have HM := Lib.hid hm
          clear hm
          replace H := H.call hx
          clear hx
          cases hq : allQ ds n sf (wrap64 (sc + 1)) ks[j]
          · obtain rfl := HM.out.no hq
            have HQ := Lib.hid hq
            clear hq
            exact ⟨rfl, by rw [HL.out, ← HS.out, HE.out, HQ.out]; rfl, H.ext⟩
          · obtain rfl := HM.out.yes hq
            have HQ := Lib.hid hq
            clear hq
            go_wp2_with fail
            go_roundw
            case rel => exact ⟨j + 1, by omega, by first | go_num | rfl | simp, Lib.hid (by rw [← HS.out, HE.out, HQ.out]; rfl), (H.arr (by (repeat (first | with_reducible exact Arr.nil | refine Arr.cons (by (repeat (first | with_reducible exact Pick.head | with_reducible apply Pick.tail))) ?_)) <;> exact Arr.of_subl (by (repeat (first | with_reducible exact Subl.refl _ | with_reducible apply Subl.drop)))))⟩
            case measure => simp [intOf]; omega
      · go_wp2_with fail
        go_end0
        have e : allsQ ds n sf k sc 0 ks = true := by rw [← HS.out, List.drop_eq_nil_of_le (by omega), allsQ]
        exact ⟨by rw [HL.out, e]; rfl, H.ext⟩
  · have HL : Hid (lvsQ n ls = false) := by unfold Hid lvsQ; rw [hq]; rfl
    clear hq
    go_wp2_with fail
    refine callsH (by (repeat (first | with_reducible exact H | with_reducible exact H0_ | with_reducible apply Hp.alloc | with_reducible apply Hp.allocMap | with_reducible apply Hp.drew | with_reducible apply Hp.drewN | with_reducible apply Hp.set)); (try any_goals (repeat (first | with_reducible exact Upd.head | with_reducible apply Upd.tail)))) ?_
    clear H; intro w3 H; (try simp only [size_drew_, size_drewN_, World.size_alloc, World.size_setCell, List.set_cons_zero, List.set_cons_succ] at H)
    refine (smust1 H).mono ?_
    rintro e w2 hm
    have hx := hm.2
    obtain rfl := hm.no rfl
    clear hm
    replace H := H.call hx
    go_wp2_with fail
    exact ⟨rfl, by rw [HL.out]; rfl, H.ext⟩
end Go.Proofs.YtmedomglemllnaaGreatDoor
/- term: the levels of a node, its numbers: contracts. No statement of the seat is proved here. -/
namespace Go.Proofs.YtmedomglemllnaaGreatDoor
set_option linter.unusedSimpArgs false
set_option linter.unusedVariables false
open Go.RowKit

set_option maxRecDepth 100000 in
set_option maxHeartbeats 1000000 in
theorem index_levels0 {w : World} {S : Nat → Prop} {xs : List Lv} {A : Option Addr} {n c F : Nat} {p : Lv → Bool} (h : RC w S (.l 47 1 (xs.map lvD)) [.slice A n c]) (hn : n = xs.length)
    (eg : ∀ args w, (callFunc F args).run Tryz.prog w = .ok (.enter F args) w) (hf : ∀ x ∈ xs, ∀ w' A' c', Ext no w w' → RC w' S (.l 237 2 (x.map ptD)) [.slice A' x.length c'] → Calls Tryz.prog F #[.agg #[.slice A' x.length c']] w' (PV w' (.bool (p x)))) :
    Calls Tryz.prog 274 #[.slice A n c, .func (.func F) #[] #[]] w fun e w' => ∃ i : Int, e = .returned (.int .i64 i) ∧ ((0 ≤ i) = (xs.any p = true)) ∧ Ext no w w' := by
  subst hn
  have hM := h.lenM
  have HF := Lib.hid hf
  clear hf
  go_enter Tryz.func274, Tryz.ntmps274
  go_wp2_with fail
  go_loopw [5, 8] (fun u i wr => ∃ k : Nat, k ≤ xs.length ∧ i = .int .i64 k ∧ (xs.take k).any p = false ∧ Ext no w wr) (fun _ i _ => xs.length - (intOf i).toNat)
  case atStart => exact ⟨0, Nat.zero_le _, rfl, by simp, Ext.refl _ _⟩
  case round =>
    obtain ⟨k, hk, rfl, hall, hext⟩ := hrel
    have HA := Lib.hid hall
    clear hall
    by_cases hlt : k < xs.length
    · obtain ⟨b, o, A1, c1, rfl, hb, hS, hd, p0⟩ := (h.ext0 hext).atLv hlt
      have HD := Lib.hid hd
      clear hd
      go_wp2_with fail
      refine (HF.out xs[k] (List.getElem_mem hlt) _ _ _ hext HD.out).mono ?_
      rintro e w1 ⟨rfl, hx⟩
      cases hq : p xs[k]
      · have HQ := Lib.hid hq
        clear hq
        go_wp2_with fail
        go_roundw
        case rel => exact ⟨k + 1, by omega, by first | go_num | rfl | simp, any_take hlt HA.out HQ.out, hext.seq hx⟩
        case measure => simp [intOf]; omega
      · have HQ := Lib.hid hq
        clear hq
        go_wp2_with fail
        go_ret
        exact ⟨k, rfl, by simp [any_at hlt HQ.out], hext.seq hx⟩
    · go_wp2_with fail
      go_ret
      refine ⟨-1, rfl, ?_, hext⟩
      have h1 := HA.out
      rw [take_all hlt] at h1
      simp [h1]
set_option maxRecDepth 100000 in
set_option maxHeartbeats 1000000 in
theorem contains_levels0 {w : World} {S : Nat → Prop} {xs : List Lv} {A : Option Addr} {n c F : Nat} {p : Lv → Bool} (h : RC w S (.l 47 1 (xs.map lvD)) [.slice A n c]) (hn : n = xs.length)
    (eg : ∀ args w, (callFunc F args).run Tryz.prog w = .ok (.enter F args) w) (hf : ∀ x ∈ xs, ∀ w' A' c', Ext no w w' → RC w' S (.l 237 2 (x.map ptD)) [.slice A' x.length c'] → Calls Tryz.prog F #[.agg #[.slice A' x.length c']] w' (PV w' (.bool (p x)))) :
    Calls Tryz.prog 245 #[.slice A n c, .func (.func F) #[] #[]] w (PV w (.bool (xs.any p))) := by
  subst hn
  have hidx := index_levels0 h rfl eg hf
  have HI := Lib.hid hidx
  clear hidx hf
  go_enter Tryz.func245, Tryz.ntmps245
  go_wp2_with fail
  refine HI.out.mono ?_
  rintro e w1 ⟨i, rfl, hi, hx1⟩
  cases hq : xs.any p
  · have g : decide (0 ≤ i) = false := by rw [hq] at hi; simpa using hi
    have HQ := Lib.hid hq
    clear hi hq
    go_wp2_with fail
    go_ret
    exact ⟨by rw [HQ.out]; rfl, hx1⟩
  · have g : decide (0 ≤ i) = true := by rw [hq] at hi; simpa using hi
    have HQ := Lib.hid hq
    clear hi hq
    go_wp2_with fail
    go_ret
    exact ⟨by rw [HQ.out]; rfl, hx1⟩
set_option maxRecDepth 100000 in
set_option maxHeartbeats 1000000 in
theorem node1_calls {w : World} {S : Nat → Prop} {x : Lv} {A : Option Addr} {c : Nat} (h : RC w S (.l 237 2 (x.map ptD)) [.slice A x.length c]) :
    Calls Tryz.prog 283 #[.agg #[.slice A x.length c]] w (PV w (.bool (!lvRight 9 x))) := by
  have HH := Lib.hid h
  clear h
  go_enter Tryz.func283, Tryz.ntmps283
  go_wp2_with fail
  have H := Hp.start no w
  refine callsH (by (repeat (first | with_reducible exact H | with_reducible exact H0_ | with_reducible apply Hp.alloc | with_reducible apply Hp.allocMap | with_reducible apply Hp.drew | with_reducible apply Hp.drewN | with_reducible apply Hp.set)); (try any_goals (repeat (first | with_reducible exact Upd.head | with_reducible apply Upd.tail)))) ?_
  clear H; intro w1 H; (try simp only [size_drew_, size_drewN_, World.size_alloc, World.size_setCell, List.set_cons_zero, List.set_cons_succ] at H)
  refine (lvRight_calls (HH.out.ext0 H.ext)).mono ?_
  rintro e w_ ⟨rfl, hx⟩
  replace H := H.call hx
  clear hx
  go_wp2_with fail
  go_ret
  exact ⟨rfl, H.ext⟩
theorem node_levels {w : World} {S : Nat → Prop} {xs : List Lv} {A : Option Addr} {n c : Nat} (h : RC w S (.l 47 1 (xs.map lvD)) [.slice A n c]) (hn : n = xs.length) :
    Calls Tryz.prog 245 #[.slice A n c, .func (.func 283) #[] #[]] w (PV w (.bool (xs.any fun x => !lvRight 9 x))) :=
  contains_levels0 h hn (enters_of Tryz.func283 (by kernel_rfl) rfl) (fun x _ w' A' c' _ hr => node1_calls hr)
end Go.Proofs.YtmedomglemllnaaGreatDoor
/- term: within: contract. No statement of the seat is proved here. -/
namespace Go.Proofs.YtmedomglemllnaaGreatDoor
set_option linter.unusedSimpArgs false
set_option linter.unusedVariables false
open Go.RowKit

def outI (n : Int) : Bool := decide (n < 0) || decide (1048576 < n)
theorem within1_calls {w : World} (n : Int) : Calls Tryz.prog 285 #[.int .i64 n] w (PV w (.bool (outI n))) := by
  by_cases h1 : n < 0
  · have HB : Hid (outI n = true) := by unfold Hid outI; simp [h1]
    go_enter Tryz.func285, Tryz.ntmps285
    go_wp2_with fail
    go_ret
    exact ⟨by rw [HB.out]; rfl, Ext.refl _ _⟩
  · by_cases h2 : 1048576 < n
    · have HB : Hid (outI n = true) := by unfold Hid outI; simp [h2]
      go_enter Tryz.func285, Tryz.ntmps285
      go_wp2_with fail
      go_ret
      exact ⟨by rw [HB.out]; rfl, Ext.refl _ _⟩
    · have HB : Hid (outI n = false) := by unfold Hid outI; simp [h1, h2]
      go_enter Tryz.func285, Tryz.ntmps285
      go_wp2_with fail
      go_ret
      exact ⟨by rw [HB.out]; rfl, Ext.refl _ _⟩
set_option maxRecDepth 100000 in
set_option maxHeartbeats 1000000 in
theorem index_two {w : World} {g : Nat} {a b : Int} (p0 : w.cell? ⟨g, 0, none⟩ = some (.int .i64 a)) (p1 : w.cell? ⟨g, 1, none⟩ = some (.int .i64 b)) :
    Calls Tryz.prog 286 #[.slice (some ⟨g, 0, none⟩) 2 2, .func (.func 285) #[] #[]] w fun e w' => ∃ i : Int, e = .returned (.int .i64 i) ∧ ((0 ≤ i) = ((outI a || outI b) = true)) ∧ Ext no w w' := by
  go_enter Tryz.func286, Tryz.ntmps286
  go_wp2_with fail
  have HP0 := Lib.hid p0
  have HP1 := Lib.hid p1
  clear p0 p1
  go_loopw [5, 8] (fun u i wr => ∃ k : Nat, k ≤ 2 ∧ i = .int .i64 k ∧ Hid (0 < k → outI a = false) ∧ Hid (1 < k → outI b = false) ∧ Ext no w wr) (fun _ i _ => 2 - (intOf i).toNat)
  case atStart => exact ⟨0, by omega, rfl, Lib.hid (by omega), Lib.hid (by omega), Ext.refl _ _⟩
  case round =>
    obtain ⟨k, hk, rfl, HA, HB, hext⟩ := hrel
    have q0 := hext.keep HP0.out
    have q1 := hext.keep HP1.out
    match k, hk with
    | 0, _ =>
      go_wp2_with fail
      refine (within1_calls a).mono ?_
      rintro e w1 ⟨rfl, hx⟩
      cases h0 : outI a
      · have H0 := Lib.hid h0
        clear h0
        go_wp2_with fail
        go_roundw
        case rel => exact ⟨1, by omega, by first | go_num | rfl | simp, Lib.hid fun _ => H0.out, Lib.hid (by omega), hext.seq hx⟩
        case measure => simp [intOf]
      · have H0 := Lib.hid h0
        clear h0
        go_wp2_with fail
        go_ret
        exact ⟨0, rfl, by simp [H0.out], hext.seq hx⟩
    | 1, _ =>
      go_wp2_with fail
      refine (within1_calls b).mono ?_
      rintro e w1 ⟨rfl, hx⟩
      cases h0 : outI b
      · have H0 := Lib.hid h0
        clear h0
        go_wp2_with fail
        go_roundw
        case rel => exact ⟨2, by omega, by first | go_num | rfl | simp, Lib.hid fun _ => HA.out (by omega), Lib.hid fun _ => H0.out, hext.seq hx⟩
        case measure => simp [intOf]
      · have H0 := Lib.hid h0
        clear h0
        go_wp2_with fail
        go_ret
        exact ⟨1, rfl, by simp [H0.out], hext.seq hx⟩
    | 2, _ =>
      go_wp2_with fail
      go_ret
      exact ⟨-1, rfl, by simp [HA.out (by omega), HB.out (by omega)], hext⟩
set_option maxRecDepth 100000 in
set_option maxHeartbeats 1000000 in
theorem contains_two {w : World} {g : Nat} {a b : Int} (p0 : w.cell? ⟨g, 0, none⟩ = some (.int .i64 a)) (p1 : w.cell? ⟨g, 1, none⟩ = some (.int .i64 b)) :
    Calls Tryz.prog 284 #[.slice (some ⟨g, 0, none⟩) 2 2, .func (.func 285) #[] #[]] w (PV w (.bool (outI a || outI b))) := by
  have HI := Lib.hid (index_two p0 p1)
  clear p0 p1
  go_enter Tryz.func284, Tryz.ntmps284
  go_wp2_with fail
  refine HI.out.mono ?_
  rintro e w1 ⟨i, rfl, hi, hx1⟩
  cases hq : outI a || outI b
  · have g : decide (0 ≤ i) = false := by rw [hq] at hi; simpa using hi
    have HQ := Lib.hid hq
    clear hi hq
    go_wp2_with fail
    go_ret
    exact ⟨by rw [HQ.out]; rfl, hx1⟩
  · have g : decide (0 ≤ i) = true := by rw [hq] at hi; simpa using hi
    have HQ := Lib.hid hq
    clear hi hq
    go_wp2_with fail
    go_ret
    exact ⟨by rw [HQ.out]; rfl, hx1⟩
set_option maxRecDepth 100000 in
set_option maxHeartbeats 1000000 in
theorem within_calls11 {w : World} {g : Nat} {a b : Int} (p0 : w.cell? ⟨g, 0, none⟩ = some (.int .i64 a)) (p1 : w.cell? ⟨g, 1, none⟩ = some (.int .i64 b)) :
    Calls Tryz.prog 282 #[.slice (some ⟨g, 0, none⟩) 2 2] w (PV w (.bool (!(outI a || outI b)))) := by
  have HI := Lib.hid (contains_two p0 p1)
  clear p0 p1
  go_enter Tryz.func282, Tryz.ntmps282
  go_wp2_with fail
  refine HI.out.mono ?_
  rintro e w1 ⟨rfl, hx1⟩
  obtain ⟨q, hq⟩ : ∃ q, q = (outI a || outI b) := ⟨_, rfl⟩
  rw [← hq]
  have HQ := Lib.hid hq
  clear hq
  go_wp2_with fail
  go_ret
  exact ⟨by rw [← HQ.out]; rfl, hx1⟩
end Go.Proofs.YtmedomglemllnaaGreatDoor
/- term.Right, source.Right and the references: what they compute, and that they tell the same; no program in sight. No statement of the seat is proved here. -/
namespace Go.Proofs.YtmedomglemllnaaGreatDoor
set_option linter.unusedSimpArgs false
set_option linter.unusedVariables false
open Go.RowKit

def nodeB (t : Tm) : Bool := decide (1 ≤ t.k) && decide (t.k ≤ 24) && !(outI t.n || outI t.a) && decide ((t.ks.length : Int) = (kindAt t.k.toNat).2.2.2.1 + (if t.k = 24 then t.a else 0)) && (decide (t.n = 0) || (kindAt t.k.toNat).1) &&
  (decide (t.a = 0) || (kindAt t.k.toNat).2.1) && (decide ((kindAt t.k.toNat).2.2.1 < 0) || decide ((t.ls.length : Int) = (kindAt t.k.toNat).2.2.1)) && decide ((t.ls.length : Int) ≤ (if t.k = 10 then 10 else 8))
theorem nodeB_mk (k n a : Int) (ls : List Lv) (ks : List Tm) : nodeB (.mk k n a ls ks) = (decide (1 ≤ k) && decide (k ≤ 24) && !(outI n || outI a) && decide ((ks.length : Int) = (kindAt k.toNat).2.2.2.1 + (if k = 24 then a else 0)) && (decide (n = 0) || (kindAt k.toNat).1) &&
  (decide (a = 0) || (kindAt k.toNat).2.1) && (decide ((kindAt k.toNat).2.2.1 < 0) || decide ((ls.length : Int) = (kindAt k.toNat).2.2.1)) && decide ((ls.length : Int) ≤ (if k = 10 then 10 else 8))) := rfl
def nodeQ (t : Tm) : Bool := nodeB t && !(t.ls.any fun x => !lvRight 9 x)
theorem nodeQ_mk (k n a : Int) (ls : List Lv) (ks : List Tm) : nodeQ (.mk k n a ls ks) = (nodeB (.mk k n a ls ks) && !(ls.any fun x => !lvRight 9 x)) := rfl
mutual
def cntT (d n : Int) : Tm → Bool × Int
  | .mk k m a ls ks => if d ≤ 400 ∧ n + 1 ≤ 20000 ∧ nodeQ (.mk k m a ls ks) = true then cntsT (d + 1) (n + 1) ks else (false, n + 1)
def cntsT (d n : Int) : List Tm → Bool × Int
  | [] => (true, n)
  | t :: ts => if (cntT d n t).1 = true then cntsT d (cntT d n t).2 ts else (false, (cntT d n t).2)
end
mutual
def nodesT : Tm → Nat
  | .mk _ _ _ _ ks => 1 + nodessT ks
def nodessT : List Tm → Nat
  | [] => 0
  | t :: ts => nodesT t + nodessT ts
end
mutual
def okT (p : Tm → Bool) (d : Int) : Tm → Bool
  | .mk k m a ls ks => decide (d ≤ 400) && (p (.mk k m a ls ks) && okTs p (d + 1) ks)
def okTs (p : Tm → Bool) (d : Int) : List Tm → Bool
  | [] => true
  | t :: ts => okT p d t && okTs p d ts
end
theorem cnts_eq (ts : List Tm) (ih : ∀ t ∈ ts, ∀ d n : Int, 0 ≤ n → (cntT d n t).1 = (okT nodeQ d t && decide (n + nodesT t ≤ 20000)) ∧ ((cntT d n t).1 = true → (cntT d n t).2 = n + nodesT t)) :
    ∀ d n : Int, 0 ≤ n → n ≤ 20000 → (cntsT d n ts).1 = (okTs nodeQ d ts && decide (n + nodessT ts ≤ 20000)) ∧ ((cntsT d n ts).1 = true → (cntsT d n ts).2 = n + nodessT ts) := by
  induction ts with
  | nil => intro d n h0 h1; simp [cntsT, okTs, nodessT, h1]
  | cons t ts iht =>
    intro d n h0 h1
    obtain ⟨g1, g2⟩ := ih t (by simp) d n h0
    rw [cntsT, okTs, nodessT]
    by_cases c : (cntT d n t).1 = true
    · rw [if_pos c, g2 c]
      rw [c] at g1
      have g1 := g1.symm
      simp only [Bool.and_eq_true, decide_eq_true_eq] at g1
      obtain ⟨i1, i2⟩ := iht (fun u hu => ih u (by simp [hu])) d (n + nodesT t) (by omega) g1.2
      have e : n + (nodesT t : Int) + (nodessT ts : Int) = n + ((nodesT t + nodessT ts : Nat) : Int) := by push_cast; omega
      rw [i1, g1.1, e]
      refine ⟨by rw [Bool.true_and], fun h => ?_⟩
      rw [i2 (by rw [i1, e]; exact h), e]
    · rw [if_neg c]
      refine ⟨?_, by simp⟩
      have c' : (cntT d n t).1 = false := by simpa using c
      rw [c'] at g1
      symm
      simp only [Bool.eq_false_iff, ne_eq, Bool.and_eq_true, decide_eq_true_eq] at g1 ⊢
      rintro ⟨⟨h2, h3⟩, h4⟩
      rw [h2] at g1
      simp at g1
      push_cast at h4
      omega
theorem cnt_eq : ∀ (t : Tm) (d n : Int), 0 ≤ n → (cntT d n t).1 = (okT nodeQ d t && decide (n + nodesT t ≤ 20000)) ∧ ((cntT d n t).1 = true → (cntT d n t).2 = n + nodesT t) := by
  intro t
  induction t using Tm.ind_ with
  | h k m a ls ks ih =>
    intro d n h0
    rw [cntT, okT, nodesT]
    by_cases c : d ≤ 400 ∧ n + 1 ≤ 20000 ∧ nodeQ (.mk k m a ls ks) = true
    · rw [if_pos c]
      obtain ⟨i1, i2⟩ := cnts_eq ks ih (d + 1) (n + 1) (by omega) c.2.1
      have e : n + 1 + (nodessT ks : Int) = n + ((1 + nodessT ks : Nat) : Int) := by push_cast; omega
      rw [i1, c.2.2, decide_eq_true c.1, e]
      refine ⟨by rw [Bool.true_and, Bool.true_and], fun h => ?_⟩
      rw [i2 (by rw [i1, e]; exact h), e]
    · rw [if_neg c]
      refine ⟨?_, by simp⟩
      symm
      simp only [Bool.eq_false_iff, ne_eq, Bool.and_eq_true, decide_eq_true_eq]
      rintro ⟨⟨h1, h2, _⟩, h4⟩
      push_cast at h4
      exact c ⟨h1, by omega, h2⟩
def rightQ (t : Tm) : Bool := (cntT 1 0 t).1
theorem rightQ_ok {t : Tm} (h : rightQ t = true) : okT nodeQ 1 t = true := by
  unfold rightQ at h
  rw [(cnt_eq t 1 0 (by omega)).1] at h
  simp only [Bool.and_eq_true] at h
  exact h.1
theorem nodeQ_num {t : Tm} (h : nodeQ t = true) : 0 ≤ t.n ∧ t.n ≤ 1048576 ∧ 1 ≤ t.k ∧ t.k ≤ 24 := by
  unfold nodeQ nodeB at h
  simp only [Bool.and_eq_true, decide_eq_true_eq, Bool.not_eq_true', Bool.or_eq_false_iff, outI, decide_eq_false_iff_not] at h
  obtain ⟨⟨⟨⟨⟨⟨⟨⟨h1, h2⟩, ⟨h3, h4⟩, h5⟩, _⟩, _⟩, _⟩, _⟩, _⟩, _⟩ := h
  exact ⟨by omega, by omega, h1, h2⟩
theorem okTs_mem {p : Tm → Bool} {d : Int} {ts : List Tm} (h : okTs p d ts = true) : ∀ t ∈ ts, okT p d t = true := by
  induction ts with
  | nil => intro t ht; cases ht
  | cons u ts ih =>
    rw [okTs, Bool.and_eq_true] at h
    intro t ht
    rcases List.mem_cons.1 ht with rfl | ht
    · exact h.1
    · exact ih h.2 t ht
theorem ok_nn : ∀ (t : Tm) (d : Int), okT nodeQ d t = true → TmNN t := by
  intro t
  induction t using Tm.ind_ with
  | h k m a ls ks ih =>
    intro d h
    rw [okT] at h
    simp only [Bool.and_eq_true] at h
    exact .mk (nodeQ_num h.2.1).1 fun u hu => ih u hu (d + 1) (okTs_mem h.2.2 u hu)
def clamp (sc : Int) : Int := if (if sc < 0 then 0 else sc) < 1099511627776 then (if sc < 0 then 0 else sc) else 1099511627776
def srcQ (ds : List Dc) (n sc sf : Int) (t : Tm) : Bool := rightQ t && allQ ds n sf (clamp sc) t
end Go.Proofs.YtmedomglemllnaaGreatDoor
