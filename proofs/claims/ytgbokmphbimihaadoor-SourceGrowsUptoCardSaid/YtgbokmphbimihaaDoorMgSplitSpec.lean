/- slices: IndexFunc, ContainsFunc over terms, a function that tells a truth: contracts. No statement of the seat is proved here. -/
import Derived.Test.YtgbokmphbimihaaDoorMgSelf
import Derived.Test.YtgbokmphbimihaaDoorFree
import Derived.Test.YtgbokmphbimihaaDoorMgSrc1
import Derived.Test.YtgbokmphbimihaaDoorMgSpine2
namespace Go.Proofs.YtgbokmphbimihaaDoor
set_option linter.unusedSimpArgs false
set_option linter.unusedVariables false
open Go.RowKit

set_option maxRecDepth 100000 in
set_option maxHeartbeats 1000000 in
theorem index_terms0 {w : World} {S : Nat → Prop} {xs : List Tm} {A : Option Addr} {n c F : Nat} {p : Tm → Bool} (h : RC w S (.l 26 5 (xs.map Tm.d)) [.slice A n c]) (hn : n = xs.length)
    (eg : ∀ args w, (callFunc F args).run Tryd.prog w = .ok (.enter F args) w) (hf : ∀ x ∈ xs, ∀ w' v, Ext no w w' → TV w' S x v → Calls Tryd.prog F #[v] w' (PV w' (.bool (p x)))) :
    Calls Tryd.prog 176 #[.slice A n c, .func (.func F) #[] #[]] w fun e w' => ∃ i : Int, e = .returned (.int .i64 i) ∧ ((0 ≤ i) = (xs.any p = true)) ∧ Ext no w w' := by
  subst hn
  have hM := h.lenM
  have HF := Lib.hid hf
  clear hf
  go_enter Tryd.func176, Tryd.ntmps176
  go_wp2_with fail
  go_loopw [5, 8] (fun u i wr => ∃ k : Nat, k ≤ xs.length ∧ i = .int .i64 k ∧ (xs.take k).any p = false ∧ Ext no w wr) (fun _ i _ => xs.length - (intOf i).toNat)
  case atStart => exact ⟨0, Nat.zero_le _, rfl, by simp, Ext.refl _ _⟩
  case round =>
    obtain ⟨k, hk, rfl, hall, hext⟩ := hrel
    have HA := Lib.hid hall
    clear hall
    by_cases hlt : k < xs.length
    · obtain ⟨b_, o, A1, ca1, K1, ck1, rfl, hb, hS, hd, p0, p1, p2, p3, p4⟩ := (h.ext0 hext).atTm hlt
      have HD := Lib.hid hd
      clear hd
      go_wp2_with fail
      refine (HF.out xs[k] (List.getElem_mem hlt) _ _ hext ⟨_, _, _, _, rfl, HD.out⟩).mono ?_
      rintro e w1 ⟨rfl, hx⟩
      cases hq : p xs[k]
      · have HQ := Lib.hid hq
        clear hq
        go_wp2_with fail
        go_roundw
        case rel => exact ⟨k + 1, by omega, by first | go_num | rfl | simp, any_take hlt HA.out HQ.out, hext.seq hx⟩
        case measure => simp [intOf]; omega
      · have HQ := Lib.hid hq
        clear hq
        go_wp2_with fail
        go_ret
        exact ⟨k, rfl, by simp [any_at hlt HQ.out], hext.seq hx⟩
    · go_wp2_with fail
      go_ret
      refine ⟨-1, rfl, ?_, hext⟩
      have h1 := HA.out
      rw [take_all hlt] at h1
      simp [h1]
set_option maxRecDepth 100000 in
set_option maxHeartbeats 1000000 in
theorem contains_terms0 {w : World} {S : Nat → Prop} {xs : List Tm} {A : Option Addr} {n c F : Nat} {p : Tm → Bool} (h : RC w S (.l 26 5 (xs.map Tm.d)) [.slice A n c]) (hn : n = xs.length)
    (eg : ∀ args w, (callFunc F args).run Tryd.prog w = .ok (.enter F args) w) (hf : ∀ x ∈ xs, ∀ w' v, Ext no w w' → TV w' S x v → Calls Tryd.prog F #[v] w' (PV w' (.bool (p x)))) :
    Calls Tryd.prog 131 #[.slice A n c, .func (.func F) #[] #[]] w (PV w (.bool (xs.any p))) := by
  subst hn
  have hidx := index_terms0 h rfl eg hf
  have HI := Lib.hid hidx
  clear hidx hf
  go_enter Tryd.func131, Tryd.ntmps131
  go_wp2_with fail
  refine HI.out.mono ?_
  rintro e w1 ⟨i, rfl, hi, hx1⟩
  cases hq : xs.any p
  · have g : decide (0 ≤ i) = false := by rw [hq] at hi; simpa using hi
    have HQ := Lib.hid hq
    clear hi hq
    go_wp2_with fail
    go_ret
    exact ⟨by rw [HQ.out]; rfl, hx1⟩
  · have g : decide (0 ≤ i) = true := by rw [hq] at hi; simpa using hi
    have HQ := Lib.hid hq
    clear hi hq
    go_wp2_with fail
    go_ret
    exact ⟨by rw [HQ.out]; rfl, hx1⟩
set_option maxRecDepth 100000 in
set_option maxHeartbeats 1000000 in
theorem index_terms1 {w : World} {S : Nat → Prop} {xs : List Tm} {A : Option Addr} {n c F : Nat} {bn : Nat} {p : Tm → Bool} (h : RC w S (.l 26 5 (xs.map Tm.d)) [.slice A n c]) (hn : n = xs.length)
    (eg : ∀ args w, (callFunc F args).run Tryd.prog w = .ok (.enter F args) w) (hf : ∀ x ∈ xs, ∀ w' v, Ext no w w' → TV w' S x v → Calls Tryd.prog F #[v, .pointer (some ⟨bn, 0, none⟩)] w' (PV w' (.bool (p x)))) :
    Calls Tryd.prog 176 #[.slice A n c, .func (.func F) #[] #[.pointer (some ⟨bn, 0, none⟩)]] w fun e w' => ∃ i : Int, e = .returned (.int .i64 i) ∧ ((0 ≤ i) = (xs.any p = true)) ∧ Ext no w w' := by
  subst hn
  have hM := h.lenM
  have HF := Lib.hid hf
  clear hf
  go_enter Tryd.func176, Tryd.ntmps176
  go_wp2_with fail
  go_loopw [5, 8] (fun u i wr => ∃ k : Nat, k ≤ xs.length ∧ i = .int .i64 k ∧ (xs.take k).any p = false ∧ Ext no w wr) (fun _ i _ => xs.length - (intOf i).toNat)
  case atStart => exact ⟨0, Nat.zero_le _, rfl, by simp, Ext.refl _ _⟩
  case round =>
    obtain ⟨k, hk, rfl, hall, hext⟩ := hrel
    have HA := Lib.hid hall
    clear hall
    by_cases hlt : k < xs.length
    · obtain ⟨b_, o, A1, ca1, K1, ck1, rfl, hb, hS, hd, p0, p1, p2, p3, p4⟩ := (h.ext0 hext).atTm hlt
      have HD := Lib.hid hd
      clear hd
      go_wp2_with fail
      refine (HF.out xs[k] (List.getElem_mem hlt) _ _ hext ⟨_, _, _, _, rfl, HD.out⟩).mono ?_
      rintro e w1 ⟨rfl, hx⟩
      cases hq : p xs[k]
      · have HQ := Lib.hid hq
        clear hq
        go_wp2_with fail
        go_roundw
        case rel => exact ⟨k + 1, by omega, by first | go_num | rfl | simp, any_take hlt HA.out HQ.out, hext.seq hx⟩
        case measure => simp [intOf]; omega
      · have HQ := Lib.hid hq
        clear hq
        go_wp2_with fail
        go_ret
        exact ⟨k, rfl, by simp [any_at hlt HQ.out], hext.seq hx⟩
    · go_wp2_with fail
      go_ret
      refine ⟨-1, rfl, ?_, hext⟩
      have h1 := HA.out
      rw [take_all hlt] at h1
      simp [h1]
set_option maxRecDepth 100000 in
set_option maxHeartbeats 1000000 in
theorem contains_terms1 {w : World} {S : Nat → Prop} {xs : List Tm} {A : Option Addr} {n c F : Nat} {bn : Nat} {p : Tm → Bool} (h : RC w S (.l 26 5 (xs.map Tm.d)) [.slice A n c]) (hn : n = xs.length)
    (eg : ∀ args w, (callFunc F args).run Tryd.prog w = .ok (.enter F args) w) (hf : ∀ x ∈ xs, ∀ w' v, Ext no w w' → TV w' S x v → Calls Tryd.prog F #[v, .pointer (some ⟨bn, 0, none⟩)] w' (PV w' (.bool (p x)))) :
    Calls Tryd.prog 131 #[.slice A n c, .func (.func F) #[] #[.pointer (some ⟨bn, 0, none⟩)]] w (PV w (.bool (xs.any p))) := by
  subst hn
  have hidx := index_terms1 h rfl eg hf
  have HI := Lib.hid hidx
  clear hidx hf
  go_enter Tryd.func131, Tryd.ntmps131
  go_wp2_with fail
  refine HI.out.mono ?_
  rintro e w1 ⟨i, rfl, hi, hx1⟩
  cases hq : xs.any p
  · have g : decide (0 ≤ i) = false := by rw [hq] at hi; simpa using hi
    have HQ := Lib.hid hq
    clear hi hq
    go_wp2_with fail
    go_ret
    exact ⟨by rw [HQ.out]; rfl, hx1⟩
  · have g : decide (0 ≤ i) = true := by rw [hq] at hi; simpa using hi
    have HQ := Lib.hid hq
    clear hi hq
    go_wp2_with fail
    go_ret
    exact ⟨by rw [HQ.out]; rfl, hx1⟩
theorem sizesT_mem {ts : List Tm} {t : Tm} (h : t ∈ ts) : sizeT t ≤ sizesT ts := by
  induction ts with
  | nil => cases h
  | cons u ts ih =>
    rw [sizesT]
    rcases List.mem_cons.1 h with rfl | h
    · omega
    · have := ih h; omega
/-- Are terms free of members? -/
theorem sfree_calls {w : World} {S : Nat → Prop} {xs : List Tm} {A : Option Addr} {n c : Nat} (h : RC w S (.l 26 5 (xs.map Tm.d)) [.slice A n c]) (hn : n = xs.length) (hb : sizesT xs ≤ 4000000000) :
    Calls Tryd.prog 142 #[.slice A n c] w (PV w (.bool (!xs.any selfT))) := by
  have HH := Lib.hid h
  subst hn
  clear h
  have HB := Lib.hid hb
  clear hb
  go_enter Tryd.func142, Tryd.ntmps142
  go_wp2_with fail
  have H := Hp.start no w
  refine callsH (by (repeat (first | with_reducible exact H | with_reducible exact H0_ | with_reducible apply Hp.alloc | with_reducible apply Hp.allocMap | with_reducible apply Hp.drew | with_reducible apply Hp.drewN | with_reducible apply Hp.set)); (try any_goals (repeat (first | with_reducible exact Upd.head | with_reducible apply Upd.tail)))) ?_
  clear H; intro w1 H; (try simp only [size_drew_, size_drewN_, World.size_alloc, World.size_setCell, List.set_cons_zero, List.set_cons_succ] at H)
  refine (contains_terms0 (p := selfT) (HH.out.ext0 H.ext) rfl (enters_of Tryd.func91 (by kernel_rfl) rfl) (fun x hx w' v _ hv => self_calls hv (Nat.le_trans (sizesT_mem hx) HB.out))).mono ?_
  rintro e w_ ⟨rfl, hx⟩
  replace H := H.call hx
  clear hx
  go_wp2_with fail
  go_ret
  exact ⟨rfl, H.ext⟩
end Go.Proofs.YtgbokmphbimihaaDoor
/- split: must, mentions: contracts. No statement of the seat is proved here. -/
namespace Go.Proofs.YtgbokmphbimihaaDoor
set_option linter.unusedSimpArgs false
set_option linter.unusedVariables false
open Go.RowKit

/-- What split's must throws. -/
def errP (c : Int) : List PanicEntry := [{ v := .iface 62 (.int .i64 c), recovered := false }]
/-- It comes back if so, throws else. -/
def PErr (w : World) (c : Int) (q : Bool) (e : Ending) (w' : World) : Prop := e = (if q then .returned (.tuple #[]) else .panicked (errP c)) ∧ Ext no w w'
theorem xmust_calls {w : World} {S : Nat → Prop} {bs : List Bool} {A : Option Addr} {n c : Nat} (k : Int) (h : RC w S (.l 4 1 (bs.map D.b)) [.slice A n c]) (hn : n = bs.length) :
    Calls Tryd.prog 140 #[.int .i64 k, .slice A n c] w (PErr w k (bs.all id)) := by
  subst hn
  go_enter Tryd.func140, Tryd.ntmps140
  go_wp2_with fail
  refine (contains_false h rfl).mono ?_
  rintro e w1 ⟨rfl, hx1⟩
  cases hq : bs.all id
  · have HQ := Lib.hid hq
    clear hq
    go_wp2_with fail
    exact ⟨rfl, by rw [HQ.out]; rfl, hx1⟩
  · have HQ := Lib.hid hq
    clear hq
    go_wp2_with fail
    go_end0
    exact ⟨by rw [HQ.out]; rfl, hx1⟩
theorem xmust1 {w0 w : World} {l l' : List Ch} {g e : Nat} {a : Bool} (k : Int) (H : Hp no w0 w l) (p : Pick l (.box g e [.bool a]) l') : Calls Tryd.prog 140 #[.int .i64 k, .slice (some ⟨g, 0, none⟩) 1 1] w (PErr w k a) := by
  have h := xmust_calls (bs := [a]) k (Blk.truths1 (H.blk p)) rfl
  simpa using h
theorem xmust5 {w0 w : World} {l l' : List Ch} {g e : Nat} {a b c d f : Bool} (k : Int) (H : Hp no w0 w l) (p : Pick l (.box g e [.bool a, .bool b, .bool c, .bool d, .bool f]) l') : Calls Tryd.prog 140 #[.int .i64 k, .slice (some ⟨g, 0, none⟩) 5 5] w (PErr w k (a && (b && (c && (d && f))))) := by
  have h := xmust_calls (bs := [a, b, c, d, f]) k (Blk.truths (bs := [a, b, c, d, f]) (H.blk p) rfl (by simp)) rfl
  simpa using h
theorem PErr.yes {w w' : World} {c : Int} {q : Bool} {e : Ending} (h : PErr w c q e w') (hq : q = true) : e = .returned (.tuple #[]) := by rw [h.1, hq]; rfl
theorem PErr.no {w w' : World} {c : Int} {q : Bool} {e : Ending} (h : PErr w c q e w') (hq : q = false) : e = .panicked (errP c) := by rw [h.1, hq]; rfl
/-- Does a row mention a variable, each below those ahead? -/
def anyIx (f : Nat) : List Tm → Bool
  | [] => false
  | t :: ts => freeT f ((f : Int) + 1) 0 t || anyIx (f + 1) ts
theorem anyIx_drop {ts : List Tm} {f j : Nat} (h : j < ts.length) : anyIx (f + j) (ts.drop j) = (freeT ((f : Int) + j) ((f : Int) + j + 1) 0 ts[j] || anyIx (f + (j + 1)) (ts.drop (j + 1))) := by
  rw [List.drop_eq_getElem_cons h, anyIx]
  push_cast
  rfl
/-- Does an argument mention an earlier one, so many further out? -/
def mentT (a : Ar) (f : Nat) : Bool := anyIx f a.tele || ((!a.rc && freeT f ((f : Int) + 1) 0 a.ty) || a.index.any fun t => freeT ((f : Int) + a.tele.length) ((f : Int) + a.tele.length + 1) 0 t)
theorem aggArg : AggT Tryd.prog 80 9 := ⟨_, Tryd.underlying80, rfl, by kernel_rfl⟩
theorem ment1_calls {S : Nat → Prop} {t : Tm} {w : World} {v : Value} {bn : Nat} {n : Int} (hT : Tab w) (h : TV w S t v) (hc : w.cell? ⟨bn, 0, none⟩ = some (.int .i64 n)) (h0 : 0 ≤ n) (h1 : n ≤ 4611686018427387904) :
    Calls Tryd.prog 185 #[v, .pointer (some ⟨bn, 0, none⟩)] w (PV w (.bool (freeT n (n + 1) 0 t))) := by
  obtain ⟨A0, ca, K0, ck, rfl, hrc⟩ := h
  have lc := cell_lt hc
  have HT := Lib.hid hT
  have HRC := Lib.hid hrc
  clear hT hrc
  go_enter Tryd.func185, Tryd.ntmps185
  have H := Hp.start no w
  go_wp2_with fail
  refine callsH (by (repeat (first | with_reducible exact H | with_reducible exact H0_ | with_reducible apply Hp.alloc | with_reducible apply Hp.allocMap | with_reducible apply Hp.drew | with_reducible apply Hp.drewN | with_reducible apply Hp.set)); (try any_goals (repeat (first | with_reducible exact Upd.head | with_reducible apply Upd.tail)))) ?_
  clear H; intro w1 H; (try simp only [size_drew_, size_drewN_, World.size_alloc, World.size_setCell, List.set_cons_zero, List.set_cons_succ] at H)
  refine (free_calls (HT.out.ext H.ext) ⟨_, _, _, _, rfl, HRC.out.ext0 H.ext⟩ n (n + 1)).mono ?_
  rintro e w_ ⟨rfl, hx⟩
  replace H := H.call hx
  clear hx
  go_wp2_with fail
  go_ret
  exact ⟨rfl, H.ext⟩
set_option maxRecDepth 100000 in
set_option maxHeartbeats 4000000 in
theorem mentions_calls {S : Nat → Prop} {a : Ar} {w : World} {cs : List Value} {f : Nat} (hT : Tab w) (h : RC w S a.d cs) (hf : f ≤ 1000000) (hl : a.tele.length ≤ 1000000000) :
    Calls Tryd.prog 145 #[.agg cs.toArray, .int .i64 (f : Int)] w (PV w (.bool (mentT a f))) := by
  obtain ⟨A1, c1, K1, k1, A2, c2, A3, c3, rfl, hty, hte, hm, hix⟩ := RC.ar.1 h
  have HT := Lib.hid hT
  have HTY := Lib.hid hty
  have HIX := Lib.hid hix
  have hM := hte.lenM
  have hM2 := hix.lenM
  obtain ⟨q, hq⟩ : ∃ q, q = mentT a f := ⟨_, rfl⟩
  rw [← hq]
  have HQ := Lib.hid hq
  clear hT h hty hix hm hq
  go_enter Tryd.func145, Tryd.ntmps145
  have H := Hp.start no w
  go_wp2_with fail
  go_loopw [11] (fun i wr => ∃ j : Nat, j ≤ a.tele.length ∧ i = .int .i64 j ∧ Hid (anyIx (f + j) (a.tele.drop j) = anyIx f a.tele) ∧ Hp no w wr [.box w.heap.size 80 [.bool a.rc, .int .i64 a.ty.k, .int .i64 a.ty.n, .int .i64 a.ty.a, .slice A1 a.ty.ls.length c1, .slice K1 a.ty.ks.length k1, .slice A2 a.tele.length c2, .int .i64 a.member, .slice A3 a.index.length c3]]) (fun i _ => a.tele.length - (intOf i).toNat)
  case atStart => exact ⟨0, Nat.zero_le _, rfl, Lib.hid (by simp), by (repeat (first | with_reducible exact H | with_reducible exact H0_ | with_reducible apply Hp.alloc | with_reducible apply Hp.allocMap | with_reducible apply Hp.drew | with_reducible apply Hp.drewN | with_reducible apply Hp.set)); (try any_goals (repeat (first | with_reducible exact Upd.head | with_reducible apply Upd.tail)))⟩
  case round =>
    clear H
    obtain ⟨j, hj, rfl, HS, H⟩ := hrel
    by_cases hlt : j < a.tele.length
    · obtain ⟨b_, o, B1, ca1, L1, ck1, rfl, hb, hS, hd, p0, p1, p2, p3, p4⟩ := hte.atTm hlt
      have HD := Lib.hid hd
      have HE := Lib.hid (anyIx_drop (f := f) hlt)
      clear hd
      have hr_ := H.rules; simp only [Rules, and_true] at hr_; have hd_ := H.dif; simp only [Dif, Neq, and_true] at hd_; obtain ⟨ho_, hz_⟩ := H.old0
      go_wp2_with ((with_reducible refine atStore (t := 26) ?_); go_must (refine wpList_storeH (t := 26) rfl rfl (by go_simp <;> first | rfl | exact ⟨rfl, rfl⟩) (by go_simp <;> first | rfl | exact ⟨rfl, rfl⟩) (by exact Hp.norm (by (repeat (first | with_reducible exact H | with_reducible exact H0_ | with_reducible apply Hp.alloc | with_reducible apply Hp.allocMap | with_reducible apply Hp.drew | with_reducible apply Hp.drewN | with_reducible apply Hp.set)); (try any_goals (repeat (first | with_reducible exact Upd.head | with_reducible apply Upd.tail)))) (by ((try simp only [size_drew_, size_drewN_, World.size_alloc, World.size_setCell, List.set_cons_zero, List.set_cons_succ, List.nil_append, List.cons_append]) <;> rfl))) (by (repeat (first | with_reducible exact Upd.head | with_reducible apply Upd.tail))) (by exact aggTerm) (by rfl) (by simp [Value.oneCell']) ?_; clear H; intro w7 H; (try simp only [size_drew_, size_drewN_, World.size_alloc, World.size_setCell, List.set_cons_zero, List.set_cons_succ] at H); (try clear hr_ hd_ ho_ hz_); have hr_ := H.rules; simp only [Rules, and_true] at hr_; have hd_ := H.dif; simp only [Dif, Neq, and_true] at hd_; obtain ⟨ho_, hz_⟩ := H.old0))
      (try clear hr_ hd_ ho_ hz_)
      refine callsH (by (repeat (first | with_reducible exact H | with_reducible exact H0_ | with_reducible apply Hp.alloc | with_reducible apply Hp.allocMap | with_reducible apply Hp.drew | with_reducible apply Hp.drewN | with_reducible apply Hp.set)); (try any_goals (repeat (first | with_reducible exact Upd.head | with_reducible apply Upd.tail)))) ?_
      clear H; intro w9 H; (try simp only [size_drew_, size_drewN_, World.size_alloc, World.size_setCell, List.set_cons_zero, List.set_cons_succ] at H)
      obtain ⟨z, hz⟩ : ∃ z, z = freeT ((f : Int) + j) ((f : Int) + j + 1) 0 a.tele[j] := ⟨_, rfl⟩
      have hcall := free_calls (HT.out.ext H.ext) ⟨_, _, _, _, rfl, HD.out.ext0 H.ext⟩ ((f : Int) + j) ((f : Int) + j + 1)
      rw [← hz] at hcall
      have HZ := Lib.hid hz
      clear hz
      refine (hcall).mono ?_
      rintro e w_ ⟨rfl, hx⟩
      replace H := H.call hx
      clear hx
      clear hcall
      cases z
      · go_wp2_with fail
        go_roundw
        case rel => exact ⟨j + 1, by omega, by first | go_num | rfl | simp, Lib.hid (by rw [← HS.out, HE.out, ← HZ.out]; rfl), (H.arr (by (repeat (first | with_reducible exact Arr.nil | refine Arr.cons (by (repeat (first | with_reducible exact Pick.head | with_reducible apply Pick.tail))) ?_)) <;> exact Arr.of_subl (by (repeat (first | with_reducible exact Subl.refl _ | with_reducible apply Subl.drop)))))⟩
        case measure => simp [intOf]; omega
      · go_wp2_with fail
        go_ret
        exact ⟨by rw [HQ.out, mentT, ← HS.out, HE.out, ← HZ.out]; rfl, H.ext⟩
    · have HN : Hid (anyIx f a.tele = false) := by
        unfold Hid
        rw [← HS.out, List.drop_eq_nil_of_le (by omega), anyIx]
      have hQ2 : q = ((!a.rc && freeT f ((f : Int) + 1) 0 a.ty) || a.index.any fun t => freeT ((f : Int) + a.tele.length) ((f : Int) + a.tele.length + 1) 0 t) := by rw [HQ.out, mentT, HN.out, Bool.false_or]
      have HQ2 := Lib.hid hQ2
      clear hQ2
      cases hrc : a.rc
      · have HR := Lib.hid hrc
        rw [hrc] at H
        clear hrc
        have hr_ := H.rules; simp only [Rules, and_true] at hr_; have hd_ := H.dif; simp only [Dif, Neq, and_true] at hd_; obtain ⟨ho_, hz_⟩ := H.old0
        go_wp2_with fail
        (try clear hr_ hd_ ho_ hz_)
        refine callsH (by (repeat (first | with_reducible exact H | with_reducible exact H0_ | with_reducible apply Hp.alloc | with_reducible apply Hp.allocMap | with_reducible apply Hp.drew | with_reducible apply Hp.drewN | with_reducible apply Hp.set)); (try any_goals (repeat (first | with_reducible exact Upd.head | with_reducible apply Upd.tail)))) ?_
        clear H; intro w9 H; (try simp only [size_drew_, size_drewN_, World.size_alloc, World.size_setCell, List.set_cons_zero, List.set_cons_succ] at H)
        obtain ⟨z, hz⟩ : ∃ z, z = freeT (f : Int) ((f : Int) + 1) 0 a.ty := ⟨_, rfl⟩
        have hcall := free_calls (HT.out.ext H.ext) ⟨_, _, _, _, rfl, HTY.out.ext0 H.ext⟩ (f : Int) ((f : Int) + 1)
        rw [← hz] at hcall
        have HZ := Lib.hid hz
        clear hz
        refine (hcall).mono ?_
        rintro e w_ ⟨rfl, hx⟩
        replace H := H.call hx
        clear hx
        clear hcall
        cases z
        · have hr_ := H.rules; simp only [Rules, and_true] at hr_; have hd_ := H.dif; simp only [Dif, Neq, and_true] at hd_; obtain ⟨ho_, hz_⟩ := H.old0
          go_wp2_with fail
          (try clear hr_ hd_ ho_ hz_)
          obtain ⟨z2, hz2⟩ : ∃ z2, z2 = a.index.any fun t => freeT ((f : Int) + a.tele.length) ((f : Int) + a.tele.length + 1) 0 t := ⟨_, rfl⟩
          have hcall := contains_terms1 (bn := wr.heap.size) (p := fun t => freeT ((f : Int) + a.tele.length) ((f : Int) + a.tele.length + 1) 0 t) (HIX.out.ext0 H.ext) rfl (enters_of Tryd.func185 (by kernel_rfl) rfl) (fun x hx w' v hx' hv => ment1_calls (HT.out.ext (H.ext.seq hx')) hv (hx'.keep ((H.blk (g := wr.heap.size) (cs := [.int .i64 ((f : Int) + a.tele.length)]) (by (repeat (first | with_reducible exact Pick.head | with_reducible apply Pick.tail)))).cells 0)) (by omega) (by omega))
          rw [← hz2] at hcall
          have HZ2 := Lib.hid hz2
          clear hz2
          refine (hcall).mono ?_
          rintro e w_ ⟨rfl, hx⟩
          replace H := H.call hx
          clear hx
          clear hcall
          go_wp2_with fail
          go_ret
          exact ⟨by rw [HQ2.out, HR.out, ← HZ.out, ← HZ2.out]; rfl, H.ext⟩
        · have hr_ := H.rules; simp only [Rules, and_true] at hr_; have hd_ := H.dif; simp only [Dif, Neq, and_true] at hd_; obtain ⟨ho_, hz_⟩ := H.old0
          go_wp2_with fail
          go_ret
          exact ⟨by rw [HQ2.out, HR.out, ← HZ.out]; rfl, H.ext⟩
      · have HR := Lib.hid hrc
        rw [hrc] at H
        clear hrc
        have hr_ := H.rules; simp only [Rules, and_true] at hr_; have hd_ := H.dif; simp only [Dif, Neq, and_true] at hd_; obtain ⟨ho_, hz_⟩ := H.old0
        go_wp2_with fail
        (try clear hr_ hd_ ho_ hz_)
        refine callsH (by (repeat (first | with_reducible exact H | with_reducible exact H0_ | with_reducible apply Hp.alloc | with_reducible apply Hp.allocMap | with_reducible apply Hp.drew | with_reducible apply Hp.drewN | with_reducible apply Hp.set)); (try any_goals (repeat (first | with_reducible exact Upd.head | with_reducible apply Upd.tail)))) ?_
        clear H; intro w9 H; (try simp only [size_drew_, size_drewN_, World.size_alloc, World.size_setCell, List.set_cons_zero, List.set_cons_succ] at H)
        obtain ⟨z2, hz2⟩ : ∃ z2, z2 = a.index.any fun t => freeT ((f : Int) + a.tele.length) ((f : Int) + a.tele.length + 1) 0 t := ⟨_, rfl⟩
        have hcall := contains_terms1 (bn := wr.heap.size) (p := fun t => freeT ((f : Int) + a.tele.length) ((f : Int) + a.tele.length + 1) 0 t) (HIX.out.ext0 H.ext) rfl (enters_of Tryd.func185 (by kernel_rfl) rfl) (fun x hx w' v hx' hv => ment1_calls (HT.out.ext (H.ext.seq hx')) hv (hx'.keep ((H.blk (g := wr.heap.size) (cs := [.int .i64 ((f : Int) + a.tele.length)]) (by (repeat (first | with_reducible exact Pick.head | with_reducible apply Pick.tail)))).cells 0)) (by omega) (by omega))
        rw [← hz2] at hcall
        have HZ2 := Lib.hid hz2
        clear hz2
        refine (hcall).mono ?_
        rintro e w_ ⟨rfl, hx⟩
        replace H := H.call hx
        clear hx
        clear hcall
        go_wp2_with fail
        go_ret
        exact ⟨by rw [HQ2.out, HR.out, ← HZ2.out]; rfl, H.ext⟩
end Go.Proofs.YtgbokmphbimihaaDoor
/- split: what it computes; sizes; no program in sight. No statement of the seat is proved here. -/
namespace Go.Proofs.YtgbokmphbimihaaDoor
set_option linter.unusedSimpArgs false
set_option linter.unusedVariables false
open Go.RowKit

abbrev zT : Tm := .mk 0 0 0 [] []
/-- What Open takes off, all of it. -/
def openAll (t : Tm) : List Tm × Tm := (openT (countT t) t).getD ([], zT)
/-- What an argument is read as; or the error. -/
def argQ (ms : List Mb) (t : Tm) : Except Int Ar :=
  if selfT t = false then .ok ⟨false, t, [], 0, []⟩
  else if (countT t : Int) ≤ 6 then
    (if ((!(openAll t).1.any selfT) && (decide ((spineT (openAll t).2).1.k = 11) && (decide (0 ≤ (spineT (openAll t).2).1.a) && (decide ((spineT (openAll t).2).1.a < ms.length) && (!(spineT (openAll t).2).2.any selfT))))) = true then
      (if decide ((spineT (openAll t).2).2.length = ((ms.getD (spineT (openAll t).2).1.a.toNat ⟨[]⟩).index).length) = true then .ok ⟨true, zT, (openAll t).1, (spineT (openAll t).2).1.a, (spineT (openAll t).2).2⟩ else .error 17)
    else .error 16)
  else .error 3
theorem openT_count : ∀ t : Tm, ∃ p, openT (countT t) t = some p ∧ sizesT p.1 + sizeT p.2 ≤ sizeT t ∧ p.1.length = countT t
  | .mk k n a ls [x, y] => by
    rw [countT]
    by_cases h : k = 4
    · rw [if_pos h, openT, if_pos h]
      obtain ⟨p, h1, h2, h3⟩ := openT_count y
      rw [h1]
      refine ⟨_, rfl, ?_, ?_⟩
      · simp only [sizesT, sizeT]; omega
      · simpa using h3
    · rw [if_neg h]
      exact ⟨([], _), rfl, by simp [sizesT], rfl⟩
  | .mk k n a ls [] => ⟨([], _), rfl, by simp [sizesT], rfl⟩
  | .mk k n a ls [_] => ⟨([], _), rfl, by simp [sizesT], rfl⟩
  | .mk k n a ls (_ :: _ :: _ :: _) => ⟨([], _), rfl, by simp [sizesT], rfl⟩
theorem openAll_eq (t : Tm) : openT (countT t) t = some (openAll t) := by
  obtain ⟨p, h, _⟩ := openT_count t
  unfold openAll
  rw [h]; rfl
theorem openAll_size (t : Tm) : sizesT (openAll t).1 + sizeT (openAll t).2 ≤ sizeT t ∧ (openAll t).1.length = countT t := by
  obtain ⟨p, h, h2, h3⟩ := openT_count t
  have := openAll_eq t
  rw [h] at this
  obtain rfl := Option.some.inj this
  exact ⟨h2, h3⟩
theorem spineT_size : ∀ t : Tm, sizeT (spineT t).1 + sizesT (spineT t).2 ≤ sizeT t
  | .mk k n a ls [f, x] => by
    rw [spineT]
    by_cases h : k = 6
    · rw [if_pos h]
      have := spineT_size f
      simp only [sizesT_append, sizesT, sizeT]
      omega
    · rw [if_neg h]; simp [sizesT]
  | .mk k n a ls [] => by simp [spineT, sizesT]
  | .mk k n a ls [_] => by simp [spineT, sizesT]
  | .mk k n a ls (_ :: _ :: _ :: _) => by simp [spineT, sizesT]
theorem length_sizes (l : List Tm) : l.length ≤ sizesT l := by
  induction l with
  | nil => simp
  | cons t l ih => rw [sizesT, sizeT_eq, List.length_cons]; omega
theorem countT_size (t : Tm) : countT t ≤ sizeT t := by
  have := openAll_size t
  have := length_sizes (openAll t).1
  omega
end Go.Proofs.YtgbokmphbimihaaDoor
