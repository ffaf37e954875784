/- split: must, mentions: contracts. No statement of the seat is proved here. -/
import Derived.Test.YtmedomglemllnaaDoorMgSplit0
import Derived.Test.YtmedomglemllnaaDoorMgSpine2
import Derived.Test.YtmedomglemllnaaDoorFree
namespace Go.Proofs.YtmedomglemllnaaDoor
set_option linter.unusedSimpArgs false
set_option linter.unusedVariables false
open Go.RowKit

/-- What split's must throws. -/
def errP (c : Int) : List PanicEntry := [{ v := .iface 62 (.int .i64 c), recovered := false }]
/-- It comes back if so, throws else. -/
def PErr (w : World) (c : Int) (q : Bool) (e : Ending) (w' : World) : Prop := e = (if q then .returned (.tuple #[]) else .panicked (errP c)) ∧ Ext no w w'
theorem xmust_calls {w : World} {S : Nat → Prop} {bs : List Bool} {A : Option Addr} {n c : Nat} (k : Int) (h : RC w S (.l 4 1 (bs.map D.b)) [.slice A n c]) (hn : n = bs.length) :
    Calls Tryd.prog 140 #[.int .i64 k, .slice A n c] w (PErr w k (bs.all id)) := by
  subst hn
  go_enter Tryd.func140, Tryd.ntmps140
  go_wp2_with fail
  refine (contains_false h rfl).mono ?_
  rintro e w1 ⟨rfl, hx1⟩
  cases hq : bs.all id
  · have HQ := Lib.hid hq
    clear hq
    go_wp2_with fail
    exact ⟨rfl, by rw [HQ.out]; rfl, hx1⟩
  · have HQ := Lib.hid hq
    clear hq
    go_wp2_with fail
    go_end0
    exact ⟨by rw [HQ.out]; rfl, hx1⟩
theorem xmust1 {w0 w : World} {l l' : List Ch} {g e : Nat} {a : Bool} (k : Int) (H : Hp no w0 w l) (p : Pick l (.box g e [.bool a]) l') : Calls Tryd.prog 140 #[.int .i64 k, .slice (some ⟨g, 0, none⟩) 1 1] w (PErr w k a) := by
  have h := xmust_calls (bs := [a]) k (Blk.truths1 (H.blk p)) rfl
  simpa using h
theorem xmust5 {w0 w : World} {l l' : List Ch} {g e : Nat} {a b c d f : Bool} (k : Int) (H : Hp no w0 w l) (p : Pick l (.box g e [.bool a, .bool b, .bool c, .bool d, .bool f]) l') : Calls Tryd.prog 140 #[.int .i64 k, .slice (some ⟨g, 0, none⟩) 5 5] w (PErr w k (a && (b && (c && (d && f))))) := by
  have h := xmust_calls (bs := [a, b, c, d, f]) k (Blk.truths (bs := [a, b, c, d, f]) (H.blk p) rfl (by simp)) rfl
  simpa using h
theorem PErr.yes {w w' : World} {c : Int} {q : Bool} {e : Ending} (h : PErr w c q e w') (hq : q = true) : e = .returned (.tuple #[]) := by rw [h.1, hq]; rfl
theorem PErr.no {w w' : World} {c : Int} {q : Bool} {e : Ending} (h : PErr w c q e w') (hq : q = false) : e = .panicked (errP c) := by rw [h.1, hq]; rfl
/-- Does a row mention a variable, each below those ahead? -/
def anyIx (f : Nat) : List Tm → Bool
  | [] => false
  | t :: ts => freeT f ((f : Int) + 1) 0 t || anyIx (f + 1) ts
theorem anyIx_drop {ts : List Tm} {f j : Nat} (h : j < ts.length) : anyIx (f + j) (ts.drop j) = (freeT ((f : Int) + j) ((f : Int) + j + 1) 0 ts[j] || anyIx (f + (j + 1)) (ts.drop (j + 1))) := by
  rw [List.drop_eq_getElem_cons h, anyIx]
  push_cast
  rfl
/-- Does an argument mention an earlier one, so many further out? -/
def mentT (a : Ar) (f : Nat) : Bool := anyIx f a.tele || ((!a.rc && freeT f ((f : Int) + 1) 0 a.ty) || a.index.any fun t => freeT ((f : Int) + a.tele.length) ((f : Int) + a.tele.length + 1) 0 t)
theorem aggArg : AggT Tryd.prog 80 9 := ⟨_, Tryd.underlying80, rfl, by kernel_rfl⟩
theorem ment1_calls {S : Nat → Prop} {t : Tm} {w : World} {v : Value} {bn : Nat} {n : Int} (hT : Tab w) (h : TV w S t v) (hc : w.cell? ⟨bn, 0, none⟩ = some (.int .i64 n)) (h0 : 0 ≤ n) (h1 : n ≤ 4611686018427387904) :
    Calls Tryd.prog 185 #[v, .pointer (some ⟨bn, 0, none⟩)] w (PV w (.bool (freeT n (n + 1) 0 t))) := by
  obtain ⟨A0, ca, K0, ck, rfl, hrc⟩ := h
  have lc := cell_lt hc
  have HT := Lib.hid hT
  have HRC := Lib.hid hrc
  clear hT hrc
  go_enter Tryd.func185, Tryd.ntmps185
  have H := Hp.start no w
  go_wp2_with fail
  refine callsH (by (repeat (first | with_reducible exact H | with_reducible exact H0_ | with_reducible apply Hp.alloc | with_reducible apply Hp.allocMap | with_reducible apply Hp.drew | with_reducible apply Hp.drewN | with_reducible apply Hp.set)); (try any_goals (repeat (first | with_reducible exact Upd.head | with_reducible apply Upd.tail)))) ?_
  clear H; intro w1 H; (try simp only [size_drew_, size_drewN_, World.size_alloc, World.size_setCell, List.set_cons_zero, List.set_cons_succ] at H)
  refine (free_calls (HT.out.ext H.ext) ⟨_, _, _, _, rfl, HRC.out.ext0 H.ext⟩ n (n + 1)).mono ?_
  rintro e w_ ⟨rfl, hx⟩
  replace H := H.call hx
  clear hx
  go_wp2_with fail
  go_ret
  exact ⟨rfl, H.ext⟩
set_option maxRecDepth 100000 in
set_option maxHeartbeats 4000000 in
theorem mentions_calls {S : Nat → Prop} {a : Ar} {w : World} {cs : List Value} {f : Nat} (hT : Tab w) (h : RC w S a.d cs) (hf : f ≤ 1000000) (hl : a.tele.length ≤ 1000000000) :
    Calls Tryd.prog 145 #[.agg cs.toArray, .int .i64 (f : Int)] w (PV w (.bool (mentT a f))) := by
  obtain ⟨A1, c1, K1, k1, A2, c2, A3, c3, rfl, hty, hte, hm, hix⟩ := RC.ar.1 h
  have HT := Lib.hid hT
  have HTY := Lib.hid hty
  have HIX := Lib.hid hix
  have hM := hte.lenM
  have hM2 := hix.lenM
  obtain ⟨q, hq⟩ : ∃ q, q = mentT a f := ⟨_, rfl⟩
  rw [← hq]
  have HQ := Lib.hid hq
  clear hT h hty hix hm hq
  go_enter Tryd.func145, Tryd.ntmps145
  have H := Hp.start no w
  go_wp2_with fail
  go_loopw [11] (fun i wr => ∃ j : Nat, j ≤ a.tele.length ∧ i = .int .i64 j ∧ Hid (anyIx (f + j) (a.tele.drop j) = anyIx f a.tele) ∧ Hp no w wr [.box w.heap.size 80 [.bool a.rc, .int .i64 a.ty.k, .int .i64 a.ty.n, .int .i64 a.ty.a, .slice A1 a.ty.ls.length c1, .slice K1 a.ty.ks.length k1, .slice A2 a.tele.length c2, .int .i64 a.member, .slice A3 a.index.length c3]]) (fun i _ => a.tele.length - (intOf i).toNat)
  case atStart => exact ⟨0, Nat.zero_le _, rfl, Lib.hid (by simp), by (repeat (first | with_reducible exact H | with_reducible exact H0_ | with_reducible apply Hp.alloc | with_reducible apply Hp.allocMap | with_reducible apply Hp.drew | with_reducible apply Hp.drewN | with_reducible apply Hp.set)); (try any_goals (repeat (first | with_reducible exact Upd.head | with_reducible apply Upd.tail)))⟩
  case round =>
    clear H
    obtain ⟨j, hj, rfl, HS, H⟩ := hrel
    by_cases hlt : j < a.tele.length
    · obtain ⟨b_, o, B1, ca1, L1, ck1, rfl, hb, hS, hd, p0, p1, p2, p3, p4⟩ := hte.atTm hlt
      have HD := Lib.hid hd
      have HE := Lib.hid (anyIx_drop (f := f) hlt)
      clear hd
      have hr_ := H.rules; simp only [Rules, and_true] at hr_; have hd_ := H.dif; simp only [Dif, Neq, and_true] at hd_; obtain ⟨ho_, hz_⟩ := H.old0
      go_wp2_with ((with_reducible refine atStore (t := 26) ?_); go_must (refine wpList_storeH (t := 26) rfl rfl (by go_simp <;> first | rfl | exact ⟨rfl, rfl⟩) (by go_simp <;> first | rfl | exact ⟨rfl, rfl⟩) (by exact Hp.norm (by (repeat (first | with_reducible exact H | with_reducible exact H0_ | with_reducible apply Hp.alloc | with_reducible apply Hp.allocMap | with_reducible apply Hp.drew | with_reducible apply Hp.drewN | with_reducible apply Hp.set)); (try any_goals (repeat (first | with_reducible exact Upd.head | with_reducible apply Upd.tail)))) (by ((try simp only [size_drew_, size_drewN_, World.size_alloc, World.size_setCell, List.set_cons_zero, List.set_cons_succ, List.nil_append, List.cons_append]) <;> rfl))) (by (repeat (first | with_reducible exact Upd.head | with_reducible apply Upd.tail))) (by exact aggTerm) (by rfl) (by simp [Value.oneCell']) ?_; clear H; intro w7 H; (try simp only [size_drew_, size_drewN_, World.size_alloc, World.size_setCell, List.set_cons_zero, List.set_cons_succ] at H); (try clear hr_ hd_ ho_ hz_); have hr_ := H.rules; simp only [Rules, and_true] at hr_; have hd_ := H.dif; simp only [Dif, Neq, and_true] at hd_; obtain ⟨ho_, hz_⟩ := H.old0))
      (try clear hr_ hd_ ho_ hz_)
      refine callsH (by (repeat (first | with_reducible exact H | with_reducible exact H0_ | with_reducible apply Hp.alloc | with_reducible apply Hp.allocMap | with_reducible apply Hp.drew | with_reducible apply Hp.drewN | with_reducible apply Hp.set)); (try any_goals (repeat (first | with_reducible exact Upd.head | with_reducible apply Upd.tail)))) ?_
      clear H; intro w9 H; (try simp only [size_drew_, size_drewN_, World.size_alloc, World.size_setCell, List.set_cons_zero, List.set_cons_succ] at H)
      obtain ⟨z, hz⟩ : ∃ z, z = freeT ((f : Int) + j) ((f : Int) + j + 1) 0 a.tele[j] := ⟨_, rfl⟩
      have hcall := free_calls (HT.out.ext H.ext) ⟨_, _, _, _, rfl, HD.out.ext0 H.ext⟩ ((f : Int) + j) ((f : Int) + j + 1)
      rw [← hz] at hcall
      have HZ := Lib.hid hz
      clear hz
      refine (hcall).mono ?_
      rintro e w_ ⟨rfl, hx⟩
      replace H := H.call hx
      clear hx
      clear hcall
      cases z
      · go_wp2_with fail
        go_roundw
        case rel => exact ⟨j + 1, by omega, by first | go_num | rfl | simp, Lib.hid (by rw [← HS.out, HE.out, ← HZ.out]; rfl), (H.arr (by (repeat (first | with_reducible exact Arr.nil | refine Arr.cons (by (repeat (first | with_reducible exact Pick.head | with_reducible apply Pick.tail))) ?_)) <;> exact Arr.of_subl (by (repeat (first | with_reducible exact Subl.refl _ | with_reducible apply Subl.drop)))))⟩
        case measure => simp [intOf]; omega
      · go_wp2_with fail
        go_ret
        exact ⟨by rw [HQ.out, mentT, ← HS.out, HE.out, ← HZ.out]; rfl, H.ext⟩
    · have HN : Hid (anyIx f a.tele = false) := by
        unfold Hid
        rw [← HS.out, List.drop_eq_nil_of_le (by omega), anyIx]
      have hQ2 : q = ((!a.rc && freeT f ((f : Int) + 1) 0 a.ty) || a.index.any fun t => freeT ((f : Int) + a.tele.length) ((f : Int) + a.tele.length + 1) 0 t) := by rw [HQ.out, mentT, HN.out, Bool.false_or]
      have HQ2 := Lib.hid hQ2
      clear hQ2
      cases hrc : a.rc
      · have HR := Lib.hid hrc
        rw [hrc] at H
        clear hrc
        have hr_ := H.rules; simp only [Rules, and_true] at hr_; have hd_ := H.dif; simp only [Dif, Neq, and_true] at hd_; obtain ⟨ho_, hz_⟩ := H.old0
        go_wp2_with fail
        (try clear hr_ hd_ ho_ hz_)
        refine callsH (by (repeat (first | with_reducible exact H | with_reducible exact H0_ | with_reducible apply Hp.alloc | with_reducible apply Hp.allocMap | with_reducible apply Hp.drew | with_reducible apply Hp.drewN | with_reducible apply Hp.set)); (try any_goals (repeat (first | with_reducible exact Upd.head | with_reducible apply Upd.tail)))) ?_
        clear H; intro w9 H; (try simp only [size_drew_, size_drewN_, World.size_alloc, World.size_setCell, List.set_cons_zero, List.set_cons_succ] at H)
        obtain ⟨z, hz⟩ : ∃ z, z = freeT (f : Int) ((f : Int) + 1) 0 a.ty := ⟨_, rfl⟩
        have hcall := free_calls (HT.out.ext H.ext) ⟨_, _, _, _, rfl, HTY.out.ext0 H.ext⟩ (f : Int) ((f : Int) + 1)
        rw [← hz] at hcall
        have HZ := Lib.hid hz
        clear hz
        refine (hcall).mono ?_
        rintro e w_ ⟨rfl, hx⟩
        replace H := H.call hx
        clear hx
        clear hcall
        cases z
        · have hr_ := H.rules; simp only [Rules, and_true] at hr_; have hd_ := H.dif; simp only [Dif, Neq, and_true] at hd_; obtain ⟨ho_, hz_⟩ := H.old0
          go_wp2_with fail
          (try clear hr_ hd_ ho_ hz_)
          obtain ⟨z2, hz2⟩ : ∃ z2, z2 = a.index.any fun t => freeT ((f : Int) + a.tele.length) ((f : Int) + a.tele.length + 1) 0 t := ⟨_, rfl⟩
          have hcall := contains_terms1 (bn := wr.heap.size) (p := fun t => freeT ((f : Int) + a.tele.length) ((f : Int) + a.tele.length + 1) 0 t) (HIX.out.ext0 H.ext) rfl (enters_of Tryd.func185 (by kernel_rfl) rfl) (fun x hx w' v hx' hv => ment1_calls (HT.out.ext (H.ext.seq hx')) hv (hx'.keep ((H.blk (g := wr.heap.size) (cs := [.int .i64 ((f : Int) + a.tele.length)]) (by (repeat (first | with_reducible exact Pick.head | with_reducible apply Pick.tail)))).cells 0)) (by omega) (by omega))
          rw [← hz2] at hcall
          have HZ2 := Lib.hid hz2
          clear hz2
          refine (hcall).mono ?_
          rintro e w_ ⟨rfl, hx⟩
          replace H := H.call hx
          clear hx
          clear hcall
          go_wp2_with fail
          go_ret
          exact ⟨by rw [HQ2.out, HR.out, ← HZ.out, ← HZ2.out]; rfl, H.ext⟩
        · have hr_ := H.rules; simp only [Rules, and_true] at hr_; have hd_ := H.dif; simp only [Dif, Neq, and_true] at hd_; obtain ⟨ho_, hz_⟩ := H.old0
          go_wp2_with fail
          go_ret
          exact ⟨by rw [HQ2.out, HR.out, ← HZ.out]; rfl, H.ext⟩
      · have HR := Lib.hid hrc
        rw [hrc] at H
        clear hrc
        have hr_ := H.rules; simp only [Rules, and_true] at hr_; have hd_ := H.dif; simp only [Dif, Neq, and_true] at hd_; obtain ⟨ho_, hz_⟩ := H.old0
        go_wp2_with fail
        (try clear hr_ hd_ ho_ hz_)
        refine callsH (by (repeat (first | with_reducible exact H | with_reducible exact H0_ | with_reducible apply Hp.alloc | with_reducible apply Hp.allocMap | with_reducible apply Hp.drew | with_reducible apply Hp.drewN | with_reducible apply Hp.set)); (try any_goals (repeat (first | with_reducible exact Upd.head | with_reducible apply Upd.tail)))) ?_
        clear H; intro w9 H; (try simp only [size_drew_, size_drewN_, World.size_alloc, World.size_setCell, List.set_cons_zero, List.set_cons_succ] at H)
        obtain ⟨z2, hz2⟩ : ∃ z2, z2 = a.index.any fun t => freeT ((f : Int) + a.tele.length) ((f : Int) + a.tele.length + 1) 0 t := ⟨_, rfl⟩
        have hcall := contains_terms1 (bn := wr.heap.size) (p := fun t => freeT ((f : Int) + a.tele.length) ((f : Int) + a.tele.length + 1) 0 t) (HIX.out.ext0 H.ext) rfl (enters_of Tryd.func185 (by kernel_rfl) rfl) (fun x hx w' v hx' hv => ment1_calls (HT.out.ext (H.ext.seq hx')) hv (hx'.keep ((H.blk (g := wr.heap.size) (cs := [.int .i64 ((f : Int) + a.tele.length)]) (by (repeat (first | with_reducible exact Pick.head | with_reducible apply Pick.tail)))).cells 0)) (by omega) (by omega))
        rw [← hz2] at hcall
        have HZ2 := Lib.hid hz2
        clear hz2
        refine (hcall).mono ?_
        rintro e w_ ⟨rfl, hx⟩
        replace H := H.call hx
        clear hx
        clear hcall
        go_wp2_with fail
        go_ret
        exact ⟨by rw [HQ2.out, HR.out, ← HZ2.out]; rfl, H.ext⟩
end Go.Proofs.YtmedomglemllnaaDoor
/- split: what it computes; sizes; no program in sight. No statement of the seat is proved here. -/
namespace Go.Proofs.YtmedomglemllnaaDoor
set_option linter.unusedSimpArgs false
set_option linter.unusedVariables false
open Go.RowKit

abbrev zT : Tm := .mk 0 0 0 [] []
/-- What Open takes off, all of it. -/
def openAll (t : Tm) : List Tm × Tm := (openT (countT t) t).getD ([], zT)
/-- What an argument is read as; or the error. -/
def argQ (ms : List Mb) (t : Tm) : Except Int Ar :=
  if selfT t = false then .ok ⟨false, t, [], 0, []⟩
  else if (countT t : Int) ≤ 6 then
    (if ((!(openAll t).1.any selfT) && (decide ((spineT (openAll t).2).1.k = 11) && (decide (0 ≤ (spineT (openAll t).2).1.a) && (decide ((spineT (openAll t).2).1.a < ms.length) && (!(spineT (openAll t).2).2.any selfT))))) = true then
      (if decide ((spineT (openAll t).2).2.length = ((ms.getD (spineT (openAll t).2).1.a.toNat ⟨[]⟩).index).length) = true then .ok ⟨true, zT, (openAll t).1, (spineT (openAll t).2).1.a, (spineT (openAll t).2).2⟩ else .error 17)
    else .error 16)
  else .error 3
theorem openT_count : ∀ t : Tm, ∃ p, openT (countT t) t = some p ∧ sizesT p.1 + sizeT p.2 ≤ sizeT t ∧ p.1.length = countT t
  | .mk k n a ls [x, y] => by
    rw [countT]
    by_cases h : k = 4
    · rw [if_pos h, openT, if_pos h]
      obtain ⟨p, h1, h2, h3⟩ := openT_count y
      rw [h1]
      refine ⟨_, rfl, ?_, ?_⟩
      · simp only [sizesT, sizeT]; omega
      · simpa using h3
    · rw [if_neg h]
      exact ⟨([], _), rfl, by simp [sizesT], rfl⟩
  | .mk k n a ls [] => ⟨([], _), rfl, by simp [sizesT], rfl⟩
  | .mk k n a ls [_] => ⟨([], _), rfl, by simp [sizesT], rfl⟩
  | .mk k n a ls (_ :: _ :: _ :: _) => ⟨([], _), rfl, by simp [sizesT], rfl⟩
theorem openAll_eq (t : Tm) : openT (countT t) t = some (openAll t) := by
  obtain ⟨p, h, _⟩ := openT_count t
  unfold openAll
  rw [h]; rfl
theorem openAll_size (t : Tm) : sizesT (openAll t).1 + sizeT (openAll t).2 ≤ sizeT t ∧ (openAll t).1.length = countT t := by
  obtain ⟨p, h, h2, h3⟩ := openT_count t
  have := openAll_eq t
  rw [h] at this
  obtain rfl := Option.some.inj this
  exact ⟨h2, h3⟩
theorem spineT_size : ∀ t : Tm, sizeT (spineT t).1 + sizesT (spineT t).2 ≤ sizeT t
  | .mk k n a ls [f, x] => by
    rw [spineT]
    by_cases h : k = 6
    · rw [if_pos h]
      have := spineT_size f
      simp only [sizesT_append, sizesT, sizeT]
      omega
    · rw [if_neg h]; simp [sizesT]
  | .mk k n a ls [] => by simp [spineT, sizesT]
  | .mk k n a ls [_] => by simp [spineT, sizesT]
  | .mk k n a ls (_ :: _ :: _ :: _) => by simp [spineT, sizesT]
theorem length_sizes (l : List Tm) : l.length ≤ sizesT l := by
  induction l with
  | nil => simp
  | cons t l ih => rw [sizesT, sizeT_eq, List.length_cons]; omega
theorem countT_size (t : Tm) : countT t ≤ sizeT t := by
  have := openAll_size t
  have := length_sizes (openAll t).1
  omega
end Go.Proofs.YtmedomglemllnaaDoor
/- strict: what it computes; no program in sight. No statement of the seat is proved here. -/
namespace Go.Proofs.YtmedomglemllnaaDoor
set_option linter.unusedSimpArgs false
set_option linter.unusedVariables false
open Go.RowKit

/-- What is asked for: the block's members (none), an outer variable. -/
abbrev Mk := Option Int
/-- Does it stand in a term? -/
def standsM : Mk → Tm → Bool
  | none, t => selfT t
  | some n, t => freeT n (n + 1) 0 t
/-- Is a head it? -/
def isM : Mk → Tm → Bool
  | none, t => decide (t.k = 11)
  | some n, t => decide (t.k = 1) && decide (t.n = n)
/-- Below binders more. -/
def upM (v : Mk) (n : Int) : Mk := v.map (· + n)
theorem upM_zero (v : Mk) : upM v 0 = v := by cases v <;> simp [upM]
theorem upM_up (v : Mk) (m n : Int) : upM (upM v m) n = upM v (m + n) := by cases v <;> simp [upM]; omega
/-- A row is free of it, each below those ahead. -/
def freeRow (v : Mk) (i : Nat) : List Tm → Bool
  | [] => true
  | t :: ts => !standsM (upM v i) t && freeRow v (i + 1) ts
theorem freeRow_drop {v : Mk} {ts : List Tm} {j : Nat} (h : j < ts.length) : freeRow v j (ts.drop j) = (!standsM (upM v j) ts[j] && freeRow v (j + 1) (ts.drop (j + 1))) := by
  rw [List.drop_eq_getElem_cons h, freeRow]
abbrev zDc : Dc := ⟨0, 0, zT, zT, [], [], [], []⟩
/-- Arguments at params: free of it, or strict, at a param that is taken so. -/
def argsS (g : Tm → Bool) (at' : Mk) (q : Nat → Bool) (k : Nat) : List Tm → Bool
  | [] => true
  | x :: xs => (!standsM at' x || (g x && q k)) && argsS g at' q (k + 1) xs
theorem argsS_drop {g : Tm → Bool} {at' : Mk} {q : Nat → Bool} {xs : List Tm} {j : Nat} (h : j < xs.length) : argsS g at' q j (xs.drop j) = ((!standsM at' xs[j] || (g xs[j] && q j)) && argsS g at' q (j + 1) (xs.drop (j + 1))) := by
  rw [List.drop_eq_getElem_cons h, argsS]
/-- Is a type strict? Over declarations of which par tells. -/
def strictF (ds : List Dc) (par : Nat → Nat → Bool) : Nat → Mk → Tm → Bool
  | 0, _, _ => false
  | f + 1, v, t =>
    if standsM v t = false then true
    else if freeRow v 0 (openAll t).1 = false then false
    else if isM (upM v (countT t)) (spineT (openAll t).2).1 = true then (spineT (openAll t).2).2.all fun x => !standsM (upM v (countT t)) x
    else if (spineT (openAll t).2).1.k = 8 ∧ 0 ≤ (spineT (openAll t).2).1.n ∧ (spineT (openAll t).2).1.n < ds.length then
      if (ds.getD (spineT (openAll t).2).1.n.toNat zDc).kind = 3 ∧ (ds.getD (spineT (openAll t).2).1.n.toNat zDc).params.length ≤ (spineT (openAll t).2).2.length then
        (((spineT (openAll t).2).2.drop (ds.getD (spineT (openAll t).2).1.n.toNat zDc).params.length).all fun x => !standsM (upM v (countT t)) x) &&
        argsS (strictF ds par f (upM v (countT t))) (upM v (countT t)) (par (spineT (openAll t).2).1.n.toNat) 0 ((spineT (openAll t).2).2.take (ds.getD (spineT (openAll t).2).1.n.toNat zDc).params.length)
      else false
    else false
/-- What a type's end, and what it is asked with, must be. -/
def endS (ds : List Dc) (par : Nat → Nat → Bool) (g : Tm → Bool) (v : Mk) (s : Tm × List Tm) : Bool :=
  if isM v s.1 = true then s.2.all fun x => !standsM v x
  else if s.1.k = 8 ∧ 0 ≤ s.1.n ∧ s.1.n < ds.length then
    if (ds.getD s.1.n.toNat zDc).kind = 3 ∧ (ds.getD s.1.n.toNat zDc).params.length ≤ s.2.length then
      ((s.2.drop (ds.getD s.1.n.toNat zDc).params.length).all fun x => !standsM v x) && argsS g v (par s.1.n.toNat) 0 (s.2.take (ds.getD s.1.n.toNat zDc).params.length)
    else false
  else false
theorem strictF_eq (ds : List Dc) (par : Nat → Nat → Bool) (f : Nat) (v : Mk) (t : Tm) : strictF ds par (f + 1) v t =
    if standsM v t = false then true else if freeRow v 0 (openAll t).1 = false then false else endS ds par (strictF ds par f (upM v (countT t))) (upM v (countT t)) (spineT (openAll t).2) := by
  rw [strictF]
  unfold endS
  rfl
def strictQ (ds : List Dc) (par : Nat → Nat → Bool) (v : Mk) (t : Tm) : Bool := strictF ds par (sizeT t) v t
/-- Types, each below those ahead. -/
def typesQ (ds : List Dc) (par : Nat → Nat → Bool) (v : Mk) (i : Nat) : List Tm → Bool
  | [] => true
  | t :: ts => strictQ ds par (upM v i) t && typesQ ds par v (i + 1) ts
theorem typesQ_drop {ds : List Dc} {par : Nat → Nat → Bool} {v : Mk} {ts : List Tm} {j : Nat} (h : j < ts.length) : typesQ ds par v j (ts.drop j) = (strictQ ds par (upM v j) ts[j] && typesQ ds par v (j + 1) (ts.drop (j + 1))) := by
  rw [List.drop_eq_getElem_cons h, typesQ]
/-- A constructor, asked of an outer variable. -/
def ctorP (ds : List Dc) (par : Nat → Nat → Bool) (v : Int) (c : Ct) : Bool :=
  typesQ ds par (some v) 0 (openAll c.ty).1 && !standsM (upM (some v) (countT c.ty)) (openAll c.ty).2
/-- A param of a block, over those ahead. -/
def stepP (ds : List Dc) (par : Nat → Nat → Bool) (d : Dc) (a : Nat) : Bool :=
  (d.members.all fun m => freeRow (some ((d.params.length : Int) - 1 - a)) 0 m.index) && d.ctors.all (ctorP ds par ((d.params.length : Int) - 1 - a))
/-- The params of the first declarations. -/
def parT (ds : List Dc) : Nat → Nat → Nat → Bool
  | 0 => fun _ _ => false
  | n + 1 => fun num a => if num = n then stepP (ds.take n) (parT ds n) (ds.getD n zDc) a else parT ds n num a
def parQ (ds : List Dc) (num a : Nat) : Bool := parT ds (num + 1) num a
theorem parT_eq (ds : List Dc) {n num : Nat} (h : num < n) (a : Nat) : parT ds n num a = parQ ds num a := by
  induction n with
  | zero => omega
  | succ n ih =>
    by_cases he : num = n
    · subst he; rfl
    · rw [parT]
      dsimp only
      rw [if_neg he]; exact ih (by omega)
theorem parQ_eq (ds : List Dc) (num a : Nat) : parQ ds num a = stepP (ds.take num) (parT ds num) (ds.getD num zDc) a := by
  unfold parQ
  rw [parT]
  dsimp only
  rw [if_pos rfl]
/-- What Param tells. -/
def paramV (ds : List Dc) (num a : Int) : Bool :=
  if 0 ≤ num ∧ num < ds.length ∧ (ds.getD num.toNat zDc).kind = 3 ∧ 0 ≤ a ∧ a < (ds.getD num.toNat zDc).params.length then parQ ds num.toNat a.toNat else false
/-- A constructor, asked of the members. -/
def ctorS (ds : List Dc) (c : Ct) : Bool :=
  typesQ ds (parT ds ds.length) none 0 (openAll c.ty).1 && (decide ((spineT (openAll c.ty).2).1.k = 11) && (spineT (openAll c.ty).2).2.all fun x => !selfT x)
/-- What Positive tells. -/
def positiveV (ds : List Dc) (d : Dc) : Bool := decide (d.kind = 3) && d.ctors.all (ctorS ds)
/-- Only those ahead matter. -/
theorem parT_take {ds ds' : List Dc} {n : Nat} (h : ds.take n = ds'.take n) : parT ds n = parT ds' n := by
  induction n with
  | zero => rfl
  | succ n ih =>
    have h1 : ds.take n = ds'.take n := by
      have := congrArg (List.take n) h
      simpa [List.take_take] using this
    have h2 : ds.getD n zDc = ds'.getD n zDc := by
      have := congrArg (fun l => l.getD n zDc) h
      simpa [List.getD_eq_getElem?_getD, List.getElem?_take] using this
    funext num a
    rw [parT, parT, h1, ih h1, h2]
/-- A type that is free of it is strict. -/
theorem strictQ_free {ds : List Dc} {par : Nat → Nat → Bool} {v : Mk} {t : Tm} (h : standsM v t = false) : strictQ ds par v t = true := by
  unfold strictQ
  obtain ⟨f, hf⟩ : ∃ f, sizeT t = f + 1 := ⟨sizeT t - 1, by have := sizeT_eq t; omega⟩
  rw [hf, strictF, if_pos h]
end Go.Proofs.YtmedomglemllnaaDoor
