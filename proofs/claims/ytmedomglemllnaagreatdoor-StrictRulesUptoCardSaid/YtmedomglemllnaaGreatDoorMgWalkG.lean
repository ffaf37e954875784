/- Package term: what it computes, in plain Lean, and the contracts of its functions. -/
import Derived.Test.YtmedomglemllnaaGreatDoorLevel
namespace Go.Proofs.YtmedomglemllnaaGreatDoor
set_option linter.unusedSimpArgs false
set_option linter.unusedVariables false
open Go.RowKit

def kindsL : List (Bool × Bool × Int × Int × Int) := [(false, false, 0, 0, 0), (true, false, 0, 0, -1), (false, false, 1, 0, -1), (true, false, -1, 0, -1), (false, false, 0, 2, 1), (false, false, 0, 2, 1), (false, false, 0, 2, -1), (false, false, 0, 3, 2),
  (true, true, -1, 0, -1), (true, true, -1, 0, -1), (true, true, -1, 0, -1), (false, true, 0, 0, -1), (false, false, 0, 2, 1), (false, false, 0, 2, -1), (false, false, 0, 1, -1), (false, false, 0, 1, -1), (false, false, 0, 2, 1), (false, false, 0, 2, -1),
  (false, false, 0, 5, 1), (false, false, 0, 3, -1), (false, false, 0, 0, -1), (false, false, 0, 6, -1), (true, false, 0, 0, -1), (true, true, 0, 0, -1), (false, true, 0, 2, -1)]
def kindsC : List Value := kindsL.flatMap fun x => [.bool x.1, .bool x.2.1, .int .i64 x.2.2.1, .int .i64 x.2.2.2.1, .int .i64 x.2.2.2.2]
def Tab (w : World) : Prop := ∀ j u, kindsC[j]? = some u → w.cell? ⟨0, j, none⟩ = some u
theorem Tab.ext {w w' : World} (h : Tab w) (hx : Ext no w w') : Tab w' := fun j u hu => hx.keep (h j u hu)
theorem Tab.ext' {w w' : World} {X : Nat → Prop} (h : Tab w) (hx : Ext X w w') (hX : ¬ X 0) : Tab w' := fun j u hu => (hx.cell (cell_lt (h j u hu)) hX).trans (h j u hu)
def kindAt (k : Nat) : Bool × Bool × Int × Int × Int := kindsL.getD k (false, false, 0, 0, 0)
theorem Tab.row {w : World} (h : Tab w) {k : Nat} (hk : k < 25) : w.cell? ⟨0, k * 5, none⟩ = some (.bool (kindAt k).1) ∧ w.cell? ⟨0, k * 5 + 1, none⟩ = some (.bool (kindAt k).2.1) ∧
    w.cell? ⟨0, k * 5 + 2, none⟩ = some (.int .i64 (kindAt k).2.2.1) ∧ w.cell? ⟨0, k * 5 + 3, none⟩ = some (.int .i64 (kindAt k).2.2.2.1) ∧ w.cell? ⟨0, k * 5 + 4, none⟩ = some (.int .i64 (kindAt k).2.2.2.2) := by
  have : k = 0 ∨ k = 1 ∨ k = 2 ∨ k = 3 ∨ k = 4 ∨ k = 5 ∨ k = 6 ∨ k = 7 ∨ k = 8 ∨ k = 9 ∨ k = 10 ∨ k = 11 ∨ k = 12 ∨ k = 13 ∨ k = 14 ∨ k = 15 ∨ k = 16 ∨ k = 17 ∨ k = 18 ∨ k = 19 ∨ k = 20 ∨ k = 21 ∨ k = 22 ∨ k = 23 ∨ k = 24 := by omega
  rcases this with rfl | rfl | rfl | rfl | rfl | rfl | rfl | rfl | rfl | rfl | rfl | rfl | rfl | rfl | rfl | rfl | rfl | rfl | rfl | rfl | rfl | rfl | rfl | rfl | rfl <;>
    exact ⟨h _ _ rfl, h _ _ rfl, h _ _ rfl, h _ _ rfl, h _ _ rfl⟩

def binds (k kid : Int) : Bool := decide (0 < k) && decide (k < 25) && decide (0 ≤ kid) && (kindAt k.toNat).2.2.2.2 == kid
set_option maxHeartbeats 400000 in
theorem binds_calls {w : World} (hT : Tab w) (k kid : Int) : Calls Tryz.prog 247 #[.int .i64 k, .int .i64 kid] w (PV w (.bool (binds k kid))) := by
  by_cases h1 : 0 < k
  · by_cases h2 : k < 25
    · by_cases h3 : 0 ≤ kid
      · obtain ⟨_, _, _, _, hc⟩ := hT.row (k := k.toNat) (by omega)
        have e : (k.toNat : Int) = k := by omega
        have hb : binds k kid = ((kindAt k.toNat).2.2.2.2 == kid) := by simp [binds, h1, h2, h3]
        rw [hb]
        clear hT hb
        obtain ⟨n, rfl⟩ := Int.eq_ofNat_of_zero_le (show 0 ≤ k by omega)
        simp only [Int.toNat_natCast] at hc ⊢
        have d1 : decide ((0 : Int) < (n : Int)) = true := by simpa using h1
        have d2 : decide ((n : Int) < 25) = true := by simpa using h2
        have d3 : decide ((0 : Int) ≤ kid) = true := by simpa using h3
        generalize (kindAt n).2.2.2.2 = q at hc ⊢
        clear e
        go_enter Tryz.func247, Tryz.ntmps247
        go_wp2_with fail
        go_ret
        exact ⟨rfl, Ext.refl _ _⟩
      · have hb : binds k kid = false := by simp [binds, h3]
        rw [hb]
        have d1 : decide ((0 : Int) < k) = true := by simpa using h1
        have d2 : decide (k < 25) = true := by simpa using h2
        have d3 : decide ((0 : Int) ≤ kid) = false := by simpa using h3
        clear hT hb
        go_enter Tryz.func247, Tryz.ntmps247
        go_wp2_with fail
        go_ret
        exact ⟨rfl, Ext.refl _ _⟩
    · have hb : binds k kid = false := by simp [binds, h2]
      rw [hb]
      have d1 : decide ((0 : Int) < k) = true := by simpa using h1
      have d2 : decide (k < 25) = false := by simpa using h2
      clear hT hb
      go_enter Tryz.func247, Tryz.ntmps247
      go_wp2_with fail
      go_ret
      exact ⟨rfl, Ext.refl _ _⟩
  · have hb : binds k kid = false := by simp [binds, h1]
    rw [hb]
    have d1 : decide ((0 : Int) < k) = false := by simpa using h1
    clear hT hb
    go_enter Tryz.func247, Tryz.ntmps247
    go_wp2_with fail
    go_ret
    exact ⟨rfl, Ext.refl _ _⟩

set_option maxHeartbeats 400000 in
theorem means_calls {w : World} (b n : Int) : Calls Tryz.prog 162 #[.agg #[.int .i64 b], .int .i64 n] w (PV w (.tuple #[.int .i64 (wrap64 (n - b)), .bool (decide (b ≤ n))])) := by
  go_enter Tryz.func162, Tryz.ntmps162
  go_wp2
  go_quiet (fail)
  go_wp2
  go_ret2
  exact ⟨rfl, ((Ext.refl _ _).alloc _).drewN _⟩

def downI (k kid b : Int) : Int := if binds k kid then wrap64 (b + 1) else b
set_option maxHeartbeats 400000 in
theorem below_calls {w : World} (hT : Tab w) (b k kid : Int) (fn : Fn) (x y : Array Value) : Calls Tryz.prog 230 #[.agg #[.int .i64 b, .func fn x y], .int .i64 k, .int .i64 kid] w (PV w (.agg #[.int .i64 (downI k kid b), .func fn x y])) := by
  go_enter Tryz.func230, Tryz.ntmps230
  go_wp2_with fail
  refine (binds_calls (hT.ext (((Ext.refl _ _).alloc _).alloc _)) k kid).mono ?_
  rintro e w1 ⟨rfl, hx1⟩
  have b1 := ((Blk.new rfl).alloc _).ext0 hx1
  have b2 := (Blk.new (g := w.heap.size + 1) (by simp)).ext0 hx1
  have c1 := b1.cells
  have f1 := b1.frz
  have c2 := b2.cells
  have f2 := b2.frz
  have hx0 := ((((Ext.refl no w).alloc _).alloc _).seq hx1)
  clear hT b1 b2 hx1
  cases hb : binds k kid
  · have E := Lib.hid (show downI k kid b = b by simp [downI, hb])
    clear hb
    go_wp2_with fail
    refine bodyPost_ret (v := .agg #[.int .i64 b, .func fn x y]) (by simp [results, Tryz.results230, go_sem, c2]) rfl ⟨by rw [E.out], (hx0.setCell (by simp) _).setCell (by simp) _⟩
  · have E := Lib.hid (show downI k kid b = wrap64 (b + 1) by simp [downI, hb])
    clear hb
    go_wp2_with fail
    refine bodyPost_ret (v := .agg #[.int .i64 (wrap64 (b + 1)), .func fn x y]) (by simp [results, Tryz.results230, go_sem, c2]) rfl ⟨by rw [E.out], ((hx0.setCell (by simp) _).setCell (by simp) _).setCell (by simp) _⟩

abbrev Turn := Int → Tm → Tm ⊕ (Int × Int × Int × List Lv)
mutual
def walkT (f : Turn) (b : Int) : Tm → Tm
  | .mk k n a ls ks => match f b (.mk k n a ls ks) with
    | .inl r => r
    | .inr h => .mk h.1 h.2.1 h.2.2.1 h.2.2.2 (walkTs f k b 0 ks)
def walkTs (f : Turn) (k b : Int) (i : Nat) : List Tm → List Tm
  | [] => []
  | t :: ts => walkT f (downI k i b) t :: walkTs f k b (i + 1) ts
end
theorem walkTs_len (f : Turn) (k b : Int) (ts : List Tm) : ∀ i, (walkTs f k b i ts).length = ts.length := by
  induction ts with
  | nil => intro i; rfl
  | cons t ts ih => intro i; simp [walkTs, ih]
theorem walkTs_get (f : Turn) (k b : Int) (ts : List Tm) : ∀ (i j : Nat) (h : j < ts.length) (h' : j < (walkTs f k b i ts).length), (walkTs f k b i ts)[j] = walkT f (downI k (i + j : Nat) b) ts[j] := by
  induction ts with
  | nil => intro i j h; simp at h
  | cons t ts ih =>
    intro i j h h'
    rcases j with _ | j
    · simp [walkTs]
    · simp only [walkTs, List.getElem_cons_succ]
      rw [ih]
      congr 3
      · omega
      · simpa using h

def PTurn (w : World) (S : Nat → Prop) (t : Tm) (r : Tm ⊕ (Int × Int × Int × List Lv)) (e : Ending) (w' : World) : Prop :=
  match r with
  | .inl r => ∃ v, e = .returned (.tuple #[v, .bool true]) ∧ TO w r v w' ∧ Ext no w w'
  | .inr h => ∃ v, e = .returned (.tuple #[v, .bool false]) ∧ TH w S (.mk h.1 h.2.1 h.2.2.1 h.2.2.2 t.ks) v w' ∧ Ext no w w'
def TurnC (fid : Nat) (cap : Array Value) (Cap : World → Prop) (f : Turn) : Prop :=
  (∀ w w', Cap w → Ext no w w' → Cap w') ∧ (∀ args w, (callFunc fid args).run Tryz.prog w = .ok (.enter fid args) w) ∧
  ∀ (w : World) (S : Nat → Prop) (b : Int) (t : Tm) (v : Value), Cap w → Tab w → inI b → TV w S t v → Calls Tryz.prog fid (#[.agg #[.int .i64 b, .func (.func fid) #[] cap], v] ++ cap) w (PTurn w S t (f b t))
theorem wrap64_inI (n : Int) : inI (wrap64 n) := by unfold inI wrap64; omega
theorem downI_inI (k kid : Int) {b : Int} (h : inI b) : inI (downI k kid b) := by unfold downI; split; exact wrap64_inI _; exact h

set_option maxHeartbeats 2000000 in
set_option maxRecDepth 100000 in
theorem walk_calls {fid : Nat} {cap : Array Value} {Cap : World → Prop} {f : Turn} (hF : TurnC fid cap Cap f) : ∀ (t : Tm) (w : World) (S : Nat → Prop) (b : Int) (v : Value), Cap w → Tab w → inI b → TV w S t v →
    Calls Tryz.prog 164 #[.agg #[.int .i64 b, .func (.func fid) #[] cap], v] w (PTm w (walkT f b t)) := by
  intro t
  induction t using Tm.ind_ with
  | h k n a ls ks ih =>
  intro w S b v hCap hT hb hv
  obtain ⟨A0, ca, K0, ck, rfl, hrc⟩ := hv
  have hCap3 := hF.1 _ _ hCap ((((Ext.refl no w).alloc (.cells #[.int .i64 b, .func (.func fid) #[] cap] 195)).alloc (.cells #[.int .i64 k, .int .i64 n, .int .i64 a, .slice A0 ls.length ca, .slice K0 ks.length ck] 26)).alloc (.cells #[.int .i64 0, .int .i64 0, .int .i64 0, .slice none 0 0, .slice none 0 0] 26))
  have hcall := hF.2.2 _ _ b (.mk k n a ls ks) _ hCap3 (hT.ext ((((Ext.refl no w).alloc _).alloc _).alloc _)) hb ⟨A0, ca, K0, ck, rfl, hrc.bd.ext0 ((((Ext.refl no w).alloc _).alloc _).alloc _)⟩
  have Hcall := Lib.hid hcall
  have Hih := Lib.hid ih
  have hfun := hF.2.1
  have HF := Lib.hid hF
  clear hcall ih hF hCap3
  simp only [Tm.k_mk, Tm.n_mk, Tm.a_mk, Tm.ls_mk, Tm.ks_mk] at hrc ⊢
  go_enter Tryz.func164, Tryz.ntmps164
  go_wp2_with fail
  refine Hcall.out.mono ?_
  rintro e w1 hturn
  unfold PTurn at hturn
  have bld : ∀ w1, Ext no (((w.alloc (.cells #[.int .i64 b, .func (.func fid) #[] cap] 195)).alloc (.cells #[.int .i64 k, .int .i64 n, .int .i64 a, .slice A0 ls.length ca, .slice K0 ks.length ck] 26)).alloc (.cells #[.int .i64 0, .int .i64 0, .int .i64 0, .slice none 0 0, .slice none 0 0] 26)) w1 →
      Blk w1 w.heap.size 195 #[.int .i64 b, .func (.func fid) #[] cap] ∧ Blk w1 (w.heap.size + 1) 26 #[.int .i64 k, .int .i64 n, .int .i64 a, .slice A0 ls.length ca, .slice K0 ks.length ck] ∧
      Blk w1 (w.heap.size + 1 + 1) 26 #[.int .i64 0, .int .i64 0, .int .i64 0, .slice none 0 0, .slice none 0 0] ∧ Ext no w w1 ∧ w.heap.size + 3 ≤ w1.heap.size := fun w1 hx =>
    ⟨(((Blk.new rfl).alloc _).alloc _).ext0 hx, ((Blk.new (by simp)).alloc _).ext0 hx, (Blk.new (by simp)).ext0 hx, ((((Ext.refl no w).alloc _).alloc _).alloc _).seq hx, by have := hx.size; simpa using this⟩
  have Bld := Lib.hid bld
  clear bld
  cases hfb : f b (.mk k n a ls ks) with
  | inl r =>
    rw [hfb] at hturn
    obtain ⟨v, rfl, ⟨A1, c1, K1, d1, L, rfl, hro, hnd⟩, hx1⟩ := hturn
    obtain ⟨b0, b1, b2, hx0, hsz⟩ := Bld.out _ hx1
    have l0 := b0.lt
    have l1 := b1.lt
    have l2 := b2.lt
    have hw : walkT f b (.mk k n a ls ks) = r := by rw [walkT, hfb]
    have hc2 := b2.cells
    have hf2 := b2.frz
    have Hfb := Lib.hid hfb
    have Hw := Lib.hid hw
    clear hfb hw b0 b1 hT hfun hrc hb
    go_wp2_with fail
    refine bodyPost_ret (v := .agg #[.int .i64 r.k, .int .i64 r.n, .int .i64 r.a, .slice A1 r.ls.length c1, .slice K1 r.ks.length d1]) (by simp [results, Tryz.results164, go_sem, hc2, l2, hf2]) rfl ⟨_, rfl, ?_, ?_⟩
    · rw [Hw.out]
      refine ⟨A1, c1, K1, d1, L, rfl, ?_, hnd⟩
      exact ((hro.ext (Ext.set5 _ _ _ _ _ _ _) (fun x h1 _ e => by simp at h1; omega)).ext ((Ext.refl no _).alloc _) (fun _ _ _ => no_not)).ge (by simp; omega)
    · exact (hx0.old (Ext.set5 _ _ _ _ _ _ _) (fun x h1 e => by omega)).alloc _
  | inr h =>
    rw [hfb] at hturn
    obtain ⟨v, rfl, ⟨A1, c1, L, K1, d1, rfl, i1, i2, i3, hro, hnd, hks⟩, hx1⟩ := hturn
    obtain ⟨b0, b1, b2, hx0, hsz⟩ := Bld.out _ hx1
    have hw : walkT f b (.mk k n a ls ks) = .mk h.1 h.2.1 h.2.2.1 h.2.2.2 (walkTs f k b 0 ks) := by rw [walkT, hfb]
    simp only [Tm.k_mk, Tm.n_mk, Tm.a_mk, Tm.ls_mk, Tm.ks_mk] at i1 i2 i3 hro hks ⊢
    have l0 := b0.lt
    have l1 := b1.lt
    have l2 := b2.lt
    have hM := hks.lenM
    have Hfb := Lib.hid hfb
    have Hw := Lib.hid hw
    clear hfb hw hfun hrc
    go_wp2_with fail
    have hW0 : Ext no w1 (w1.alloc (.cells #[.int .i64 h.1, .int .i64 h.2.1, .int .i64 h.2.2.1, .slice A1 h.2.2.2.length c1, .slice none 0 0] 26)) := (Ext.refl _ _).alloc _
    have bW : Blk (w1.alloc (.cells #[.int .i64 h.1, .int .i64 h.2.1, .int .i64 h.2.2.1, .slice A1 h.2.2.2.length c1, .slice none 0 0] 26)) w1.heap.size 26 #[.int .i64 h.1, .int .i64 h.2.1, .int .i64 h.2.2.1, .slice A1 h.2.2.2.length c1, .slice none 0 0] := Blk.new rfl
    generalize w1.alloc (.cells #[.int .i64 h.1, .int .i64 h.2.1, .int .i64 h.2.2.1, .slice A1 h.2.2.2.length c1, .slice none 0 0] 26) = W0 at hW0 bW
    have lW := bW.lt
    go_loopw [25] (fun i wr => ∃ j : Nat, j ≤ ks.length ∧ i = .int .i64 j ∧ ∃ o, Blk wr w1.heap.size 26 #[.int .i64 h.1, .int .i64 h.2.1, .int .i64 h.2.2.1, .slice A1 h.2.2.2.length c1, o] ∧ Acc W0 wr 26 5 (((walkTs f k b 0 ks).take j).map Tm.d) o ∧ Ext (fun x => x = w1.heap.size) W0 wr) (fun i _ => ks.length - (intOf i).toNat)
    case atStart => exact ⟨0, Nat.zero_le _, rfl, _, bW, Acc.nil, Ext.refl _ _⟩
    case round =>
      obtain ⟨j, hj, rfl, o, bo, hacc, hext⟩ := hrel
      by_cases hlt : j < ks.length
      · have hsz2 := hext.size
        have hkr := (hks.ext0 hW0).ext hext (fun x _ hx e => by have := hx.2; omega)
        obtain ⟨bb, oo, A2, c2, K2, d2, rfl, hb2, hS2, hrc2, h0, h1, h2, h3, h4⟩ := hkr.atTm hlt
        obtain ⟨Ao, co, rfl⟩ := hacc.sliceN (n := j) (by simp [walkTs_len]; omega)
        have b0r := (b0.ext0 hW0).ext hext (by omega)
        have b1r := (b1.ext0 hW0).ext hext (by omega)
        have l0 := b0r.lt
        have l1 := b1r.lt
        have lo := bo.lt
        have c0 := b0r.cells
        have c1 := b1r.cells
        have co' := bo.cells
        have hc1 : wr.cell? ⟨w1.heap.size, 4, none⟩ = some (.slice Ao j co) := bo.cells 4
        have hc2 : wr.cell? ⟨w.heap.size, 0, none⟩ = some (.int .i64 b) := b0r.cells 0
        have hc3 : wr.cell? ⟨w.heap.size, 1, none⟩ = some (.func (.func fid) #[] cap) := b0r.cells 1
        have hc4 : wr.cell? ⟨w.heap.size + 1, 0, none⟩ = some (.int .i64 k) := b1r.cells 0
        clear c0 c1 co'
        go_wp2_with fail
        have hal : Ext no wr (wr.alloc (.cells #[.int .i64 ks[j].k, .int .i64 ks[j].n, .int .i64 ks[j].a, .slice A2 ks[j].ls.length c2, .slice K2 ks[j].ks.length d2] 26)) := (Ext.refl _ _).alloc _
        have bk : Blk (wr.alloc (.cells #[.int .i64 ks[j].k, .int .i64 ks[j].n, .int .i64 ks[j].a, .slice A2 ks[j].ls.length c2, .slice K2 ks[j].ks.length d2] 26)) wr.heap.size 26 #[.int .i64 ks[j].k, .int .i64 ks[j].n, .int .i64 ks[j].a, .slice A2 ks[j].ls.length c2, .slice K2 ks[j].ks.length d2] := Blk.new rfl
        generalize wr.alloc (.cells #[.int .i64 ks[j].k, .int .i64 ks[j].n, .int .i64 ks[j].a, .slice A2 ks[j].ls.length c2, .slice K2 ks[j].ks.length d2] 26) = W2 at hal bk
        have hS : Cells W2.drew [(⟨w1.heap.size, 4, none⟩, .slice Ao j co), (⟨w.heap.size, 0, none⟩, .int .i64 b), (⟨w.heap.size, 1, none⟩, .func (.func fid) #[] cap), (⟨w.heap.size + 1, 0, none⟩, .int .i64 k),
          (⟨wr.heap.size, 0, none⟩, .int .i64 ks[j].k), (⟨wr.heap.size, 1, none⟩, .int .i64 ks[j].n), (⟨wr.heap.size, 2, none⟩, .int .i64 ks[j].a), (⟨wr.heap.size, 3, none⟩, .slice A2 ks[j].ls.length c2), (⟨wr.heap.size, 4, none⟩, .slice K2 ks[j].ks.length d2)] :=
          ⟨hal.keep hc1, hal.keep hc2, hal.keep hc3, hal.keep hc4, bk.cells 0, bk.cells 1, bk.cells 2, bk.cells 3, bk.cells 4, trivial⟩
        clear hc1 hc2 hc3 hc4 h0 h1 h2 h3 h4
        refine wp_region_L (fun w' => Cells w' [(⟨w1.heap.size, 4, none⟩, .slice Ao j co), (⟨w.heap.size, 0, none⟩, .int .i64 b), (⟨w.heap.size, 1, none⟩, .func (.func fid) #[] cap), (⟨w.heap.size + 1, 0, none⟩, .int .i64 k),
          (⟨wr.heap.size, 0, none⟩, .int .i64 ks[j].k), (⟨wr.heap.size, 1, none⟩, .int .i64 ks[j].n), (⟨wr.heap.size, 2, none⟩, .int .i64 ks[j].a), (⟨wr.heap.size, 3, none⟩, .slice A2 ks[j].ls.length c2), (⟨wr.heap.size, 4, none⟩, .slice K2 ks[j].ks.length d2)]) [12] (by kernel_rfl) ?_
        refine wpL_take (i := 0) (v := ?v1_) rfl (by kernel_rfl) (fun _ _ _ h => h) hS (by rfl) (fun w_ hw_ => ?h1_) ?_
        case h1_ => (try simp only [Cells_cons, Cells_nil, and_true] at hw_); go_split_ands; go_simp; try with_reducible rfl
        simp only [List.getElem_toArray, List.getElem_cons_zero, List.getElem_cons_succ, Act.put, List.setIfInBounds_toArray, List.set_cons_zero, List.set_cons_succ]
        refine wpL_take (i := 1) (v := ?v2_) rfl (by kernel_rfl) (fun _ _ _ h => h) hS (by rfl) (fun w_ hw_ => ?h2_) ?_
        case h2_ => (try simp only [Cells_cons, Cells_nil, and_true] at hw_); go_split_ands; go_simp; try with_reducible rfl
        simp only [List.getElem_toArray, List.getElem_cons_zero, List.getElem_cons_succ, Act.put, List.setIfInBounds_toArray, List.set_cons_zero, List.set_cons_succ]
        refine wpL_take (i := 2) (v := ?v3_) rfl (by kernel_rfl) (fun _ _ _ h => h) hS (by rfl) (fun w_ hw_ => ?h3_) ?_
        case h3_ => (try simp only [Cells_cons, Cells_nil, and_true] at hw_); go_split_ands; go_simp; try with_reducible rfl
        simp only [List.getElem_toArray, List.getElem_cons_zero, List.getElem_cons_succ, Act.put, List.setIfInBounds_toArray, List.set_cons_zero, List.set_cons_succ]
        refine wpL_take (i := 3) (v := ?v4_) rfl (by kernel_rfl) (fun _ _ _ h => h) hS (by rfl) (fun w_ hw_ => ?h4_) ?_
        case h4_ => (try simp only [Cells_cons, Cells_nil, and_true] at hw_); go_split_ands; go_simp; try with_reducible rfl
        simp only [List.getElem_toArray, List.getElem_cons_zero, List.getElem_cons_succ, Act.put, List.setIfInBounds_toArray, List.set_cons_zero, List.set_cons_succ]
        refine wpL_take (i := 4) (v := ?v5_) rfl (by kernel_rfl) (fun _ _ _ h => h) hS (by rfl) (fun w_ hw_ => ?h5_) ?_
        case h5_ => (try simp only [Cells_cons, Cells_nil, and_true] at hw_); go_split_ands; go_simp; try with_reducible rfl
        simp only [List.getElem_toArray, List.getElem_cons_zero, List.getElem_cons_succ, Act.put, List.setIfInBounds_toArray, List.set_cons_zero, List.set_cons_succ]
        refine wpL_take (i := 5) (v := ?v6_) rfl (by kernel_rfl) (fun _ _ _ h => h) hS (by rfl) (fun w_ hw_ => ?h6_) ?_
        case h6_ => (try simp only [Cells_cons, Cells_nil, and_true] at hw_); go_split_ands; go_simp; try with_reducible rfl
        simp only [List.getElem_toArray, List.getElem_cons_zero, List.getElem_cons_succ, Act.put, List.setIfInBounds_toArray, List.set_cons_zero, List.set_cons_succ]
        refine wpL_take (i := 7) (v := ?v7_) rfl (by kernel_rfl) (fun _ _ _ h => h) hS (by rfl) (fun w_ hw_ => ?h7_) ?_
        case h7_ => (try simp only [Cells_cons, Cells_nil, and_true] at hw_); go_split_ands; go_simp; try with_reducible rfl
        simp only [List.getElem_toArray, List.getElem_cons_zero, List.getElem_cons_succ, Act.put, List.setIfInBounds_toArray, List.set_cons_zero, List.set_cons_succ]
        have hxw : Ext no w W2.drew := (((hx0.seq hW0).old hext (by omega)).seq hal).drew
        have hT2 : Tab W2.drew := hT.ext hxw
        have hCap2 : Cap W2.drew := HF.out.1 _ _ hCap hxw
        refine wpL_do (i := 6) rfl (by kernel_rfl) (by rfl) (fun K_ hK_ => ?_)
        go_simp
        refine (below_calls hT2 b k j _ _ _).mono ?_
        rintro e w2 ⟨rfl, hx2⟩
        refine hK_ _ _ (fun _ => hS.keep hx2) (fun hS2 => ?_)
        have hS2 := hS2 (by decide)
        refine wpL_do (i := 8) rfl (by kernel_rfl) (by rfl) (fun K_ hK_ => ?_)
        go_simp
        refine (Hih.out ks[j] (by simp) _ (fun x => S x ∧ x < w.heap.size) (downI k j b) _ (HF.out.1 _ _ hCap2 hx2) (hT2.ext hx2) (downI_inI _ _ hb) ⟨_, _, _, _, rfl, (hrc2.ext0 hal).ext0 hx2.undrew⟩).mono ?_
        rintro e w3 ⟨v, rfl, ⟨A5, c5, K5, d5, L5, rfl, hro5, hnd5⟩, hx3⟩
        refine hK_ _ _ (fun _ => hS2.keep hx3) (fun hS3 => ?_)
        have hS3 := hS3 (by decide)
        refine wpL_do (i := 9) rfl (by kernel_rfl) (by rfl) (fun K_ hK_ => ?_)
        go_simp
        refine hK_ _ _ (fun _ => hS3.keep ((Ext.refl _ _).alloc _)) (fun hS4 => ?_)
        have hS4 := hS4 (by decide)
        refine wpL_do (i := 10) rfl (by kernel_rfl) (by rfl) (fun K_ hK_ => ?_)
        refine wp_push1 (.tmp 31) (.tmp 39) 22 rfl stTerms hacc hro5 hnd5 (Nat.le_trans hal.size hx2.size) ((hal.seq hx2.undrew).seq hx3) ((Ext.refl _ _).alloc _) hsz2 (Tm.size_d _) (by simp [M]; omega) rfl rfl (heap_alloc_new _ _) ?_
        intro v' w4 hacc4 hx4
        have hS5 := hS4.ext hx4 (by simp; omega)
        refine hK_ _ _ (fun _ => hS5) (fun _ => ?_)
        refine wpL_take (i := 11) (v := ?v8_) rfl (by kernel_rfl) (fun _ _ _ h => h) hS5 (by rfl) (fun w_ hw_ => ?h8_) ?_
        case h8_ => (try simp only [Cells_cons, Cells_nil, and_true] at hw_); go_split_ands; go_simp; try with_reducible rfl
        simp only [List.getElem_toArray, List.getElem_cons_zero, List.getElem_cons_succ, Act.put, List.setIfInBounds_toArray, List.set_cons_zero, List.set_cons_succ]
        obtain ⟨A6, c6, rfl⟩ := hacc4.sliceN (n := j + 1) (by simp [walkTs_len]; omega)
        have bo4 := ((bo.ext0 ((((hal.seq hx2.undrew).seq hx3).alloc _))).ext hx4 (by omega))
        have hc6 := bo4.cells 4
        have hf6 := bo4.frz 4
        refine wpL_do (i := 12) rfl (by kernel_rfl) (by rfl) (fun K_ hK_ => ?_)
        go_simp
        refine hK_ _ _ (fun h => absurd (by decide) h) (fun _ => ?_)
        refine wpL_done (by kernel_rfl) ?_ _
        go_wp2_with fail
        go_roundw
        case rel =>
          refine ⟨j + 1, by omega, by go_num, _, bo4.set 4 _, ?_, ?_⟩
          · have hj' : j < (walkTs f k b 0 ks).length := by rw [walkTs_len]; exact hlt
            rw [take_map _ hj', walkTs_get _ _ _ _ _ _ hlt]
            simp only [Nat.zero_add]
            exact hacc4.frame ((Ext.refl (fun x => x = w1.heap.size) _).setCell (.inl rfl) _) (fun x hx _ e => by omega)
          · exact ((hext.trans ((((hal.seq hx2.undrew).seq hx3).alloc _)) (fun _ _ h => h) (fun _ _ h => h.elim)).trans hx4 (fun _ _ h => h) (fun x hx h => by omega)).setCell (.inl rfl) _
        case measure => simp [intOf]; omega
      · obtain ⟨Ao, co, rfl⟩ := hacc.sliceN (n := (walkTs f k b 0 ks).length) (by simp [walkTs_len]; omega)
        have b2r := (b2.ext0 hW0).ext hext (by omega)
        have c5 := bo.cells
        have c2 := b2r.cells
        have f2 := b2r.frz
        have hsz2 := hext.size
        have hsz3 := hW0.size
        go_wp2_with fail
        refine bodyPost_ret (v := .agg #[.int .i64 h.1, .int .i64 h.2.1, .int .i64 h.2.2.1, .slice A1 h.2.2.2.length c1, .slice Ao (walkTs f k b 0 ks).length co]) (by simp [results, Tryz.results164, go_sem, c2]) rfl ⟨_, rfl, ?_, ?_⟩
        · rw [Hw.out]
          obtain ⟨L5, hro5, hnd5⟩ := hacc
          rw [take_all (by rw [walkTs_len]; exact hlt)] at hro5
          have hL : ∀ x ∈ L, x < w1.heap.size := fun x hx => (RO.lt _ _ _ hro x hx).2
          refine ⟨A1, c1, Ao, co, L ++ L5, rfl, RO.tm.2 ⟨_, _, L, L5, rfl, rfl, i1, i2, i3, ?_, ?_⟩, ?_⟩
          · exact ((((hro.ext hW0 (fun _ _ _ => no_not)).frame_ (fun x hx => hext.block x (by have := hL x hx; omega) (by have := hL x hx; omega)))).ext (Ext.set5 _ _ _ _ _ _ _) (fun x h1 _ e => by simp at h1; omega)).ge (by simp; omega)
          · exact (hro5.ext (Ext.set5 _ _ _ _ _ _ _) (fun x h1 _ e => by omega)).ge (by omega)
          · refine List.nodup_append.2 ⟨hnd, hnd5, fun x hx y hy e => ?_⟩
            have := hL x hx
            have := (RO.lt _ _ _ hro5 y hy).1
            omega
        · exact (((hx0.seq hW0).old hext (by omega))).old (Ext.set5 _ _ _ _ _ _ _) (fun x h1 e => by omega)

end Go.Proofs.YtmedomglemllnaaGreatDoor
/- term: a walk where the turning function is known only at what is met on the way. No statement of the seat is proved here. -/
namespace Go.Proofs.YtmedomglemllnaaGreatDoor
set_option linter.unusedSimpArgs false
set_option linter.unusedVariables false
open Go.RowKit

end Go.Proofs.YtmedomglemllnaaGreatDoor
