/- The reference of layer 2 (term): contracts. -/
import Derived.Test.YtmedomglemllnaaDoorMgTele2
import Derived.Deep.DeepCutAuto
import Derived.Test.YtmedomglemllnaaDoorFree
import Derived.Test.YtmedomglemllnaaDoorMgSelf
import Derived.Test.YtmedomglemllnaaDoorMgSplit0
import Derived.Test.YtmedomglemllnaaDoorMgAbove
import Derived.Test.YtmedomglemllnaaDoorMgPut
namespace Go.Proofs.YtmedomglemllnaaDoor
set_option linter.unusedSimpArgs false
set_option linter.unusedVariables false
open Go.RowKit

theorem Acc.parts {w wr : World} {S : Nat → Prop} {e : Nat} {xs : List (Int × Int)} {v : Value} (h : RG wr w.heap.size S e 2 (xs.map ptD) v) : Acc w wr e 2 (xs.map ptD) v := ⟨_, h.parts, opt_nodup _⟩
set_option maxHeartbeats 1000000 in
theorem refLevels {w : World} {S : Nat → Prop} {xs : List Lv} {A : Option Addr} {n c : Nat} (h : RC w S (.l 33 1 (xs.map lvD)) [.slice A n c]) (hn : n = xs.length) : Calls Tryd.prog 203 #[.slice A n c] w (PSl w 33 1 (xs.map lvD)) := by
  subst hn
  have hM := h.lenM
  go_enter Tryd.func203, Tryd.ntmps203
  go_wp2_with fail
  go_loopw [3, 4] (fun out i wr => ∃ k : Nat, k ≤ xs.length ∧ i = .int .i64 k ∧ Acc w wr 33 1 ((xs.take k).map lvD) out ∧ Ext no w wr) (fun _ i _ => xs.length - (intOf i).toNat)
  case atStart => exact ⟨0, Nat.zero_le _, rfl, Acc.nil, Ext.refl _ _⟩
  case round =>
    obtain ⟨k, hk, rfl, hacc, hext⟩ := hrel
    by_cases hlt : k < xs.length
    · obtain ⟨b, o, A1, c1, rfl, hb, hS, hpc, hc⟩ := (h.ext0 hext).atLv hlt
      have hMp := hpc.lenM
      go_wp2_with (first
        | (at_builtin; refine wpList_copyLit (w0 := wr) rfl (.tmp 12) (.tmp 17) 31 rfl stParts rfl rfl hpc rfl rfl ?_; intro A2 c2 w1 hg1 hx1)
        | (at_builtin; refine wpList_push1 (d := lvD xs[k]) rfl (.tmp 11) (.tmp 20) 23 rfl stLevels hacc (RO.lv.2 ⟨_, rfl, hg1.parts⟩) (opt_nodup _) (Nat.le_refl _) hx1 ((Ext.refl _ _).alloc _) hext.size (lvD_size _) (by simp [M]; omega) rfl rfl (heap_alloc_new _ _) ?_; intro v' w' hacc' hx2))
      go_roundw
      case rel => exact ⟨k + 1, by omega, by go_num, by rw [take_map _ hlt]; exact hacc', ((hext.seq hx1).alloc _).old hx2 (fun i hi h => by omega)⟩
      case measure => simp [intOf]; omega
    · go_wp2_with fail
      go_ret
      exact PSl.of (by rw [take_all hlt] at hacc; exact hacc) hext

/-- The binders, as the reference says them. -/
theorem binds_ref (k kid : Int) : binds k kid = if k = 4 ∨ k = 5 ∨ k = 12 ∨ k = 16 ∨ k = 18 then kid == 1 else if k = 7 then kid == 2 else false := by
  by_cases h1 : 0 < k
  · by_cases h2 : k < 25
    · have : k = 1 ∨ k = 2 ∨ k = 3 ∨ k = 4 ∨ k = 5 ∨ k = 6 ∨ k = 7 ∨ k = 8 ∨ k = 9 ∨ k = 10 ∨ k = 11 ∨ k = 12 ∨ k = 13 ∨ k = 14 ∨ k = 15 ∨ k = 16 ∨ k = 17 ∨ k = 18 ∨ k = 19 ∨ k = 20 ∨ k = 21 ∨ k = 22 ∨ k = 23 ∨ k = 24 := by omega
      rcases this with rfl | rfl | rfl | rfl | rfl | rfl | rfl | rfl | rfl | rfl | rfl | rfl | rfl | rfl | rfl | rfl | rfl | rfl | rfl | rfl | rfl | rfl | rfl | rfl <;>
        simp [binds, kindAt, kindsL] <;> first | omega | (rw [Bool.eq_iff_iff]; simp; omega)
    · rw [if_neg (by omega), if_neg (by omega)]; simp [binds, h2]
  · rw [if_neg (by omega), if_neg (by omega)]; simp [binds, h1]
set_option maxHeartbeats 1000000 in
theorem refBinds {w : World} (k kid : Int) : Calls Tryd.prog 202 #[.int .i64 k, .int .i64 kid] w (PV w (.bool (binds k kid))) := by
  have hr := Lib.hid (binds_ref k kid)
  by_cases h : k = 4 ∨ k = 5 ∨ k = 12 ∨ k = 16 ∨ k = 18 ∨ k = 7
  · rcases h with rfl | rfl | rfl | rfl | rfl | rfl
    all_goals
      go_enter Tryd.func202, Tryd.ntmps202
      go_wp2_with fail
      go_ret
      exact ⟨by rw [hr.out]; simp, Ext.refl _ _⟩
  · have H := Lib.hid h
    have h1 : (k == 4) = false := by simp; omega
    have h2 : (k == 5) = false := by simp; omega
    have h3 : (k == 12) = false := by simp; omega
    have h4 : (k == 16) = false := by simp; omega
    have h5 : (k == 18) = false := by simp; omega
    have h6 : (k == 7) = false := by simp; omega
    clear h
    go_enter Tryd.func202, Tryd.ntmps202
    go_wp2_with fail
    go_ret
    have h := H.out
    exact ⟨by rw [hr.out, if_neg (by omega), if_neg (by omega)]; rfl, Ext.refl _ _⟩
set_option maxHeartbeats 400000 in
theorem refBelow {w : World} {x y : Value} (k n a kid b : Int) : Calls Tryd.prog 191 #[.agg #[.int .i64 k, .int .i64 n, .int .i64 a, x, y], .int .i64 kid, .int .i64 b] w (PV w (.int .i64 (downI k kid b))) := by
  go_enter Tryd.func191, Tryd.ntmps191
  go_wp2_with fail
  refine (refBinds k kid).mono ?_
  rintro e w1 ⟨rfl, hx1⟩
  have hx0 : Ext no w _ := Ext.seq (by repeat (first | with_reducible assumption | with_reducible exact Ext.refl _ _ | with_reducible refine Ext.alloc ?_ _ | with_reducible refine Ext.drew ?_ | with_reducible refine Ext.drewN ?_ _ | with_reducible refine Ext.setR ?_ ?_ _ | (dsimp only; omega) | (simp; done) | (simp; omega))) hx1
  obtain ⟨hc_, hf_, hz_⟩ := Ext.rules hx1
  simp only [World.size_alloc] at hz_
  cases hb : binds k kid
  · have E := Lib.hid (show downI k kid b = b by simp [downI, hb])
    clear hb
    go_wp2_with fail
    go_ret
    exact ⟨by rw [E.out]; rfl, hx0⟩
  · have E := Lib.hid (show downI k kid b = wrap64 (b + 1) by simp [downI, hb])
    clear hb
    go_wp2_with fail
    go_ret
    exact ⟨by rw [E.out]; rfl, hx0⟩
/-- with: the head copied, other kids. -/
def PWith (w : World) (k n a : Int) (ls : List Lv) (K : Value) (e : Ending) (w' : World) : Prop := ∃ A4 c4, e = .returned (.agg #[.int .i64 k, .int .i64 n, .int .i64 a, .slice A4 ls.length c4, K]) ∧ Acc w w' 33 1 (ls.map lvD) (.slice A4 ls.length c4) ∧ Ext no w w'
theorem Acc.old {w W w' : World} {e z : Nat} {ds : List D} {v : Value} (h : Acc W w' e z ds v) (hw : Ext no w W) : Acc w w' e z ds v := by
  obtain ⟨L, h1, h2⟩ := h
  exact ⟨L, h1.ge hw.size, h2⟩
set_option maxHeartbeats 1000000 in
theorem refWith {w : World} {S : Nat → Prop} {k n a : Int} {ls : List Lv} {A : Option Addr} {ca : Nat} {K0 K1 : Option Addr} {m0 k0 m1 k1 : Nat} (h : RC w S (.l 33 1 (ls.map lvD)) [.slice A ls.length ca]) :
    Calls Tryd.prog 192 #[.agg #[.int .i64 k, .int .i64 n, .int .i64 a, .slice A ls.length ca, .slice K0 m0 k0], .slice K1 m1 k1] w (PWith w k n a ls (.slice K1 m1 k1)) := by
  go_enter Tryd.func192, Tryd.ntmps192
  go_wp2_with fail
  refine (refLevels (h.ext0 (by repeat (first | with_reducible assumption | with_reducible exact Ext.refl _ _ | with_reducible refine Ext.alloc ?_ _ | with_reducible refine Ext.drew ?_ | with_reducible refine Ext.drewN ?_ _ | with_reducible refine Ext.setR ?_ ?_ _ | (dsimp only; omega) | (simp; done) | (simp; omega)))) rfl).mono ?_
  rintro e w1 ⟨A4, c4, rfl, hacc, hx1⟩
  simp only [List.length_map] at hacc ⊢
  have hx0 : Ext no w w1 := Ext.seq (by repeat (first | with_reducible assumption | with_reducible exact Ext.refl _ _ | with_reducible refine Ext.alloc ?_ _ | with_reducible refine Ext.drew ?_ | with_reducible refine Ext.drewN ?_ _ | with_reducible refine Ext.setR ?_ ?_ _ | (dsimp only; omega) | (simp; done) | (simp; omega))) hx1
  have hsz := hx1.size
  simp [World.setCell] at hsz
  have b0 := ((Blk.new (w := w) rfl).alloc _).ext0 hx1
  have b1 := (Blk.new (w := w.alloc _) (g := w.heap.size + 1) (by simp)).ext0 hx1
  have c0 := b0.cells
  have f0 := b0.frz
  have c1 := b1.cells
  have f1 := b1.frz
  go_wp2_with fail
  refine bodyPost_ret (v := .agg #[.int .i64 k, .int .i64 n, .int .i64 a, .slice A4 ls.length c4, .slice K1 m1 k1]) (by simp [results, Tryd.results192, go_sem, c1]) rfl ⟨A4, c4, rfl, ?_, (by repeat (first | with_reducible assumption | with_reducible exact Ext.refl _ _ | with_reducible refine Ext.alloc ?_ _ | with_reducible refine Ext.drew ?_ | with_reducible refine Ext.drewN ?_ _ | with_reducible refine Ext.setR ?_ ?_ _ | (dsimp only; omega) | (simp; done) | (simp; omega)))⟩
  exact (hacc.frame (X := fun x => x < w.heap.size + 1 + 1) (by repeat (first | with_reducible exact Ext.refl _ _ | with_reducible refine Ext.alloc ?_ _ | with_reducible refine Ext.drew ?_ | with_reducible refine Ext.drewN ?_ _ | with_reducible refine Ext.setL ?_ ?_ _ | (dsimp only; omega) | (simp; done) | (simp; omega) | (simp [Value.ownBlock]; omega))) (fun x h _ e => by simp at h; omega)).old (by repeat (first | with_reducible assumption | with_reducible exact Ext.refl _ _ | with_reducible refine Ext.alloc ?_ _ | with_reducible refine Ext.drew ?_ | with_reducible refine Ext.drewN ?_ _ | with_reducible refine Ext.setR ?_ ?_ _ | (dsimp only; omega) | (simp; done) | (simp; omega)))

/-- The world, the node's box: what the reference's lift holds behind its test. -/
def LiftCut (w : World) (n fr b : Int) (t : Tm) (A K : Option Addr) (ca ck : Nat) (wx : World) : Prop :=
  Blk wx w.heap.size 26 #[.int .i64 t.k, .int .i64 (if outer b fr t then wrap64 (t.n + n) else t.n), .int .i64 t.a, .slice A t.ls.length ca, .slice K t.ks.length ck] ∧
  Blk wx (w.heap.size + 1) 26 #[.int .i64 0, .int .i64 0, .int .i64 0, .slice none 0 0, .slice none 0 0] ∧ Ext no w wx
set_option maxRecDepth 100000 in
set_option maxHeartbeats 2000000 in
theorem reflift (n fr : Int) : ∀ (t : Tm) (w : World) (S : Nat → Prop) (b : Int) (v : Value), inI b → TV w S t v →
    Calls Tryd.prog 189 #[v, .int .i64 n, .int .i64 fr, .int .i64 b] w (PTm w (walkT (liftF n fr) b t)) := by
  intro t
  induction t using Tm.ind_ with
  | h tk tn ta ls ks ih =>
  rintro w S b v hb ⟨A0, ca, K0, ck, rfl, hrc⟩
  obtain ⟨_, _, _, _, he, i1, i2, i3, hls, hks⟩ := RC.tm.1 hrc
  simp only [List.cons.injEq, Value.slice.injEq, and_true, true_and] at he
  obtain ⟨⟨rfl, rfl⟩, rfl, rfl⟩ := he
  have Hih := Lib.hid ih
  clear ih hrc
  simp only [Tm.k_mk, Tm.n_mk, Tm.a_mk, Tm.ls_mk, Tm.ks_mk] at hls hks i1 i2 i3 ⊢
  have hM := hks.lenM
  go_enter Tryd.func189, Tryd.ntmps189
  go_upto_region 1 with fail
  go_cut [27] (fun s wx => s = .bool (outer b fr (.mk tk tn ta ls ks)) ∧ Blk wx w.heap.size 26 #[.int .i64 tk, .int .i64 tn, .int .i64 ta, .slice A0 ls.length ca, .slice K0 ks.length ck] ∧
    Blk wx (w.heap.size + 1) 26 #[.int .i64 0, .int .i64 0, .int .i64 0, .slice none 0 0, .slice none 0 0] ∧ Ext no w wx)
  case first =>
    have fin : ∀ (q : Bool), outer b fr (.mk tk tn ta ls ks) = q → ∀ wx, wx = (w.alloc (.cells #[.int .i64 tk, .int .i64 tn, .int .i64 ta, .slice A0 ls.length ca, .slice K0 ks.length ck] 26)).alloc (.cells #[.int .i64 0, .int .i64 0, .int .i64 0, .slice none 0 0, .slice none 0 0] 26) →
        Value.bool q = .bool (outer b fr (.mk tk tn ta ls ks)) ∧ Blk wx w.heap.size 26 #[.int .i64 tk, .int .i64 tn, .int .i64 ta, .slice A0 ls.length ca, .slice K0 ks.length ck] ∧
        Blk wx (w.heap.size + 1) 26 #[.int .i64 0, .int .i64 0, .int .i64 0, .slice none 0 0, .slice none 0 0] ∧ Ext no w wx := by
      rintro q rfl wx rfl
      exact ⟨rfl, (Blk.new rfl).alloc _, Blk.new (by simp), ((Ext.refl _ _).alloc _).alloc _⟩
    have Fin := Lib.hid fin
    clear fin
    by_cases h1 : tk = 1
    · have g1 : (tk == 1) = true := by simpa using h1
      by_cases h2 : b ≤ tn
      · have g2 : decide (b ≤ tn) = true := by simpa using h2
        by_cases h3 : fr ≤ wrap64 (tn - b)
        · have g3 : decide (fr ≤ wrap64 (tn - b)) = true := by simpa using h3
          have E := Lib.hid (show outer b fr (.mk tk tn ta ls ks) = true by simp [outer, Tm.k_mk, Tm.n_mk, h1, h2, h3])
          clear h1 h2 h3
          go_wp2_with fail
          go_meet
          case rel => exact Fin.out _ E.out _ rfl
        · have g3 : decide (fr ≤ wrap64 (tn - b)) = false := by simpa using h3
          have E := Lib.hid (show outer b fr (.mk tk tn ta ls ks) = false by simp [outer, Tm.k_mk, Tm.n_mk, h1, h2, h3])
          clear h1 h2 h3
          go_wp2_with fail
          go_meet
          case rel => exact Fin.out _ E.out _ rfl
      · have g2 : decide (b ≤ tn) = false := by simpa using h2
        have E := Lib.hid (show outer b fr (.mk tk tn ta ls ks) = false by simp [outer, Tm.k_mk, Tm.n_mk, h1, h2])
        clear h1 h2
        go_wp2_with fail
        go_meet
        case rel => exact Fin.out _ E.out _ rfl
    · have g1 : (tk == 1) = false := by simpa using h1
      have E := Lib.hid (show outer b fr (.mk tk tn ta ls ks) = false by simp [outer, Tm.k_mk, h1])
      clear h1
      go_wp2_with fail
      go_meet
      case rel => exact Fin.out _ E.out _ rfl
  case rest =>
    obtain ⟨rfl, b0, b1, hx0⟩ := hcut
    go_upto_if 27 with fail
    go_cut [] (fun wx => LiftCut w n fr b (.mk tk tn ta ls ks) A0 K0 ca ck wx)
    case first =>
      have c0 := b0.cells
      have f0 := b0.frz
      have i0 := b0.lt
      cases hq : outer b fr (.mk tk tn ta ls ks)
      · have Hq := Lib.hid hq
        clear hq
        go_wp2_with fail
        go_meet
        case rel => exact ⟨by rw [Hq.out]; exact b0, b1, hx0⟩
      · have Hq := Lib.hid hq
        clear hq
        go_wp2_with fail
        go_meet
        case rel => exact ⟨by rw [Hq.out]; exact b0.set 1 _, b1.far (by simp) _, (by repeat (first | with_reducible assumption | with_reducible exact Ext.refl _ _ | with_reducible refine Ext.alloc ?_ _ | with_reducible refine Ext.drew ?_ | with_reducible refine Ext.drewN ?_ _ | with_reducible refine Ext.setR ?_ ?_ _ | (dsimp only; omega) | (simp; done) | (simp; omega)))⟩
    case rest =>
      obtain ⟨b0, b1, hx0⟩ := hcut
      simp only [Tm.k_mk, Tm.n_mk, Tm.a_mk, Tm.ls_mk, Tm.ks_mk] at b0
      have hN : inI (if outer b fr (.mk tk tn ta ls ks) then wrap64 (tn + n) else tn) := by split <;> first | exact i2 | exact wrap64_inI _
      generalize hN0 : (if outer b fr (.mk tk tn ta ls ks) then wrap64 (tn + n) else tn) = n' at b0 hN
      have HN := Lib.hid hN0
      clear hN0
      have c0 := b0.cells
      have l0 := b0.lt
      have l1 := b1.lt
      go_wp2_with fail
      go_loopw [9, 10] (fun out i wr => ∃ j : Nat, j ≤ ks.length ∧ i = .int .i64 j ∧ Acc wc wr 26 5 (((walkTs (liftF n fr) tk b 0 ks).take j).map Tm.d) out ∧ Ext no wc wr) (fun _ i _ => ks.length - (intOf i).toNat)
      case atStart => exact ⟨0, Nat.zero_le _, rfl, Acc.nil, Ext.refl _ _⟩
      case round =>
        obtain ⟨j, hj, rfl, hacc, hext⟩ := hrel
        have hs0 := b0.ext0 hext
        have hsz := hext.size
        by_cases hlt : j < ks.length
        · obtain ⟨bb, oo, A2, c2, K2, d2, rfl, hb2, hS2, hrc2, h0, h1, h2, h3, h4⟩ := ((hks.bd.ext0 hx0).ext0 hext).atTm hlt
          have hSb := hS2.2
          obtain ⟨Ao, co, rfl⟩ := hacc.sliceN (n := j) (by simp [walkTs_len]; omega)
          have HC := Lib.hid (show Cells wr.drew [(⟨w.heap.size, 0, none⟩, .int .i64 tk), (⟨w.heap.size, 1, none⟩, .int .i64 n'), (⟨w.heap.size, 2, none⟩, .int .i64 ta), (⟨w.heap.size, 3, none⟩, .slice A0 ls.length ca), (⟨w.heap.size, 4, none⟩, .slice (some ⟨bb, oo, none⟩) ks.length ck), (⟨bb, oo + j * 5, none⟩, .int .i64 ks[j].k), (⟨bb, oo + j * 5 + 1, none⟩, .int .i64 ks[j].n), (⟨bb, oo + j * 5 + 2, none⟩, .int .i64 ks[j].a), (⟨bb, oo + j * 5 + 3, none⟩, .slice A2 ks[j].ls.length c2), (⟨bb, oo + j * 5 + 4, none⟩, .slice K2 ks[j].ks.length d2)] from ⟨hs0.cells 0, hs0.cells 1, hs0.cells 2, hs0.cells 3, hs0.cells 4, h0, h1, h2, h3, h4, trivial⟩)
          have c0 := hs0.cells 4
          clear h0 h1 h2 h3 h4
          go_wp2_with fail
          clear c0
          refine wp_region_L (fun w' => Cells w' [(⟨w.heap.size, 0, none⟩, .int .i64 tk), (⟨w.heap.size, 1, none⟩, .int .i64 n'), (⟨w.heap.size, 2, none⟩, .int .i64 ta), (⟨w.heap.size, 3, none⟩, .slice A0 ls.length ca), (⟨w.heap.size, 4, none⟩, .slice (some ⟨bb, oo, none⟩) ks.length ck), (⟨bb, oo + j * 5, none⟩, .int .i64 ks[j].k), (⟨bb, oo + j * 5 + 1, none⟩, .int .i64 ks[j].n), (⟨bb, oo + j * 5 + 2, none⟩, .int .i64 ks[j].a), (⟨bb, oo + j * 5 + 3, none⟩, .slice A2 ks[j].ls.length c2), (⟨bb, oo + j * 5 + 4, none⟩, .slice K2 ks[j].ks.length d2)]) [] (by kernel_rfl) ?_
          refine wpL_take (i := 0) (v := ?v1_) rfl (by kernel_rfl) (fun _ _ _ h => h) HC.out (by rfl) (fun w_ hw_ => ?h1_) ?_
          case h1_ => (try simp only [Cells_cons, Cells_nil, and_true] at hw_); go_split_ands; go_simp; try with_reducible rfl
          simp only [List.getElem_toArray, List.getElem_cons_zero, List.getElem_cons_succ, Act.put, List.setIfInBounds_toArray, List.set_cons_zero, List.set_cons_succ]
          refine wpL_take (i := 1) (v := ?v2_) rfl (by kernel_rfl) (fun _ _ _ h => h) HC.out (by rfl) (fun w_ hw_ => ?h2_) ?_
          case h2_ => (try simp only [Cells_cons, Cells_nil, and_true] at hw_); go_split_ands; go_simp; try with_reducible rfl
          simp only [List.getElem_toArray, List.getElem_cons_zero, List.getElem_cons_succ, Act.put, List.setIfInBounds_toArray, List.set_cons_zero, List.set_cons_succ]
          refine wpL_take (i := 2) (v := ?v3_) rfl (by kernel_rfl) (fun _ _ _ h => h) HC.out (by rfl) (fun w_ hw_ => ?h3_) ?_
          case h3_ => (try simp only [Cells_cons, Cells_nil, and_true] at hw_); go_split_ands; go_simp; try with_reducible rfl
          simp only [List.getElem_toArray, List.getElem_cons_zero, List.getElem_cons_succ, Act.put, List.setIfInBounds_toArray, List.set_cons_zero, List.set_cons_succ]
          refine wpL_take (i := 3) (v := ?v4_) rfl (by kernel_rfl) (fun _ _ _ h => h) HC.out (by rfl) (fun w_ hw_ => ?h4_) ?_
          case h4_ => (try simp only [Cells_cons, Cells_nil, and_true] at hw_); go_split_ands; go_simp; try with_reducible rfl
          simp only [List.getElem_toArray, List.getElem_cons_zero, List.getElem_cons_succ, Act.put, List.setIfInBounds_toArray, List.set_cons_zero, List.set_cons_succ]
          refine wpL_take (i := 4) (v := ?v5_) rfl (by kernel_rfl) (fun _ _ _ h => h) HC.out (by rfl) (fun w_ hw_ => ?h5_) ?_
          case h5_ => (try simp only [Cells_cons, Cells_nil, and_true] at hw_); go_split_ands; go_simp; try with_reducible rfl
          simp only [List.getElem_toArray, List.getElem_cons_zero, List.getElem_cons_succ, Act.put, List.setIfInBounds_toArray, List.set_cons_zero, List.set_cons_succ]
          refine wpL_take (i := 5) (v := ?v6_) rfl (by kernel_rfl) (fun _ _ _ h => h) HC.out (by rfl) (fun w_ hw_ => ?h6_) ?_
          case h6_ => (try simp only [Cells_cons, Cells_nil, and_true] at hw_); go_split_ands; go_simp; try with_reducible rfl
          simp only [List.getElem_toArray, List.getElem_cons_zero, List.getElem_cons_succ, Act.put, List.setIfInBounds_toArray, List.set_cons_zero, List.set_cons_succ]
          refine wpL_take (i := 6) (v := ?v7_) rfl (by kernel_rfl) (fun _ _ _ h => h) HC.out (by rfl) (fun w_ hw_ => ?h7_) ?_
          case h7_ => (try simp only [Cells_cons, Cells_nil, and_true] at hw_); go_split_ands; go_simp; try with_reducible rfl
          simp only [List.getElem_toArray, List.getElem_cons_zero, List.getElem_cons_succ, Act.put, List.setIfInBounds_toArray, List.set_cons_zero, List.set_cons_succ]
          refine wpL_take (i := 7) (v := ?v8_) rfl (by kernel_rfl) (fun _ _ _ h => h) HC.out (by rfl) (fun w_ hw_ => ?h8_) ?_
          case h8_ => (try simp only [Cells_cons, Cells_nil, and_true] at hw_); go_split_ands; go_simp; try with_reducible rfl
          simp only [List.getElem_toArray, List.getElem_cons_zero, List.getElem_cons_succ, Act.put, List.setIfInBounds_toArray, List.set_cons_zero, List.set_cons_succ]
          refine wpL_take (i := 8) (v := ?v9_) rfl (by kernel_rfl) (fun _ _ _ h => h) HC.out (by rfl) (fun w_ hw_ => ?h9_) ?_
          case h9_ => (try simp only [Cells_cons, Cells_nil, and_true] at hw_); go_split_ands; go_simp; try with_reducible rfl
          simp only [List.getElem_toArray, List.getElem_cons_zero, List.getElem_cons_succ, Act.put, List.setIfInBounds_toArray, List.set_cons_zero, List.set_cons_succ]
          refine wpL_take (i := 9) (v := ?v10_) rfl (by kernel_rfl) (fun _ _ _ h => h) HC.out (by rfl) (fun w_ hw_ => ?h10_) ?_
          case h10_ => (try simp only [Cells_cons, Cells_nil, and_true] at hw_); go_split_ands; go_simp; try with_reducible rfl
          simp only [List.getElem_toArray, List.getElem_cons_zero, List.getElem_cons_succ, Act.put, List.setIfInBounds_toArray, List.set_cons_zero, List.set_cons_succ]
          refine wpL_take (i := 10) (v := ?v11_) rfl (by kernel_rfl) (fun _ _ _ h => h) HC.out (by rfl) (fun w_ hw_ => ?h11_) ?_
          case h11_ => (try simp only [Cells_cons, Cells_nil, and_true] at hw_); go_split_ands; go_simp; try with_reducible rfl
          simp only [List.getElem_toArray, List.getElem_cons_zero, List.getElem_cons_succ, Act.put, List.setIfInBounds_toArray, List.set_cons_zero, List.set_cons_succ]
          refine wpL_do (i := 11) rfl (by kernel_rfl) (by rfl) (fun K_ hK_ => ?_)
          go_simp
          refine (refBelow _ _ _ _ _).mono ?_
          rintro e w2 ⟨rfl, hx2⟩
          refine hK_ _ _ (fun _ => HC.out.keep hx2) (fun hS2 => ?_)
          have HC2 := Lib.hid (hS2 (by decide))
          clear hS2
          refine wpL_do (i := 12) rfl (by kernel_rfl) (by rfl) (fun K_ hK_ => ?_)
          go_simp
          refine (Hih.out ks[j] (by simp) _ _ (downI tk j b) _ (downI_inI _ _ hb) ⟨_, _, _, _, rfl, (hrc2.ext0 hx2.undrew)⟩).mono ?_
          rintro e w3 ⟨v, rfl, ⟨A5, c5, K5, d5, L5, rfl, hro5, hnd5⟩, hx3⟩
          refine hK_ _ _ (fun _ => HC2.out.keep hx3) (fun hS3 => ?_)
          have HC3 := Lib.hid (hS3 (by decide))
          clear hS3
          refine wpL_do (i := 13) rfl (by kernel_rfl) (by rfl) (fun K_ hK_ => ?_)
          go_simp
          refine hK_ _ _ (fun _ => HC3.out.keep ((Ext.refl _ _).alloc _)) (fun hS4 => ?_)
          have HC4 := Lib.hid (hS4 (by decide))
          clear hS4
          refine wpL_do (i := 14) rfl (by kernel_rfl) (by rfl) (fun K_ hK_ => ?_)
          refine wp_push1 (.tmp 40) (.tmp 53) 24 rfl stTerms hacc hro5 hnd5 hx2.size (hx2.undrew.seq hx3) ((Ext.refl _ _).alloc _) hsz (Tm.size_d _) (by simp [M]; omega) rfl rfl (heap_alloc_new _ _) ?_
          intro v' w4 hacc4 hx4
          have l0 := b0.lt
          refine hK_ _ _ (fun _ => HC4.out.ext hx4 (by simp; omega)) (fun hS5 => ?_)
          have HC5 := Lib.hid (hS5 (by decide))
          clear hS5
          refine wpL_take (i := 15) (v := ?v12_) rfl (by kernel_rfl) (fun _ _ _ h => h) HC5.out (by rfl) (fun w_ hw_ => ?h12_) ?_
          case h12_ => (try simp only [Cells_cons, Cells_nil, and_true] at hw_); go_split_ands; go_simp; try with_reducible rfl
          simp only [List.getElem_toArray, List.getElem_cons_zero, List.getElem_cons_succ, Act.put, List.setIfInBounds_toArray, List.set_cons_zero, List.set_cons_succ]
          refine wpL_done (by kernel_rfl) ?_ _
          have HA := Lib.hid hacc4
          have HX := Lib.hid (((hext.seq (hx2.undrew.seq hx3)).alloc _).old hx4 (fun i hi h => by omega))
          have hj' : j < (walkTs (liftF n fr) tk b 0 ks).length := by rw [walkTs_len]; exact hlt
          clear hacc4 hx4 hx3 hx2 hacc hro5 hnd5
          go_wp2_with fail
          go_roundw
          case rel =>
            refine ⟨j + 1, by omega, by first | go_num | rfl | simp, ?_, HX.out⟩
            rw [take_map _ hj', walkTs_get _ _ _ _ _ _ hlt]
            simp only [Nat.zero_add]
            exact HA.out
          case measure => simp [intOf]; omega
        · obtain ⟨Ao, co, rfl⟩ := hacc.sliceN (n := ks.length) (by simp [walkTs_len]; omega)
          have c0 := hs0.cells
          go_wp2_with fail
          refine (refWith (k := tk) (ls := ls) (S := S) ((hls.ext0 hx0).ext0 hext)).mono ?_
          rintro e w2 ⟨A4, c4, rfl, hacc4, hx2⟩
          have hxr : Ext no wc w2 := hext.seq hx2
          have b1r := b1.ext0 hxr
          have c1 := b1r.cells
          have f1 := b1r.frz
          have l1 := b1.lt
          have hw : walkT (liftF n fr) b (.mk tk tn ta ls ks) = .mk tk n' ta ls (walkTs (liftF n fr) tk b 0 ks) := by rw [walkT]; simp only [liftF, Tm.k_mk, Tm.n_mk, Tm.a_mk, Tm.ls_mk, HN.out]
          have Hw := Lib.hid hw
          clear hw c0 hs0
          have hlen : (walkTs (liftF n fr) tk b 0 ks).length = ks.length := walkTs_len _ _ _ _ _
          obtain ⟨L4, hro4, hnd4⟩ := hacc4
          obtain ⟨L5, hro5, hnd5⟩ := hacc
          rw [take_all (by rw [hlen]; exact hlt)] at hro5
          have hL5 : ∀ x ∈ L5, wc.heap.size ≤ x ∧ x < wr.heap.size := fun x hx => ⟨(RO.lt _ _ _ hro5 x hx).1, (RO.lt _ _ _ hro5 x hx).2⟩
          have HL := Lib.hid hlen
          clear hlen
          have hw0 := hx0.size
          go_wp2_with fail
          refine bodyPost_ret (v := .agg #[.int .i64 tk, .int .i64 n', .int .i64 ta, .slice A4 ls.length c4, .slice Ao ks.length co]) (by simp [results, Tryd.results189, go_sem, c1]) rfl ⟨_, rfl, ?_, ?_⟩
          · rw [Hw.out]
            refine ⟨A4, c4, Ao, co, L4 ++ L5, by simp only [Tm.k_mk, Tm.n_mk, Tm.a_mk, Tm.ls_mk, Tm.ks_mk, HL.out], RO.tm.2 ⟨_, _, L4, L5, by simp only [Tm.k_mk, Tm.n_mk, Tm.a_mk, Tm.ls_mk, Tm.ks_mk]; rfl, rfl, i1, hN, i3, ?_, ?_⟩, ?_⟩
            · exact (hro4.ext (Ext.set5 w2 (w.heap.size + 1) _ _ _ _ _) (fun x h1 _ e => by have e : x = w.heap.size + 1 := e; omega)).ge (by omega)
            · simp only [Tm.ks_mk, HL.out]
              exact ((hro5.ext hx2 (fun _ _ _ => no_not)).ext (Ext.set5 w2 (w.heap.size + 1) _ _ _ _ _) (fun x h1 _ e => by have e : x = w.heap.size + 1 := e; omega)).ge (by omega)
            · refine List.nodup_append.2 ⟨hnd4, hnd5, fun x hx y hy e => ?_⟩
              have := (RO.lt _ _ _ hro4 x hx).1
              have := (hL5 y hy).2
              omega
          · refine (hx0.seq hxr).old (Ext.set5 w2 (w.heap.size + 1) _ _ _ _ _) (fun x h1 e => ?_)
            have e : x = w.heap.size + 1 := e
            omega
/-- The reference's Lift computes what the program's does. -/
theorem refLift {w : World} {S : Nat → Prop} {t : Tm} {v : Value} (n fr : Int) (hv : TV w S t v) : Calls Tryd.prog 151 #[v, .int .i64 n, .int .i64 fr] w (PTm w (liftT t n fr)) := by
  obtain ⟨A0, ca, K0, ck, rfl, hrc⟩ := hv
  go_enter Tryd.func151, Tryd.ntmps151
  go_wp2_with fail
  refine (reflift n fr t _ S 0 _ (by constructor <;> omega) ⟨_, _, _, _, rfl, hrc.ext0 (by repeat (first | with_reducible assumption | with_reducible exact Ext.refl _ _ | with_reducible refine Ext.alloc ?_ _ | with_reducible refine Ext.drew ?_ | with_reducible refine Ext.drewN ?_ _ | with_reducible refine Ext.setR ?_ ?_ _ | (dsimp only; omega) | (simp; done) | (simp; omega)))⟩).mono ?_
  rintro e w1 ⟨v, rfl, ⟨A1, c1, K1, k1, L, rfl, hro, hnd⟩, hx1⟩
  have hx0 : Ext no w _ := Ext.seq (by repeat (first | with_reducible assumption | with_reducible exact Ext.refl _ _ | with_reducible refine Ext.alloc ?_ _ | with_reducible refine Ext.drew ?_ | with_reducible refine Ext.drewN ?_ _ | with_reducible refine Ext.setR ?_ ?_ _ | (dsimp only; omega) | (simp; done) | (simp; omega))) hx1
  obtain ⟨hc_, hf_, hz_⟩ := Ext.rules hx1
  simp only [World.size_alloc] at hz_
  have b3 := (Blk.new (g := w.heap.size + 1) (by simp)).ext0 hx1
  have c3 := b3.cells
  have f3 := b3.frz
  go_wp2_with fail
  refine bodyPost_ret (v := .agg #[.int .i64 (walkT (liftF n fr) 0 t).k, .int .i64 (walkT (liftF n fr) 0 t).n, .int .i64 (walkT (liftF n fr) 0 t).a, .slice A1 (walkT (liftF n fr) 0 t).ls.length c1, .slice K1 (walkT (liftF n fr) 0 t).ks.length k1]) (by simp [results, Tryd.results151, go_sem, c3]) rfl ⟨_, rfl, ⟨A1, c1, K1, k1, _, rfl, (hro.ext (Ext.set5 _ _ _ _ _ _ _) (fun x h1 _ e => by first | omega | (simp at h1; omega))).ge (by first | omega | (simp; omega)), hnd⟩, hx0.old (Ext.set5 _ _ _ _ _ _ _) (fun x h1 e => by omega)⟩
end Go.Proofs.YtmedomglemllnaaDoor
/- References 02, 04, 12: free, Count, Self, some: contracts. No statement of the seat is proved here. -/
namespace Go.Proofs.YtmedomglemllnaaDoor
set_option linter.unusedSimpArgs false
set_option linter.unusedVariables false
open Go.RowKit

def RefSelfOK (t : Tm) : Prop := ∀ (w : World) (S : Nat → Prop) (v : Value), TV w S t v → Calls Tryd.prog 194 #[v] w (PV w (.bool (selfT t)))
set_option maxRecDepth 100000 in
set_option maxHeartbeats 4000000 in
theorem refSome {w : World} {S : Nat → Prop} {ts : List Tm} {A : Option Addr} {c : Nat} (ih : ∀ t ∈ ts, RefSelfOK t) (h : RC w S (.l 26 5 (ts.map Tm.d)) [.slice A ts.length c]) :
    Calls Tryd.prog 158 #[.slice A ts.length c] w (PV w (.bool (ts.any selfT))) := by
  have HI := Lib.hid ih
  have hM := h.lenM
  clear ih
  go_enter Tryd.func158, Tryd.ntmps158
  have H := Hp.start no w
  go_wp2_with fail
  go_loopw [3] (fun i wr => ∃ j : Nat, j ≤ ts.length ∧ i = .int .i64 j ∧ Hid ((ts.take j).any selfT = false) ∧ Hp no w wr []) (fun i _ => ts.length - (intOf i).toNat)
  case atStart => exact ⟨0, Nat.zero_le _, rfl, Lib.hid (by simp), H⟩
  case round =>
    clear H
    obtain ⟨j, hj, rfl, HA, H⟩ := hrel
    by_cases hlt : j < ts.length
    · obtain ⟨b, o, A1, ca1, K1, ck1, rfl, hb, hS, hd, p0, p1, p2, p3, p4⟩ := h.atTm hlt
      have HD := Lib.hid hd
      clear hd
      have hr_ := H.rules; simp only [Rules, and_true] at hr_; have hd_ := H.dif; simp only [Dif, Neq, and_true] at hd_; obtain ⟨ho_, hz_⟩ := H.old0
      go_wp2_with fail
      (try clear hr_ hd_ ho_ hz_)
      refine callsH (by (repeat (first | with_reducible exact H | with_reducible exact H0_ | with_reducible apply Hp.alloc | with_reducible apply Hp.allocMap | with_reducible apply Hp.drew | with_reducible apply Hp.drewN | with_reducible apply Hp.set)); (try any_goals (repeat (first | with_reducible exact Upd.head | with_reducible apply Upd.tail)))) ?_
      clear H; intro w2 H; (try simp only [size_drew_, size_drewN_, World.size_alloc, World.size_setCell, List.set_cons_zero, List.set_cons_succ] at H)
      refine (HI.out ts[j] (List.getElem_mem hlt) _ _ _ ⟨_, _, _, _, rfl, HD.out.ext0 H.ext⟩).mono ?_
      rintro e w_ ⟨rfl, hx⟩
      replace H := H.call hx
      clear hx
      cases hq : selfT ts[j]
      · have HQ2 := Lib.hid hq
        clear hq
        go_wp2_with fail
        go_roundw
        case rel => exact ⟨j + 1, by omega, by first | go_num | rfl | simp, Lib.hid (any_take hlt HA.out HQ2.out), H⟩
        case measure => simp [intOf]; omega
      · have HE : Hid (ts.any selfT = true) := Lib.hid (any_at hlt hq)
        clear hq
        go_wp2_with fail
        go_ret
        exact ⟨by rw [HE.out]; rfl, H.ext⟩
    · have HE : Hid (ts.any selfT = false) := by
        unfold Hid
        have := HA.out
        rwa [List.take_of_length_le (by omega)] at this
      have hr_ := H.rules; simp only [Rules, and_true] at hr_; have hd_ := H.dif; simp only [Dif, Neq, and_true] at hd_; obtain ⟨ho_, hz_⟩ := H.old0
      go_wp2_with fail
      go_ret
      exact ⟨by rw [HE.out]; rfl, H.ext⟩
set_option maxRecDepth 100000 in
set_option maxHeartbeats 4000000 in
theorem refSelf_calls : ∀ t : Tm, RefSelfOK t := by
  intro t
  induction t using Tm.ind_ with
  | h k n a ls ks ih =>
  rintro w S v ⟨A0, ca, K0, ck, rfl, hrc⟩
  obtain ⟨_, _, _, _, he, _, _, _, hls, hks⟩ := RC.tm.1 hrc
  simp only [Tm.ls_mk, Tm.ks_mk, Tm.k_mk, Tm.n_mk, Tm.a_mk, List.cons.injEq, Value.slice.injEq, and_true, true_and] at he hls hks hrc ⊢
  obtain ⟨⟨rfl, rfl⟩, rfl, rfl⟩ := he
  have HK := Lib.hid hks
  have HI := Lib.hid ih
  clear hrc ih hls hks
  by_cases h11 : k = 11
  · have HE : Hid (selfT (.mk k n a ls ks) = true) := by unfold Hid selfT; rw [anyT]; simp [h11]
    go_enter Tryd.func194, Tryd.ntmps194
    have g1 : (k == 11) = true := by simpa using h11
    clear h11
    have H := Hp.start no w
    go_wp2_with fail
    go_ret
    exact ⟨by rw [HE.out]; rfl, (Ext.refl _ _).alloc _⟩
  · have HE : Hid (selfT (.mk k n a ls ks) = ks.any selfT) := by
      unfold Hid selfT
      rw [anyT, anyTs_any]
      simp [h11]
    go_enter Tryd.func194, Tryd.ntmps194
    have g1 : (k == 11) = false := by simpa using h11
    clear h11
    have H := Hp.start no w
    go_wp2_with fail
    refine callsH (by (repeat (first | with_reducible exact H | with_reducible exact H0_ | with_reducible apply Hp.alloc | with_reducible apply Hp.allocMap | with_reducible apply Hp.drew | with_reducible apply Hp.drewN | with_reducible apply Hp.set)); (try any_goals (repeat (first | with_reducible exact Upd.head | with_reducible apply Upd.tail)))) ?_
    clear H; intro w1 H; (try simp only [size_drew_, size_drewN_, World.size_alloc, World.size_setCell, List.set_cons_zero, List.set_cons_succ] at H)
    refine (refSome HI.out (HK.out.ext0 H.ext)).mono ?_
    rintro e w_ ⟨rfl, hx⟩
    replace H := H.call hx
    clear hx
    go_wp2_with fail
    go_ret
    exact ⟨by rw [HE.out]; rfl, H.ext⟩
def RefFreeOK (fr tt : Int) (t : Tm) : Prop := ∀ (w : World) (S : Nat → Prop) (v : Value) (b : Int), TV w S t v → Calls Tryd.prog 195 #[v, .int .i64 fr, .int .i64 tt, .int .i64 b] w (PV w (.bool (freeT fr tt b t)))
set_option maxRecDepth 100000 in
set_option maxHeartbeats 8000000 in
theorem refFree0_calls (fr tt : Int) : ∀ t : Tm, RefFreeOK fr tt t := by
  intro t
  induction t using Tm.ind_ with
  | h k n a ls ks ih =>
  rintro w S v b ⟨A0, ca, K0, ck, rfl, hrc⟩
  obtain ⟨_, _, _, _, he, _, _, _, hls, hks⟩ := RC.tm.1 hrc
  simp only [Tm.ls_mk, Tm.ks_mk, Tm.k_mk, Tm.n_mk, Tm.a_mk, List.cons.injEq, Value.slice.injEq, and_true, true_and] at he hls hks hrc ⊢
  obtain ⟨⟨rfl, rfl⟩, rfl, rfl⟩ := he
  have HI := Lib.hid ih
  have hM := hks.lenM
  clear hrc ih hls
  obtain ⟨q, hq⟩ : ∃ q, q = (decide (k = 1) && decide (b ≤ n) && decide (fr ≤ wrap64 (n - b)) && decide (wrap64 (n - b) < tt)) := ⟨_, rfl⟩
  have HF : Hid (freeT fr tt b (.mk k n a ls ks) = (q || freesT fr tt k b 0 ks)) := by unfold Hid; rw [freeT, hq]
  have HQ := Lib.hid hq
  have HKS := Lib.hid hks
  clear hq
  go_enter Tryd.func195, Tryd.ntmps195
  go_upto_region 1 with fail
  have H0 := (Hp.start no w).alloc [.int .i64 k, .int .i64 n, .int .i64 a, .slice A0 ls.length ca, .slice K0 ks.length ck] 26
  go_cut [34] (fun s wx => s = .bool q ∧ Hp no w wx [.box w.heap.size 26 [.int .i64 k, .int .i64 n, .int .i64 a, .slice A0 ls.length ca, .slice K0 ks.length ck]])
  case first =>
    have Fin := Lib.hid H0
    clear H0 hks
    by_cases h1 : k = 1
    · have g1 : (k == 1) = true := by simpa using h1
      by_cases h2 : b ≤ n
      · have g2 : decide (b ≤ n) = true := by simpa using h2
        by_cases h3 : fr ≤ wrap64 (n - b)
        · have g3 : decide (fr ≤ wrap64 (n - b)) = true := by simpa using h3
          by_cases h4 : wrap64 (n - b) < tt
          · have g4 : decide (wrap64 (n - b) < tt) = true := by simpa using h4
            have E := Lib.hid (show q = true by rw [HQ.out]; simp [h1, h2, h3, h4])
            clear h1 h2 h3 h4
            go_wp2_with fail
            go_meet
            case rel => exact ⟨by rw [E.out], Fin.out⟩
          · have g4 : decide (wrap64 (n - b) < tt) = false := by simpa using h4
            have E := Lib.hid (show q = false by rw [HQ.out]; simp [h1, h2, h3, h4])
            clear h1 h2 h3 h4
            go_wp2_with fail
            go_meet
            case rel => exact ⟨by rw [E.out], Fin.out⟩
        · have g3 : decide (fr ≤ wrap64 (n - b)) = false := by simpa using h3
          have E := Lib.hid (show q = false by rw [HQ.out]; simp [h1, h2, h3])
          clear h1 h2 h3
          go_wp2_with fail
          go_meet
          case rel => exact ⟨by rw [E.out], Fin.out⟩
      · have g2 : decide (b ≤ n) = false := by simpa using h2
        have E := Lib.hid (show q = false by rw [HQ.out]; simp [h1, h2])
        clear h1 h2
        go_wp2_with fail
        go_meet
        case rel => exact ⟨by rw [E.out], Fin.out⟩
    · have g1 : (k == 1) = false := by simpa using h1
      have E := Lib.hid (show q = false by rw [HQ.out]; simp [h1])
      clear h1
      go_wp2_with fail
      go_meet
      case rel => exact ⟨by rw [E.out], Fin.out⟩
  case rest =>
    obtain ⟨rfl, H⟩ := hcut
    clear H0
    cases q
    · have HG : Hid (freeT fr tt b (.mk k n a ls ks) = freesT fr tt k b 0 ks) := HF
      clear HF HQ
      go_wp2_with fail
      go_loopw [9] (fun i wr => ∃ j : Nat, j ≤ ks.length ∧ i = .int .i64 j ∧ Hid (freeT fr tt b (.mk k n a ls ks) = freesT fr tt k b j (ks.drop j)) ∧ Hp no w wr [.box w.heap.size 26 [.int .i64 k, .int .i64 n, .int .i64 a, .slice A0 ls.length ca, .slice K0 ks.length ck]]) (fun i _ => ks.length - (intOf i).toNat)
      case atStart => exact ⟨0, Nat.zero_le _, rfl, HG, H⟩
      case round =>
        clear H
        obtain ⟨j, hj, rfl, HA, H⟩ := hrel
        by_cases hlt : j < ks.length
        · obtain ⟨b_, o, A1, ca1, K1, ck1, rfl, hb, hS, hd, p0, p1, p2, p3, p4⟩ := HKS.out.atTm hlt
          have HD := Lib.hid hd
          have HS2 : Hid (freesT fr tt k b j (ks.drop j) = (freeT fr tt (downI k (j : Int) b) ks[j] || freesT fr tt k b (j + 1) (ks.drop (j + 1)))) := Lib.hid (freesT_drop (fr := fr) (k := k) (b := b) (ks := ks) hlt)
          clear hd
          have hr_ := H.rules; simp only [Rules, and_true] at hr_; have hd_ := H.dif; simp only [Dif, Neq, and_true] at hd_; obtain ⟨ho_, hz_⟩ := H.old0
          go_wp2_with fail
          (try clear hr_ hd_ ho_ hz_)
          refine regionH (by (repeat (first | with_reducible exact H | with_reducible exact H0_ | with_reducible apply Hp.alloc | with_reducible apply Hp.allocMap | with_reducible apply Hp.drew | with_reducible apply Hp.drewN | with_reducible apply Hp.set)); (try any_goals (repeat (first | with_reducible exact Upd.head | with_reducible apply Upd.tail)))) ?_
          clear H; intro w2 H; (try simp only [size_drew_, size_drewN_, World.size_alloc, World.size_setCell, List.set_cons_zero, List.set_cons_succ] at H)
          refine wp_region_H 12 [false, false, false, false, false, false, false, false, false, false, false, false] [] H (.cons (i := 0) rfl .nil) (by kernel_rfl) rfl rfl (fun H_ hR_ => ?_)
          (try clear H0_); have H0_ := H; clear H; have H := H_; clear H_
          refine wpL_reads (is := [(0, ?v1_0), (1, ?v1_1), (2, ?v1_2), (3, ?v1_3), (4, ?v1_4), (5, ?v1_5), (6, ?v1_6), (7, ?v1_7), (8, ?v1_8), (9, ?v1_9)]) (by kernel_rfl) (Nat.le_of_ble_eq_true rfl) (by intro _ _ d_ _ _ h_; cases d_ <;> exact h_) (by kernel_rfl) hR_ (fun w_ hw_ => ?h1_) ?_
          case h1_ =>
            have ho_ := hw_.old0.1; have hz_ := hw_.old0.2; have hr_ := hw_.rules; clear hw_; simp only [Rules, and_true] at hr_; go_split_ands
            (repeat (first | with_reducible exact RdOps.nil | (refine RdOps.run rfl (by rfl) ?_ ?_; (focus (first | (go_simp; done) | (go_simp; with_reducible rfl))); simp only [List.getElem_toArray, List.getElem_cons_zero, List.getElem_cons_succ, Act.put, List.setIfInBounds_toArray, List.set_cons_zero, List.set_cons_succ]) | (refine RdOps.skip rfl (by rfl) ?_ ?_; (focus (with_reducible rfl)); simp only [List.getElem_toArray, List.getElem_cons_zero, List.getElem_cons_succ, Act.put, List.setIfInBounds_toArray, List.set_cons_zero, List.set_cons_succ])))
          simp only [rdMark, rdAct, List.map_cons, List.map_nil, List.length_cons, List.length_nil, Nat.reduceAdd, Nat.reduceSub, Nat.zero_add, List.getElem?_toArray, List.getElem?_cons_zero, List.getElem?_cons_succ, Option.bind_some, Act.put, List.setIfInBounds_toArray, List.set_cons_zero, List.set_cons_succ]
          refine wpL_do (i := 10) rfl (by kernel_rfl) (by rfl) (fun K_ hK_ => ?_)
          go_simp
          refine (refBelow k n a (j : Int) b).mono ?_
          rintro e w_ ⟨rfl, hx⟩
          replace H := H.call hx
          clear hx
          refine hK_ _ _ (fun _ => H.sub (by simp)) (fun hR_ => ?_)
          replace hR_ := hR_ (by decide)
          refine wpL_do (i := 11) rfl (by kernel_rfl) (by rfl) (fun K_ hK_ => ?_)
          go_simp
          refine (HI.out ks[j] (List.getElem_mem hlt) _ _ _ (downI k j b) ⟨_, _, _, _, rfl, HD.out.ext0 H.ext⟩).mono ?_
          rintro e w_ ⟨rfl, hx⟩
          replace H := H.call hx
          clear hx
          cases hq : freeT fr tt (downI k j b) ks[j]
          · have HE : Hid (freeT fr tt b (.mk k n a ls ks) = freesT fr tt k b (j + 1) (ks.drop (j + 1))) := by unfold Hid; rw [HA.out, HS2.out, hq, Bool.false_or]
            clear hq HA HS2
            refine hK_ _ _ (fun _ => H.sub (by simp)) (fun _ => ?_)
            refine wpL_done (by kernel_rfl) ?_ _
            go_wp2_with fail
            go_roundw
            case rel => exact ⟨j + 1, by omega, by first | go_num | rfl | simp, HE, H⟩
            case measure => simp [intOf]; omega
          · have HE : Hid (freeT fr tt b (.mk k n a ls ks) = true) := by unfold Hid; rw [HA.out, HS2.out, hq, Bool.true_or]
            clear hq HA HS2
            refine hK_ _ _ (fun _ => H.sub (by simp)) (fun _ => ?_)
            refine wpL_done (by kernel_rfl) ?_ _
            go_wp2_with fail
            go_ret
            exact ⟨by rw [HE.out]; rfl, H.ext⟩
        · have HE : Hid (freeT fr tt b (.mk k n a ls ks) = false) := by unfold Hid; rw [HA.out, List.drop_eq_nil_of_le (by omega), freesT]
          have hr_ := H.rules; simp only [Rules, and_true] at hr_; have hd_ := H.dif; simp only [Dif, Neq, and_true] at hd_; obtain ⟨ho_, hz_⟩ := H.old0
          go_wp2_with fail
          go_ret
          exact ⟨by rw [HE.out]; rfl, H.ext⟩
    · have HE : Hid (freeT fr tt b (.mk k n a ls ks) = true) := by unfold Hid; rw [HF.out, Bool.true_or]
      go_wp2_with fail
      go_ret
      exact ⟨by rw [HE.out]; rfl, H.ext⟩
theorem refFree_calls {w : World} {S : Nat → Prop} {t : Tm} {v : Value} (fr tt : Int) (hv : TV w S t v) : Calls Tryd.prog 160 #[v, .int .i64 fr, .int .i64 tt] w (PV w (.bool (freeT fr tt 0 t))) := by
  obtain ⟨A0, ca, K0, ck, rfl, hrc⟩ := hv
  have HV := Lib.hid hrc
  clear hrc
  go_enter Tryd.func160, Tryd.ntmps160
  have H := Hp.start no w
  go_wp2_with fail
  refine callsH (by (repeat (first | with_reducible exact H | with_reducible exact H0_ | with_reducible apply Hp.alloc | with_reducible apply Hp.allocMap | with_reducible apply Hp.drew | with_reducible apply Hp.drewN | with_reducible apply Hp.set)); (try any_goals (repeat (first | with_reducible exact Upd.head | with_reducible apply Upd.tail)))) ?_
  clear H; intro w1 H; (try simp only [size_drew_, size_drewN_, World.size_alloc, World.size_setCell, List.set_cons_zero, List.set_cons_succ] at H)
  refine (refFree0_calls fr tt t _ _ _ 0 ⟨_, _, _, _, rfl, HV.out.ext0 H.ext⟩).mono ?_
  rintro e w_ ⟨rfl, hx⟩
  replace H := H.call hx
  clear hx
  go_wp2_with fail
  go_ret
  exact ⟨rfl, H.ext⟩
end Go.Proofs.YtmedomglemllnaaDoor
/- Reference 04: Count, Open, Spine: contracts. No statement of the seat is proved here. -/
namespace Go.Proofs.YtmedomglemllnaaDoor
set_option linter.unusedSimpArgs false
set_option linter.unusedVariables false
open Go.RowKit

set_option maxRecDepth 100000 in
set_option maxHeartbeats 2000000 in
theorem refCount {S : Nat → Prop} {t : Tm} {w : World} {v : Value} (h : TV w S t v) (hb : countT t ≤ 1000000000000) : Calls Tryd.prog 105 #[v] w (PV w (.int .i64 (countT t))) := by
  obtain ⟨A0, ca, K0, ck, rfl, hrc⟩ := h
  have HRC := Lib.hid hrc
  clear hrc
  go_enter Tryd.func105, Tryd.ntmps105
  go_wp2_with fail
  have H := Hp.start no w
  go_loopw [3] (fun n wr => ∃ (u : Tm) (m : Nat) (B K : Option Addr) (cb kb : Nat), n = .int .i64 m ∧ countT u + m = countT t ∧ RC w S u.d [.int .i64 u.k, .int .i64 u.n, .int .i64 u.a, .slice B u.ls.length cb, .slice K u.ks.length kb] ∧ Hp no w wr [.box w.heap.size 26 [.int .i64 u.k, .int .i64 u.n, .int .i64 u.a, .slice B u.ls.length cb, .slice K u.ks.length kb]]) (fun n _ => countT t - (intOf n).toNat)
  case atStart => exact ⟨t, 0, _, _, _, _, rfl, rfl, HRC.out, by (repeat (first | with_reducible exact H | with_reducible exact H0_ | with_reducible apply Hp.alloc | with_reducible apply Hp.allocMap | with_reducible apply Hp.drew | with_reducible apply Hp.drewN | with_reducible apply Hp.set)); (try any_goals (repeat (first | with_reducible exact Upd.head | with_reducible apply Upd.tail)))⟩
  case round =>
    clear H
    obtain ⟨u, m, B, K, cb, kb, rfl, hm, hrc, H⟩ := hrel
    have HM := Lib.hid hm
    have HR := Lib.hid hrc
    have hmb : m ≤ 1000000000000 := by omega
    clear hm hrc
    by_cases h4 : u.k = 4
    · by_cases h2 : u.ks.length = 2
      · obtain ⟨_, _, _, _, he, _, _, _, _, hks⟩ := RC.tm.1 HR.out
        simp only [List.cons.injEq, Value.slice.injEq, and_true, true_and] at he
        obtain ⟨⟨rfl, rfl⟩, rfl, rfl⟩ := he
        obtain ⟨b, o, A1, ca1, K1, ck1, rfl, hb, hS, hd, p0, p1, p2, p3, p4⟩ := hks.atTm (k := 1) (by omega)
        have HD := Lib.hid hd
        have HS := Lib.hid (countT_step h4 h2)
        clear hd hks
        simp only [Nat.one_mul] at p0 p1 p2 p3 p4
        have hr_ := H.rules; simp only [Rules, and_true] at hr_; have hd_ := H.dif; simp only [Dif, Neq, and_true] at hd_; obtain ⟨ho_, hz_⟩ := H.old0
        go_wp2_with ((with_reducible refine atStore (t := 26) ?_); go_must (refine wpList_storeH (t := 26) rfl rfl (by go_simp <;> first | rfl | exact ⟨rfl, rfl⟩) (by go_simp <;> first | rfl | exact ⟨rfl, rfl⟩) (by exact Hp.norm (by (repeat (first | with_reducible exact H | with_reducible exact H0_ | with_reducible apply Hp.alloc | with_reducible apply Hp.allocMap | with_reducible apply Hp.drew | with_reducible apply Hp.drewN | with_reducible apply Hp.set)); (try any_goals (repeat (first | with_reducible exact Upd.head | with_reducible apply Upd.tail)))) (by ((try simp only [size_drew_, size_drewN_, World.size_alloc, World.size_setCell, List.set_cons_zero, List.set_cons_succ, List.nil_append, List.cons_append]) <;> rfl))) (by (repeat (first | with_reducible exact Upd.head | with_reducible apply Upd.tail))) (by exact aggTerm) (by rfl) (by simp [Value.oneCell']) ?_; clear H; intro w7 H; (try simp only [size_drew_, size_drewN_, World.size_alloc, World.size_setCell, List.set_cons_zero, List.set_cons_succ] at H); (try clear hr_ hd_ ho_ hz_); have hr_ := H.rules; simp only [Rules, and_true] at hr_; have hd_ := H.dif; simp only [Dif, Neq, and_true] at hd_; obtain ⟨ho_, hz_⟩ := H.old0))
        clear hr_ hd_ ho_ hz_
        go_roundw
        case rel => exact ⟨u.ks[1], m + 1, _, _, _, _, by go_num, by have h1 := HM.out; have h5 := HS.out; omega, HD.out, H⟩
        case measure => have h1 := HM.out; have h5 := HS.out; simp [intOf]; omega
      · have HS := Lib.hid (countT_stop (t := u) (fun h => h2 h.2))
        have hr_ := H.rules; simp only [Rules, and_true] at hr_; have hd_ := H.dif; simp only [Dif, Neq, and_true] at hd_; obtain ⟨ho_, hz_⟩ := H.old0
        go_wp2_with fail
        clear hr_ hd_ ho_ hz_
        go_ret
        exact ⟨by have h1 := HM.out; have h5 := HS.out; rw [show countT t = m by omega]; rfl, H.ext⟩
    · have HS := Lib.hid (countT_stop (t := u) (fun h => h4 h.1))
      have hr_ := H.rules; simp only [Rules, and_true] at hr_; have hd_ := H.dif; simp only [Dif, Neq, and_true] at hd_; obtain ⟨ho_, hz_⟩ := H.old0
      go_wp2_with fail
      clear hr_ hd_ ho_ hz_
      go_ret
      exact ⟨by have h1 := HM.out; have h5 := HS.out; rw [show countT t = m by omega]; rfl, H.ext⟩
end Go.Proofs.YtmedomglemllnaaDoor
