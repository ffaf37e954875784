/- tele.Sort; law 11's great: contracts. No statement of the seat is proved here. -/
import Derived.Test.YtgbokmphbimihaaDoorMgCountD
import Derived.Test.YtgbokmphbimihaaDoorMgRow
import Derived.Test.YtgbokmphbimihaaDoorMgMust0
import Derived.Test.YtgbokmphbimihaaDoorMgBack
namespace Go.Proofs.YtgbokmphbimihaaDoor
set_option linter.unusedSimpArgs false
set_option linter.unusedVariables false
open Go.RowKit

abbrev sortTm (l : Lv) : Tm := .mk 2 0 0 [l] []
set_option maxRecDepth 100000 in
set_option maxHeartbeats 4000000 in
theorem teleSort {w : World} {S : Nat → Prop} {l : Lv} {A : Option Addr} {c : Nat} (h : RC w S (.l 117 2 (l.map ptD)) [.slice A l.length c]) :
    Calls Tryd.prog 32 #[.agg #[.slice A l.length c]] w (PTm w (sortTm l)) := by
  have HH := Lib.hid h
  clear h
  go_enter Tryd.func32, Tryd.ntmps32
  have H := Hp.start no w
  have hr_ := H.rules; simp only [Rules, and_true] at hr_; have hd_ := H.dif; simp only [Dif, Neq, and_true] at hd_; obtain ⟨ho_, hz_⟩ := H.old0
  go_wp2_with fail
  (try clear hr_ hd_ ho_ hz_)
  refine callsH (by (repeat (first | with_reducible exact H | with_reducible exact H0_ | with_reducible apply Hp.alloc | with_reducible apply Hp.allocMap | with_reducible apply Hp.drew | with_reducible apply Hp.drewN | with_reducible apply Hp.set)); (try any_goals (repeat (first | with_reducible exact Upd.head | with_reducible apply Upd.tail)))) ?_
  clear H; intro w1 H; (try simp only [size_drew_, size_drewN_, World.size_alloc, World.size_setCell, List.set_cons_zero, List.set_cons_succ] at H)
  refine (cloneParts (HH.out.ext0 H.ext)).mono ?_
  rintro e w_ ⟨A2, c2, rfl, hpg, hx⟩
  replace H := H.res hx (RG.parts hpg) (opt_nodup _)
  clear hpg hx
  simp only [List.length_map] at H ⊢
  have hr_ := H.rules; simp only [Rules, and_true] at hr_; have hd_ := H.dif; simp only [Dif, Neq, and_true] at hd_; obtain ⟨ho_, hz_⟩ := H.old0
  go_wp2_with ((with_reducible refine atStore (t := 26) ?_); go_must (refine wpList_storeH (t := 26) rfl rfl (by go_simp <;> first | rfl | exact ⟨rfl, rfl⟩) (by go_simp <;> first | rfl | exact ⟨rfl, rfl⟩) (by exact Hp.norm (by (repeat (first | with_reducible exact H | with_reducible exact H0_ | with_reducible apply Hp.alloc | with_reducible apply Hp.allocMap | with_reducible apply Hp.drew | with_reducible apply Hp.drewN | with_reducible apply Hp.set)); (try any_goals (repeat (first | with_reducible exact Upd.head | with_reducible apply Upd.tail)))) (by ((try simp only [size_drew_, size_drewN_, World.size_alloc, World.size_setCell, List.set_cons_zero, List.set_cons_succ, List.nil_append, List.cons_append]) <;> rfl))) (by (repeat (first | with_reducible exact Upd.head | with_reducible apply Upd.tail))) (by exact aggTerm) (by rfl) (by simp [Value.oneCell']) ?_; clear H; intro w7 H; (try simp only [size_drew_, size_drewN_, World.size_alloc, World.size_setCell, List.set_cons_zero, List.set_cons_succ] at H); (try clear hr_ hd_ ho_ hz_); have hr_ := H.rules; simp only [Rules, and_true] at hr_; have hd_ := H.dif; simp only [Dif, Neq, and_true] at hd_; obtain ⟨ho_, hz_⟩ := H.old0))
  (try clear hr_ hd_ ho_ hz_)
  have H1 := ((H.one1 (d := .l 117 2 (l.map ptD)) (cs := [.slice A2 l.length c2]) (by (repeat (first | with_reducible exact Pick.head | with_reducible apply Pick.tail)))).one).boxrow (g := w_.heap.size) (e := 33) (z := 1) (n := 1) (ds := [lvD l]) (.tail (by (repeat (first | with_reducible exact Pick.head | with_reducible apply Pick.tail)))) .head rfl (by simp [lvD_size]) (by unfold M; omega)
  have H2 := (H1.nil 26 5).tm (k := 2) (n := 0) (a := 0) (ls := [l]) (ks := []) (.tail .head) .head (by unfold inI; omega) (by unfold inI; omega) (by unfold inI; omega)
  exact bodyPost_ret (v := .agg #[.int .i64 2, .int .i64 0, .int .i64 0, .slice (some ⟨w_.heap.size, 0, none⟩) 1 1, .slice none 0 0]) (Res.one Tryd.results32 (H.resBox (g := w.heap.size + 1) (by (repeat (first | with_reducible exact Pick.head | with_reducible apply Pick.tail))) aggTerm rfl rfl)) rfl (H2.ptmk .head rfl rfl)
/-- A truth, and old memory as it was. -/
def PAny11 (w : World) (e : Ending) (w' : World) : Prop := ∃ q : Bool, e = .returned (.bool q) ∧ Ext no w w'
set_option maxRecDepth 100000 in
set_option maxHeartbeats 2000000 in
theorem great11_calls {w : World} {S S2 : Nat → Prop} {ds : List Dc} {ts : List Tm} {A B : Option Addr} {n c m cb : Nat} (h : RC w S (.l 37 16 (ds.map Dc.d)) [.slice A n c]) (hn : n = ds.length) (k : RC w S2 (.l 26 5 (ts.map Tm.d)) [.slice B m cb]) (hm : m = ts.length) :
    Calls Tryd.prog 24 #[.slice A n c, .slice B m cb] w (PAny11 w) := by
  subst hn hm
  have HH := Lib.hid h
  have HK := Lib.hid k
  clear h k
  go_enter Tryd.func24, Tryd.ntmps24
  go_wp2_with fail
  have H := Hp.start no w
  refine callsH (by (repeat (first | with_reducible exact H | with_reducible exact H0_ | with_reducible apply Hp.alloc | with_reducible apply Hp.allocMap | with_reducible apply Hp.drew | with_reducible apply Hp.drewN | with_reducible apply Hp.set)); (try any_goals (repeat (first | with_reducible exact Upd.head | with_reducible apply Upd.tail)))) ?_
  clear H; intro w1 H; (try simp only [size_drew_, size_drewN_, World.size_alloc, World.size_setCell, List.set_cons_zero, List.set_cons_succ] at H)
  refine (declsOf_calls (HH.out.ext0 H.ext) 1500).mono ?_
  rintro e w_ ⟨rfl, hx⟩
  replace H := H.call hx
  clear hx
  obtain ⟨N, hN⟩ : ∃ N, N = cntS (declF 1500) 1500 ds 0 := ⟨_, rfl⟩
  rw [← hN]
  clear hN
  go_wp2_with fail
  refine (termsOf_calls (HK.out.ext0 H.ext) 1500).mono ?_
  rintro e w_ ⟨rfl, hx⟩
  replace H := H.call hx
  clear hx
  obtain ⟨N2, hN2⟩ : ∃ N2, N2 = termsOfS 1500 ts := ⟨_, rfl⟩
  rw [← hN2]
  clear hN2
  go_wp2_with fail
  go_ret
  exact ⟨_, rfl, H.ext⟩
end Go.Proofs.YtgbokmphbimihaaDoor
/- term: a walk where the turning function is known only at what is met on the way. No statement of the seat is proved here. -/
namespace Go.Proofs.YtgbokmphbimihaaDoor
set_option linter.unusedSimpArgs false
set_option linter.unusedVariables false
open Go.RowKit

/-- What a turning function does, at binders and terms that are met. -/
def TurnG (fid : Nat) (cap : Array Value) (Cap : World → Prop) (G : Int → Tm → Prop) (f : Turn) : Prop :=
  (∀ w w', Cap w → Ext no w w' → Cap w') ∧ (∀ args w, (callFunc fid args).run Tryd.prog w = .ok (.enter fid args) w) ∧
  ∀ (w : World) (S : Nat → Prop) (b : Int) (t : Tm) (v : Value), Cap w → Tab w → G b t → TV w S t v → Calls Tryd.prog fid (#[.agg #[.int .i64 b, .func (.func fid) #[] cap], v] ++ cap) w (PTurn w S t (f b t))
set_option maxHeartbeats 2000000 in
set_option maxRecDepth 100000 in
theorem walkG_calls {fid : Nat} {cap : Array Value} {Cap : World → Prop} {f : Turn} {G : Int → Tm → Prop} (hG : ∀ b k n a ls ks, G b (.mk k n a ls ks) → ∀ (i : Nat) (h : i < ks.length), G (downI k i b) ks[i]) (hF : TurnG fid cap Cap G f) : ∀ (t : Tm) (w : World) (S : Nat → Prop) (b : Int) (v : Value), Cap w → Tab w → G b t → TV w S t v →
    Calls Tryd.prog 70 #[.agg #[.int .i64 b, .func (.func fid) #[] cap], v] w (PTm w (walkT f b t)) := by
  intro t
  induction t using Tm.ind_ with
  | h k n a ls ks ih =>
  intro w S b v hCap hT hb hv
  obtain ⟨A0, ca, K0, ck, rfl, hrc⟩ := hv
  have hCap3 := hF.1 _ _ hCap ((((Ext.refl no w).alloc (.cells #[.int .i64 b, .func (.func fid) #[] cap] 96)).alloc (.cells #[.int .i64 k, .int .i64 n, .int .i64 a, .slice A0 ls.length ca, .slice K0 ks.length ck] 26)).alloc (.cells #[.int .i64 0, .int .i64 0, .int .i64 0, .slice none 0 0, .slice none 0 0] 26))
  have hcall := hF.2.2 _ _ b (.mk k n a ls ks) _ hCap3 (hT.ext ((((Ext.refl no w).alloc _).alloc _).alloc _)) hb ⟨A0, ca, K0, ck, rfl, hrc.bd.ext0 ((((Ext.refl no w).alloc _).alloc _).alloc _)⟩
  have Hcall := Lib.hid hcall
  have Hih := Lib.hid ih
  have hfun := hF.2.1
  have HF := Lib.hid hF
  have HG := Lib.hid hG
  clear hcall ih hF hG hCap3
  simp only [Tm.k_mk, Tm.n_mk, Tm.a_mk, Tm.ls_mk, Tm.ks_mk] at hrc ⊢
  go_enter Tryd.func70, Tryd.ntmps70
  go_wp2_with fail
  refine Hcall.out.mono ?_
  rintro e w1 hturn
  unfold PTurn at hturn
  have bld : ∀ w1, Ext no (((w.alloc (.cells #[.int .i64 b, .func (.func fid) #[] cap] 96)).alloc (.cells #[.int .i64 k, .int .i64 n, .int .i64 a, .slice A0 ls.length ca, .slice K0 ks.length ck] 26)).alloc (.cells #[.int .i64 0, .int .i64 0, .int .i64 0, .slice none 0 0, .slice none 0 0] 26)) w1 →
      Blk w1 w.heap.size 96 #[.int .i64 b, .func (.func fid) #[] cap] ∧ Blk w1 (w.heap.size + 1) 26 #[.int .i64 k, .int .i64 n, .int .i64 a, .slice A0 ls.length ca, .slice K0 ks.length ck] ∧
      Blk w1 (w.heap.size + 1 + 1) 26 #[.int .i64 0, .int .i64 0, .int .i64 0, .slice none 0 0, .slice none 0 0] ∧ Ext no w w1 ∧ w.heap.size + 3 ≤ w1.heap.size := fun w1 hx =>
    ⟨(((Blk.new rfl).alloc _).alloc _).ext0 hx, ((Blk.new (by simp)).alloc _).ext0 hx, (Blk.new (by simp)).ext0 hx, ((((Ext.refl no w).alloc _).alloc _).alloc _).seq hx, by have := hx.size; simpa using this⟩
  have Bld := Lib.hid bld
  clear bld
  cases hfb : f b (.mk k n a ls ks) with
  | inl r =>
    rw [hfb] at hturn
    obtain ⟨v, rfl, ⟨A1, c1, K1, d1, L, rfl, hro, hnd⟩, hx1⟩ := hturn
    obtain ⟨b0, b1, b2, hx0, hsz⟩ := Bld.out _ hx1
    have l0 := b0.lt
    have l1 := b1.lt
    have l2 := b2.lt
    have hw : walkT f b (.mk k n a ls ks) = r := by rw [walkT, hfb]
    have hc2 := b2.cells
    have hf2 := b2.frz
    have Hfb := Lib.hid hfb
    have Hw := Lib.hid hw
    clear hfb hw b0 b1 hT hfun hrc hb
    go_wp2_with fail
    refine bodyPost_ret (v := .agg #[.int .i64 r.k, .int .i64 r.n, .int .i64 r.a, .slice A1 r.ls.length c1, .slice K1 r.ks.length d1]) (by simp [results, Tryd.results70, go_sem, hc2, l2, hf2]) rfl ⟨_, rfl, ?_, ?_⟩
    · rw [Hw.out]
      refine ⟨A1, c1, K1, d1, L, rfl, ?_, hnd⟩
      exact ((hro.ext (Ext.set5 _ _ _ _ _ _ _) (fun x h1 _ e => by simp at h1; omega)).ext ((Ext.refl no _).alloc _) (fun _ _ _ => no_not)).ge (by simp; omega)
    · exact (hx0.old (Ext.set5 _ _ _ _ _ _ _) (fun x h1 e => by omega)).alloc _
  | inr h =>
    rw [hfb] at hturn
    obtain ⟨v, rfl, ⟨A1, c1, L, K1, d1, rfl, i1, i2, i3, hro, hnd, hks⟩, hx1⟩ := hturn
    obtain ⟨b0, b1, b2, hx0, hsz⟩ := Bld.out _ hx1
    have hw : walkT f b (.mk k n a ls ks) = .mk h.1 h.2.1 h.2.2.1 h.2.2.2 (walkTs f k b 0 ks) := by rw [walkT, hfb]
    simp only [Tm.k_mk, Tm.n_mk, Tm.a_mk, Tm.ls_mk, Tm.ks_mk] at i1 i2 i3 hro hks ⊢
    have l0 := b0.lt
    have l1 := b1.lt
    have l2 := b2.lt
    have hM := hks.lenM
    have Hfb := Lib.hid hfb
    have Hw := Lib.hid hw
    clear hfb hw hfun hrc
    go_wp2_with fail
    have hW0 : Ext no w1 (w1.alloc (.cells #[.int .i64 h.1, .int .i64 h.2.1, .int .i64 h.2.2.1, .slice A1 h.2.2.2.length c1, .slice none 0 0] 26)) := (Ext.refl _ _).alloc _
    have bW : Blk (w1.alloc (.cells #[.int .i64 h.1, .int .i64 h.2.1, .int .i64 h.2.2.1, .slice A1 h.2.2.2.length c1, .slice none 0 0] 26)) w1.heap.size 26 #[.int .i64 h.1, .int .i64 h.2.1, .int .i64 h.2.2.1, .slice A1 h.2.2.2.length c1, .slice none 0 0] := Blk.new rfl
    generalize w1.alloc (.cells #[.int .i64 h.1, .int .i64 h.2.1, .int .i64 h.2.2.1, .slice A1 h.2.2.2.length c1, .slice none 0 0] 26) = W0 at hW0 bW
    have lW := bW.lt
    go_loopw [25] (fun i wr => ∃ j : Nat, j ≤ ks.length ∧ i = .int .i64 j ∧ ∃ o, Blk wr w1.heap.size 26 #[.int .i64 h.1, .int .i64 h.2.1, .int .i64 h.2.2.1, .slice A1 h.2.2.2.length c1, o] ∧ Acc W0 wr 26 5 (((walkTs f k b 0 ks).take j).map Tm.d) o ∧ Ext (fun x => x = w1.heap.size) W0 wr) (fun i _ => ks.length - (intOf i).toNat)
    case atStart => exact ⟨0, Nat.zero_le _, rfl, _, bW, Acc.nil, Ext.refl _ _⟩
    case round =>
      obtain ⟨j, hj, rfl, o, bo, hacc, hext⟩ := hrel
      by_cases hlt : j < ks.length
      · have hsz2 := hext.size
        have hkr := (hks.ext0 hW0).ext hext (fun x _ hx e => by have := hx.2; omega)
        obtain ⟨bb, oo, A2, c2, K2, d2, rfl, hb2, hS2, hrc2, h0, h1, h2, h3, h4⟩ := hkr.atTm hlt
        obtain ⟨Ao, co, rfl⟩ := hacc.sliceN (n := j) (by simp [walkTs_len]; omega)
        have b0r := (b0.ext0 hW0).ext hext (by omega)
        have b1r := (b1.ext0 hW0).ext hext (by omega)
        have l0 := b0r.lt
        have l1 := b1r.lt
        have lo := bo.lt
        have c0 := b0r.cells
        have c1 := b1r.cells
        have co' := bo.cells
        have hc1 : wr.cell? ⟨w1.heap.size, 4, none⟩ = some (.slice Ao j co) := bo.cells 4
        have hc2 : wr.cell? ⟨w.heap.size, 0, none⟩ = some (.int .i64 b) := b0r.cells 0
        have hc3 : wr.cell? ⟨w.heap.size, 1, none⟩ = some (.func (.func fid) #[] cap) := b0r.cells 1
        have hc4 : wr.cell? ⟨w.heap.size + 1, 0, none⟩ = some (.int .i64 k) := b1r.cells 0
        clear c0 c1 co'
        go_wp2_with fail
        have hal : Ext no wr (wr.alloc (.cells #[.int .i64 ks[j].k, .int .i64 ks[j].n, .int .i64 ks[j].a, .slice A2 ks[j].ls.length c2, .slice K2 ks[j].ks.length d2] 26)) := (Ext.refl _ _).alloc _
        have bk : Blk (wr.alloc (.cells #[.int .i64 ks[j].k, .int .i64 ks[j].n, .int .i64 ks[j].a, .slice A2 ks[j].ls.length c2, .slice K2 ks[j].ks.length d2] 26)) wr.heap.size 26 #[.int .i64 ks[j].k, .int .i64 ks[j].n, .int .i64 ks[j].a, .slice A2 ks[j].ls.length c2, .slice K2 ks[j].ks.length d2] := Blk.new rfl
        generalize wr.alloc (.cells #[.int .i64 ks[j].k, .int .i64 ks[j].n, .int .i64 ks[j].a, .slice A2 ks[j].ls.length c2, .slice K2 ks[j].ks.length d2] 26) = W2 at hal bk
        have hS : Cells W2.drew [(⟨w1.heap.size, 4, none⟩, .slice Ao j co), (⟨w.heap.size, 0, none⟩, .int .i64 b), (⟨w.heap.size, 1, none⟩, .func (.func fid) #[] cap), (⟨w.heap.size + 1, 0, none⟩, .int .i64 k),
          (⟨wr.heap.size, 0, none⟩, .int .i64 ks[j].k), (⟨wr.heap.size, 1, none⟩, .int .i64 ks[j].n), (⟨wr.heap.size, 2, none⟩, .int .i64 ks[j].a), (⟨wr.heap.size, 3, none⟩, .slice A2 ks[j].ls.length c2), (⟨wr.heap.size, 4, none⟩, .slice K2 ks[j].ks.length d2)] :=
          ⟨hal.keep hc1, hal.keep hc2, hal.keep hc3, hal.keep hc4, bk.cells 0, bk.cells 1, bk.cells 2, bk.cells 3, bk.cells 4, trivial⟩
        clear hc1 hc2 hc3 hc4 h0 h1 h2 h3 h4
        refine wp_region_L (fun w' => Cells w' [(⟨w1.heap.size, 4, none⟩, .slice Ao j co), (⟨w.heap.size, 0, none⟩, .int .i64 b), (⟨w.heap.size, 1, none⟩, .func (.func fid) #[] cap), (⟨w.heap.size + 1, 0, none⟩, .int .i64 k),
          (⟨wr.heap.size, 0, none⟩, .int .i64 ks[j].k), (⟨wr.heap.size, 1, none⟩, .int .i64 ks[j].n), (⟨wr.heap.size, 2, none⟩, .int .i64 ks[j].a), (⟨wr.heap.size, 3, none⟩, .slice A2 ks[j].ls.length c2), (⟨wr.heap.size, 4, none⟩, .slice K2 ks[j].ks.length d2)]) [12] (by kernel_rfl) ?_
        refine wpL_take (i := 0) (v := ?v1_) rfl (by kernel_rfl) (fun _ _ _ h => h) hS (by rfl) (fun w_ hw_ => ?h1_) ?_
        case h1_ => (try simp only [Cells_cons, Cells_nil, and_true] at hw_); go_split_ands; go_simp; try with_reducible rfl
        simp only [List.getElem_toArray, List.getElem_cons_zero, List.getElem_cons_succ, Act.put, List.setIfInBounds_toArray, List.set_cons_zero, List.set_cons_succ]
        refine wpL_take (i := 1) (v := ?v2_) rfl (by kernel_rfl) (fun _ _ _ h => h) hS (by rfl) (fun w_ hw_ => ?h2_) ?_
        case h2_ => (try simp only [Cells_cons, Cells_nil, and_true] at hw_); go_split_ands; go_simp; try with_reducible rfl
        simp only [List.getElem_toArray, List.getElem_cons_zero, List.getElem_cons_succ, Act.put, List.setIfInBounds_toArray, List.set_cons_zero, List.set_cons_succ]
        refine wpL_take (i := 2) (v := ?v3_) rfl (by kernel_rfl) (fun _ _ _ h => h) hS (by rfl) (fun w_ hw_ => ?h3_) ?_
        case h3_ => (try simp only [Cells_cons, Cells_nil, and_true] at hw_); go_split_ands; go_simp; try with_reducible rfl
        simp only [List.getElem_toArray, List.getElem_cons_zero, List.getElem_cons_succ, Act.put, List.setIfInBounds_toArray, List.set_cons_zero, List.set_cons_succ]
        refine wpL_take (i := 3) (v := ?v4_) rfl (by kernel_rfl) (fun _ _ _ h => h) hS (by rfl) (fun w_ hw_ => ?h4_) ?_
        case h4_ => (try simp only [Cells_cons, Cells_nil, and_true] at hw_); go_split_ands; go_simp; try with_reducible rfl
        simp only [List.getElem_toArray, List.getElem_cons_zero, List.getElem_cons_succ, Act.put, List.setIfInBounds_toArray, List.set_cons_zero, List.set_cons_succ]
        refine wpL_take (i := 4) (v := ?v5_) rfl (by kernel_rfl) (fun _ _ _ h => h) hS (by rfl) (fun w_ hw_ => ?h5_) ?_
        case h5_ => (try simp only [Cells_cons, Cells_nil, and_true] at hw_); go_split_ands; go_simp; try with_reducible rfl
        simp only [List.getElem_toArray, List.getElem_cons_zero, List.getElem_cons_succ, Act.put, List.setIfInBounds_toArray, List.set_cons_zero, List.set_cons_succ]
        refine wpL_take (i := 5) (v := ?v6_) rfl (by kernel_rfl) (fun _ _ _ h => h) hS (by rfl) (fun w_ hw_ => ?h6_) ?_
        case h6_ => (try simp only [Cells_cons, Cells_nil, and_true] at hw_); go_split_ands; go_simp; try with_reducible rfl
        simp only [List.getElem_toArray, List.getElem_cons_zero, List.getElem_cons_succ, Act.put, List.setIfInBounds_toArray, List.set_cons_zero, List.set_cons_succ]
        refine wpL_take (i := 7) (v := ?v7_) rfl (by kernel_rfl) (fun _ _ _ h => h) hS (by rfl) (fun w_ hw_ => ?h7_) ?_
        case h7_ => (try simp only [Cells_cons, Cells_nil, and_true] at hw_); go_split_ands; go_simp; try with_reducible rfl
        simp only [List.getElem_toArray, List.getElem_cons_zero, List.getElem_cons_succ, Act.put, List.setIfInBounds_toArray, List.set_cons_zero, List.set_cons_succ]
        have hxw : Ext no w W2.drew := (((hx0.seq hW0).old hext (by omega)).seq hal).drew
        have hT2 : Tab W2.drew := hT.ext hxw
        have hCap2 : Cap W2.drew := HF.out.1 _ _ hCap hxw
        refine wpL_do (i := 6) rfl (by kernel_rfl) (by rfl) (fun K_ hK_ => ?_)
        go_simp
        refine (below_calls hT2 b k j _ _ _).mono ?_
        rintro e w2 ⟨rfl, hx2⟩
        refine hK_ _ _ (fun _ => hS.keep hx2) (fun hS2 => ?_)
        have hS2 := hS2 (by decide)
        refine wpL_do (i := 8) rfl (by kernel_rfl) (by rfl) (fun K_ hK_ => ?_)
        go_simp
        refine (Hih.out ks[j] (by simp) _ (fun x => S x ∧ x < w.heap.size) (downI k j b) _ (HF.out.1 _ _ hCap2 hx2) (hT2.ext hx2) (HG.out _ _ _ _ _ _ hb j hlt) ⟨_, _, _, _, rfl, (hrc2.ext0 hal).ext0 hx2.undrew⟩).mono ?_
        rintro e w3 ⟨v, rfl, ⟨A5, c5, K5, d5, L5, rfl, hro5, hnd5⟩, hx3⟩
        refine hK_ _ _ (fun _ => hS2.keep hx3) (fun hS3 => ?_)
        have hS3 := hS3 (by decide)
        refine wpL_do (i := 9) rfl (by kernel_rfl) (by rfl) (fun K_ hK_ => ?_)
        go_simp
        refine hK_ _ _ (fun _ => hS3.keep ((Ext.refl _ _).alloc _)) (fun hS4 => ?_)
        have hS4 := hS4 (by decide)
        refine wpL_do (i := 10) rfl (by kernel_rfl) (by rfl) (fun K_ hK_ => ?_)
        refine wp_push1 (.tmp 31) (.tmp 39) 24 rfl stTerms hacc hro5 hnd5 (Nat.le_trans hal.size hx2.size) ((hal.seq hx2.undrew).seq hx3) ((Ext.refl _ _).alloc _) hsz2 (Tm.size_d _) (by simp [M]; omega) rfl rfl (heap_alloc_new _ _) ?_
        intro v' w4 hacc4 hx4
        have hS5 := hS4.ext hx4 (by simp; omega)
        refine hK_ _ _ (fun _ => hS5) (fun _ => ?_)
        refine wpL_take (i := 11) (v := ?v8_) rfl (by kernel_rfl) (fun _ _ _ h => h) hS5 (by rfl) (fun w_ hw_ => ?h8_) ?_
        case h8_ => (try simp only [Cells_cons, Cells_nil, and_true] at hw_); go_split_ands; go_simp; try with_reducible rfl
        simp only [List.getElem_toArray, List.getElem_cons_zero, List.getElem_cons_succ, Act.put, List.setIfInBounds_toArray, List.set_cons_zero, List.set_cons_succ]
        obtain ⟨A6, c6, rfl⟩ := hacc4.sliceN (n := j + 1) (by simp [walkTs_len]; omega)
        have bo4 := ((bo.ext0 ((((hal.seq hx2.undrew).seq hx3).alloc _))).ext hx4 (by omega))
        have hc6 := bo4.cells 4
        have hf6 := bo4.frz 4
        refine wpL_do (i := 12) rfl (by kernel_rfl) (by rfl) (fun K_ hK_ => ?_)
        go_simp
        refine hK_ _ _ (fun h => absurd (by decide) h) (fun _ => ?_)
        refine wpL_done (by kernel_rfl) ?_ _
        go_wp2_with fail
        go_roundw
        case rel =>
          refine ⟨j + 1, by omega, by go_num, _, bo4.set 4 _, ?_, ?_⟩
          · have hj' : j < (walkTs f k b 0 ks).length := by rw [walkTs_len]; exact hlt
            rw [take_map _ hj', walkTs_get _ _ _ _ _ _ hlt]
            simp only [Nat.zero_add]
            exact hacc4.frame ((Ext.refl (fun x => x = w1.heap.size) _).setCell (.inl rfl) _) (fun x hx _ e => by omega)
          · exact ((hext.trans ((((hal.seq hx2.undrew).seq hx3).alloc _)) (fun _ _ h => h) (fun _ _ h => h.elim)).trans hx4 (fun _ _ h => h) (fun x hx h => by omega)).setCell (.inl rfl) _
        case measure => simp [intOf]; omega
      · obtain ⟨Ao, co, rfl⟩ := hacc.sliceN (n := (walkTs f k b 0 ks).length) (by simp [walkTs_len]; omega)
        have b2r := (b2.ext0 hW0).ext hext (by omega)
        have c5 := bo.cells
        have c2 := b2r.cells
        have f2 := b2r.frz
        have hsz2 := hext.size
        have hsz3 := hW0.size
        go_wp2_with fail
        refine bodyPost_ret (v := .agg #[.int .i64 h.1, .int .i64 h.2.1, .int .i64 h.2.2.1, .slice A1 h.2.2.2.length c1, .slice Ao (walkTs f k b 0 ks).length co]) (by simp [results, Tryd.results70, go_sem, c2]) rfl ⟨_, rfl, ?_, ?_⟩
        · rw [Hw.out]
          obtain ⟨L5, hro5, hnd5⟩ := hacc
          rw [take_all (by rw [walkTs_len]; exact hlt)] at hro5
          have hL : ∀ x ∈ L, x < w1.heap.size := fun x hx => (RO.lt _ _ _ hro x hx).2
          refine ⟨A1, c1, Ao, co, L ++ L5, rfl, RO.tm.2 ⟨_, _, L, L5, rfl, rfl, i1, i2, i3, ?_, ?_⟩, ?_⟩
          · exact ((((hro.ext hW0 (fun _ _ _ => no_not)).frame_ (fun x hx => hext.block x (by have := hL x hx; omega) (by have := hL x hx; omega)))).ext (Ext.set5 _ _ _ _ _ _ _) (fun x h1 _ e => by simp at h1; omega)).ge (by simp; omega)
          · exact (hro5.ext (Ext.set5 _ _ _ _ _ _ _) (fun x h1 _ e => by omega)).ge (by omega)
          · refine List.nodup_append.2 ⟨hnd, hnd5, fun x hx y hy e => ?_⟩
            have := hL x hx
            have := (RO.lt _ _ _ hro5 y hy).1
            omega
        · exact (((hx0.seq hW0).old hext (by omega))).old (Ext.set5 _ _ _ _ _ _ _) (fun x h1 e => by omega)

end Go.Proofs.YtgbokmphbimihaaDoor
/- tele: a row laid above a term: contract. No statement of the seat is proved here. -/
namespace Go.Proofs.YtgbokmphbimihaaDoor
set_option linter.unusedSimpArgs false
set_option linter.unusedVariables false
open Go.RowKit
attribute [local go_sem] Oper.semAt_some

set_option maxRecDepth 100000 in
set_option maxHeartbeats 4000000 in
theorem above_calls {w0 w : World} {l : List Ch} {ts : List Tm} {b : Tm} {A B K : Option Addr} {c cb kb : Nat} {k : Int} (H : Hp no w0 w (.dat (.l 26 5 (ts.map Tm.d)) [.slice A ts.length c] :: .dat b.d [.int .i64 b.k, .int .i64 b.n, .int .i64 b.a, .slice B b.ls.length cb, .slice K b.ks.length kb] :: l)) (hk : inI k) :
    Calls Tryd.prog 78 #[.agg #[.slice A ts.length c], .int .i64 k, .agg #[.int .i64 b.k, .int .i64 b.n, .int .i64 b.a, .slice B b.ls.length cb, .slice K b.ks.length kb]] w (PTmH no w0 l (aboveT k ts b)) := by
  have hM := (H.rd .head).lenM
  obtain ⟨es, hes, H1⟩ := H.unrow .head
  clear H
  have H := H1
  clear H1
  refine enterM Tryd.func78 rfl ?_
  simp only [Tryd.ntmps78, List.size_toArray, List.length_cons, List.length_nil, Nat.reduceAdd, Nat.reduceSub, Array.replicate_succ, Array.replicate_zero, List.push_toArray, List.append_toArray, List.nil_append, List.cons_append]
  go_wp2_with fail
  refine callsH (by (repeat (first | with_reducible exact H | with_reducible exact H0_ | with_reducible apply Hp.alloc | with_reducible apply Hp.allocMap | with_reducible apply Hp.drew | with_reducible apply Hp.drewN | with_reducible apply Hp.set)); (try any_goals (repeat (first | with_reducible exact Upd.head | with_reducible apply Upd.tail)))) ?_
  clear H; intro w1 H; (try simp only [size_drew_, size_drewN_, World.size_alloc, World.size_setCell, List.set_cons_zero, List.set_cons_succ] at H)
  refine (backward_calls H).mono ?_
  rintro e w2 ⟨bs, rfl, H2⟩
  clear H
  have H := H2
  clear H2
  go_wp2_with fail
  obtain ⟨A3, A4, c3, c4, hv⟩ := RCs.tms (by have h := H.rd (d := .s (ts.map Tm.d)) (by (repeat (first | with_reducible exact Pick.head | with_reducible apply Pick.tail))); unfold RC at h; exact h)
  refine wp_rangeH H rfl (enters_of Tryd.func184 (by kernel_rfl) rfl) ?_
  intro fn D L rc w3 hDL hrc H3
  clear H
  simp only [List.length_map] at H3 hes
  have HV := Lib.hid hv
  clear hv
  refine (backward1 (n := ts.length) (c := c) (A := A) (bs := bs) (k0 := fun j => (ts[j]?.getD b).k) (k1 := fun j => (ts[j]?.getD b).n) (k2 := fun j => (ts[j]?.getD b).a) (v3 := fun j => .slice (A3 j) (ts[j]?.getD b).ls.length (c3 j)) (v4 := fun j => .slice (A4 j) (ts[j]?.getD b).ks.length (c4 j)) hM.1
    (fun j W => ∃ r B K cb kb, Tm.k r = Tm.k r ∧ r = aboveT k (ts.drop j) b ∧ j ≤ ts.length ∧ Hp no w0 W (.obj L (.loop (rc .ready none)) :: .obj D (.deferred (some [])) :: .box bs 24 [.slice A ts.length c] :: .box (w.heap.size + 1 + 1 + 1) 26 [.int .i64 0, .int .i64 0, .int .i64 0, .slice none 0 0, .slice none 0 0] ::
      .box (w.heap.size + 1 + 1) 26 [.int .i64 r.k, .int .i64 r.n, .int .i64 r.a, .slice B r.ls.length cb, .slice K r.ks.length kb] :: .box (w.heap.size + 1) 22 [.int .i64 k] :: .box w.heap.size 110 [.slice A ts.length c] :: .raw 26 5 ts.length (.slice A ts.length c) es ::
      .dat (.s ((ts.take j).map Tm.d)) (es.take (j * 5)) :: .dat r.d [.int .i64 r.k, .int .i64 r.n, .int .i64 r.a, .slice B r.ls.length cb, .slice K r.ks.length kb] :: l)) ?rd ?round ?start).mono ?_
  case rd =>
    rintro j W ⟨r, B, K, cb, kb, _, hr, hj, H⟩
    have hb := (H.blk (g := bs) (by (repeat (first | with_reducible exact Pick.head | with_reducible apply Pick.tail)))).cells 0
    refine ⟨hb, fun i hi => ?_⟩
    obtain ⟨g, c', he, hc, hcell, hg⟩ := H.rawAt (e := 26) (v := .slice A ts.length c) (by (repeat (first | with_reducible exact Pick.head | with_reducible apply Pick.tail))) (by omega)
    simp only [Value.slice.injEq, true_and] at he
    obtain ⟨rfl, rfl⟩ := he
    obtain ⟨q0, q1, q2, q3, q4⟩ := HV.out i hi
    simp only [List.getElem?_eq_getElem hi, Option.getD_some]
    refine ⟨g, 0, rfl, ?_⟩
    simp only [Nat.zero_add]
    exact ⟨hcell _ _ q0, hcell _ _ q1, hcell _ _ q2, hcell _ _ q3, hcell _ _ q4⟩
  case start =>
    refine ⟨b, B, K, cb, kb, rfl, by rw [List.drop_length]; rfl, Nat.le_refl _, ?_⟩
    rw [List.take_length, List.take_of_length_le (by omega)]
    exact H3
  case round =>
    rintro j W hj ⟨r, B, K, cb, kb, _, hr, _, H⟩
    clear H3
    have HRC := Lib.hid hrc
    refine roundH hrc H rfl ?_
    clear hrc
    simp only [List.getElem?_eq_getElem hj, Option.getD_some]
    obtain ⟨i1, i2, i3, _⟩ := Hp.untm (t := r) (H.pick (by (repeat (first | with_reducible exact Pick.head | with_reducible apply Pick.tail))))
    have HI := Lib.hid (And.intro i1 (And.intro i2 i3))
    clear i1 i2 i3
    refine regionRn (by kernel_rfl) (no_letsThen fun ⟨_, _, h⟩ => h) ?_
    have hr_ := H.rules; simp only [Rules, and_true] at hr_; have hd_ := H.dif; simp only [Dif, Neq, and_true] at hd_; obtain ⟨ho_, hz_⟩ := H.old0
    go_wp2_with fail
    clear hr_ hd_ ho_ hz_
    refine ⟨_, (H.alloc [_, _, _, _, _] 26).swap, fun w5 H5 => ?_⟩
    clear H
    have H := H5
    clear H5
    refine wpIn_block ?_
    refine regionRn (by kernel_rfl) (fun ⟨_, _, h⟩ => h) ?_
    have hr_ := H.rules; simp only [Rules, and_true] at hr_; have hd_ := H.dif; simp only [Dif, Neq, and_true] at hd_; obtain ⟨ho_, hz_⟩ := H.old0
    go_wp2_with fail
    clear hr_ hd_ ho_ hz_
    refine endH (by (repeat (first | with_reducible exact H | with_reducible exact H0_ | with_reducible apply Hp.alloc | with_reducible apply Hp.allocMap | with_reducible apply Hp.drew | with_reducible apply Hp.drewN | with_reducible apply Hp.set)); (try any_goals (repeat (first | with_reducible exact Upd.head | with_reducible apply Upd.tail)))) ?_
    clear H; intro w6 H; (try simp only [size_drew_, size_drewN_, World.size_alloc, World.size_setCell, List.set_cons_zero, List.set_cons_succ] at H)
    refine roundNext HRC.out H (by (repeat (first | with_reducible exact Pick.head | with_reducible apply Pick.tail))) (fun w7 H7 => ⟨rfl, by omega, ?_⟩)
    clear H
    subst hr
    rw [aboveT_drop hj]
    have H := H7.lastTm (j := j) (by (repeat (first | with_reducible exact Pick.head | with_reducible apply Pick.tail))) hj (HV.out j hj)
    have H := H.node2 (a := ts[j]) (b := aboveT k (ts.drop (j + 1)) b) (by (repeat (first | with_reducible exact Pick.head | with_reducible apply Pick.tail))) (by (repeat (first | with_reducible exact Pick.head | with_reducible apply Pick.tail))) (by (repeat (first | with_reducible exact Pick.head | with_reducible apply Pick.tail))) hk
    (repeat apply Exists.intro)
    simp only [Tm.k_mk, Tm.n_mk, Tm.a_mk, Tm.ls_mk, Tm.ks_mk, List.length_nil, List.length_cons, Nat.reduceAdd, Nat.zero_add, ← List.map_take]
    exact (H.arr (by (repeat (first | with_reducible exact Arr.nil | refine Arr.cons (by (repeat (first | with_reducible exact Pick.head | with_reducible apply Pick.tail))) ?_)) <;> exact Arr.of_subl (by (repeat (first | with_reducible exact Subl.refl _ | with_reducible apply Subl.drop)))))
  · rintro e w8 ⟨⟨v, rfl⟩, r, B, K, cb, kb, _, hr, _, H⟩
    refine ⟨v, rfl, .ready, none, _, by decide, H, fun w9 H => ?_⟩
    simp only [List.drop_zero] at hr
    subst hr
    clear HV hrc H3 hes
    dsimp only
    have hr_ := H.rules; simp only [Rules, and_true] at hr_; have hd_ := H.dif; simp only [Dif, Neq, and_true] at hd_; obtain ⟨ho_, hz_⟩ := H.old0
    go_wp2_with fail
    clear hr_ hd_ ho_ hz_
    refine endH (by (repeat (first | with_reducible exact H | with_reducible exact H0_ | with_reducible apply Hp.alloc | with_reducible apply Hp.allocMap | with_reducible apply Hp.drew | with_reducible apply Hp.drewN | with_reducible apply Hp.set)); (try any_goals (repeat (first | with_reducible exact Upd.head | with_reducible apply Upd.tail)))) ?_
    clear H; intro w10 H; (try simp only [size_drew_, size_drewN_, World.size_alloc, World.size_setCell, List.set_cons_zero, List.set_cons_succ] at H)
    refine leaveM (v := .agg #[_, _, _, _, _]) H (by (repeat (first | with_reducible exact Pick.head | with_reducible apply Pick.tail))) (fun w11 H => ⟨Res.one Tryd.results78 (H.resBox (by (repeat (first | with_reducible exact Pick.head | with_reducible apply Pick.tail))) aggTerm rfl rfl), _, _, _, _, rfl, ?_⟩)
    exact (Hp.only (Hp.pick H (by (repeat (first | with_reducible exact Pick.head | with_reducible apply Pick.tail)))) (.keep (by (repeat (first | with_reducible exact Subl.refl _ | with_reducible apply Subl.drop)))))
end Go.Proofs.YtgbokmphbimihaaDoor
