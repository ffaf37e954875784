/- The kit's rows that are lent: what makes them: contracts. No statement of the seat is proved here. -/
import Derived.Test.YteelplgdojjakaaGreatDoorMgAwake11
namespace Go.Proofs.YteelplgdojjakaaGreatDoor
set_option linter.unusedSimpArgs false
set_option linter.unusedVariables false
open Go.RowKit

/-- A struct whose rows are lent is handed back. -/
def PKd (w : World) (d : D) (e : Ending) (w' : World) : Prop := ∃ cs : List Value, e = .returned (.agg cs.toArray) ∧ KC mkD w' (fun k => w.heap.size ≤ k) d cs ∧ Ext no w w'
/-- A row that is lent is handed back. -/
def PKr (w : World) (e z : Nat) (ds : List D) (en : Ending) (w' : World) : Prop := ∃ A c, en = .returned (.slice A ds.length c) ∧ KC mkD w' (fun k => w.heap.size ≤ k) (.l e z ds) [.slice A ds.length c] ∧ Ext no w w'
theorem Hp.resK {w0 w w1 : World} {l : List Ch} {d : D} {cs : List Value} (H : Hp no w0 w l) (hx : Ext no w w1) (hk : KC mkD w1 (fun k => w.heap.size ≤ k) d cs) : ∃ K, Hp no w0 w1 (.gh K (fun w' => KC mkD w' (fun k => w0.heap.size ≤ k) d cs) :: l) :=
  H.resGh hx (KC.frame (Nat.le_refl _) (fun _ _ h => Nat.le_trans H.ext.size h) (fun _ _ _ => rfl) _ _ hk) (fun w' hz h => KC.frame hz (fun _ _ h => Nat.le_trans H.ext.size h) (fun k h1 h2 => h k h2 h1) _ _ hk)
theorem Hp.resR {w0 w w1 : World} {l : List Ch} {d : D} {cs : List Value} (H : Hp no w0 w l) (hx : Ext no w w1) (hk : RC w1 (fun k => w.heap.size ≤ k) d cs) : ∃ K, Hp no w0 w1 (.gh K (fun w' => RC w' (fun k => w0.heap.size ≤ k) d cs) :: l) :=
  H.resGh hx (RC.frame (Nat.le_refl _) (fun _ _ h => Nat.le_trans H.ext.size h) (fun _ _ _ => rfl) _ _ hk) (fun w' hz h => RC.frame hz (fun _ _ h => Nat.le_trans H.ext.size h) (fun k h1 h2 => h k h2 h1) _ _ hk)
theorem mk_take {f : Nat → D} {q : Nat} (h : q < 12) : ((List.range 12).map f).take (q + 1) = ((List.range 12).map f).take q ++ [f q] := by
  rw [List.take_succ_eq_append_getElem (by simpa using h)]
  simp
theorem mk_all (f : Nat → D) {q : Nat} (h : ¬ q < 12) : ((List.range 12).map f).take q = (List.range 12).map f := List.take_of_length_le (by simp; omega)
set_option maxRecDepth 100000 in
set_option maxHeartbeats 4000000 in
theorem lentLevels_ {w : World} {S : Nat → Prop} {xs : List Lv} {A : Option Addr} {n c : Nat} (hel : ∀ x ∈ xs, ∀ (w : World) (S : Nat → Prop) (cs : List Value), RC w S (lvD x) cs → Calls Tryz.prog 100 #[.agg cs.toArray] w (PKd w (lvD x))) (h : RC w S (.l 38 1 (xs.map lvD)) [.slice A n c]) (hn : n = xs.length) :
    Calls Tryz.prog 78 #[.slice A n c] w (PKr w 38 1 (xs.map lvD)) := by
  subst hn
  have hM := h.lenM.1
  have HF := Lib.hid hel
  obtain ⟨N, hN⟩ : ∃ N : Nat, N = xs.length + 12 := ⟨_, rfl⟩
  obtain ⟨cl, hcl, hmk⟩ := make_row (P := Tryz.prog) stLevels N (by omega)
  have hw : IntKind.i64.wrap ((xs.length : Int) + 12) = (N : Int) := by rw [IntKind.wrap_i64]; omega
  have HCL := Lib.hid hcl
  clear hel hcl
  have HN := Lib.hid hN
  have hsz : Hid (∀ x : Lv, (lvD x).size = 1) := Lib.hid (fun x => by first | exact Tm.size_d x | exact lvD_size x | exact Mb.size_d x | exact Ct.size_d x | exact Dc.size_d x)
  clear hN
  go_enter Tryz.func78, Tryz.ntmps78
  go_wp2_with fail
  have H := Hp.start no w
  refine codeH (by (repeat (first | with_reducible exact H | with_reducible exact H0_ | with_reducible apply Hp.alloc | with_reducible apply Hp.allocMap | with_reducible apply Hp.drew | with_reducible apply Hp.drewN | with_reducible apply Hp.set)); (try any_goals (repeat (first | with_reducible exact Upd.head | with_reducible apply Upd.tail)))) ?_
  clear H; intro w1 H; (try simp only [size_drew_, size_drewN_, World.size_alloc, World.size_setCell, List.set_cons_zero, List.set_cons_succ] at H)
  clear hmk
  replace H := (H.made .head HCL.out (by have := HN.out; unfold maxLen; omega)).gh0 (p := fun w' => KCs mkD w' (fun k => w.heap.size ≤ k) ((xs.take 0).map lvD) []) (fun _ => KCs.nil)
  go_loopw [3, 4] (fun out i wr => ∃ (j : Nat) (v : Value) (es : List Value) (K : List Nat), j ≤ xs.length ∧ i = .int .i64 j ∧ out = v ∧ Hp no w wr [.gh K (fun w' => KCs mkD w' (fun k => w.heap.size ≤ k) ((xs.take j).map lvD) es), .raw 38 1 j v es]) (fun _ i _ => xs.length - (intOf i).toNat)
  case atStart => exact ⟨0, _, [], _, Nat.zero_le _, rfl, rfl, (H.arr (by (repeat (first | with_reducible exact Arr.nil | refine Arr.cons (by (repeat (first | with_reducible exact Pick.head | with_reducible apply Pick.tail))) ?_)) <;> exact Arr.of_subl (by (repeat (first | with_reducible exact Subl.refl _ | with_reducible apply Subl.drop)))))⟩
  case round =>
    clear H
    obtain ⟨j, v, es, K, hj, rfl, rfl, H⟩ := hrel
    by_cases hlt : j < xs.length
    · obtain ⟨b, o, cs, rfl, hb, hS, hd, hl, hcell⟩ := h.el (i := j) (d := lvD xs[j]) (by simp [hlt])
      have HI := Lib.hid hcell
      have HL := Lib.hid hl
      have HD := Lib.hid hd
      clear hcell hl hd
      have hr_ := H.rules; simp only [Rules, and_true] at hr_; have hd_ := H.dif; simp only [Dif, Neq, and_true] at hd_; obtain ⟨ho_, hz_⟩ := H.old0
      go_wp2_with ((with_reducible refine atLoad (t := 38) ?_); (refine wpList_run (v := .agg (cs).toArray) rfl (run_loadL aggLevel rfl ?_ HL.out (H.lies hb no_not HI.out)) ?_); (focus (go_simp; done)))
      (try clear hr_ hd_ ho_ hz_)
      refine callsH (by (repeat (first | with_reducible exact H | with_reducible exact H0_ | with_reducible apply Hp.alloc | with_reducible apply Hp.allocMap | with_reducible apply Hp.drew | with_reducible apply Hp.drewN | with_reducible apply Hp.set)); (try any_goals (repeat (first | with_reducible exact Upd.head | with_reducible apply Upd.tail)))) ?_
      clear H; intro w2 H; (try simp only [size_drew_, size_drewN_, World.size_alloc, World.size_setCell, List.set_cons_zero, List.set_cons_succ] at H)
      refine (HF.out _ (List.getElem_mem hlt) w2 _ cs (HD.out.ext0 H.ext)).mono ?_
      rintro e w3 ⟨cs2, rfl, hk, hx⟩
      have HL2 := Lib.hid (hk.len.trans (hsz.out xs[j]))
      have ONE := Lib.hid (RC.one _ _ hk.rc)
      have hl2_ := HL2.out
      have hf2_ := fold_cells hl2_
      obtain ⟨K2, H2⟩ := H.resK hx hk
      clear H hx hk
      have H := H2
      clear H2
      have hr_ := H.rules; simp only [Rules, and_true] at hr_; have hd_ := H.dif; simp only [Dif, Neq, and_true] at hd_; obtain ⟨ho_, hz_⟩ := H.old0
      go_wp2_with (first | ((with_reducible refine atLoad (t := 38) ?_); (refine wpList_run (v := .agg (cs2).toArray) rfl (run_loadL aggLevel rfl ?_ HL2.out (Hp.boxlies H (by (repeat (first | with_reducible exact Pick.head | with_reducible apply Pick.tail))))) ?_); (focus (go_simp; done))) | ((with_reducible refine atStore (t := 38) ?_); go_must (refine wpList_storeH (t := 38) (cs' := cs2) rfl rfl (by go_simp <;> first | rfl | exact ⟨rfl, rfl⟩) (by go_simp <;> first | rfl | exact ⟨rfl, rfl⟩) (by exact Hp.norm (by (repeat (first | with_reducible exact H | with_reducible exact H0_ | with_reducible apply Hp.alloc | with_reducible apply Hp.allocMap | with_reducible apply Hp.drew | with_reducible apply Hp.drewN | with_reducible apply Hp.set)); (try any_goals (repeat (first | with_reducible exact Upd.head | with_reducible apply Upd.tail)))) (by ((try simp only [size_drew_, size_drewN_, World.size_alloc, World.size_setCell, List.set_cons_zero, List.set_cons_succ, List.nil_append, List.cons_append]) <;> rfl))) (by (repeat (first | with_reducible exact Upd.head | with_reducible apply Upd.tail))) (by rw [HL2.out]; exact aggLevel) (by rw [HL2.out]; rfl) ONE.out ?_; clear H; intro w4 H; (try simp only [size_drew_, size_drewN_, World.size_alloc, World.size_setCell, List.set_cons_zero, List.set_cons_succ] at H); have hr2_ := H.rules; simp only [Rules, and_true] at hr2_; have hs2_ := H.ext.size)) | (at_builtin; go_must (refine wpList_pushK rfl (.tmp 22) (.tmp 24) 33 rfl stLevels (by go_simp <;> first | rfl | exact ⟨rfl, rfl⟩) (by go_simp <;> first | rfl | exact ⟨rfl, rfl⟩) (by exact Hp.norm (by (repeat (first | with_reducible exact H | with_reducible exact H0_ | with_reducible apply Hp.alloc | with_reducible apply Hp.allocMap | with_reducible apply Hp.drew | with_reducible apply Hp.drewN | with_reducible apply Hp.set)); (try any_goals (repeat (first | with_reducible exact Upd.head | with_reducible apply Upd.tail)))) (by ((try simp only [size_drew_, size_drewN_, World.size_alloc, World.size_setCell, List.set_cons_zero, List.set_cons_succ, List.nil_append, List.cons_append]) <;> rfl))) (by (repeat (first | with_reducible exact Pick.head | with_reducible apply Pick.tail))) (by (repeat (first | with_reducible exact Pick.head | with_reducible apply Pick.tail))) HL2.out ONE.out ?_ ?_; (focus omega); clear H; intro v5 w5 H)))
      go_roundw
      case rel =>
        have H6 : Hp no w _ [.gh K (fun w' => KCs mkD w' (fun k => w.heap.size ≤ k) ((xs.take j).map lvD) es), .gh K2 (fun w' => KC mkD w' (fun k => w.heap.size ≤ k) (lvD xs[j]) cs2), .raw 38 1 (j + 1) v5 (es ++ cs2)] := (H.arr (by (repeat (first | with_reducible exact Arr.nil | refine Arr.cons (by (repeat (first | with_reducible exact Pick.head | with_reducible apply Pick.tail))) ?_)) <;> exact Arr.of_subl (by (repeat (first | with_reducible exact Subl.refl _ | with_reducible apply Subl.drop)))))
        exact ⟨j + 1, v5, es ++ cs2, _, by omega, by first | go_num | rfl | simp, rfl, H6.gh2 (r := fun w' => KCs mkD w' (fun k => w.heap.size ≤ k) ((xs.take (j + 1)).map lvD) (es ++ cs2)) (fun w' h1 h2 => by rw [take_map _ hlt]; exact h1.append (KCs.single h2))⟩
      case measure => simp [intOf]; omega
    · rw [take_all hlt] at H
      obtain rfl : j = xs.length := by omega
      go_wp2_with fail
      go_loopw [3, 6] (fun out i wr => ∃ (q : Nat) (v : Value) (ms : List Value) (K K' : List Nat), q ≤ 12 ∧ i = .int .i64 q ∧ out = v ∧ Hp no w wr [.gh K (fun w' => KCs mkD w' (fun k => w.heap.size ≤ k) (xs.map lvD) es), .gh K' (fun w' => RCs w' (fun k => w.heap.size ≤ k) (((List.range 12).map fun i => lvD (mkLv i)).take q) ms), .raw 38 1 (xs.length + q) v (es ++ ms)]) (fun _ i _ => 12 - (intOf i).toNat)
      case atStart =>
        have H6 := H.gh0 (p := fun w' => RCs w' (fun k => w.heap.size ≤ k) (((List.range 12).map fun i => lvD (mkLv i)).take 0) []) (fun _ => by simp only [List.take_zero]; unfold RCs; rfl)
        have H7 : Hp no w _ [.gh K (fun w' => KCs mkD w' (fun k => w.heap.size ≤ k) (xs.map lvD) es), .gh [] (fun w' => RCs w' (fun k => w.heap.size ≤ k) (((List.range 12).map fun i => lvD (mkLv i)).take 0) []), .raw 38 1 xs.length _ es] := (H6.arr (by (repeat (first | with_reducible exact Arr.nil | refine Arr.cons (by (repeat (first | with_reducible exact Pick.head | with_reducible apply Pick.tail))) ?_)) <;> exact Arr.of_subl (by (repeat (first | with_reducible exact Subl.refl _ | with_reducible apply Subl.drop)))))
        exact ⟨0, _, [], _, _, by omega, rfl, rfl, by rw [List.append_nil]; exact H7⟩
      case round =>
        clear H
        obtain ⟨q, v, ms, K, K', hq, rfl, rfl, H⟩ := hrel
        by_cases hlt : q < 12
        · go_wp2_with fail
          refine (markLevel_calls (i := q) hlt).mono ?_
          rintro e w3 ⟨cs2, rfl, hk, hx⟩
          have HL2 := Lib.hid ((RC.len _ _ hk).trans (show _ = 1 by first | rfl | exact hsz.out _))
          have ONE := Lib.hid (RC.one _ _ hk)
          have hl2_ := HL2.out
          have hf2_ := fold_cells hl2_
          obtain ⟨K2, H2⟩ := H.resR hx hk
          clear H hx hk
          have H := H2
          clear H2
          go_wp2_with (at_builtin; go_must (refine wpList_pushK rfl (.tmp 30) (.tmp 33) 33 rfl stLevels (by go_simp <;> first | rfl | exact ⟨rfl, rfl⟩) (by go_simp <;> first | rfl | exact ⟨rfl, rfl⟩) (by exact Hp.norm (by (repeat (first | with_reducible exact H | with_reducible exact H0_ | with_reducible apply Hp.alloc | with_reducible apply Hp.allocMap | with_reducible apply Hp.drew | with_reducible apply Hp.drewN | with_reducible apply Hp.set)); (try any_goals (repeat (first | with_reducible exact Upd.head | with_reducible apply Upd.tail)))) (by ((try simp only [size_drew_, size_drewN_, World.size_alloc, World.size_setCell, List.set_cons_zero, List.set_cons_succ, List.nil_append, List.cons_append]) <;> rfl))) (by (repeat (first | with_reducible exact Pick.head | with_reducible apply Pick.tail))) (by (repeat (first | with_reducible exact Pick.head | with_reducible apply Pick.tail))) HL2.out ONE.out ?_ ?_; (focus omega); clear H; intro v5 w5 H))
          go_roundw
          case rel =>
            have H6 : Hp no w _ [.gh K' (fun w' => RCs w' (fun k => w.heap.size ≤ k) (((List.range 12).map fun i => lvD (mkLv i)).take q) ms), .gh K2 (fun w' => RC w' (fun k => w.heap.size ≤ k) ((fun i => lvD (mkLv i)) q) cs2), .gh K (fun w' => KCs mkD w' (fun k => w.heap.size ≤ k) (xs.map lvD) es), .raw 38 1 (xs.length + q + 1) v5 (es ++ ms ++ cs2)] := (H.arr (by (repeat (first | with_reducible exact Arr.nil | refine Arr.cons (by (repeat (first | with_reducible exact Pick.head | with_reducible apply Pick.tail))) ?_)) <;> exact Arr.of_subl (by (repeat (first | with_reducible exact Subl.refl _ | with_reducible apply Subl.drop)))))
            have H7 := H6.gh2 (r := fun w' => RCs w' (fun k => w.heap.size ≤ k) (((List.range 12).map fun i => lvD (mkLv i)).take (q + 1)) (ms ++ cs2)) (fun w' h1 h2 => by rw [mk_take hlt]; exact h1.append (RCs.single h2))
            rw [List.append_assoc] at H7
            have H8 : Hp no w _ [.gh K (fun w' => KCs mkD w' (fun k => w.heap.size ≤ k) (xs.map lvD) es), .gh (K' ++ K2) (fun w' => RCs w' (fun k => w.heap.size ≤ k) (((List.range 12).map fun i => lvD (mkLv i)).take (q + 1)) (ms ++ cs2)), .raw 38 1 (xs.length + q + 1) v5 (es ++ (ms ++ cs2))] := (H7.arr (by (repeat (first | with_reducible exact Arr.nil | refine Arr.cons (by (repeat (first | with_reducible exact Pick.head | with_reducible apply Pick.tail))) ?_)) <;> exact Arr.of_subl (by (repeat (first | with_reducible exact Subl.refl _ | with_reducible apply Subl.drop)))))
            exact ⟨q + 1, v5, ms ++ cs2, K, _, by omega, by first | go_num | rfl | simp, rfl, H8⟩
          case measure => simp [intOf]; omega
        · obtain rfl : q = 12 := by omega
          obtain ⟨A5, c5, rfl, hc1, hc2, _⟩ := H.rawLen' (by (repeat (first | with_reducible exact Pick.head | with_reducible apply Pick.tail)))
          rw [mk_all _ hlt] at H
          have hn5 : xs.length ≤ c5 := by omega
          go_wp2_with fail
          go_ret
          obtain ⟨_, _, _, hkk⟩ := KC.of (mk := mkD) (S := fun k => w.heap.size ≤ k) (ds := xs.map lvD) (es := es) (ms := ms) (A := A5) (c := c5) H (by (repeat (first | with_reducible exact Pick.head | with_reducible apply Pick.tail))) (by rw [List.length_map]) (fun d hd => by obtain ⟨x, _, rfl⟩ := List.mem_map.1 hd; exact hsz.out x) (by rw [List.length_map]; unfold M; exact hM) (H.gh .head) (by rw [mkD_lv]; simp) (fun d hd => by rw [mkD_lv] at hd; obtain ⟨i, _, rfl⟩ := List.mem_map.1 hd; first | rfl | exact hsz.out _) (by rw [mkD_lv]; exact H.gh (.tail .head)) (fun b h => h)
          exact ⟨A5, c5, by rw [List.length_map]; rfl, by rw [List.length_map]; exact hkk, H.ext⟩
set_option maxRecDepth 100000 in
set_option maxHeartbeats 4000000 in
theorem lentTerms_ {w : World} {S : Nat → Prop} {xs : List Tm} {A : Option Addr} {n c : Nat} (hel : ∀ x ∈ xs, ∀ (w : World) (S : Nat → Prop) (cs : List Value), RC w S (Tm.d x) cs → Calls Tryz.prog 29 #[.agg cs.toArray] w (PKd w (Tm.d x))) (h : RC w S (.l 35 5 (xs.map Tm.d)) [.slice A n c]) (hn : n = xs.length) :
    Calls Tryz.prog 13 #[.slice A n c] w (PKr w 35 5 (xs.map Tm.d)) := by
  subst hn
  have hM := h.lenM.1
  have HF := Lib.hid hel
  obtain ⟨N, hN⟩ : ∃ N : Nat, N = xs.length + 12 := ⟨_, rfl⟩
  obtain ⟨cl, hcl, hmk⟩ := make_row (P := Tryz.prog) stTerms N (by omega)
  have hw : IntKind.i64.wrap ((xs.length : Int) + 12) = (N : Int) := by rw [IntKind.wrap_i64]; omega
  have HCL := Lib.hid hcl
  clear hel hcl
  have HN := Lib.hid hN
  have hsz : Hid (∀ x : Tm, (Tm.d x).size = 5) := Lib.hid (fun x => by first | exact Tm.size_d x | exact lvD_size x | exact Mb.size_d x | exact Ct.size_d x | exact Dc.size_d x)
  clear hN
  go_enter Tryz.func13, Tryz.ntmps13
  go_wp2_with fail
  have H := Hp.start no w
  refine codeH (by (repeat (first | with_reducible exact H | with_reducible exact H0_ | with_reducible apply Hp.alloc | with_reducible apply Hp.allocMap | with_reducible apply Hp.drew | with_reducible apply Hp.drewN | with_reducible apply Hp.set)); (try any_goals (repeat (first | with_reducible exact Upd.head | with_reducible apply Upd.tail)))) ?_
  clear H; intro w1 H; (try simp only [size_drew_, size_drewN_, World.size_alloc, World.size_setCell, List.set_cons_zero, List.set_cons_succ] at H)
  clear hmk
  replace H := (H.made .head HCL.out (by have := HN.out; unfold maxLen; omega)).gh0 (p := fun w' => KCs mkD w' (fun k => w.heap.size ≤ k) ((xs.take 0).map Tm.d) []) (fun _ => KCs.nil)
  go_loopw [3, 4] (fun out i wr => ∃ (j : Nat) (v : Value) (es : List Value) (K : List Nat), j ≤ xs.length ∧ i = .int .i64 j ∧ out = v ∧ Hp no w wr [.gh K (fun w' => KCs mkD w' (fun k => w.heap.size ≤ k) ((xs.take j).map Tm.d) es), .raw 35 5 j v es]) (fun _ i _ => xs.length - (intOf i).toNat)
  case atStart => exact ⟨0, _, [], _, Nat.zero_le _, rfl, rfl, (H.arr (by (repeat (first | with_reducible exact Arr.nil | refine Arr.cons (by (repeat (first | with_reducible exact Pick.head | with_reducible apply Pick.tail))) ?_)) <;> exact Arr.of_subl (by (repeat (first | with_reducible exact Subl.refl _ | with_reducible apply Subl.drop)))))⟩
  case round =>
    clear H
    obtain ⟨j, v, es, K, hj, rfl, rfl, H⟩ := hrel
    by_cases hlt : j < xs.length
    · obtain ⟨b, o, cs, rfl, hb, hS, hd, hl, hcell⟩ := h.el (i := j) (d := Tm.d xs[j]) (by simp [hlt])
      have HI := Lib.hid hcell
      have HL := Lib.hid hl
      have HD := Lib.hid hd
      clear hcell hl hd
      have hr_ := H.rules; simp only [Rules, and_true] at hr_; have hd_ := H.dif; simp only [Dif, Neq, and_true] at hd_; obtain ⟨ho_, hz_⟩ := H.old0
      go_wp2_with ((with_reducible refine atLoad (t := 35) ?_); (refine wpList_run (v := .agg (cs).toArray) rfl (run_loadL aggTerm rfl ?_ HL.out (H.lies hb no_not HI.out)) ?_); (focus (go_simp; done)))
      (try clear hr_ hd_ ho_ hz_)
      refine callsH (by (repeat (first | with_reducible exact H | with_reducible exact H0_ | with_reducible apply Hp.alloc | with_reducible apply Hp.allocMap | with_reducible apply Hp.drew | with_reducible apply Hp.drewN | with_reducible apply Hp.set)); (try any_goals (repeat (first | with_reducible exact Upd.head | with_reducible apply Upd.tail)))) ?_
      clear H; intro w2 H; (try simp only [size_drew_, size_drewN_, World.size_alloc, World.size_setCell, List.set_cons_zero, List.set_cons_succ] at H)
      refine (HF.out _ (List.getElem_mem hlt) w2 _ cs (HD.out.ext0 H.ext)).mono ?_
      rintro e w3 ⟨cs2, rfl, hk, hx⟩
      have HL2 := Lib.hid (hk.len.trans (hsz.out xs[j]))
      have ONE := Lib.hid (RC.one _ _ hk.rc)
      have hl2_ := HL2.out
      have hf2_ := fold_cells hl2_
      obtain ⟨K2, H2⟩ := H.resK hx hk
      clear H hx hk
      have H := H2
      clear H2
      have hr_ := H.rules; simp only [Rules, and_true] at hr_; have hd_ := H.dif; simp only [Dif, Neq, and_true] at hd_; obtain ⟨ho_, hz_⟩ := H.old0
      go_wp2_with (first | ((with_reducible refine atLoad (t := 35) ?_); (refine wpList_run (v := .agg (cs2).toArray) rfl (run_loadL aggTerm rfl ?_ HL2.out (Hp.boxlies H (by (repeat (first | with_reducible exact Pick.head | with_reducible apply Pick.tail))))) ?_); (focus (go_simp; done))) | ((with_reducible refine atStore (t := 35) ?_); go_must (refine wpList_storeH (t := 35) (cs' := cs2) rfl rfl (by go_simp <;> first | rfl | exact ⟨rfl, rfl⟩) (by go_simp <;> first | rfl | exact ⟨rfl, rfl⟩) (by exact Hp.norm (by (repeat (first | with_reducible exact H | with_reducible exact H0_ | with_reducible apply Hp.alloc | with_reducible apply Hp.allocMap | with_reducible apply Hp.drew | with_reducible apply Hp.drewN | with_reducible apply Hp.set)); (try any_goals (repeat (first | with_reducible exact Upd.head | with_reducible apply Upd.tail)))) (by ((try simp only [size_drew_, size_drewN_, World.size_alloc, World.size_setCell, List.set_cons_zero, List.set_cons_succ, List.nil_append, List.cons_append]) <;> rfl))) (by (repeat (first | with_reducible exact Upd.head | with_reducible apply Upd.tail))) (by rw [HL2.out]; exact aggTerm) (by rw [HL2.out]; rfl) ONE.out ?_; clear H; intro w4 H; (try simp only [size_drew_, size_drewN_, World.size_alloc, World.size_setCell, List.set_cons_zero, List.set_cons_succ] at H); have hr2_ := H.rules; simp only [Rules, and_true] at hr2_; have hs2_ := H.ext.size)) | (at_builtin; go_must (refine wpList_pushK rfl (.tmp 22) (.tmp 24) 24 rfl stTerms (by go_simp <;> first | rfl | exact ⟨rfl, rfl⟩) (by go_simp <;> first | rfl | exact ⟨rfl, rfl⟩) (by exact Hp.norm (by (repeat (first | with_reducible exact H | with_reducible exact H0_ | with_reducible apply Hp.alloc | with_reducible apply Hp.allocMap | with_reducible apply Hp.drew | with_reducible apply Hp.drewN | with_reducible apply Hp.set)); (try any_goals (repeat (first | with_reducible exact Upd.head | with_reducible apply Upd.tail)))) (by ((try simp only [size_drew_, size_drewN_, World.size_alloc, World.size_setCell, List.set_cons_zero, List.set_cons_succ, List.nil_append, List.cons_append]) <;> rfl))) (by (repeat (first | with_reducible exact Pick.head | with_reducible apply Pick.tail))) (by (repeat (first | with_reducible exact Pick.head | with_reducible apply Pick.tail))) HL2.out ONE.out ?_ ?_; (focus omega); clear H; intro v5 w5 H)))
      go_roundw
      case rel =>
        have H6 : Hp no w _ [.gh K (fun w' => KCs mkD w' (fun k => w.heap.size ≤ k) ((xs.take j).map Tm.d) es), .gh K2 (fun w' => KC mkD w' (fun k => w.heap.size ≤ k) (Tm.d xs[j]) cs2), .raw 35 5 (j + 1) v5 (es ++ cs2)] := (H.arr (by (repeat (first | with_reducible exact Arr.nil | refine Arr.cons (by (repeat (first | with_reducible exact Pick.head | with_reducible apply Pick.tail))) ?_)) <;> exact Arr.of_subl (by (repeat (first | with_reducible exact Subl.refl _ | with_reducible apply Subl.drop)))))
        exact ⟨j + 1, v5, es ++ cs2, _, by omega, by first | go_num | rfl | simp, rfl, H6.gh2 (r := fun w' => KCs mkD w' (fun k => w.heap.size ≤ k) ((xs.take (j + 1)).map Tm.d) (es ++ cs2)) (fun w' h1 h2 => by rw [take_map _ hlt]; exact h1.append (KCs.single h2))⟩
      case measure => simp [intOf]; omega
    · rw [take_all hlt] at H
      obtain rfl : j = xs.length := by omega
      go_wp2_with fail
      go_loopw [3, 6] (fun out i wr => ∃ (q : Nat) (v : Value) (ms : List Value) (K K' : List Nat), q ≤ 12 ∧ i = .int .i64 q ∧ out = v ∧ Hp no w wr [.gh K (fun w' => KCs mkD w' (fun k => w.heap.size ≤ k) (xs.map Tm.d) es), .gh K' (fun w' => RCs w' (fun k => w.heap.size ≤ k) (((List.range 12).map fun i => (mkTm i).d).take q) ms), .raw 35 5 (xs.length + q) v (es ++ ms)]) (fun _ i _ => 12 - (intOf i).toNat)
      case atStart =>
        have H6 := H.gh0 (p := fun w' => RCs w' (fun k => w.heap.size ≤ k) (((List.range 12).map fun i => (mkTm i).d).take 0) []) (fun _ => by simp only [List.take_zero]; unfold RCs; rfl)
        have H7 : Hp no w _ [.gh K (fun w' => KCs mkD w' (fun k => w.heap.size ≤ k) (xs.map Tm.d) es), .gh [] (fun w' => RCs w' (fun k => w.heap.size ≤ k) (((List.range 12).map fun i => (mkTm i).d).take 0) []), .raw 35 5 xs.length _ es] := (H6.arr (by (repeat (first | with_reducible exact Arr.nil | refine Arr.cons (by (repeat (first | with_reducible exact Pick.head | with_reducible apply Pick.tail))) ?_)) <;> exact Arr.of_subl (by (repeat (first | with_reducible exact Subl.refl _ | with_reducible apply Subl.drop)))))
        exact ⟨0, _, [], _, _, by omega, rfl, rfl, by rw [List.append_nil]; exact H7⟩
      case round =>
        clear H
        obtain ⟨q, v, ms, K, K', hq, rfl, rfl, H⟩ := hrel
        by_cases hlt : q < 12
        · go_wp2_with fail
          refine (markTerm_calls (i := q) hlt).mono ?_
          rintro e w3 ⟨cs2, rfl, hk, hx⟩
          have HL2 := Lib.hid ((RC.len _ _ hk).trans (show _ = 5 by first | rfl | exact hsz.out _))
          have ONE := Lib.hid (RC.one _ _ hk)
          have hl2_ := HL2.out
          have hf2_ := fold_cells hl2_
          obtain ⟨K2, H2⟩ := H.resR hx hk
          clear H hx hk
          have H := H2
          clear H2
          go_wp2_with (at_builtin; go_must (refine wpList_pushK rfl (.tmp 30) (.tmp 33) 24 rfl stTerms (by go_simp <;> first | rfl | exact ⟨rfl, rfl⟩) (by go_simp <;> first | rfl | exact ⟨rfl, rfl⟩) (by exact Hp.norm (by (repeat (first | with_reducible exact H | with_reducible exact H0_ | with_reducible apply Hp.alloc | with_reducible apply Hp.allocMap | with_reducible apply Hp.drew | with_reducible apply Hp.drewN | with_reducible apply Hp.set)); (try any_goals (repeat (first | with_reducible exact Upd.head | with_reducible apply Upd.tail)))) (by ((try simp only [size_drew_, size_drewN_, World.size_alloc, World.size_setCell, List.set_cons_zero, List.set_cons_succ, List.nil_append, List.cons_append]) <;> rfl))) (by (repeat (first | with_reducible exact Pick.head | with_reducible apply Pick.tail))) (by (repeat (first | with_reducible exact Pick.head | with_reducible apply Pick.tail))) HL2.out ONE.out ?_ ?_; (focus omega); clear H; intro v5 w5 H))
          go_roundw
          case rel =>
            have H6 : Hp no w _ [.gh K' (fun w' => RCs w' (fun k => w.heap.size ≤ k) (((List.range 12).map fun i => (mkTm i).d).take q) ms), .gh K2 (fun w' => RC w' (fun k => w.heap.size ≤ k) ((fun i => (mkTm i).d) q) cs2), .gh K (fun w' => KCs mkD w' (fun k => w.heap.size ≤ k) (xs.map Tm.d) es), .raw 35 5 (xs.length + q + 1) v5 (es ++ ms ++ cs2)] := (H.arr (by (repeat (first | with_reducible exact Arr.nil | refine Arr.cons (by (repeat (first | with_reducible exact Pick.head | with_reducible apply Pick.tail))) ?_)) <;> exact Arr.of_subl (by (repeat (first | with_reducible exact Subl.refl _ | with_reducible apply Subl.drop)))))
            have H7 := H6.gh2 (r := fun w' => RCs w' (fun k => w.heap.size ≤ k) (((List.range 12).map fun i => (mkTm i).d).take (q + 1)) (ms ++ cs2)) (fun w' h1 h2 => by rw [mk_take hlt]; exact h1.append (RCs.single h2))
            rw [List.append_assoc] at H7
            have H8 : Hp no w _ [.gh K (fun w' => KCs mkD w' (fun k => w.heap.size ≤ k) (xs.map Tm.d) es), .gh (K' ++ K2) (fun w' => RCs w' (fun k => w.heap.size ≤ k) (((List.range 12).map fun i => (mkTm i).d).take (q + 1)) (ms ++ cs2)), .raw 35 5 (xs.length + q + 1) v5 (es ++ (ms ++ cs2))] := (H7.arr (by (repeat (first | with_reducible exact Arr.nil | refine Arr.cons (by (repeat (first | with_reducible exact Pick.head | with_reducible apply Pick.tail))) ?_)) <;> exact Arr.of_subl (by (repeat (first | with_reducible exact Subl.refl _ | with_reducible apply Subl.drop)))))
            exact ⟨q + 1, v5, ms ++ cs2, K, _, by omega, by first | go_num | rfl | simp, rfl, H8⟩
          case measure => simp [intOf]; omega
        · obtain rfl : q = 12 := by omega
          obtain ⟨A5, c5, rfl, hc1, hc2, _⟩ := H.rawLen' (by (repeat (first | with_reducible exact Pick.head | with_reducible apply Pick.tail)))
          rw [mk_all _ hlt] at H
          have hn5 : xs.length ≤ c5 := by omega
          go_wp2_with fail
          go_ret
          obtain ⟨_, _, _, hkk⟩ := KC.of (mk := mkD) (S := fun k => w.heap.size ≤ k) (ds := xs.map Tm.d) (es := es) (ms := ms) (A := A5) (c := c5) H (by (repeat (first | with_reducible exact Pick.head | with_reducible apply Pick.tail))) (by rw [List.length_map]) (fun d hd => by obtain ⟨x, _, rfl⟩ := List.mem_map.1 hd; exact hsz.out x) (by rw [List.length_map]; unfold M; exact hM) (H.gh .head) (by rw [mkD_tm]; simp) (fun d hd => by rw [mkD_tm] at hd; obtain ⟨i, _, rfl⟩ := List.mem_map.1 hd; first | rfl | exact hsz.out _) (by rw [mkD_tm]; exact H.gh (.tail .head)) (fun b h => h)
          exact ⟨A5, c5, by rw [List.length_map]; rfl, by rw [List.length_map]; exact hkk, H.ext⟩
set_option maxRecDepth 100000 in
set_option maxHeartbeats 4000000 in
theorem lentMembers_ {w : World} {S : Nat → Prop} {xs : List Mb} {A : Option Addr} {n c : Nat} (hel : ∀ x ∈ xs, ∀ (w : World) (S : Nat → Prop) (cs : List Value), RC w S (Mb.d x) cs → Calls Tryz.prog 174 #[.agg cs.toArray] w (PKd w (Mb.d x))) (h : RC w S (.l 151 1 (xs.map Mb.d)) [.slice A n c]) (hn : n = xs.length) :
    Calls Tryz.prog 101 #[.slice A n c] w (PKr w 151 1 (xs.map Mb.d)) := by
  subst hn
  have hM := h.lenM.1
  have HF := Lib.hid hel
  obtain ⟨N, hN⟩ : ∃ N : Nat, N = xs.length + 12 := ⟨_, rfl⟩
  obtain ⟨cl, hcl, hmk⟩ := make_row (P := Tryz.prog) stMbs N (by omega)
  have hw : IntKind.i64.wrap ((xs.length : Int) + 12) = (N : Int) := by rw [IntKind.wrap_i64]; omega
  have HCL := Lib.hid hcl
  clear hel hcl
  have HN := Lib.hid hN
  have hsz : Hid (∀ x : Mb, (Mb.d x).size = 1) := Lib.hid (fun x => by first | exact Tm.size_d x | exact lvD_size x | exact Mb.size_d x | exact Ct.size_d x | exact Dc.size_d x)
  clear hN
  go_enter Tryz.func101, Tryz.ntmps101
  go_wp2_with fail
  have H := Hp.start no w
  refine codeH (by (repeat (first | with_reducible exact H | with_reducible exact H0_ | with_reducible apply Hp.alloc | with_reducible apply Hp.allocMap | with_reducible apply Hp.drew | with_reducible apply Hp.drewN | with_reducible apply Hp.set)); (try any_goals (repeat (first | with_reducible exact Upd.head | with_reducible apply Upd.tail)))) ?_
  clear H; intro w1 H; (try simp only [size_drew_, size_drewN_, World.size_alloc, World.size_setCell, List.set_cons_zero, List.set_cons_succ] at H)
  clear hmk
  replace H := (H.made .head HCL.out (by have := HN.out; unfold maxLen; omega)).gh0 (p := fun w' => KCs mkD w' (fun k => w.heap.size ≤ k) ((xs.take 0).map Mb.d) []) (fun _ => KCs.nil)
  go_loopw [3, 4] (fun out i wr => ∃ (j : Nat) (v : Value) (es : List Value) (K : List Nat), j ≤ xs.length ∧ i = .int .i64 j ∧ out = v ∧ Hp no w wr [.gh K (fun w' => KCs mkD w' (fun k => w.heap.size ≤ k) ((xs.take j).map Mb.d) es), .raw 151 1 j v es]) (fun _ i _ => xs.length - (intOf i).toNat)
  case atStart => exact ⟨0, _, [], _, Nat.zero_le _, rfl, rfl, (H.arr (by (repeat (first | with_reducible exact Arr.nil | refine Arr.cons (by (repeat (first | with_reducible exact Pick.head | with_reducible apply Pick.tail))) ?_)) <;> exact Arr.of_subl (by (repeat (first | with_reducible exact Subl.refl _ | with_reducible apply Subl.drop)))))⟩
  case round =>
    clear H
    obtain ⟨j, v, es, K, hj, rfl, rfl, H⟩ := hrel
    by_cases hlt : j < xs.length
    · obtain ⟨b, o, cs, rfl, hb, hS, hd, hl, hcell⟩ := h.el (i := j) (d := Mb.d xs[j]) (by simp [hlt])
      have HI := Lib.hid hcell
      have HL := Lib.hid hl
      have HD := Lib.hid hd
      clear hcell hl hd
      have hr_ := H.rules; simp only [Rules, and_true] at hr_; have hd_ := H.dif; simp only [Dif, Neq, and_true] at hd_; obtain ⟨ho_, hz_⟩ := H.old0
      go_wp2_with ((with_reducible refine atLoad (t := 151) ?_); (refine wpList_run (v := .agg (cs).toArray) rfl (run_loadL aggMemberK rfl ?_ HL.out (H.lies hb no_not HI.out)) ?_); (focus (go_simp; done)))
      (try clear hr_ hd_ ho_ hz_)
      refine callsH (by (repeat (first | with_reducible exact H | with_reducible exact H0_ | with_reducible apply Hp.alloc | with_reducible apply Hp.allocMap | with_reducible apply Hp.drew | with_reducible apply Hp.drewN | with_reducible apply Hp.set)); (try any_goals (repeat (first | with_reducible exact Upd.head | with_reducible apply Upd.tail)))) ?_
      clear H; intro w2 H; (try simp only [size_drew_, size_drewN_, World.size_alloc, World.size_setCell, List.set_cons_zero, List.set_cons_succ] at H)
      refine (HF.out _ (List.getElem_mem hlt) w2 _ cs (HD.out.ext0 H.ext)).mono ?_
      rintro e w3 ⟨cs2, rfl, hk, hx⟩
      have HL2 := Lib.hid (hk.len.trans (hsz.out xs[j]))
      have ONE := Lib.hid (RC.one _ _ hk.rc)
      have hl2_ := HL2.out
      have hf2_ := fold_cells hl2_
      obtain ⟨K2, H2⟩ := H.resK hx hk
      clear H hx hk
      have H := H2
      clear H2
      have hr_ := H.rules; simp only [Rules, and_true] at hr_; have hd_ := H.dif; simp only [Dif, Neq, and_true] at hd_; obtain ⟨ho_, hz_⟩ := H.old0
      go_wp2_with (first | ((with_reducible refine atLoad (t := 151) ?_); (refine wpList_run (v := .agg (cs2).toArray) rfl (run_loadL aggMemberK rfl ?_ HL2.out (Hp.boxlies H (by (repeat (first | with_reducible exact Pick.head | with_reducible apply Pick.tail))))) ?_); (focus (go_simp; done))) | ((with_reducible refine atStore (t := 151) ?_); go_must (refine wpList_storeH (t := 151) (cs' := cs2) rfl rfl (by go_simp <;> first | rfl | exact ⟨rfl, rfl⟩) (by go_simp <;> first | rfl | exact ⟨rfl, rfl⟩) (by exact Hp.norm (by (repeat (first | with_reducible exact H | with_reducible exact H0_ | with_reducible apply Hp.alloc | with_reducible apply Hp.allocMap | with_reducible apply Hp.drew | with_reducible apply Hp.drewN | with_reducible apply Hp.set)); (try any_goals (repeat (first | with_reducible exact Upd.head | with_reducible apply Upd.tail)))) (by ((try simp only [size_drew_, size_drewN_, World.size_alloc, World.size_setCell, List.set_cons_zero, List.set_cons_succ, List.nil_append, List.cons_append]) <;> rfl))) (by (repeat (first | with_reducible exact Upd.head | with_reducible apply Upd.tail))) (by rw [HL2.out]; exact aggMemberK) (by rw [HL2.out]; rfl) ONE.out ?_; clear H; intro w4 H; (try simp only [size_drew_, size_drewN_, World.size_alloc, World.size_setCell, List.set_cons_zero, List.set_cons_succ] at H); have hr2_ := H.rules; simp only [Rules, and_true] at hr2_; have hs2_ := H.ext.size)) | (at_builtin; go_must (refine wpList_pushK rfl (.tmp 22) (.tmp 24) 39 rfl stMbs (by go_simp <;> first | rfl | exact ⟨rfl, rfl⟩) (by go_simp <;> first | rfl | exact ⟨rfl, rfl⟩) (by exact Hp.norm (by (repeat (first | with_reducible exact H | with_reducible exact H0_ | with_reducible apply Hp.alloc | with_reducible apply Hp.allocMap | with_reducible apply Hp.drew | with_reducible apply Hp.drewN | with_reducible apply Hp.set)); (try any_goals (repeat (first | with_reducible exact Upd.head | with_reducible apply Upd.tail)))) (by ((try simp only [size_drew_, size_drewN_, World.size_alloc, World.size_setCell, List.set_cons_zero, List.set_cons_succ, List.nil_append, List.cons_append]) <;> rfl))) (by (repeat (first | with_reducible exact Pick.head | with_reducible apply Pick.tail))) (by (repeat (first | with_reducible exact Pick.head | with_reducible apply Pick.tail))) HL2.out ONE.out ?_ ?_; (focus omega); clear H; intro v5 w5 H)))
      go_roundw
      case rel =>
        have H6 : Hp no w _ [.gh K (fun w' => KCs mkD w' (fun k => w.heap.size ≤ k) ((xs.take j).map Mb.d) es), .gh K2 (fun w' => KC mkD w' (fun k => w.heap.size ≤ k) (Mb.d xs[j]) cs2), .raw 151 1 (j + 1) v5 (es ++ cs2)] := (H.arr (by (repeat (first | with_reducible exact Arr.nil | refine Arr.cons (by (repeat (first | with_reducible exact Pick.head | with_reducible apply Pick.tail))) ?_)) <;> exact Arr.of_subl (by (repeat (first | with_reducible exact Subl.refl _ | with_reducible apply Subl.drop)))))
        exact ⟨j + 1, v5, es ++ cs2, _, by omega, by first | go_num | rfl | simp, rfl, H6.gh2 (r := fun w' => KCs mkD w' (fun k => w.heap.size ≤ k) ((xs.take (j + 1)).map Mb.d) (es ++ cs2)) (fun w' h1 h2 => by rw [take_map _ hlt]; exact h1.append (KCs.single h2))⟩
      case measure => simp [intOf]; omega
    · rw [take_all hlt] at H
      obtain rfl : j = xs.length := by omega
      go_wp2_with fail
      go_loopw [3, 6] (fun out i wr => ∃ (q : Nat) (v : Value) (ms : List Value) (K K' : List Nat), q ≤ 12 ∧ i = .int .i64 q ∧ out = v ∧ Hp no w wr [.gh K (fun w' => KCs mkD w' (fun k => w.heap.size ≤ k) (xs.map Mb.d) es), .gh K' (fun w' => RCs w' (fun k => w.heap.size ≤ k) (((List.range 12).map fun i => (mkMb i).d).take q) ms), .raw 151 1 (xs.length + q) v (es ++ ms)]) (fun _ i _ => 12 - (intOf i).toNat)
      case atStart =>
        have H6 := H.gh0 (p := fun w' => RCs w' (fun k => w.heap.size ≤ k) (((List.range 12).map fun i => (mkMb i).d).take 0) []) (fun _ => by simp only [List.take_zero]; unfold RCs; rfl)
        have H7 : Hp no w _ [.gh K (fun w' => KCs mkD w' (fun k => w.heap.size ≤ k) (xs.map Mb.d) es), .gh [] (fun w' => RCs w' (fun k => w.heap.size ≤ k) (((List.range 12).map fun i => (mkMb i).d).take 0) []), .raw 151 1 xs.length _ es] := (H6.arr (by (repeat (first | with_reducible exact Arr.nil | refine Arr.cons (by (repeat (first | with_reducible exact Pick.head | with_reducible apply Pick.tail))) ?_)) <;> exact Arr.of_subl (by (repeat (first | with_reducible exact Subl.refl _ | with_reducible apply Subl.drop)))))
        exact ⟨0, _, [], _, _, by omega, rfl, rfl, by rw [List.append_nil]; exact H7⟩
      case round =>
        clear H
        obtain ⟨q, v, ms, K, K', hq, rfl, rfl, H⟩ := hrel
        by_cases hlt : q < 12
        · go_wp2_with fail
          refine (markMember_calls (i := q) hlt).mono ?_
          rintro e w3 ⟨cs2, rfl, hk, hx⟩
          have HL2 := Lib.hid ((RC.len _ _ hk).trans (show _ = 1 by first | rfl | exact hsz.out _))
          have ONE := Lib.hid (RC.one _ _ hk)
          have hl2_ := HL2.out
          have hf2_ := fold_cells hl2_
          obtain ⟨K2, H2⟩ := H.resR hx hk
          clear H hx hk
          have H := H2
          clear H2
          go_wp2_with (at_builtin; go_must (refine wpList_pushK rfl (.tmp 30) (.tmp 33) 39 rfl stMbs (by go_simp <;> first | rfl | exact ⟨rfl, rfl⟩) (by go_simp <;> first | rfl | exact ⟨rfl, rfl⟩) (by exact Hp.norm (by (repeat (first | with_reducible exact H | with_reducible exact H0_ | with_reducible apply Hp.alloc | with_reducible apply Hp.allocMap | with_reducible apply Hp.drew | with_reducible apply Hp.drewN | with_reducible apply Hp.set)); (try any_goals (repeat (first | with_reducible exact Upd.head | with_reducible apply Upd.tail)))) (by ((try simp only [size_drew_, size_drewN_, World.size_alloc, World.size_setCell, List.set_cons_zero, List.set_cons_succ, List.nil_append, List.cons_append]) <;> rfl))) (by (repeat (first | with_reducible exact Pick.head | with_reducible apply Pick.tail))) (by (repeat (first | with_reducible exact Pick.head | with_reducible apply Pick.tail))) HL2.out ONE.out ?_ ?_; (focus omega); clear H; intro v5 w5 H))
          go_roundw
          case rel =>
            have H6 : Hp no w _ [.gh K' (fun w' => RCs w' (fun k => w.heap.size ≤ k) (((List.range 12).map fun i => (mkMb i).d).take q) ms), .gh K2 (fun w' => RC w' (fun k => w.heap.size ≤ k) ((fun i => (mkMb i).d) q) cs2), .gh K (fun w' => KCs mkD w' (fun k => w.heap.size ≤ k) (xs.map Mb.d) es), .raw 151 1 (xs.length + q + 1) v5 (es ++ ms ++ cs2)] := (H.arr (by (repeat (first | with_reducible exact Arr.nil | refine Arr.cons (by (repeat (first | with_reducible exact Pick.head | with_reducible apply Pick.tail))) ?_)) <;> exact Arr.of_subl (by (repeat (first | with_reducible exact Subl.refl _ | with_reducible apply Subl.drop)))))
            have H7 := H6.gh2 (r := fun w' => RCs w' (fun k => w.heap.size ≤ k) (((List.range 12).map fun i => (mkMb i).d).take (q + 1)) (ms ++ cs2)) (fun w' h1 h2 => by rw [mk_take hlt]; exact h1.append (RCs.single h2))
            rw [List.append_assoc] at H7
            have H8 : Hp no w _ [.gh K (fun w' => KCs mkD w' (fun k => w.heap.size ≤ k) (xs.map Mb.d) es), .gh (K' ++ K2) (fun w' => RCs w' (fun k => w.heap.size ≤ k) (((List.range 12).map fun i => (mkMb i).d).take (q + 1)) (ms ++ cs2)), .raw 151 1 (xs.length + q + 1) v5 (es ++ (ms ++ cs2))] := (H7.arr (by (repeat (first | with_reducible exact Arr.nil | refine Arr.cons (by (repeat (first | with_reducible exact Pick.head | with_reducible apply Pick.tail))) ?_)) <;> exact Arr.of_subl (by (repeat (first | with_reducible exact Subl.refl _ | with_reducible apply Subl.drop)))))
            exact ⟨q + 1, v5, ms ++ cs2, K, _, by omega, by first | go_num | rfl | simp, rfl, H8⟩
          case measure => simp [intOf]; omega
        · obtain rfl : q = 12 := by omega
          obtain ⟨A5, c5, rfl, hc1, hc2, _⟩ := H.rawLen' (by (repeat (first | with_reducible exact Pick.head | with_reducible apply Pick.tail)))
          rw [mk_all _ hlt] at H
          have hn5 : xs.length ≤ c5 := by omega
          go_wp2_with fail
          go_ret
          obtain ⟨_, _, _, hkk⟩ := KC.of (mk := mkD) (S := fun k => w.heap.size ≤ k) (ds := xs.map Mb.d) (es := es) (ms := ms) (A := A5) (c := c5) H (by (repeat (first | with_reducible exact Pick.head | with_reducible apply Pick.tail))) (by rw [List.length_map]) (fun d hd => by obtain ⟨x, _, rfl⟩ := List.mem_map.1 hd; exact hsz.out x) (by rw [List.length_map]; unfold M; exact hM) (H.gh .head) (by rw [mkD_mb]; simp) (fun d hd => by rw [mkD_mb] at hd; obtain ⟨i, _, rfl⟩ := List.mem_map.1 hd; first | rfl | exact hsz.out _) (by rw [mkD_mb]; exact H.gh (.tail .head)) (fun b h => h)
          exact ⟨A5, c5, by rw [List.length_map]; rfl, by rw [List.length_map]; exact hkk, H.ext⟩
set_option maxRecDepth 100000 in
set_option maxHeartbeats 4000000 in
theorem lentCtors_ {w : World} {S : Nat → Prop} {xs : List Ct} {A : Option Addr} {n c : Nat} (hel : ∀ x ∈ xs, ∀ (w : World) (S : Nat → Prop) (cs : List Value), RC w S (Ct.d x) cs → Calls Tryz.prog 176 #[.agg cs.toArray] w (PKd w (Ct.d x))) (h : RC w S (.l 153 6 (xs.map Ct.d)) [.slice A n c]) (hn : n = xs.length) :
    Calls Tryz.prog 102 #[.slice A n c] w (PKr w 153 6 (xs.map Ct.d)) := by
  subst hn
  have hM := h.lenM.1
  have HF := Lib.hid hel
  obtain ⟨N, hN⟩ : ∃ N : Nat, N = xs.length + 12 := ⟨_, rfl⟩
  obtain ⟨cl, hcl, hmk⟩ := make_row (P := Tryz.prog) stCts N (by omega)
  have hw : IntKind.i64.wrap ((xs.length : Int) + 12) = (N : Int) := by rw [IntKind.wrap_i64]; omega
  have HCL := Lib.hid hcl
  clear hel hcl
  have HN := Lib.hid hN
  have hsz : Hid (∀ x : Ct, (Ct.d x).size = 6) := Lib.hid (fun x => by first | exact Tm.size_d x | exact lvD_size x | exact Mb.size_d x | exact Ct.size_d x | exact Dc.size_d x)
  clear hN
  go_enter Tryz.func102, Tryz.ntmps102
  go_wp2_with fail
  have H := Hp.start no w
  refine codeH (by (repeat (first | with_reducible exact H | with_reducible exact H0_ | with_reducible apply Hp.alloc | with_reducible apply Hp.allocMap | with_reducible apply Hp.drew | with_reducible apply Hp.drewN | with_reducible apply Hp.set)); (try any_goals (repeat (first | with_reducible exact Upd.head | with_reducible apply Upd.tail)))) ?_
  clear H; intro w1 H; (try simp only [size_drew_, size_drewN_, World.size_alloc, World.size_setCell, List.set_cons_zero, List.set_cons_succ] at H)
  clear hmk
  replace H := (H.made .head HCL.out (by have := HN.out; unfold maxLen; omega)).gh0 (p := fun w' => KCs mkD w' (fun k => w.heap.size ≤ k) ((xs.take 0).map Ct.d) []) (fun _ => KCs.nil)
  go_loopw [3, 4] (fun out i wr => ∃ (j : Nat) (v : Value) (es : List Value) (K : List Nat), j ≤ xs.length ∧ i = .int .i64 j ∧ out = v ∧ Hp no w wr [.gh K (fun w' => KCs mkD w' (fun k => w.heap.size ≤ k) ((xs.take j).map Ct.d) es), .raw 153 6 j v es]) (fun _ i _ => xs.length - (intOf i).toNat)
  case atStart => exact ⟨0, _, [], _, Nat.zero_le _, rfl, rfl, (H.arr (by (repeat (first | with_reducible exact Arr.nil | refine Arr.cons (by (repeat (first | with_reducible exact Pick.head | with_reducible apply Pick.tail))) ?_)) <;> exact Arr.of_subl (by (repeat (first | with_reducible exact Subl.refl _ | with_reducible apply Subl.drop)))))⟩
  case round =>
    clear H
    obtain ⟨j, v, es, K, hj, rfl, rfl, H⟩ := hrel
    by_cases hlt : j < xs.length
    · obtain ⟨b, o, cs, rfl, hb, hS, hd, hl, hcell⟩ := h.el (i := j) (d := Ct.d xs[j]) (by simp [hlt])
      have HI := Lib.hid hcell
      have HL := Lib.hid hl
      have HD := Lib.hid hd
      clear hcell hl hd
      have hr_ := H.rules; simp only [Rules, and_true] at hr_; have hd_ := H.dif; simp only [Dif, Neq, and_true] at hd_; obtain ⟨ho_, hz_⟩ := H.old0
      go_wp2_with ((with_reducible refine atLoad (t := 153) ?_); (refine wpList_run (v := .agg (cs).toArray) rfl (run_loadL aggCtorK rfl ?_ HL.out (H.lies hb no_not HI.out)) ?_); (focus (go_simp; done)))
      (try clear hr_ hd_ ho_ hz_)
      refine callsH (by (repeat (first | with_reducible exact H | with_reducible exact H0_ | with_reducible apply Hp.alloc | with_reducible apply Hp.allocMap | with_reducible apply Hp.drew | with_reducible apply Hp.drewN | with_reducible apply Hp.set)); (try any_goals (repeat (first | with_reducible exact Upd.head | with_reducible apply Upd.tail)))) ?_
      clear H; intro w2 H; (try simp only [size_drew_, size_drewN_, World.size_alloc, World.size_setCell, List.set_cons_zero, List.set_cons_succ] at H)
      refine (HF.out _ (List.getElem_mem hlt) w2 _ cs (HD.out.ext0 H.ext)).mono ?_
      rintro e w3 ⟨cs2, rfl, hk, hx⟩
      have HL2 := Lib.hid (hk.len.trans (hsz.out xs[j]))
      have ONE := Lib.hid (RC.one _ _ hk.rc)
      have hl2_ := HL2.out
      have hf2_ := fold_cells hl2_
      obtain ⟨K2, H2⟩ := H.resK hx hk
      clear H hx hk
      have H := H2
      clear H2
      have hr_ := H.rules; simp only [Rules, and_true] at hr_; have hd_ := H.dif; simp only [Dif, Neq, and_true] at hd_; obtain ⟨ho_, hz_⟩ := H.old0
      go_wp2_with (first | ((with_reducible refine atLoad (t := 153) ?_); (refine wpList_run (v := .agg (cs2).toArray) rfl (run_loadL aggCtorK rfl ?_ HL2.out (Hp.boxlies H (by (repeat (first | with_reducible exact Pick.head | with_reducible apply Pick.tail))))) ?_); (focus (go_simp; done))) | ((with_reducible refine atStore (t := 153) ?_); go_must (refine wpList_storeH (t := 153) (cs' := cs2) rfl rfl (by go_simp <;> first | rfl | exact ⟨rfl, rfl⟩) (by go_simp <;> first | rfl | exact ⟨rfl, rfl⟩) (by exact Hp.norm (by (repeat (first | with_reducible exact H | with_reducible exact H0_ | with_reducible apply Hp.alloc | with_reducible apply Hp.allocMap | with_reducible apply Hp.drew | with_reducible apply Hp.drewN | with_reducible apply Hp.set)); (try any_goals (repeat (first | with_reducible exact Upd.head | with_reducible apply Upd.tail)))) (by ((try simp only [size_drew_, size_drewN_, World.size_alloc, World.size_setCell, List.set_cons_zero, List.set_cons_succ, List.nil_append, List.cons_append]) <;> rfl))) (by (repeat (first | with_reducible exact Upd.head | with_reducible apply Upd.tail))) (by rw [HL2.out]; exact aggCtorK) (by rw [HL2.out]; rfl) ONE.out ?_; clear H; intro w4 H; (try simp only [size_drew_, size_drewN_, World.size_alloc, World.size_setCell, List.set_cons_zero, List.set_cons_succ] at H); have hr2_ := H.rules; simp only [Rules, and_true] at hr2_; have hs2_ := H.ext.size)) | (at_builtin; go_must (refine wpList_pushK rfl (.tmp 22) (.tmp 24) 40 rfl stCts (by go_simp <;> first | rfl | exact ⟨rfl, rfl⟩) (by go_simp <;> first | rfl | exact ⟨rfl, rfl⟩) (by exact Hp.norm (by (repeat (first | with_reducible exact H | with_reducible exact H0_ | with_reducible apply Hp.alloc | with_reducible apply Hp.allocMap | with_reducible apply Hp.drew | with_reducible apply Hp.drewN | with_reducible apply Hp.set)); (try any_goals (repeat (first | with_reducible exact Upd.head | with_reducible apply Upd.tail)))) (by ((try simp only [size_drew_, size_drewN_, World.size_alloc, World.size_setCell, List.set_cons_zero, List.set_cons_succ, List.nil_append, List.cons_append]) <;> rfl))) (by (repeat (first | with_reducible exact Pick.head | with_reducible apply Pick.tail))) (by (repeat (first | with_reducible exact Pick.head | with_reducible apply Pick.tail))) HL2.out ONE.out ?_ ?_; (focus omega); clear H; intro v5 w5 H)))
      go_roundw
      case rel =>
        have H6 : Hp no w _ [.gh K (fun w' => KCs mkD w' (fun k => w.heap.size ≤ k) ((xs.take j).map Ct.d) es), .gh K2 (fun w' => KC mkD w' (fun k => w.heap.size ≤ k) (Ct.d xs[j]) cs2), .raw 153 6 (j + 1) v5 (es ++ cs2)] := (H.arr (by (repeat (first | with_reducible exact Arr.nil | refine Arr.cons (by (repeat (first | with_reducible exact Pick.head | with_reducible apply Pick.tail))) ?_)) <;> exact Arr.of_subl (by (repeat (first | with_reducible exact Subl.refl _ | with_reducible apply Subl.drop)))))
        exact ⟨j + 1, v5, es ++ cs2, _, by omega, by first | go_num | rfl | simp, rfl, H6.gh2 (r := fun w' => KCs mkD w' (fun k => w.heap.size ≤ k) ((xs.take (j + 1)).map Ct.d) (es ++ cs2)) (fun w' h1 h2 => by rw [take_map _ hlt]; exact h1.append (KCs.single h2))⟩
      case measure => simp [intOf]; omega
    · rw [take_all hlt] at H
      obtain rfl : j = xs.length := by omega
      go_wp2_with fail
      go_loopw [3, 6] (fun out i wr => ∃ (q : Nat) (v : Value) (ms : List Value) (K K' : List Nat), q ≤ 12 ∧ i = .int .i64 q ∧ out = v ∧ Hp no w wr [.gh K (fun w' => KCs mkD w' (fun k => w.heap.size ≤ k) (xs.map Ct.d) es), .gh K' (fun w' => RCs w' (fun k => w.heap.size ≤ k) (((List.range 12).map fun i => (mkCt i).d).take q) ms), .raw 153 6 (xs.length + q) v (es ++ ms)]) (fun _ i _ => 12 - (intOf i).toNat)
      case atStart =>
        have H6 := H.gh0 (p := fun w' => RCs w' (fun k => w.heap.size ≤ k) (((List.range 12).map fun i => (mkCt i).d).take 0) []) (fun _ => by simp only [List.take_zero]; unfold RCs; rfl)
        have H7 : Hp no w _ [.gh K (fun w' => KCs mkD w' (fun k => w.heap.size ≤ k) (xs.map Ct.d) es), .gh [] (fun w' => RCs w' (fun k => w.heap.size ≤ k) (((List.range 12).map fun i => (mkCt i).d).take 0) []), .raw 153 6 xs.length _ es] := (H6.arr (by (repeat (first | with_reducible exact Arr.nil | refine Arr.cons (by (repeat (first | with_reducible exact Pick.head | with_reducible apply Pick.tail))) ?_)) <;> exact Arr.of_subl (by (repeat (first | with_reducible exact Subl.refl _ | with_reducible apply Subl.drop)))))
        exact ⟨0, _, [], _, _, by omega, rfl, rfl, by rw [List.append_nil]; exact H7⟩
      case round =>
        clear H
        obtain ⟨q, v, ms, K, K', hq, rfl, rfl, H⟩ := hrel
        by_cases hlt : q < 12
        · go_wp2_with fail
          refine (markCtor_calls (i := q) hlt).mono ?_
          rintro e w3 ⟨cs2, rfl, hk, hx⟩
          have HL2 := Lib.hid ((RC.len _ _ hk).trans (show _ = 6 by first | rfl | exact hsz.out _))
          have ONE := Lib.hid (RC.one _ _ hk)
          have hl2_ := HL2.out
          have hf2_ := fold_cells hl2_
          obtain ⟨K2, H2⟩ := H.resR hx hk
          clear H hx hk
          have H := H2
          clear H2
          go_wp2_with (at_builtin; go_must (refine wpList_pushK rfl (.tmp 30) (.tmp 33) 40 rfl stCts (by go_simp <;> first | rfl | exact ⟨rfl, rfl⟩) (by go_simp <;> first | rfl | exact ⟨rfl, rfl⟩) (by exact Hp.norm (by (repeat (first | with_reducible exact H | with_reducible exact H0_ | with_reducible apply Hp.alloc | with_reducible apply Hp.allocMap | with_reducible apply Hp.drew | with_reducible apply Hp.drewN | with_reducible apply Hp.set)); (try any_goals (repeat (first | with_reducible exact Upd.head | with_reducible apply Upd.tail)))) (by ((try simp only [size_drew_, size_drewN_, World.size_alloc, World.size_setCell, List.set_cons_zero, List.set_cons_succ, List.nil_append, List.cons_append]) <;> rfl))) (by (repeat (first | with_reducible exact Pick.head | with_reducible apply Pick.tail))) (by (repeat (first | with_reducible exact Pick.head | with_reducible apply Pick.tail))) HL2.out ONE.out ?_ ?_; (focus omega); clear H; intro v5 w5 H))
          go_roundw
          case rel =>
            have H6 : Hp no w _ [.gh K' (fun w' => RCs w' (fun k => w.heap.size ≤ k) (((List.range 12).map fun i => (mkCt i).d).take q) ms), .gh K2 (fun w' => RC w' (fun k => w.heap.size ≤ k) ((fun i => (mkCt i).d) q) cs2), .gh K (fun w' => KCs mkD w' (fun k => w.heap.size ≤ k) (xs.map Ct.d) es), .raw 153 6 (xs.length + q + 1) v5 (es ++ ms ++ cs2)] := (H.arr (by (repeat (first | with_reducible exact Arr.nil | refine Arr.cons (by (repeat (first | with_reducible exact Pick.head | with_reducible apply Pick.tail))) ?_)) <;> exact Arr.of_subl (by (repeat (first | with_reducible exact Subl.refl _ | with_reducible apply Subl.drop)))))
            have H7 := H6.gh2 (r := fun w' => RCs w' (fun k => w.heap.size ≤ k) (((List.range 12).map fun i => (mkCt i).d).take (q + 1)) (ms ++ cs2)) (fun w' h1 h2 => by rw [mk_take hlt]; exact h1.append (RCs.single h2))
            rw [List.append_assoc] at H7
            have H8 : Hp no w _ [.gh K (fun w' => KCs mkD w' (fun k => w.heap.size ≤ k) (xs.map Ct.d) es), .gh (K' ++ K2) (fun w' => RCs w' (fun k => w.heap.size ≤ k) (((List.range 12).map fun i => (mkCt i).d).take (q + 1)) (ms ++ cs2)), .raw 153 6 (xs.length + q + 1) v5 (es ++ (ms ++ cs2))] := (H7.arr (by (repeat (first | with_reducible exact Arr.nil | refine Arr.cons (by (repeat (first | with_reducible exact Pick.head | with_reducible apply Pick.tail))) ?_)) <;> exact Arr.of_subl (by (repeat (first | with_reducible exact Subl.refl _ | with_reducible apply Subl.drop)))))
            exact ⟨q + 1, v5, ms ++ cs2, K, _, by omega, by first | go_num | rfl | simp, rfl, H8⟩
          case measure => simp [intOf]; omega
        · obtain rfl : q = 12 := by omega
          obtain ⟨A5, c5, rfl, hc1, hc2, _⟩ := H.rawLen' (by (repeat (first | with_reducible exact Pick.head | with_reducible apply Pick.tail)))
          rw [mk_all _ hlt] at H
          have hn5 : xs.length ≤ c5 := by omega
          go_wp2_with fail
          go_ret
          obtain ⟨_, _, _, hkk⟩ := KC.of (mk := mkD) (S := fun k => w.heap.size ≤ k) (ds := xs.map Ct.d) (es := es) (ms := ms) (A := A5) (c := c5) H (by (repeat (first | with_reducible exact Pick.head | with_reducible apply Pick.tail))) (by rw [List.length_map]) (fun d hd => by obtain ⟨x, _, rfl⟩ := List.mem_map.1 hd; exact hsz.out x) (by rw [List.length_map]; unfold M; exact hM) (H.gh .head) (by rw [mkD_ct]; simp) (fun d hd => by rw [mkD_ct] at hd; obtain ⟨i, _, rfl⟩ := List.mem_map.1 hd; first | rfl | exact hsz.out _) (by rw [mkD_ct]; exact H.gh (.tail .head)) (fun b h => h)
          exact ⟨A5, c5, by rw [List.length_map]; rfl, by rw [List.length_map]; exact hkk, H.ext⟩
set_option maxRecDepth 100000 in
set_option maxHeartbeats 4000000 in
theorem lentDecls_ {w : World} {S : Nat → Prop} {xs : List Dc} {A : Option Addr} {n c : Nat} (hel : ∀ x ∈ xs, ∀ (w : World) (S : Nat → Prop) (cs : List Value), RC w S (Dc.d x) cs → Calls Tryz.prog 40 #[.agg cs.toArray] w (PKd w (Dc.d x))) (h : RC w S (.l 42 16 (xs.map Dc.d)) [.slice A n c]) (hn : n = xs.length) :
    Calls Tryz.prog 12 #[.slice A n c] w (PKr w 42 16 (xs.map Dc.d)) := by
  subst hn
  have hM := h.lenM.1
  have HF := Lib.hid hel
  obtain ⟨N, hN⟩ : ∃ N : Nat, N = xs.length + 12 := ⟨_, rfl⟩
  obtain ⟨cl, hcl, hmk⟩ := make_row (P := Tryz.prog) stDcs N (by omega)
  have hw : IntKind.i64.wrap ((xs.length : Int) + 12) = (N : Int) := by rw [IntKind.wrap_i64]; omega
  have HCL := Lib.hid hcl
  clear hel hcl
  have HN := Lib.hid hN
  have hsz : Hid (∀ x : Dc, (Dc.d x).size = 16) := Lib.hid (fun x => by first | exact Tm.size_d x | exact lvD_size x | exact Mb.size_d x | exact Ct.size_d x | exact Dc.size_d x)
  clear hN
  go_enter Tryz.func12, Tryz.ntmps12
  go_wp2_with fail
  have H := Hp.start no w
  refine codeH (by (repeat (first | with_reducible exact H | with_reducible exact H0_ | with_reducible apply Hp.alloc | with_reducible apply Hp.allocMap | with_reducible apply Hp.drew | with_reducible apply Hp.drewN | with_reducible apply Hp.set)); (try any_goals (repeat (first | with_reducible exact Upd.head | with_reducible apply Upd.tail)))) ?_
  clear H; intro w1 H; (try simp only [size_drew_, size_drewN_, World.size_alloc, World.size_setCell, List.set_cons_zero, List.set_cons_succ] at H)
  clear hmk
  replace H := (H.made .head HCL.out (by have := HN.out; unfold maxLen; omega)).gh0 (p := fun w' => KCs mkD w' (fun k => w.heap.size ≤ k) ((xs.take 0).map Dc.d) []) (fun _ => KCs.nil)
  go_loopw [3, 4] (fun out i wr => ∃ (j : Nat) (v : Value) (es : List Value) (K : List Nat), j ≤ xs.length ∧ i = .int .i64 j ∧ out = v ∧ Hp no w wr [.gh K (fun w' => KCs mkD w' (fun k => w.heap.size ≤ k) ((xs.take j).map Dc.d) es), .raw 42 16 j v es]) (fun _ i _ => xs.length - (intOf i).toNat)
  case atStart => exact ⟨0, _, [], _, Nat.zero_le _, rfl, rfl, (H.arr (by (repeat (first | with_reducible exact Arr.nil | refine Arr.cons (by (repeat (first | with_reducible exact Pick.head | with_reducible apply Pick.tail))) ?_)) <;> exact Arr.of_subl (by (repeat (first | with_reducible exact Subl.refl _ | with_reducible apply Subl.drop)))))⟩
  case round =>
    clear H
    obtain ⟨j, v, es, K, hj, rfl, rfl, H⟩ := hrel
    by_cases hlt : j < xs.length
    · obtain ⟨b, o, cs, rfl, hb, hS, hd, hl, hcell⟩ := h.el (i := j) (d := Dc.d xs[j]) (by simp [hlt])
      have HI := Lib.hid hcell
      have HL := Lib.hid hl
      have HD := Lib.hid hd
      clear hcell hl hd
      have hr_ := H.rules; simp only [Rules, and_true] at hr_; have hd_ := H.dif; simp only [Dif, Neq, and_true] at hd_; obtain ⟨ho_, hz_⟩ := H.old0
      go_wp2_with ((with_reducible refine atLoad (t := 42) ?_); (refine wpList_run (v := .agg (cs).toArray) rfl (run_loadL aggDecl rfl ?_ HL.out (H.lies hb no_not HI.out)) ?_); (focus (go_simp; done)))
      (try clear hr_ hd_ ho_ hz_)
      refine callsH (by (repeat (first | with_reducible exact H | with_reducible exact H0_ | with_reducible apply Hp.alloc | with_reducible apply Hp.allocMap | with_reducible apply Hp.drew | with_reducible apply Hp.drewN | with_reducible apply Hp.set)); (try any_goals (repeat (first | with_reducible exact Upd.head | with_reducible apply Upd.tail)))) ?_
      clear H; intro w2 H; (try simp only [size_drew_, size_drewN_, World.size_alloc, World.size_setCell, List.set_cons_zero, List.set_cons_succ] at H)
      refine (HF.out _ (List.getElem_mem hlt) w2 _ cs (HD.out.ext0 H.ext)).mono ?_
      rintro e w3 ⟨cs2, rfl, hk, hx⟩
      have HL2 := Lib.hid (hk.len.trans (hsz.out xs[j]))
      have ONE := Lib.hid (RC.one _ _ hk.rc)
      have hl2_ := HL2.out
      have hf2_ := fold_cells hl2_
      obtain ⟨K2, H2⟩ := H.resK hx hk
      clear H hx hk
      have H := H2
      clear H2
      have hr_ := H.rules; simp only [Rules, and_true] at hr_; have hd_ := H.dif; simp only [Dif, Neq, and_true] at hd_; obtain ⟨ho_, hz_⟩ := H.old0
      go_wp2_with (first | ((with_reducible refine atLoad (t := 42) ?_); (refine wpList_run (v := .agg (cs2).toArray) rfl (run_loadL aggDecl rfl ?_ HL2.out (Hp.boxlies H (by (repeat (first | with_reducible exact Pick.head | with_reducible apply Pick.tail))))) ?_); (focus (go_simp; done))) | ((with_reducible refine atStore (t := 42) ?_); go_must (refine wpList_storeH (t := 42) (cs' := cs2) rfl rfl (by go_simp <;> first | rfl | exact ⟨rfl, rfl⟩) (by go_simp <;> first | rfl | exact ⟨rfl, rfl⟩) (by exact Hp.norm (by (repeat (first | with_reducible exact H | with_reducible exact H0_ | with_reducible apply Hp.alloc | with_reducible apply Hp.allocMap | with_reducible apply Hp.drew | with_reducible apply Hp.drewN | with_reducible apply Hp.set)); (try any_goals (repeat (first | with_reducible exact Upd.head | with_reducible apply Upd.tail)))) (by ((try simp only [size_drew_, size_drewN_, World.size_alloc, World.size_setCell, List.set_cons_zero, List.set_cons_succ, List.nil_append, List.cons_append]) <;> rfl))) (by (repeat (first | with_reducible exact Upd.head | with_reducible apply Upd.tail))) (by rw [HL2.out]; exact aggDecl) (by rw [HL2.out]; rfl) ONE.out ?_; clear H; intro w4 H; (try simp only [size_drew_, size_drewN_, World.size_alloc, World.size_setCell, List.set_cons_zero, List.set_cons_succ] at H); have hr2_ := H.rules; simp only [Rules, and_true] at hr2_; have hs2_ := H.ext.size)) | (at_builtin; go_must (refine wpList_pushK rfl (.tmp 22) (.tmp 24) 22 rfl stDcs (by go_simp <;> first | rfl | exact ⟨rfl, rfl⟩) (by go_simp <;> first | rfl | exact ⟨rfl, rfl⟩) (by exact Hp.norm (by (repeat (first | with_reducible exact H | with_reducible exact H0_ | with_reducible apply Hp.alloc | with_reducible apply Hp.allocMap | with_reducible apply Hp.drew | with_reducible apply Hp.drewN | with_reducible apply Hp.set)); (try any_goals (repeat (first | with_reducible exact Upd.head | with_reducible apply Upd.tail)))) (by ((try simp only [size_drew_, size_drewN_, World.size_alloc, World.size_setCell, List.set_cons_zero, List.set_cons_succ, List.nil_append, List.cons_append]) <;> rfl))) (by (repeat (first | with_reducible exact Pick.head | with_reducible apply Pick.tail))) (by (repeat (first | with_reducible exact Pick.head | with_reducible apply Pick.tail))) HL2.out ONE.out ?_ ?_; (focus omega); clear H; intro v5 w5 H)))
      go_roundw
      case rel =>
        have H6 : Hp no w _ [.gh K (fun w' => KCs mkD w' (fun k => w.heap.size ≤ k) ((xs.take j).map Dc.d) es), .gh K2 (fun w' => KC mkD w' (fun k => w.heap.size ≤ k) (Dc.d xs[j]) cs2), .raw 42 16 (j + 1) v5 (es ++ cs2)] := (H.arr (by (repeat (first | with_reducible exact Arr.nil | refine Arr.cons (by (repeat (first | with_reducible exact Pick.head | with_reducible apply Pick.tail))) ?_)) <;> exact Arr.of_subl (by (repeat (first | with_reducible exact Subl.refl _ | with_reducible apply Subl.drop)))))
        exact ⟨j + 1, v5, es ++ cs2, _, by omega, by first | go_num | rfl | simp, rfl, H6.gh2 (r := fun w' => KCs mkD w' (fun k => w.heap.size ≤ k) ((xs.take (j + 1)).map Dc.d) (es ++ cs2)) (fun w' h1 h2 => by rw [take_map _ hlt]; exact h1.append (KCs.single h2))⟩
      case measure => simp [intOf]; omega
    · rw [take_all hlt] at H
      obtain rfl : j = xs.length := by omega
      go_wp2_with fail
      go_loopw [3, 6] (fun out i wr => ∃ (q : Nat) (v : Value) (ms : List Value) (K K' : List Nat), q ≤ 12 ∧ i = .int .i64 q ∧ out = v ∧ Hp no w wr [.gh K (fun w' => KCs mkD w' (fun k => w.heap.size ≤ k) (xs.map Dc.d) es), .gh K' (fun w' => RCs w' (fun k => w.heap.size ≤ k) (((List.range 12).map fun i => (mkDc i).d).take q) ms), .raw 42 16 (xs.length + q) v (es ++ ms)]) (fun _ i _ => 12 - (intOf i).toNat)
      case atStart =>
        have H6 := H.gh0 (p := fun w' => RCs w' (fun k => w.heap.size ≤ k) (((List.range 12).map fun i => (mkDc i).d).take 0) []) (fun _ => by simp only [List.take_zero]; unfold RCs; rfl)
        have H7 : Hp no w _ [.gh K (fun w' => KCs mkD w' (fun k => w.heap.size ≤ k) (xs.map Dc.d) es), .gh [] (fun w' => RCs w' (fun k => w.heap.size ≤ k) (((List.range 12).map fun i => (mkDc i).d).take 0) []), .raw 42 16 xs.length _ es] := (H6.arr (by (repeat (first | with_reducible exact Arr.nil | refine Arr.cons (by (repeat (first | with_reducible exact Pick.head | with_reducible apply Pick.tail))) ?_)) <;> exact Arr.of_subl (by (repeat (first | with_reducible exact Subl.refl _ | with_reducible apply Subl.drop)))))
        exact ⟨0, _, [], _, _, by omega, rfl, rfl, by rw [List.append_nil]; exact H7⟩
      case round =>
        clear H
        obtain ⟨q, v, ms, K, K', hq, rfl, rfl, H⟩ := hrel
        by_cases hlt : q < 12
        · go_wp2_with fail
          refine (markDecl_calls (i := q) hlt).mono ?_
          rintro e w3 ⟨cs2, rfl, hk, hx⟩
          have HL2 := Lib.hid ((RC.len _ _ hk).trans (show _ = 16 by first | rfl | exact hsz.out _))
          have ONE := Lib.hid (RC.one _ _ hk)
          have hl2_ := HL2.out
          have hf2_ := fold_cells hl2_
          obtain ⟨K2, H2⟩ := H.resR hx hk
          clear H hx hk
          have H := H2
          clear H2
          go_wp2_with (at_builtin; go_must (refine wpList_pushK rfl (.tmp 30) (.tmp 33) 22 rfl stDcs (by go_simp <;> first | rfl | exact ⟨rfl, rfl⟩) (by go_simp <;> first | rfl | exact ⟨rfl, rfl⟩) (by exact Hp.norm (by (repeat (first | with_reducible exact H | with_reducible exact H0_ | with_reducible apply Hp.alloc | with_reducible apply Hp.allocMap | with_reducible apply Hp.drew | with_reducible apply Hp.drewN | with_reducible apply Hp.set)); (try any_goals (repeat (first | with_reducible exact Upd.head | with_reducible apply Upd.tail)))) (by ((try simp only [size_drew_, size_drewN_, World.size_alloc, World.size_setCell, List.set_cons_zero, List.set_cons_succ, List.nil_append, List.cons_append]) <;> rfl))) (by (repeat (first | with_reducible exact Pick.head | with_reducible apply Pick.tail))) (by (repeat (first | with_reducible exact Pick.head | with_reducible apply Pick.tail))) HL2.out ONE.out ?_ ?_; (focus omega); clear H; intro v5 w5 H))
          go_roundw
          case rel =>
            have H6 : Hp no w _ [.gh K' (fun w' => RCs w' (fun k => w.heap.size ≤ k) (((List.range 12).map fun i => (mkDc i).d).take q) ms), .gh K2 (fun w' => RC w' (fun k => w.heap.size ≤ k) ((fun i => (mkDc i).d) q) cs2), .gh K (fun w' => KCs mkD w' (fun k => w.heap.size ≤ k) (xs.map Dc.d) es), .raw 42 16 (xs.length + q + 1) v5 (es ++ ms ++ cs2)] := (H.arr (by (repeat (first | with_reducible exact Arr.nil | refine Arr.cons (by (repeat (first | with_reducible exact Pick.head | with_reducible apply Pick.tail))) ?_)) <;> exact Arr.of_subl (by (repeat (first | with_reducible exact Subl.refl _ | with_reducible apply Subl.drop)))))
            have H7 := H6.gh2 (r := fun w' => RCs w' (fun k => w.heap.size ≤ k) (((List.range 12).map fun i => (mkDc i).d).take (q + 1)) (ms ++ cs2)) (fun w' h1 h2 => by rw [mk_take hlt]; exact h1.append (RCs.single h2))
            rw [List.append_assoc] at H7
            have H8 : Hp no w _ [.gh K (fun w' => KCs mkD w' (fun k => w.heap.size ≤ k) (xs.map Dc.d) es), .gh (K' ++ K2) (fun w' => RCs w' (fun k => w.heap.size ≤ k) (((List.range 12).map fun i => (mkDc i).d).take (q + 1)) (ms ++ cs2)), .raw 42 16 (xs.length + q + 1) v5 (es ++ (ms ++ cs2))] := (H7.arr (by (repeat (first | with_reducible exact Arr.nil | refine Arr.cons (by (repeat (first | with_reducible exact Pick.head | with_reducible apply Pick.tail))) ?_)) <;> exact Arr.of_subl (by (repeat (first | with_reducible exact Subl.refl _ | with_reducible apply Subl.drop)))))
            exact ⟨q + 1, v5, ms ++ cs2, K, _, by omega, by first | go_num | rfl | simp, rfl, H8⟩
          case measure => simp [intOf]; omega
        · obtain rfl : q = 12 := by omega
          obtain ⟨A5, c5, rfl, hc1, hc2, _⟩ := H.rawLen' (by (repeat (first | with_reducible exact Pick.head | with_reducible apply Pick.tail)))
          rw [mk_all _ hlt] at H
          have hn5 : xs.length ≤ c5 := by omega
          go_wp2_with fail
          go_ret
          obtain ⟨_, _, _, hkk⟩ := KC.of (mk := mkD) (S := fun k => w.heap.size ≤ k) (ds := xs.map Dc.d) (es := es) (ms := ms) (A := A5) (c := c5) H (by (repeat (first | with_reducible exact Pick.head | with_reducible apply Pick.tail))) (by rw [List.length_map]) (fun d hd => by obtain ⟨x, _, rfl⟩ := List.mem_map.1 hd; exact hsz.out x) (by rw [List.length_map]; unfold M; exact hM) (H.gh .head) (by rw [mkD_dc]; simp) (fun d hd => by rw [mkD_dc] at hd; obtain ⟨i, _, rfl⟩ := List.mem_map.1 hd; first | rfl | exact hsz.out _) (by rw [mkD_dc]; exact H.gh (.tail .head)) (fun b h => h)
          exact ⟨A5, c5, by rw [List.length_map]; rfl, by rw [List.length_map]; exact hkk, H.ext⟩
end Go.Proofs.YteelplgdojjakaaGreatDoor
/- law 11: awake: contract. No statement of the seat is proved here. -/
namespace Go.Proofs.YteelplgdojjakaaGreatDoor
set_option linter.unusedSimpArgs false
set_option linter.unusedVariables false
open Go.RowKit

set_option maxRecDepth 100000 in
set_option maxHeartbeats 4000000 in
theorem awake11_calls {w : World} (hT : Tab w) : Calls Tryz.prog 53 #[] w (PV w (.bool true)) := by
  have HT := Lib.hid hT
  clear hT
  go_enter Tryz.func53, Tryz.ntmps53
  have H := Hp.start no w
  go_wp2_with fail
  refine nat11_calls.mono ?_
  rintro e w2 ⟨cs, rfl, hk, hx⟩
  have HL2 := Lib.hid ((RC.len _ _ hk).trans (Dc.size_d _))
  have ONE := Lib.hid (RC.one _ _ hk)
  have hl2_ := HL2.out
  have hf2_ := fold_cells hl2_
  obtain ⟨K2, H2⟩ := H.resR hx hk
  clear H hx hk
  have H := H2
  clear H2
  have hg := Lib.hid H.ext.size
  have hr_ := H.rules; simp only [Rules, and_true] at hr_; have hd_ := H.dif; simp only [Dif, Neq, and_true] at hd_; obtain ⟨ho_, hz_⟩ := H.old0
  go_wp2_with fail
  (try clear hr_ hd_ ho_ hz_)
  refine callsH (by (repeat (first | with_reducible exact H | with_reducible exact H0_ | with_reducible apply Hp.alloc | with_reducible apply Hp.allocMap | with_reducible apply Hp.drew | with_reducible apply Hp.drewN | with_reducible apply Hp.set)); (try any_goals (repeat (first | with_reducible exact Upd.head | with_reducible apply Upd.tail)))) ?_
  clear H; intro w3 H; (try simp only [size_drew_, size_drewN_, World.size_alloc, World.size_setCell, List.set_cons_zero, List.set_cons_succ] at H)
  have rd : RC _ (fun k => w.heap.size ≤ k) (.l 42 16 ([natDc].map Dc.d)) [.slice (some ⟨w2.heap.size, 0, none⟩) 1 1] := one_row (H.blk (g := w2.heap.size) (cs := cs) (by (repeat (first | with_reducible exact Pick.head | with_reducible apply Pick.tail)))) hg.out (H.gh (p := fun w' => RC w' (fun k => w.heap.size ≤ k) natDc.d cs) (by (repeat (first | with_reducible exact Pick.head | with_reducible apply Pick.tail)))) (Dc.size_d _)
  refine (srcRight_calls (ds := [natDc]) (S1 := fun k => w.heap.size ≤ k) (t := .mk 9 0 1 [] []) (HT.out.ext H.ext) rd rfl ⟨none, 0, none, 0, rfl, tmN_rc (by unfold inI; omega)⟩).mono ?_
  clear rd
  rw [aw1]
  rintro e w_ ⟨rfl, hx⟩
  replace H := H.call hx
  clear hx
  have hr_ := H.rules; simp only [Rules, and_true] at hr_; have hd_ := H.dif; simp only [Dif, Neq, and_true] at hd_; obtain ⟨ho_, hz_⟩ := H.old0
  go_wp2_with fail
  (try clear hr_ hd_ ho_ hz_)
  have rd : RC _ (fun k => w.heap.size ≤ k) (.l 42 16 ([natDc].map Dc.d)) [.slice (some ⟨w2.heap.size, 0, none⟩) 1 1] := one_row (H.blk (g := w2.heap.size) (cs := cs) (by (repeat (first | with_reducible exact Pick.head | with_reducible apply Pick.tail)))) hg.out (H.gh (p := fun w' => RC w' (fun k => w.heap.size ≤ k) natDc.d cs) (by (repeat (first | with_reducible exact Pick.head | with_reducible apply Pick.tail)))) (Dc.size_d _)
  refine (srcRight_calls (ds := [natDc]) (S1 := fun k => w.heap.size ≤ k) (t := .mk 9 0 2 [] []) (HT.out.ext H.ext) rd rfl ⟨none, 0, none, 0, rfl, tmN_rc (by unfold inI; omega)⟩).mono ?_
  clear rd
  rw [aw2]
  rintro e w_ ⟨rfl, hx⟩
  replace H := H.call hx
  clear hx
  have hr_ := H.rules; simp only [Rules, and_true] at hr_; have hd_ := H.dif; simp only [Dif, Neq, and_true] at hd_; obtain ⟨ho_, hz_⟩ := H.old0
  go_wp2_with fail
  (try clear hr_ hd_ ho_ hz_)
  have b2 := H.blk (g := w2.heap.size + 1) (by (repeat (first | with_reducible exact Pick.head | with_reducible apply Pick.tail)))
  have hl : RC _ (fun k => w.heap.size ≤ k) (.l 38 1 (([[]] : List Lv).map lvD)) [.slice (some ⟨w2.heap.size + 1, 0, none⟩) 1 1] := rowOf b2 (by have := hg.out; omega) (RCs.single (RC.lv.2 ⟨none, 0, rfl, RC.nil⟩)) (by simp [lvD_size]) rfl (by simp)
  have rd : RC _ (fun k => w.heap.size ≤ k) (.l 42 16 ([natDc].map Dc.d)) [.slice (some ⟨w2.heap.size, 0, none⟩) 1 1] := one_row (H.blk (g := w2.heap.size) (cs := cs) (by (repeat (first | with_reducible exact Pick.head | with_reducible apply Pick.tail)))) hg.out (H.gh (p := fun w' => RC w' (fun k => w.heap.size ≤ k) natDc.d cs) (by (repeat (first | with_reducible exact Pick.head | with_reducible apply Pick.tail)))) (Dc.size_d _)
  refine (srcRight_calls (ds := [natDc]) (S1 := fun k => w.heap.size ≤ k) (t := .mk 10 0 0 [[]] []) (HT.out.ext H.ext) rd rfl ⟨some ⟨w2.heap.size + 1, 0, none⟩, 1, none, 0, rfl, RC.tm.2 ⟨some ⟨w2.heap.size + 1, 0, none⟩, 1, none, 0, rfl, by unfold inI; simp [Tm.k_mk], inI0, inI0, hl, RC.nil⟩⟩).mono ?_
  clear rd
  rw [aw3]
  rintro e w_ ⟨rfl, hx⟩
  replace H := H.call hx
  clear hx
  clear b2 hl
  have hr_ := H.rules; simp only [Rules, and_true] at hr_; have hd_ := H.dif; simp only [Dif, Neq, and_true] at hd_; obtain ⟨ho_, hz_⟩ := H.old0
  go_wp2_with fail
  (try clear hr_ hd_ ho_ hz_)
  have rd : RC _ (fun k => w.heap.size ≤ k) (.l 42 16 ([natDc].map Dc.d)) [.slice (some ⟨w2.heap.size, 0, none⟩) 1 1] := one_row (H.blk (g := w2.heap.size) (cs := cs) (by (repeat (first | with_reducible exact Pick.head | with_reducible apply Pick.tail)))) hg.out (H.gh (p := fun w' => RC w' (fun k => w.heap.size ≤ k) natDc.d cs) (by (repeat (first | with_reducible exact Pick.head | with_reducible apply Pick.tail)))) (Dc.size_d _)
  refine (srcRight_calls (ds := [natDc]) (S1 := fun k => w.heap.size ≤ k) (t := .mk 10 0 0 [] []) (HT.out.ext H.ext) rd rfl ⟨none, 0, none, 0, rfl, tmN_rc (by unfold inI; omega)⟩).mono ?_
  clear rd
  rw [aw4]
  rintro e w_ ⟨rfl, hx⟩
  replace H := H.call hx
  clear hx
  have hr_ := H.rules; simp only [Rules, and_true] at hr_; have hd_ := H.dif; simp only [Dif, Neq, and_true] at hd_; obtain ⟨ho_, hz_⟩ := H.old0
  go_wp2_with fail
  (try clear hr_ hd_ ho_ hz_)
  refine nat11_calls.mono ?_
  rintro e w5 ⟨cs5, rfl, hk, hx⟩
  obtain ⟨K5, H2⟩ := H.resR hx hk
  clear H hx hk
  have H := H2
  clear H2
  go_wp2_with fail
  have rd := H.gh (p := fun w' => RC w' (fun k => w.heap.size ≤ k) natDc.d cs5) .head
  refine (srcDecl_calls (S := fun _ => True) (ds := []) (HT.out.ext H.ext) RC.nil rfl rd).mono ?_
  clear rd
  rw [aw5]
  rintro e w_ ⟨rfl, hx⟩
  replace H := H.call hx
  clear hx
  go_wp2_with fail
  refine (srcDecl_calls (S := fun _ => True) (S1 := fun _ => True) (ds := []) (d := dcZero) (HT.out.ext H.ext) RC.nil rfl (RC.dc.2 ⟨none, 0, none, 0, none, 0, none, 0, none, 0, none, 0, none, 0, none, 0, rfl, inI0, inI0, tmZ_rc inI0, tmZ_rc inI0, RC.nil, RC.nil, RC.nil, RC.nil⟩)).mono ?_
  rw [aw6]
  rintro e w_ ⟨rfl, hx⟩
  replace H := H.call hx
  clear hx
  go_wp2_with fail
  go_ret
  exact ⟨rfl, H.ext⟩
end Go.Proofs.YteelplgdojjakaaGreatDoor
