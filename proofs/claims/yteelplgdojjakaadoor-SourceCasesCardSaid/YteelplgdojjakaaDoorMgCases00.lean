/- law 11: awake: contract. No statement of the seat is proved here. -/
import Derived.Test.YteelplgdojjakaaDoorMgAwake11D
import Derived.Deep.DeepCutAuto
namespace Go.Proofs.YteelplgdojjakaaDoor
set_option linter.unusedSimpArgs false
set_option linter.unusedVariables false
open Go.RowKit

set_option maxRecDepth 100000 in
set_option maxHeartbeats 4000000 in
theorem awake11_calls {w : World} (hT : Tab w) : Calls Tryd.prog 42 #[] w (PV w (.bool true)) := by
  have HT := Lib.hid hT
  clear hT
  go_enter Tryd.func42, Tryd.ntmps42
  have H := Hp.start no w
  go_wp2_with fail
  refine nat11_calls.mono ?_
  rintro e w2 ⟨cs, rfl, hk, hx⟩
  have HL2 := Lib.hid ((RC.len _ _ hk).trans (Dc.size_d _))
  have ONE := Lib.hid (RC.one _ _ hk)
  have hl2_ := HL2.out
  have hf2_ := fold_cells hl2_
  obtain ⟨K2, H2⟩ := H.resR hx hk
  clear H hx hk
  have H := H2
  clear H2
  have hg := Lib.hid H.ext.size
  have hr_ := H.rules; simp only [Rules, and_true] at hr_; have hd_ := H.dif; simp only [Dif, Neq, and_true] at hd_; obtain ⟨ho_, hz_⟩ := H.old0
  go_wp2_with fail
  (try clear hr_ hd_ ho_ hz_)
  refine callsH (by (repeat (first | with_reducible exact H | with_reducible exact H0_ | with_reducible apply Hp.alloc | with_reducible apply Hp.allocMap | with_reducible apply Hp.drew | with_reducible apply Hp.drewN | with_reducible apply Hp.set)); (try any_goals (repeat (first | with_reducible exact Upd.head | with_reducible apply Upd.tail)))) ?_
  clear H; intro w3 H; (try simp only [size_drew_, size_drewN_, World.size_alloc, World.size_setCell, List.set_cons_zero, List.set_cons_succ] at H)
  have rd : RC _ (fun k => w.heap.size ≤ k) (.l 42 16 ([natDc].map Dc.d)) [.slice (some ⟨w2.heap.size, 0, none⟩) 1 1] := one_row (H.blk (g := w2.heap.size) (cs := cs) (by (repeat (first | with_reducible exact Pick.head | with_reducible apply Pick.tail)))) hg.out (H.gh (p := fun w' => RC w' (fun k => w.heap.size ≤ k) natDc.d cs) (by (repeat (first | with_reducible exact Pick.head | with_reducible apply Pick.tail)))) (Dc.size_d _)
  refine (srcRight_calls (ds := [natDc]) (S1 := fun k => w.heap.size ≤ k) (t := .mk 9 0 1 [] []) (HT.out.ext H.ext) rd rfl ⟨none, 0, none, 0, rfl, tmN_rc (by unfold inI; omega)⟩).mono ?_
  clear rd
  rw [aw1]
  rintro e w_ ⟨rfl, hx⟩
  replace H := H.call hx
  clear hx
  have hr_ := H.rules; simp only [Rules, and_true] at hr_; have hd_ := H.dif; simp only [Dif, Neq, and_true] at hd_; obtain ⟨ho_, hz_⟩ := H.old0
  go_wp2_with fail
  (try clear hr_ hd_ ho_ hz_)
  have rd : RC _ (fun k => w.heap.size ≤ k) (.l 42 16 ([natDc].map Dc.d)) [.slice (some ⟨w2.heap.size, 0, none⟩) 1 1] := one_row (H.blk (g := w2.heap.size) (cs := cs) (by (repeat (first | with_reducible exact Pick.head | with_reducible apply Pick.tail)))) hg.out (H.gh (p := fun w' => RC w' (fun k => w.heap.size ≤ k) natDc.d cs) (by (repeat (first | with_reducible exact Pick.head | with_reducible apply Pick.tail)))) (Dc.size_d _)
  refine (srcRight_calls (ds := [natDc]) (S1 := fun k => w.heap.size ≤ k) (t := .mk 9 0 2 [] []) (HT.out.ext H.ext) rd rfl ⟨none, 0, none, 0, rfl, tmN_rc (by unfold inI; omega)⟩).mono ?_
  clear rd
  rw [aw2]
  rintro e w_ ⟨rfl, hx⟩
  replace H := H.call hx
  clear hx
  have hr_ := H.rules; simp only [Rules, and_true] at hr_; have hd_ := H.dif; simp only [Dif, Neq, and_true] at hd_; obtain ⟨ho_, hz_⟩ := H.old0
  go_wp2_with fail
  (try clear hr_ hd_ ho_ hz_)
  have b2 := H.blk (g := w2.heap.size + 1) (by (repeat (first | with_reducible exact Pick.head | with_reducible apply Pick.tail)))
  have hl : RC _ (fun k => w.heap.size ≤ k) (.l 38 1 (([[]] : List Lv).map lvD)) [.slice (some ⟨w2.heap.size + 1, 0, none⟩) 1 1] := rowOf b2 (by have := hg.out; omega) (RCs.single (RC.lv.2 ⟨none, 0, rfl, RC.nil⟩)) (by simp [lvD_size]) rfl (by simp)
  have rd : RC _ (fun k => w.heap.size ≤ k) (.l 42 16 ([natDc].map Dc.d)) [.slice (some ⟨w2.heap.size, 0, none⟩) 1 1] := one_row (H.blk (g := w2.heap.size) (cs := cs) (by (repeat (first | with_reducible exact Pick.head | with_reducible apply Pick.tail)))) hg.out (H.gh (p := fun w' => RC w' (fun k => w.heap.size ≤ k) natDc.d cs) (by (repeat (first | with_reducible exact Pick.head | with_reducible apply Pick.tail)))) (Dc.size_d _)
  refine (srcRight_calls (ds := [natDc]) (S1 := fun k => w.heap.size ≤ k) (t := .mk 10 0 0 [[]] []) (HT.out.ext H.ext) rd rfl ⟨some ⟨w2.heap.size + 1, 0, none⟩, 1, none, 0, rfl, RC.tm.2 ⟨some ⟨w2.heap.size + 1, 0, none⟩, 1, none, 0, rfl, by unfold inI; simp [Tm.k_mk], inI0, inI0, hl, RC.nil⟩⟩).mono ?_
  clear rd
  rw [aw3]
  rintro e w_ ⟨rfl, hx⟩
  replace H := H.call hx
  clear hx
  clear b2 hl
  have hr_ := H.rules; simp only [Rules, and_true] at hr_; have hd_ := H.dif; simp only [Dif, Neq, and_true] at hd_; obtain ⟨ho_, hz_⟩ := H.old0
  go_wp2_with fail
  (try clear hr_ hd_ ho_ hz_)
  have rd : RC _ (fun k => w.heap.size ≤ k) (.l 42 16 ([natDc].map Dc.d)) [.slice (some ⟨w2.heap.size, 0, none⟩) 1 1] := one_row (H.blk (g := w2.heap.size) (cs := cs) (by (repeat (first | with_reducible exact Pick.head | with_reducible apply Pick.tail)))) hg.out (H.gh (p := fun w' => RC w' (fun k => w.heap.size ≤ k) natDc.d cs) (by (repeat (first | with_reducible exact Pick.head | with_reducible apply Pick.tail)))) (Dc.size_d _)
  refine (srcRight_calls (ds := [natDc]) (S1 := fun k => w.heap.size ≤ k) (t := .mk 10 0 0 [] []) (HT.out.ext H.ext) rd rfl ⟨none, 0, none, 0, rfl, tmN_rc (by unfold inI; omega)⟩).mono ?_
  clear rd
  rw [aw4]
  rintro e w_ ⟨rfl, hx⟩
  replace H := H.call hx
  clear hx
  have hr_ := H.rules; simp only [Rules, and_true] at hr_; have hd_ := H.dif; simp only [Dif, Neq, and_true] at hd_; obtain ⟨ho_, hz_⟩ := H.old0
  go_wp2_with fail
  (try clear hr_ hd_ ho_ hz_)
  refine nat11_calls.mono ?_
  rintro e w5 ⟨cs5, rfl, hk, hx⟩
  obtain ⟨K5, H2⟩ := H.resR hx hk
  clear H hx hk
  have H := H2
  clear H2
  go_wp2_with fail
  have rd := H.gh (p := fun w' => RC w' (fun k => w.heap.size ≤ k) natDc.d cs5) .head
  refine (srcDecl_calls (S := fun _ => True) (ds := []) (HT.out.ext H.ext) RC.nil rfl rd).mono ?_
  clear rd
  rw [aw5]
  rintro e w_ ⟨rfl, hx⟩
  replace H := H.call hx
  clear hx
  go_wp2_with fail
  refine (srcDecl_calls (S := fun _ => True) (S1 := fun _ => True) (ds := []) (d := dcZero) (HT.out.ext H.ext) RC.nil rfl (RC.dc.2 ⟨none, 0, none, 0, none, 0, none, 0, none, 0, none, 0, none, 0, none, 0, rfl, inI0, inI0, tmZ_rc inI0, tmZ_rc inI0, RC.nil, RC.nil, RC.nil, RC.nil⟩)).mono ?_
  rw [aw6]
  rintro e w_ ⟨rfl, hx⟩
  replace H := H.call hx
  clear hx
  go_wp2_with fail
  go_ret
  exact ⟨rfl, H.ext⟩
end Go.Proofs.YteelplgdojjakaaDoor
/- The parts of a function's code, by their regions. No statement of the seat is proved here. -/
namespace Go.Proofs.YteelplgdojjakaaDoor
set_option linter.unusedSimpArgs false
set_option linter.unusedVariables false
open Go.RowKit

/-- The sequence that begins with a region, wherever it lies. -/
def findR (n : Nat) : Code → Option Code
  | .region id ops d => if id = n then some (.region id ops d) else none
  | .seq (.region id ops d) b => if id = n then some (.seq (.region id ops d) b) else findR n b
  | .seq a b => (findR n a).or (findR n b)
  | .cond _ a b => (findR n a).or (findR n b)
  | .block _ b => findR n b
  | .loop b => findR n b
  | .scope b => findR n b
  | .rangeFunc _ _ a b => (findR n a).or (findR n b)
  | _ => none
end Go.Proofs.YteelplgdojjakaaDoor
/- law 11: v, term: contracts; a row that is made, as data; an element of a row put anew. No statement of the seat is proved here. -/
namespace Go.Proofs.YteelplgdojjakaaDoor
set_option linter.unusedSimpArgs false
set_option linter.unusedVariables false
open Go.RowKit

theorem madeL (zs : List Value) (hz : 0 < zs.length) (n : Nat) : (madeCells zs.toArray (n * zs.length)).toList = (List.replicate n zs).flatten := by
  have e : ∀ m, (madeCells zs.toArray m).toList = (List.range m).map fun j => zs.toArray[j % zs.length]! := fun m => by simp [madeCells, Array.toList_map]
  rw [e]
  induction n with
  | zero => simp
  | succ n ih =>
    rw [Nat.add_mul, Nat.one_mul, List.range_add, List.map_append, ih, List.replicate_succ', List.flatten_append, List.map_map]
    congr 1
    simp only [List.flatten_cons, List.flatten_nil, List.append_nil]
    apply List.ext_getElem
    · simp
    · intro i h1 h2
      have h3 : i < zs.length := h2
      simp [Nat.mul_add_mod, Nat.add_mul_mod_self_right, Nat.mod_eq_of_lt h3, h3]
theorem RCs.rep {w : World} {S : Nat → Prop} {d : D} {cs : List Value} (h : RC w S d cs) : ∀ n, RCs w S (List.replicate n d) (List.replicate n cs).flatten
  | 0 => by unfold RCs; rfl
  | n + 1 => by
    rw [List.replicate_succ, List.replicate_succ, List.flatten_cons]
    unfold RCs
    exact ⟨cs, _, rfl, h, RCs.rep h n⟩
/-- A row that is made: its cells, its data. -/
theorem make_dat {t e z bytes : Nat} {zv : Value} (hu : Tryd.prog.underlying t = some (.slice e)) (hi : (Tryd.prog.info? e).map (fun i => (i.zero, i.size, i.bytes)) = some (some zv, z, bytes)) (hz : zv.cells.size = z) (h0 : 0 < z) (hb : bytes ≤ 1024) (n : Nat) (hn : n ≤ 1000) (w : World) :
    (Instr.makeSlice t (.int .i64 (n : Int)) (.int .i64 (n : Int))).run Tryd.prog w = .ok (.slice (some ⟨w.heap.size, 0, none⟩) n n) (w.alloc (.cells ((List.replicate n zv.cells.toList).flatten).toArray e)) := by
  obtain ⟨i, g1, g2, g3, g4⟩ := info_parts hi
  have hb2 : (i.bytes : Int) * (n : Int) ≤ 281474976710656 := by
    have : i.bytes * n ≤ 1024 * 1000 := Nat.mul_le_mul (by omega) hn
    have h2 : ((i.bytes * n : Nat) : Int) ≤ 281474976710656 := by omega
    rw [Int.natCast_mul] at h2
    exact h2
  have h := run_make (P := Tryd.prog) (w := w) t e i zv hu g1 g2 .i64 .i64 n n (by omega) (by omega) hb2 (by omega)
  rw [h]
  simp only [Int.toNat_natCast]
  have e1 : madeCells zv.cells (n * i.size) = ((List.replicate n zv.cells.toList).flatten).toArray := by
    have h3 : zv.cells.toList.length = z := by simpa using hz
    have := madeL zv.cells.toList (by omega) n
    rw [h3, Array.toArray_toList] at this
    rw [g3]
    apply Array.ext'
    rw [this]
  rw [e1]
abbrev z5 : List Value := [.int .i64 0, .int .i64 0, .int .i64 0, .slice none 0 0, .slice none 0 0]
abbrev z6 : List Value := [.int .i64 0, .int .i64 0, .int .i64 0, .int .i64 0, .slice none 0 0, .slice none 0 0]
theorem makeLv (n : Nat) (hn : n ≤ 1000) (w : World) : (Instr.makeSlice 27 (.int .i64 (n : Int)) (.int .i64 (n : Int))).run Tryd.prog w = .ok (.slice (some ⟨w.heap.size, 0, none⟩) n n) (w.alloc (.cells ((List.replicate n [.slice none 0 0]).flatten).toArray 38)) :=
  make_dat (zv := .agg #[.slice none 0 0]) (z := 1) (bytes := 24) Tryd.underlying27 (by kernel_rfl) rfl (by omega) (by omega) n hn w
theorem makeTm (n : Nat) (hn : n ≤ 1000) (w : World) : (Instr.makeSlice 28 (.int .i64 (n : Int)) (.int .i64 (n : Int))).run Tryd.prog w = .ok (.slice (some ⟨w.heap.size, 0, none⟩) n n) (w.alloc (.cells ((List.replicate n z5).flatten).toArray 30)) :=
  make_dat (zv := .agg z5.toArray) (z := 5) (bytes := 72) Tryd.underlying28 (by kernel_rfl) rfl (by omega) (by omega) n hn w
theorem makeMb (n : Nat) (hn : n ≤ 1000) (w : World) : (Instr.makeSlice 39 (.int .i64 (n : Int)) (.int .i64 (n : Int))).run Tryd.prog w = .ok (.slice (some ⟨w.heap.size, 0, none⟩) n n) (w.alloc (.cells ((List.replicate n [.slice none 0 0]).flatten).toArray 64)) :=
  make_dat (zv := .agg #[.slice none 0 0]) (z := 1) (bytes := 24) Tryd.underlying39 (by kernel_rfl) rfl (by omega) (by omega) n hn w
theorem makeCt (n : Nat) (hn : n ≤ 1000) (w : World) : (Instr.makeSlice 40 (.int .i64 (n : Int)) (.int .i64 (n : Int))).run Tryd.prog w = .ok (.slice (some ⟨w.heap.size, 0, none⟩) n n) (w.alloc (.cells ((List.replicate n z6).flatten).toArray 70)) :=
  make_dat (zv := .agg z6.toArray) (z := 6) (bytes := 80) Tryd.underlying40 (by kernel_rfl) rfl (by omega) (by omega) n hn w
set_option maxRecDepth 100000 in
set_option maxHeartbeats 2000000 in
theorem v11_calls {w : World} {n : Int} : Calls Tryd.prog 38 #[.int .i64 n] w (PV w (tmV 1 n 0)) := by
  go_enter Tryd.func38, Tryd.ntmps38
  have H := Hp.start no w
  go_wp2_with ((with_reducible refine atStore (t := 30) ?_); go_must (refine wpList_storeH (t := 30) rfl rfl (by go_simp <;> first | rfl | exact ⟨rfl, rfl⟩) (by go_simp <;> first | rfl | exact ⟨rfl, rfl⟩) (by exact Hp.norm (by (repeat (first | with_reducible exact H | with_reducible exact H0_ | with_reducible apply Hp.alloc | with_reducible apply Hp.allocMap | with_reducible apply Hp.drew | with_reducible apply Hp.drewN | with_reducible apply Hp.set)); (try any_goals (repeat (first | with_reducible exact Upd.head | with_reducible apply Upd.tail)))) (by ((try simp only [size_drew_, size_drewN_, World.size_alloc, World.size_setCell, List.set_cons_zero, List.set_cons_succ, List.nil_append, List.cons_append]) <;> rfl))) (by (repeat (first | with_reducible exact Upd.head | with_reducible apply Upd.tail))) (by exact aggTerm) (by rfl) (by simp [Value.oneCell']) ?_; clear H; intro w7 H; (try simp only [size_drew_, size_drewN_, World.size_alloc, World.size_setCell, List.set_cons_zero, List.set_cons_succ] at H); (try clear hr_ hd_ ho_ hz_); have hr_ := H.rules; simp only [Rules, and_true] at hr_; have hd_ := H.dif; simp only [Dif, Neq, and_true] at hd_; obtain ⟨ho_, hz_⟩ := H.old0))
  (try clear hr_ hd_ ho_ hz_)
  exact bodyPost_ret (v := tmV 1 n 0) (Res.one Tryd.results38 (H.resBox (by (repeat (first | with_reducible exact Pick.head | with_reducible apply Pick.tail))) aggTerm rfl rfl)) rfl ⟨rfl, H.ext⟩
theorem hidden {α : Type} (x : α) (p : α → Prop) (h : p x) : ∃ y, Hid (y = x) ∧ p y := ⟨x, Lib.hid rfl, h⟩
set_option maxRecDepth 100000 in
set_option maxHeartbeats 2000000 in
theorem term11_calls {w : World} {k n a : Int} (m : Nat) (hm : m ≤ 10) (h1 : inI k) (h2 : inI n) (h3 : inI a) : Calls Tryd.prog 35 #[.int .i64 k, .int .i64 n, .int .i64 a, .int .i64 (m : Int)] w (PRd w (Tm.mk k n a (List.replicate m []) []).d) := by
  obtain ⟨cl, hcl, hmk⟩ := hidden _ (fun (cl : List Value) => ∀ w : World, (Instr.makeSlice 27 (.int .i64 (m : Int)) (.int .i64 (m : Int))).run Tryd.prog w = .ok (.slice (some ⟨w.heap.size, 0, none⟩) m m) (w.alloc (.cells cl.toArray 38))) (makeLv m (by omega))
  go_enter Tryd.func35, Tryd.ntmps35
  have H := Hp.start no w
  go_wp2_with ((with_reducible refine atStore (t := 30) ?_); go_must (refine wpList_storeH (t := 30) rfl rfl (by go_simp <;> first | rfl | exact ⟨rfl, rfl⟩) (by go_simp <;> first | rfl | exact ⟨rfl, rfl⟩) (by exact Hp.norm (by (repeat (first | with_reducible exact H | with_reducible exact H0_ | with_reducible apply Hp.alloc | with_reducible apply Hp.allocMap | with_reducible apply Hp.drew | with_reducible apply Hp.drewN | with_reducible apply Hp.set)); (try any_goals (repeat (first | with_reducible exact Upd.head | with_reducible apply Upd.tail)))) (by ((try simp only [size_drew_, size_drewN_, World.size_alloc, World.size_setCell, List.set_cons_zero, List.set_cons_succ, List.nil_append, List.cons_append]) <;> rfl))) (by (repeat (first | with_reducible exact Upd.head | with_reducible apply Upd.tail))) (by exact aggTerm) (by rfl) (by simp [Value.oneCell']) ?_; clear H; intro w7 H; (try simp only [size_drew_, size_drewN_, World.size_alloc, World.size_setCell, List.set_cons_zero, List.set_cons_succ] at H); (try clear hr_ hd_ ho_ hz_); have hr_ := H.rules; simp only [Rules, and_true] at hr_; have hd_ := H.dif; simp only [Dif, Neq, and_true] at hd_; obtain ⟨ho_, hz_⟩ := H.old0))
  (try clear hr_ hd_ ho_ hz_)
  have b1 := H.blk (g := w.heap.size + 1) (cs := cl) (by (repeat (first | with_reducible exact Pick.head | with_reducible apply Pick.tail)))
  have k0 : RCs w7 (fun k => w.heap.size ≤ k) ((List.replicate m ([] : Lv)).map lvD) cl := by
    rw [hcl.out, List.map_replicate]
    exact RCs.rep (show RC w7 _ (lvD ([] : Lv)) [.slice none 0 0] from RC.lv.2 ⟨none, 0, rfl, RC.nil⟩) m
  have k1 : RC w7 (fun k => w.heap.size ≤ k) (.l 38 1 ((List.replicate m ([] : Lv)).map lvD)) [.slice (some ⟨w.heap.size + 1, 0, none⟩) m m] :=
    rowOf b1 (by omega) k0 (by simp [lvD_size]) (by simp) (by simp; omega)
  have k2 : RC w7 (fun k => w.heap.size ≤ k) (.l 38 1 ((List.replicate m ([] : Lv)).map lvD)) [.slice (some ⟨w.heap.size + 1, 0, none⟩) (List.replicate m ([] : Lv)).length m] := by rw [List.length_replicate]; exact k1
  exact bodyPost_ret (v := .agg #[.int .i64 k, .int .i64 n, .int .i64 a, .slice (some ⟨w.heap.size + 1, 0, none⟩) m m, .slice none 0 0]) (Res.one Tryd.results35 (H.resBox (by (repeat (first | with_reducible exact Pick.head | with_reducible apply Pick.tail))) aggTerm rfl rfl)) rfl
    ⟨[.int .i64 k, .int .i64 n, .int .i64 a, .slice (some ⟨w.heap.size + 1, 0, none⟩) m m, .slice none 0 0], rfl, RC.tm.2 ⟨some ⟨w.heap.size + 1, 0, none⟩, m, none, 0, by show _ = [_, _, _, Value.slice _ (List.replicate m ([] : Lv)).length m, Value.slice none 0 0]; rw [List.length_replicate]; rfl, h1, h2, h3, k2, RC.nil⟩, H.ext⟩
/-- A part of a body that ends as it should, and no other way. -/
theorem onlyNK {P : Program} {c : Code} {K : Act → World → Prop} {B : Exit → Act → World → Prop} {a : Act} {w : World} (h : c.wp P (Exit.then K fun _ _ _ => False) a w) : c.wp P (Exit.then K B) a w :=
  Code.wp_mono (fun e a w q => by cases e <;> first | exact q | exact q.elim) h
/-- An element of a row put anew. -/
theorem RCs.put {w : World} {S : Nat → Prop} {z : Nat} : ∀ {ds : List D} {j : Nat} {cl c : List Value} {d : D}, RCs w S ds cl → (∀ x ∈ ds, x.size = z) → j < ds.length → RC w S d c → RCs w S (ds.set j d) (cl.take (j * z) ++ (c ++ cl.drop (j * z + z)))
  | [], _, _, _, _, _, _, hj, _ => by simp at hj
  | x :: xs, 0, cl, c, d, h, hz, _, hd => by
    unfold RCs at h
    obtain ⟨c1, c2, rfl, h1, h2⟩ := h
    have hl : c1.length = z := (RC.len _ _ h1).trans (hz x (by simp))
    rw [List.set_cons_zero, Nat.zero_mul, List.take_zero, List.nil_append, Nat.zero_add, ← hl, List.drop_left]
    unfold RCs
    exact ⟨c, c2, rfl, hd, h2⟩
  | x :: xs, j + 1, cl, c, d, h, hz, hj, hd => by
    unfold RCs at h
    obtain ⟨c1, c2, rfl, h1, h2⟩ := h
    have hl : c1.length = z := (RC.len _ _ h1).trans (hz x (by simp))
    have ih := RCs.put (j := j) h2 (fun y hy => hz y (by simp [hy])) (by simpa using hj) hd
    rw [List.set_cons_succ]
    unfold RCs
    refine ⟨c1, _, ?_, h1, ih⟩
    have e1 : (j + 1) * z = c1.length + j * z := by rw [Nat.add_mul, Nat.one_mul, hl, Nat.add_comm]
    have e2 : (j + 1) * z + z = c1.length + (j * z + z) := by rw [e1, Nat.add_assoc]
    rw [e2, e1, List.take_length_add_append, List.drop_length_add_append, List.append_assoc]
/-- A row's cells, parted at an element. -/
theorem RCs.part {w : World} {S : Nat → Prop} {z : Nat} : ∀ {ds : List D} {j : Nat} {cl : List Value}, RCs w S ds cl → (∀ x ∈ ds, x.size = z) → (hj : j < ds.length) → ∃ c, cl = cl.take (j * z) ++ (c ++ cl.drop (j * z + z)) ∧ (cl.take (j * z)).length = j * z ∧ c.length = z ∧ RC w S ds[j] c
  | [], _, _, _, _, hj => by simp at hj
  | x :: xs, 0, cl, h, hz, _ => by
    unfold RCs at h
    obtain ⟨c1, c2, rfl, h1, h2⟩ := h
    have hl : c1.length = z := (RC.len _ _ h1).trans (hz x (by simp))
    exact ⟨c1, by rw [Nat.zero_mul, List.take_zero, List.nil_append, Nat.zero_add, ← hl, List.drop_left], by simp, hl, h1⟩
  | x :: xs, j + 1, cl, h, hz, hj => by
    unfold RCs at h
    obtain ⟨c1, c2, rfl, h1, h2⟩ := h
    have hl : c1.length = z := (RC.len _ _ h1).trans (hz x (by simp))
    obtain ⟨c, g1, g2, g3, g4⟩ := RCs.part (j := j) h2 (fun y hy => hz y (by simp [hy])) (by simpa using hj)
    have e1 : (j + 1) * z = c1.length + j * z := by rw [Nat.add_mul, Nat.one_mul, hl, Nat.add_comm]
    have e2 : (j + 1) * z + z = c1.length + (j * z + z) := by rw [e1, Nat.add_assoc]
    refine ⟨c, ?_, ?_, g3, by simpa using g4⟩
    · rw [e2, e1, List.take_length_add_append, List.drop_length_add_append, List.append_assoc, ← g1]
    · rw [e1, List.take_length_add_append, List.length_append, g2]
end Go.Proofs.YteelplgdojjakaaDoor
