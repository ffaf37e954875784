/- A row that is lent: behind each row lie twelve marks. How it lies in memory; what is pushed onto a row whose cells are known. No statement of the seat is proved here. -/
import Derived.Test.YtgbokmphbimihaaDoorMgRow
import Derived.Test.YtgbokmphbimihaaDoorMgBack
import Derived.Laws.MakeOwn
namespace Go.Proofs.YtgbokmphbimihaaDoor
set_option linter.unusedSimpArgs false
set_option linter.unusedVariables false
open Go.RowKit

mutual
/-- As RC; and behind each row lie its marks. -/
def KC (mk : Nat → List D) (w : World) (S : Nat → Prop) : D → List Value → Prop
  | .i n, cs => cs = [.int .i64 n] ∧ inI n
  | .b x, cs => cs = [.bool x]
  | .s ds, cs => KCs mk w S ds cs
  | .l e z ds, cs => ∃ b c es ms, cs = [.slice (some ⟨b, 0, none⟩) ds.length c] ∧ ds.length + 12 ≤ c ∧ c ≤ maxLen ∧ ds.length ≤ M ∧ (∀ d ∈ ds, d.size = z) ∧ b < w.heap.size ∧ S b ∧ KCs mk w S ds es ∧ (mk e).length = 12 ∧ (∀ d ∈ mk e, d.size = z) ∧ RCs w S (mk e) ms ∧ (∀ j u, (es ++ ms)[j]? = some u → w.cell? ⟨b, j, none⟩ = some u)
def KCs (mk : Nat → List D) (w : World) (S : Nat → Prop) : List D → List Value → Prop
  | [], cs => cs = []
  | d :: ds, cs => ∃ c1 c2, cs = c1 ++ c2 ∧ KC mk w S d c1 ∧ KCs mk w S ds c2
end
mutual
theorem KC.frame {mk : Nat → List D} {w w' : World} {S S' : Nat → Prop} (hsz : w.heap.size ≤ w'.heap.size) (hS : ∀ k, k < w.heap.size → S k → S' k) (hw : ∀ k, k < w.heap.size → S k → w'.heap[k]? = w.heap[k]?) :
    (d : D) → (cs : List Value) → KC mk w S d cs → KC mk w' S' d cs
  | .i n, cs, h => h
  | .b x, cs, h => h
  | .s ds, cs, h => by
    unfold KC at h ⊢
    exact KCs.frame hsz hS hw ds cs h
  | .l e z ds, cs, h => by
    unfold KC at h ⊢
    obtain ⟨b, c, es, ms, h1, h2, h3, h4, h5, h6, h7, h8, h9, h10, h11, h12⟩ := h
    exact ⟨b, c, es, ms, h1, h2, h3, h4, h5, Nat.lt_of_lt_of_le h6 hsz, hS b h6 h7, KCs.frame hsz hS hw ds es h8, h9, h10, RCs.frame hsz hS hw _ _ h11, fun j u hu => (World.cell?_of_block (hw b h6 h7)).trans (h12 j u hu)⟩
theorem KCs.frame {mk : Nat → List D} {w w' : World} {S S' : Nat → Prop} (hsz : w.heap.size ≤ w'.heap.size) (hS : ∀ k, k < w.heap.size → S k → S' k) (hw : ∀ k, k < w.heap.size → S k → w'.heap[k]? = w.heap[k]?) :
    (ds : List D) → (cs : List Value) → KCs mk w S ds cs → KCs mk w' S' ds cs
  | [], cs, h => h
  | d :: ds, cs, h => by
    unfold KCs at h ⊢
    obtain ⟨c1, c2, h1, h2, h3⟩ := h
    exact ⟨c1, c2, h1, KC.frame hsz hS hw d c1 h2, KCs.frame hsz hS hw ds c2 h3⟩
end
mutual
theorem KC.rc {mk : Nat → List D} {w : World} {S : Nat → Prop} : (d : D) → (cs : List Value) → KC mk w S d cs → RC w S d cs
  | .i n, cs, h => by unfold KC at h; unfold RC; exact h
  | .b x, cs, h => by unfold KC at h; unfold RC; exact h
  | .s ds, cs, h => by
    unfold KC at h; unfold RC
    exact KCs.rcs ds cs h
  | .l e z ds, cs, h => by
    unfold KC at h; unfold RC
    obtain ⟨b, c, es, ms, h1, h2, h3, h4, h5, h6, h7, h8, h9, h10, h11, h12⟩ := h
    refine ⟨_, c, h1, by omega, h3, h4, h5, .inr ⟨b, 0, es, rfl, h6, h7, KCs.rcs ds es h8, fun j u hu => ?_⟩⟩
    rw [Nat.zero_add]
    exact h12 j u (by rw [List.getElem?_append_left (List.getElem?_eq_some_iff.1 hu).1]; exact hu)
theorem KCs.rcs {mk : Nat → List D} {w : World} {S : Nat → Prop} : (ds : List D) → (cs : List Value) → KCs mk w S ds cs → RCs w S ds cs
  | [], cs, h => by unfold KCs at h; unfold RCs; exact h
  | d :: ds, cs, h => by
    unfold KCs at h; unfold RCs
    obtain ⟨c1, c2, h1, h2, h3⟩ := h
    exact ⟨c1, c2, h1, KC.rc d c1 h2, KCs.rcs ds c2 h3⟩
end
theorem KC.len {mk : Nat → List D} {w : World} {S : Nat → Prop} {d : D} {cs : List Value} (h : KC mk w S d cs) : cs.length = d.size := RC.len d cs h.rc
theorem KCs.append {mk : Nat → List D} {w : World} {S : Nat → Prop} {ds es : List D} {cs fs : List Value} (h : KCs mk w S ds cs) (k : KCs mk w S es fs) : KCs mk w S (ds ++ es) (cs ++ fs) := by
  induction ds generalizing cs with
  | nil => unfold KCs at h; subst h; simpa using k
  | cons d ds ih =>
    unfold KCs at h
    obtain ⟨c1, c2, rfl, h2, h3⟩ := h
    rw [List.cons_append, List.append_assoc]
    unfold KCs
    exact ⟨c1, _, rfl, h2, ih h3⟩
theorem KCs.single {mk : Nat → List D} {w : World} {S : Nat → Prop} {d : D} {cs : List Value} (h : KC mk w S d cs) : KCs mk w S [d] cs := by
  unfold KCs
  exact ⟨cs, [], by simp, h, by unfold KCs; rfl⟩
theorem KCs.nil {mk : Nat → List D} {w : World} {S : Nat → Prop} : KCs mk w S [] [] := by unfold KCs; rfl
/-- The element at i of a row that is lent. -/
theorem KCs.get {mk : Nat → List D} {w : World} {S : Nat → Prop} {ds : List D} {es : List Value} {z : Nat} (h : KCs mk w S ds es) (hz : ∀ d ∈ ds, d.size = z) {i : Nat} {d : D} (hd : ds[i]? = some d) :
    ∃ cs, KC mk w S d cs ∧ cs.length = z ∧ ∀ j u, cs[j]? = some u → es[i * z + j]? = some u := by
  induction ds generalizing es i with
  | nil => simp at hd
  | cons d0 ds ih =>
    unfold KCs at h
    obtain ⟨c1, c2, rfl, h2, h3⟩ := h
    have hl : c1.length = z := h2.len.trans (hz d0 (by simp))
    rcases i with _ | i
    · simp only [List.getElem?_cons_zero, Option.some.injEq] at hd
      subst hd
      refine ⟨c1, h2, hl, fun j u hu => ?_⟩
      have hj := (List.getElem?_eq_some_iff.1 hu).1
      rw [Nat.zero_mul, Nat.zero_add, List.getElem?_append_left hj]
      exact hu
    · obtain ⟨cs, g1, g2, g3⟩ := ih h3 (fun d hd => hz d (by simp [hd])) (by simpa using hd)
      refine ⟨cs, g1, g2, fun j u hu => ?_⟩
      have : (i + 1) * z + j = c1.length + (i * z + j) := by rw [hl, Nat.add_mul]; omega
      rw [this, List.getElem?_append_right (by omega)]
      simpa using g3 j u hu
/-- A row that is lent: its value; its elements; its marks. -/
theorem KC.row {mk : Nat → List D} {w : World} {S : Nat → Prop} {e z : Nat} {ds : List D} {v : Value} (h : KC mk w S (.l e z ds) [v]) :
    ∃ b c, v = .slice (some ⟨b, 0, none⟩) ds.length c ∧ ds.length + 12 ≤ c ∧ c ≤ maxLen ∧ ds.length ≤ M ∧ b < w.heap.size ∧ S b ∧
      (∀ i d, ds[i]? = some d → ∃ cs, KC mk w S d cs ∧ cs.length = z ∧ ∀ j u, cs[j]? = some u → w.cell? ⟨b, i * z + j, none⟩ = some u) ∧
      (∀ i d, (mk e)[i]? = some d → ∃ cs, RC w S d cs ∧ cs.length = z ∧ ∀ j u, cs[j]? = some u → w.cell? ⟨b, (ds.length + i) * z + j, none⟩ = some u) := by
  unfold KC at h
  obtain ⟨b, c, es, ms, h1, h2, h3, h4, h5, h6, h7, h8, h9, h10, h11, h12⟩ := h
  refine ⟨b, c, by simpa using h1, h2, h3, h4, h6, h7, fun i d hd => ?_, fun i d hd => ?_⟩
  · obtain ⟨cs, g1, g2, g3⟩ := h8.get h5 hd
    exact ⟨cs, g1, g2, fun j u hu => h12 _ u (by have := g3 j u hu; rw [List.getElem?_append_left (List.getElem?_eq_some_iff.1 this).1]; exact this)⟩
  · obtain ⟨cs, g1, g2, g3⟩ := h11.get h10 hd
    have hl : es.length = ds.length * z := (RCs.len _ _ (KCs.rcs _ _ h8)).trans (D.sizes_eq h5)
    refine ⟨cs, g1, g2, fun j u hu => h12 _ u ?_⟩
    rw [show (ds.length + i) * z + j = es.length + (i * z + j) by rw [hl, Nat.add_mul]; omega, List.getElem?_append_right (by omega)]
    simpa using g3 j u hu

section
variable {X : Nat → Prop} {w0 w w1 : World} {l l' l1 l2 l3 : List Ch}
variable {P : Program} {ops : Array Oper} {rest : List Oper} {o : Oper} {a : Act} {Q : Exit → Act → World → Prop}
/-- 'out = append(out, x)', out a row whose cells are known, x a box of one element. -/
theorem wp_pushK {K : Act → World → Prop} (s x : Operand) (t : TypeId) (ho : o.op = .call { callee := .builtin .append, args := #[s, x], argTypes := #[t, t] }) {e z : Nat} (hT : SlT P t e z)
    {n : Nat} {es : List Value} {out : Value} {cs : List Value} {g c e1 : Nat} (hs : a.eval s = out) (hx : a.eval x = .slice (some ⟨g, 0, none⟩) 1 c) (H : Hp X w0 w l) (p3 : Pick l (.box g e1 cs) l1) (p1 : Pick l1 (.raw e z n out es) l2)
    (hlen : cs.length = z) (hone : ∀ u ∈ cs, u.oneCell' = true) (hM : n + 1 ≤ 5000000000)
    (h : ∀ v' w', Hp X w0 w' (.raw e z (n + 1) v' (es ++ cs) :: l2) → K (a.put o.dst v') w') : o.wp P a w K Q := by
  have hcell := H.boxlies p3
  obtain ⟨L, hL, hn⟩ := ((H.pick p3).pick (.tail p1)).own
  simp only [Chs] at hL
  obtain ⟨L1, _, rfl, ⟨rfl, h1⟩, L2, L3, rfl, h2, h3⟩ := hL
  have hB : ∀ k, out.ownBlock = some k → w0.heap.size ≤ k := fun k hk => (h1.lt k (by simp [hk])).1
  obtain ⟨ht, i, zv, hi, hzv, hsz, hzs, hz0, hby⟩ := hT
  have hb : (n + 1) * i.bytes ≤ 140737488355328 := by
    have : (n + 1) * i.bytes ≤ 5000000000 * 1024 := Nat.mul_le_mul hM hby
    omega
  obtain ⟨v', w', hrun, r1, r2, _, r4⟩ := run_append_own_at (P := P) w w0.heap.size t o.type e i zv z i.bytes ht hi hzv hsz rfl hzs hz0 out n es h1 ⟨g, 0, none⟩ 1 c cs (by omega)
    hcell hone (by unfold maxLen; omega) hb H.ext.size
  have hfin := h v' w' ⟨H.ext.grown r2 (fun k hk => .inr (hB k hk)), v'.ownBlock.toList ++ L3, by
    unfold Chs
    refine ⟨_, L3, rfl, ⟨rfl, r1⟩, h3.frame H.ext.size r2.size (fun k hk hx => r2.block k (Nat.lt_of_lt_of_le hk H.ext.size) (fun e => ?_)) (fun k hk => r2.block k (h3.lt k hk).2 (fun e => ?_))⟩
    · have := hB k e.symm; omega
    · exact (List.nodup_append.1 hn).2.2 k (by simp [← e]) k (by simp [hk]) rfl, by
    have n2 := (List.nodup_append.1 (List.nodup_append.1 hn).2.1).2.1
    refine List.nodup_append.2 ⟨by cases v'.ownBlock <;> simp, n2, fun x hx y hy e => ?_⟩
    subst e
    rcases r4 with r4 | r4
    · rw [r4] at hx
      exact (List.nodup_append.1 hn).2.2 x hx x (by simp [hy]) rfl
    · have hx' : x = w.heap.size := by rw [r4] at hx; simpa using hx
      have := (h3.lt x hy).2
      omega⟩
  unfold Oper.wp execOp
  simp only [ho, resolve, invoke, builtin, Sem.run_bind, Sem.run_pure, Result.andThen_ok, List.map_toArray, List.map_cons, List.map_nil, hs, hx, hrun]
  exact hfin
theorem wpList_pushK (hgd : o.guard = none) (s x : Operand) (t : TypeId) (ho : o.op = .call { callee := .builtin .append, args := #[s, x], argTypes := #[t, t] }) {e z : Nat} (hT : SlT P t e z)
    {n : Nat} {es : List Value} {out : Value} {cs : List Value} {g c e1 : Nat} (hs : a.eval s = out) (hx : a.eval x = .slice (some ⟨g, 0, none⟩) 1 c) (H : Hp X w0 w l) (p3 : Pick l (.box g e1 cs) l1) (p1 : Pick l1 (.raw e z n out es) l2)
    (hlen : cs.length = z) (hone : ∀ u ∈ cs, u.oneCell' = true) (hM : n + 1 ≤ 5000000000)
    (h : ∀ v' w', Hp X w0 w' (.raw e z (n + 1) v' (es ++ cs) :: l2) → wpList P ops Q rest (a.put o.dst v') w') : wpList P ops Q (o :: rest) a w :=
  wpList_plain hgd fun _ hK => wp_pushK s x t ho hT hs hx H p3 p1 hlen hone hM fun v' w' h1 => hK _ _ (h v' w' h1)
/-- What is said of a piece. -/
theorem Hp.gh {K : List Nat} {p : World → Prop} (H : Hp X w0 w l) (q : Pick l (.gh K p) l') : p w := by
  obtain ⟨L, hL, _⟩ := (H.pick q).own
  simp only [Chs] at hL
  obtain ⟨L1, L2, rfl, h, _⟩ := hL
  exact h.2.2.1
/-- A call hands back what is said of its own blocks. -/
theorem Hp.resGh {p : World → Prop} (H : Hp X w0 w l) (hx : Ext no w w1) (hp : p w1) (hst : ∀ w' : World, w1.heap.size ≤ w'.heap.size → (∀ k, w.heap.size ≤ k → k < w1.heap.size → w'.heap[k]? = w1.heap[k]?) → p w') : ∃ K, Hp X w0 w1 (.gh K p :: l) := by
  obtain ⟨L, h, hn⟩ := (H.call hx).own
  obtain ⟨L', h', hn'⟩ := H.own
  have hxx := (H.call hx).ext
  refine ⟨List.range' w.heap.size (w1.heap.size - w.heap.size), hxx, List.range' w.heap.size (w1.heap.size - w.heap.size) ++ L', ?_, ?_⟩
  · unfold Chs
    refine ⟨_, L', rfl, ⟨rfl, fun k hk => ?_, hp, fun w' hz hk => hst w' hz (fun k h1 h2 => hk k (by rw [List.mem_range'_1]; omega))⟩, h'.frame H.ext.size hx.size (fun k hk _ => hx.block k (Nat.lt_of_lt_of_le hk H.ext.size) no_not) (fun k hk => hx.block k (h'.lt k hk).2 no_not)⟩
    rw [List.mem_range'_1] at hk
    have := H.ext.size
    omega
  · refine List.nodup_append.2 ⟨List.nodup_range' .., hn', fun x hx1 y hy e => ?_⟩
    rw [List.mem_range'_1] at hx1
    have := (h'.lt y hy).2
    omega
/-- What is said of two pieces gives what is said of both. -/
theorem Hp.gh2 {K1 K2 : List Nat} {p q r : World → Prop} (H : Hp X w0 w (.gh K1 p :: .gh K2 q :: l)) (h : ∀ w, p w → q w → r w) : Hp X w0 w (.gh (K1 ++ K2) r :: l) := by
  refine Hp.turn (ds := [_, _]) (ds' := [_]) H fun L hL => ?_
  simp only [Chs] at hL ⊢
  obtain ⟨L1, _, rfl, ⟨rfl, a1, a2, a3⟩, L2, _, rfl, ⟨rfl, b1, b2, b3⟩, rfl⟩ := hL
  refine ⟨L1 ++ L2, [], by simp, ⟨rfl, fun k hk => ?_, h _ a2 b2, fun w' hz hk => h _ (a3 w' hz fun k h1 => hk k (by simp [h1])) (b3 w' hz fun k h1 => hk k (by simp [h1]))⟩, rfl⟩
  rcases List.mem_append.1 hk with hk | hk
  · exact a1 k hk
  · exact b1 k hk
theorem Hp.gh0 {p : World → Prop} (H : Hp X w0 w l) (h : ∀ w, p w) : Hp X w0 w (.gh [] p :: l) := by
  obtain ⟨L, hL, hn⟩ := H.own
  exact ⟨H.ext, L, by unfold Chs; exact ⟨[], L, rfl, ⟨rfl, by simp, h _, fun _ _ _ => h _⟩, hL⟩, hn⟩
theorem Hp.rawLen' {e z n : Nat} {v : Value} {es : List Value} (H : Hp X w0 w l) (p : Pick l (.raw e z n v es) l') : ∃ A c, v = .slice A n c ∧ n ≤ c ∧ c ≤ maxLen ∧ es.length = n * z := by
  obtain ⟨L, hL, _⟩ := (H.pick p).own
  simp only [Chs] at hL
  obtain ⟨L1, L2, rfl, ⟨rfl, hl, hcase⟩, _⟩ := hL
  rcases hcase with ⟨rfl, rfl⟩ | ⟨g, cap, cur, rfl, k1, k2, k3, k4, k5, k6⟩
  · exact ⟨none, 0, rfl, Nat.le_refl _, by unfold maxLen; omega, hl⟩
  · exact ⟨_, cap, rfl, k3, k4, hl⟩
/-- A row whose cells are known: n marked ones and the marks behind: lent. -/
theorem KC.of {mk : Nat → List D} {S : Nat → Prop} {e z c n : Nat} {A : Option Addr} {ds : List D} {es ms : List Value} (H : Hp X w0 w l) (p : Pick l (.raw e z (n + 12) (.slice A (n + 12) c) (es ++ ms)) l') (hn : n = ds.length) (hz : ∀ d ∈ ds, d.size = z) (hM : ds.length ≤ M)
    (hk : KCs mk w S ds es) (h1 : (mk e).length = 12) (h2 : ∀ d ∈ mk e, d.size = z) (hm : RCs w S (mk e) ms) (hS : ∀ b, w0.heap.size ≤ b → S b) : ∃ b, A = some ⟨b, 0, none⟩ ∧ w0.heap.size ≤ b ∧ KC mk w S (.l e z ds) [.slice A n c] := by
  subst hn
  obtain ⟨L, hL, hn⟩ := (H.pick p).own
  simp only [Chs] at hL
  obtain ⟨L1, L2, rfl, ⟨rfl, hl, hcase⟩, _⟩ := hL
  rcases hcase with ⟨hv, h0⟩ | ⟨g, cap, cur, hv, k1, k2, k3, k4, k5, k6⟩
  · omega
  · simp only [Value.slice.injEq, true_and] at hv
    obtain ⟨rfl, rfl⟩ := hv
    refine ⟨g, rfl, k1, ?_⟩
    unfold KC
    refine ⟨g, c, es, ms, rfl, k3, k4, hM, hz, ?_, hS g k1, hk, h1, h2, hm, fun j u hu => ?_⟩
    · rcases Nat.lt_or_ge g w.heap.size with hlt | hge
      · exact hlt
      · rw [Array.getElem?_eq_none hge] at k2; cases k2
    · rw [cell_of_row w g j cur e (0, 0) k2]
      rw [← k6] at hu
      rw [List.getElem?_take] at hu
      split at hu
      · simpa using hu
      · cases hu
theorem fold_list : ∀ (cs : List Value) (k : Nat) (b : Array Value), b.size = k + cs.length → (List.foldl (fun (a : Array Value) (x : Value × Nat) => a.setIfInBounds x.snd x.fst) b (cs.zipIdx k)).toList = b.toList.take k ++ cs
  | [], k, b, h => by
    simp only [List.length_nil, Nat.add_zero] at h
    subst h
    simp only [List.zipIdx, List.foldl_nil, List.append_nil]
    exact (List.take_of_length_le (by simp)).symm
  | c :: cs, k, b, h => by
    simp only [List.length_cons] at h
    rw [List.zipIdx_cons, List.foldl_cons, fold_list cs (k + 1) (b.setIfInBounds k c) (by rw [Array.size_setIfInBounds]; omega)]
    have hk : k < (b.setIfInBounds k c).toList.length := by rw [Array.length_toList, Array.size_setIfInBounds]; omega
    rw [List.take_succ_eq_append_getElem hk]
    simp [Array.toList_setIfInBounds, List.take_set_of_le]
/-- Cells laid one by one over as many others. -/
theorem fold_cells {cs : List Value} {z : Nat} (h : cs.length = z) (b : Array Value) (hb : b.size = z) : List.foldl (fun (a : Array Value) (x : Value × Nat) => a.setIfInBounds x.snd x.fst) b cs.zipIdx = cs.toArray := by
  apply Array.ext'
  rw [fold_list cs 0 b (by omega)]
  simp
/-- A row that is made, empty, with room. -/
theorem make_row {t e z : Nat} (hT : SlT P t e z) (c : Nat) (hc : c ≤ 5000000000) : ∃ cl : List Value, cl.length = c * z ∧ ∀ w : World, (Instr.makeSlice t (.int .i64 0) (.int .i64 (c : Int))).run P w = .ok (.slice (some ⟨w.heap.size, 0, none⟩) 0 c) (w.alloc (.cells cl.toArray e)) := by
  obtain ⟨ht, i, zv, hi, hzv, hsz, hzs, hz0, hby⟩ := hT
  have hb : (i.bytes : Int) * c ≤ 281474976710656 := by
    have : i.bytes * c ≤ 1024 * 5000000000 := Nat.mul_le_mul hby hc
    have h2 : ((i.bytes * c : Nat) : Int) ≤ 281474976710656 := by omega
    rw [Int.natCast_mul] at h2
    exact h2
  refine ⟨(madeCells zv.cells (c * i.size)).toList, ?_, fun w => ?_⟩
  · rw [Array.length_toList, size_madeCells, hsz]
  · have h := run_make (P := P) (w := w) t e i zv ht hi hzv .i64 .i64 0 c (by omega) (by omega) hb (by omega)
    rw [h]
    simp
theorem Hp.made {e z c g : Nat} {cl : List Value} (H : Hp no w0 w l) (p : Pick l (.box g e cl) l') (hl : cl.length = c * z) (hc : c ≤ maxLen) : Hp no w0 w (.raw e z 0 (.slice (some ⟨g, 0, none⟩) 0 c) [] :: l') :=
  Hp.turn1 (ds' := [_]) H p fun L hL => by
    obtain ⟨rfl, hg, hb⟩ := hL
    simp only [Chs]
    exact ⟨[g], [], rfl, ⟨by simp [Value.ownBlock], by simp, .inr ⟨g, c, cl.toArray, rfl, hg.resolve_left no_not, hb, by omega, hc, by simpa using hl, by simp⟩⟩, rfl⟩
end
end Go.Proofs.YtgbokmphbimihaaDoor
/- What the layers above share with the kit of rows that are lent, without that kit. No statement of the seat is proved here. -/
namespace Go.Proofs.YtgbokmphbimihaaDoor
set_option linter.unusedSimpArgs false
set_option linter.unusedVariables false
open Go.RowKit

def tmZ : Tm := .mk 0 0 0 [] []
def PRd (w : World) (d : D) (e : Ending) (w' : World) : Prop := ∃ cs : List Value, e = .returned (.agg cs.toArray) ∧ RC w' (fun k => w.heap.size ≤ k) d cs ∧ Ext no w w'
theorem inI0 : inI 0 := by unfold inI; omega
theorem aggPartK : AggT Tryd.prog 117 2 := ⟨_, Tryd.underlying117, rfl, by kernel_rfl⟩
theorem aggLevel : AggT Tryd.prog 33 1 := ⟨_, Tryd.underlying33, rfl, by kernel_rfl⟩
theorem aggCtorK : AggT Tryd.prog 40 6 := ⟨_, Tryd.underlying40, rfl, by kernel_rfl⟩
theorem aggMemberK : AggT Tryd.prog 42 1 := ⟨_, Tryd.underlying42, rfl, by kernel_rfl⟩
theorem one_row {w : World} {S : Nat → Prop} {g e z : Nat} {d : D} {cs : List Value} (b : Blk w g e cs.toArray) (hS : S g) (h : RC w S d cs) (hz : d.size = z) : RC w S (.l e z [d]) [.slice (some ⟨g, 0, none⟩) 1 1] := by
  unfold RC
  refine ⟨_, _, rfl, Nat.le_refl _, by unfold maxLen; omega, by unfold M; simp, by simpa using hz, .inr ⟨g, 0, cs, rfl, b.lt, hS, RCs.single h, fun j u hu => ?_⟩⟩
  rw [b.cells]
  simpa using hu
theorem tmZ_rc {w : World} {S : Nat → Prop} {n : Int} (h : inI n) : RC w S (Tm.mk 0 n 0 [] []).d [.int .i64 0, .int .i64 n, .int .i64 0, .slice none 0 0, .slice none 0 0] := RC.tm.2 ⟨none, 0, none, 0, rfl, inI0, h, inI0, RC.nil, RC.nil⟩
theorem Hp.resR {w0 w w1 : World} {l : List Ch} {d : D} {cs : List Value} (H : Hp no w0 w l) (hx : Ext no w w1) (hk : RC w1 (fun k => w.heap.size ≤ k) d cs) : ∃ K, Hp no w0 w1 (.gh K (fun w' => RC w' (fun k => w0.heap.size ≤ k) d cs) :: l) :=
  H.resGh hx (RC.frame (Nat.le_refl _) (fun _ _ h => Nat.le_trans H.ext.size h) (fun _ _ _ => rfl) _ _ hk) (fun w' hz h => RC.frame hz (fun _ _ h => Nat.le_trans H.ext.size h) (fun k h1 h2 => h k h2 h1) _ _ hk)
end Go.Proofs.YtgbokmphbimihaaDoor
/- law 11: self, nat, great: contracts; the chapter's example as data. No statement of the seat is proved here. -/
namespace Go.Proofs.YtgbokmphbimihaaDoor
set_option linter.unusedSimpArgs false
set_option linter.unusedVariables false
open Go.RowKit

abbrev tmV (k n a : Int) : Value := .agg #[.int .i64 k, .int .i64 n, .int .i64 a, .slice none 0 0, .slice none 0 0]
set_option maxRecDepth 100000 in
set_option maxHeartbeats 2000000 in
theorem self11_calls {w : World} {n : Int} : Calls Tryd.prog 126 #[.int .i64 n] w (PV w (tmV 11 0 n)) := by
  go_enter Tryd.func126, Tryd.ntmps126
  have H := Hp.start no w
  go_wp2_with ((with_reducible refine atStore (t := 26) ?_); go_must (refine wpList_storeH (t := 26) rfl rfl (by go_simp <;> first | rfl | exact ⟨rfl, rfl⟩) (by go_simp <;> first | rfl | exact ⟨rfl, rfl⟩) (by exact Hp.norm (by (repeat (first | with_reducible exact H | with_reducible exact H0_ | with_reducible apply Hp.alloc | with_reducible apply Hp.allocMap | with_reducible apply Hp.drew | with_reducible apply Hp.drewN | with_reducible apply Hp.set)); (try any_goals (repeat (first | with_reducible exact Upd.head | with_reducible apply Upd.tail)))) (by ((try simp only [size_drew_, size_drewN_, World.size_alloc, World.size_setCell, List.set_cons_zero, List.set_cons_succ, List.nil_append, List.cons_append]) <;> rfl))) (by (repeat (first | with_reducible exact Upd.head | with_reducible apply Upd.tail))) (by exact aggTerm) (by rfl) (by simp [Value.oneCell']) ?_; clear H; intro w7 H; (try simp only [size_drew_, size_drewN_, World.size_alloc, World.size_setCell, List.set_cons_zero, List.set_cons_succ] at H); (try clear hr_ hd_ ho_ hz_); have hr_ := H.rules; simp only [Rules, and_true] at hr_; have hd_ := H.dif; simp only [Dif, Neq, and_true] at hd_; obtain ⟨ho_, hz_⟩ := H.old0))
  (try clear hr_ hd_ ho_ hz_)
  exact bodyPost_ret (v := tmV 11 0 n) (Res.one Tryd.results126 (H.resBox (by (repeat (first | with_reducible exact Pick.head | with_reducible apply Pick.tail))) aggTerm rfl rfl)) rfl ⟨rfl, H.ext⟩
def tmS (n : Int) : Tm := .mk 11 0 n [] []
def piT : Tm := .mk 4 0 0 [] [tmS 0, tmS 0]
def natDc : Dc := ⟨3, 0, tmZ, tmZ, [], [], [⟨[]⟩], [⟨0, tmS 0⟩, ⟨0, piT⟩]⟩
theorem rowOf {w : World} {S : Nat → Prop} {e z g t n : Nat} {ds : List D} {cs : List Value} (hb : Blk w g t cs.toArray) (hS : S g) (h : RCs w S ds cs) (hz : ∀ d ∈ ds, d.size = z) (hn : n = ds.length) (hM : ds.length ≤ 1000) : RC w S (.l e z ds) [.slice (some ⟨g, 0, none⟩) n n] := by
  subst hn
  unfold RC
  refine ⟨_, _, rfl, Nat.le_refl _, by unfold maxLen; omega, by unfold M; omega, hz, .inr ⟨g, 0, cs, rfl, hb.lt, hS, h, fun j u hu => ?_⟩⟩
  rw [Nat.zero_add, hb.cells j]
  simpa using hu
theorem RCs.two {w : World} {S : Nat → Prop} {a b : D} {c1 c2 : List Value} (h : RC w S a c1) (k : RC w S b c2) : RCs w S [a, b] (c1 ++ c2) := by
  unfold RCs
  exact ⟨c1, c2, rfl, h, RCs.single k⟩
theorem tmN_rc {w : World} {S : Nat → Prop} {k n a : Int} (h : inI k ∧ inI n ∧ inI a) : RC w S (Tm.mk k n a [] []).d [.int .i64 k, .int .i64 n, .int .i64 a, .slice none 0 0, .slice none 0 0] := RC.tm.2 ⟨none, 0, none, 0, rfl, h.1, h.2.1, h.2.2, RC.nil, RC.nil⟩
/-- What nat's pieces hold. -/
abbrev natV (g1 g2 : Nat) : Value := .agg #[.int .i64 3, .int .i64 0, .int .i64 0, .int .i64 0, .int .i64 0, .slice none 0 0, .slice none 0 0, .int .i64 0, .int .i64 0, .int .i64 0, .slice none 0 0, .slice none 0 0, .slice none 0 0, .slice none 0 0, .slice (some ⟨g1, 0, none⟩) 1 1, .slice (some ⟨g2, 0, none⟩) 2 2]
abbrev natC (g3 : Nat) : List Value := [.int .i64 0, .int .i64 11, .int .i64 0, .int .i64 0, .slice none 0 0, .slice none 0 0, .int .i64 0, .int .i64 4, .int .i64 0, .int .i64 0, .slice none 0 0, .slice (some ⟨g3, 0, none⟩) 2 2]
abbrev natK : List Value := [.int .i64 11, .int .i64 0, .int .i64 0, .slice none 0 0, .slice none 0 0, .int .i64 11, .int .i64 0, .int .i64 0, .slice none 0 0, .slice none 0 0]
def PNat (w : World) (e : Ending) (w' : World) : Prop := ∃ g1 g2 g3, e = .returned (natV g1 g2) ∧ Hp no w w' [.box g1 42 [.slice none 0 0], .box g2 40 (natC g3), .box g3 26 natK]
set_option maxRecDepth 100000 in
set_option maxHeartbeats 4000000 in
theorem natP_calls {w : World} : Calls Tryd.prog 62 #[] w (PNat w) := by
  go_enter Tryd.func62, Tryd.ntmps62
  go_wp2_with fail
  have H := Hp.start no w
  refine callsH (by (repeat (first | with_reducible exact H | with_reducible exact H0_ | with_reducible apply Hp.alloc | with_reducible apply Hp.allocMap | with_reducible apply Hp.drew | with_reducible apply Hp.drewN | with_reducible apply Hp.set)); (try any_goals (repeat (first | with_reducible exact Upd.head | with_reducible apply Upd.tail)))) ?_
  clear H; intro w1 H; (try simp only [size_drew_, size_drewN_, World.size_alloc, World.size_setCell, List.set_cons_zero, List.set_cons_succ] at H)
  refine (self11_calls).mono ?_
  rintro e w_ ⟨rfl, hx⟩
  replace H := H.call hx
  clear hx
  have hr_ := H.rules; simp only [Rules, and_true] at hr_; have hd_ := H.dif; simp only [Dif, Neq, and_true] at hd_; obtain ⟨ho_, hz_⟩ := H.old0
  go_wp2_with fail
  (try clear hr_ hd_ ho_ hz_)
  refine (self11_calls).mono ?_
  rintro e w_ ⟨rfl, hx⟩
  replace H := H.call hx
  clear hx
  have hr_ := H.rules; simp only [Rules, and_true] at hr_; have hd_ := H.dif; simp only [Dif, Neq, and_true] at hd_; obtain ⟨ho_, hz_⟩ := H.old0
  go_wp2_with fail
  (try clear hr_ hd_ ho_ hz_)
  refine (self11_calls).mono ?_
  rintro e w_ ⟨rfl, hx⟩
  replace H := H.call hx
  clear hx
  have hr_ := H.rules; simp only [Rules, and_true] at hr_; have hd_ := H.dif; simp only [Dif, Neq, and_true] at hd_; obtain ⟨ho_, hz_⟩ := H.old0
  go_wp2_with ((with_reducible refine atStore (t := 37) ?_); go_must (refine wpList_storeH (t := 37) rfl rfl (by go_simp <;> first | rfl | exact ⟨rfl, rfl⟩) (by go_simp <;> first | rfl | exact ⟨rfl, rfl⟩) (by exact Hp.norm (by (repeat (first | with_reducible exact H | with_reducible exact H0_ | with_reducible apply Hp.alloc | with_reducible apply Hp.allocMap | with_reducible apply Hp.drew | with_reducible apply Hp.drewN | with_reducible apply Hp.set)); (try any_goals (repeat (first | with_reducible exact Upd.head | with_reducible apply Upd.tail)))) (by ((try simp only [size_drew_, size_drewN_, World.size_alloc, World.size_setCell, List.set_cons_zero, List.set_cons_succ, List.nil_append, List.cons_append]) <;> rfl))) (by (repeat (first | with_reducible exact Upd.head | with_reducible apply Upd.tail))) (by exact aggDecl) (by rfl) (by simp [Value.oneCell']) ?_; clear H; intro w7 H; (try simp only [size_drew_, size_drewN_, World.size_alloc, World.size_setCell, List.set_cons_zero, List.set_cons_succ] at H); (try clear hr_ hd_ ho_ hz_); have hr_ := H.rules; simp only [Rules, and_true] at hr_; have hd_ := H.dif; simp only [Dif, Neq, and_true] at hd_; obtain ⟨ho_, hz_⟩ := H.old0))
  (try clear hr_ hd_ ho_ hz_)
  refine bodyPost_ret (v := natV (w.heap.size + 1) (w_.heap.size + 1))
    (Res.one Tryd.results62 (H.resBox (g := w.heap.size) (by (repeat (first | with_reducible exact Pick.head | with_reducible apply Pick.tail))) aggDecl rfl rfl)) rfl ⟨w.heap.size + 1, w_.heap.size + 1, w_.heap.size, rfl, (H.arr (by (repeat (first | with_reducible exact Arr.nil | refine Arr.cons (by (repeat (first | with_reducible exact Pick.head | with_reducible apply Pick.tail))) ?_)) <;> exact Arr.of_subl (by (repeat (first | with_reducible exact Subl.refl _ | with_reducible apply Subl.drop)))))⟩
theorem tmN0 {w : World} {S : Nat → Prop} {k n a : Int} (h1 : inI k) (h2 : inI n) (h3 : inI a) : RC w S (Tm.mk k n a [] []).d [.int .i64 k, .int .i64 n, .int .i64 a, .slice none 0 0, .slice none 0 0] := tmN_rc ⟨h1, h2, h3⟩
/-- nat's pieces, read. -/
theorem natRc {w : World} {S : Nat → Prop} {g1 g2 g3 : Nat} (b1 : Blk w g1 42 #[.slice none 0 0]) (b2 : Blk w g2 40 (natC g3).toArray) (b3 : Blk w g3 26 natK.toArray) (h1 : S g1) (h2 : S g2) (h3 : S g3) :
    RC w S natDc.d [.int .i64 3, .int .i64 0, .int .i64 0, .int .i64 0, .int .i64 0, .slice none 0 0, .slice none 0 0, .int .i64 0, .int .i64 0, .int .i64 0, .slice none 0 0, .slice none 0 0, .slice none 0 0, .slice none 0 0, .slice (some ⟨g1, 0, none⟩) 1 1, .slice (some ⟨g2, 0, none⟩) 2 2] := by
  have k1 : RC w S (.l 26 5 ([tmS 0, tmS 0].map Tm.d)) [.slice (some ⟨g3, 0, none⟩) 2 2] := rowOf b3 h3 (RCs.two (tmN_rc (by unfold inI; omega)) (tmN_rc (by unfold inI; omega))) (by simp [Tm.size_d]) rfl (by simp)
  have k2 : RC w S (.l 42 1 (natDc.members.map Mb.d)) [.slice (some ⟨g1, 0, none⟩) 1 1] := rowOf b1 h1 (RCs.single (RC.mb.2 ⟨none, 0, rfl, RC.nil⟩)) (by simp [natDc, Mb.size_d]) rfl (by simp [natDc])
  have k3 : RC w S (.l 40 6 (natDc.ctors.map Ct.d)) [.slice (some ⟨g2, 0, none⟩) 2 2] := rowOf b2 h2 (RCs.two (c1 := [.int .i64 0, .int .i64 11, .int .i64 0, .int .i64 0, .slice none 0 0, .slice none 0 0]) (RC.ct.2 ⟨none, 0, none, 0, rfl, inI0, tmN_rc (by unfold inI; omega)⟩) (RC.ct.2 ⟨none, 0, some ⟨g3, 0, none⟩, 2, rfl, inI0, RC.tm.2 ⟨none, 0, some ⟨g3, 0, none⟩, 2, rfl, by unfold inI piT; simp [Tm.k_mk], inI0, inI0, RC.nil, k1⟩⟩)) (by simp [natDc, Ct.size_d]) rfl (by simp [natDc])
  exact RC.dc.2 ⟨none, 0, none, 0, none, 0, none, 0, none, 0, none, 0, some ⟨g1, 0, none⟩, 1, some ⟨g2, 0, none⟩, 2, rfl, by unfold inI natDc; simp, inI0, tmZ_rc inI0, tmZ_rc inI0, RC.nil, RC.nil, k2, k3⟩
/-- A box's place is new. -/
theorem Hp.boxNew {w0 w : World} {l l' : List Ch} {g t : Nat} {cs : List Value} (H : Hp no w0 w l) (p : Pick l (.box g t cs) l') : w0.heap.size ≤ g := by
  obtain ⟨L, hL, _⟩ := (H.pick p).own
  simp only [Chs] at hL
  obtain ⟨L1, L2, rfl, h, _⟩ := hL
  exact h.2.1.resolve_left no_not
theorem nat11_calls {w : World} : Calls Tryd.prog 62 #[] w (PRd w natDc.d) := by
  refine natP_calls.mono ?_
  rintro e w1 ⟨g1, g2, g3, rfl, H⟩
  exact ⟨_, rfl, natRc (H.blk (by (repeat (first | with_reducible exact Pick.head | with_reducible apply Pick.tail)))) (H.blk (by (repeat (first | with_reducible exact Pick.head | with_reducible apply Pick.tail)))) (H.blk (by (repeat (first | with_reducible exact Pick.head | with_reducible apply Pick.tail)))) (H.boxNew (by (repeat (first | with_reducible exact Pick.head | with_reducible apply Pick.tail)))) (H.boxNew (by (repeat (first | with_reducible exact Pick.head | with_reducible apply Pick.tail)))) (H.boxNew (by (repeat (first | with_reducible exact Pick.head | with_reducible apply Pick.tail)))), H.ext⟩
theorem aw1 : srcQ [natDc] 0 0 0 (.mk 9 0 1 [] []) = true := by kernel_rfl
theorem aw2 : srcQ [natDc] 0 0 0 (.mk 9 0 2 [] []) = false := by kernel_rfl
theorem aw3 : srcQ [natDc] 0 0 0 (.mk 10 0 0 [[]] []) = true := by kernel_rfl
theorem aw4 : srcQ [natDc] 0 0 0 (.mk 10 0 0 [] []) = false := by kernel_rfl
theorem aw5 : declQ [] natDc = true := by kernel_rfl
def dcZero : Dc := ⟨0, 0, tmZ, tmZ, [], [], [], []⟩
theorem aw6 : declQ [] dcZero = false := by kernel_rfl
end Go.Proofs.YtgbokmphbimihaaDoor
