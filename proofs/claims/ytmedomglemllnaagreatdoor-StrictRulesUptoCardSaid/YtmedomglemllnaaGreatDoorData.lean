/- The data of the program: parts, levels, terms, declarations, rules, as plain Lean data; how each lies in memory (by Base). No statement of the seat is proved here. -/
import Derived.Test.YtmedomglemllnaaGreatDoorBase
namespace Go.Proofs.YtmedomglemllnaaGreatDoor
set_option linter.unusedSimpArgs false
set_option linter.unusedVariables false
open Go.RowKit

abbrev Lv := List (Int × Int)
inductive Tm where
  | mk (k n a : Int) (ls : List Lv) (ks : List Tm)
namespace Tm
def k : Tm → Int | mk k _ _ _ _ => k
def n : Tm → Int | mk _ n _ _ _ => n
def a : Tm → Int | mk _ _ a _ _ => a
def ls : Tm → List Lv | mk _ _ _ ls _ => ls
def ks : Tm → List Tm | mk _ _ _ _ ks => ks
theorem k_mk {k n a : Int} {ls : List Lv} {ks : List Tm} : (mk k n a ls ks).k = k := rfl
theorem n_mk {k n a : Int} {ls : List Lv} {ks : List Tm} : (mk k n a ls ks).n = n := rfl
theorem a_mk {k n a : Int} {ls : List Lv} {ks : List Tm} : (mk k n a ls ks).a = a := rfl
theorem ls_mk {k n a : Int} {ls : List Lv} {ks : List Tm} : (mk k n a ls ks).ls = ls := rfl
theorem ks_mk {k n a : Int} {ls : List Lv} {ks : List Tm} : (mk k n a ls ks).ks = ks := rfl
end Tm

def ptD (p : Int × Int) : D := .s [.i p.1, .i p.2]
def lvD (l : Lv) : D := .s [.l 237 2 (l.map ptD)]
mutual
def Tm.d : Tm → D
  | .mk k n a ls ks => .s [.i k, .i n, .i a, .l 47 1 (ls.map lvD), .l 26 5 (Tm.ds ks)]
def Tm.ds : List Tm → List D
  | [] => []
  | t :: ts => t.d :: Tm.ds ts
end
theorem Tm.ds_eq (ts : List Tm) : Tm.ds ts = ts.map Tm.d := by
  induction ts with
  | nil => rfl
  | cons t ts ih => rw [Tm.ds, ih, List.map_cons]

mutual
theorem Tm.ind_ {p : Tm → Prop} (h : ∀ k n a ls ks, (∀ t ∈ ks, p t) → p (.mk k n a ls ks)) : (t : Tm) → p t
  | .mk k n a ls ks => h k n a ls ks (Tm.inds_ h ks)
theorem Tm.inds_ {p : Tm → Prop} (h : ∀ k n a ls ks, (∀ t ∈ ks, p t) → p (.mk k n a ls ks)) : (ts : List Tm) → ∀ t ∈ ts, p t
  | [] => fun _ ht => by cases ht
  | t :: ts => List.forall_mem_cons.2 ⟨Tm.ind_ h t, Tm.inds_ h ts⟩
end

def no (_ : Nat) : Prop := False
theorem stTerms : SlT Tryz.prog 22 26 5 := SlT.of Tryz.underlying22 (bytes := 72) (zv := .agg #[.int .i64 0, .int .i64 0, .int .i64 0, .slice none 0 0, .slice none 0 0]) (by kernel_rfl) rfl (by decide) (by decide)
theorem stLevels : SlT Tryz.prog 24 47 1 := SlT.of Tryz.underlying24 (bytes := 24) (zv := .agg #[.slice none 0 0]) (by kernel_rfl) rfl (by decide) (by decide)
theorem stParts : SlT Tryz.prog 45 237 2 := SlT.of Tryz.underlying45 (bytes := 16) (zv := .agg #[.int .i64 0, .int .i64 0]) (by kernel_rfl) rfl (by decide) (by decide)

theorem Tm.size_d (t : Tm) : t.d.size = 5 := by cases t; simp [Tm.d, D.size, D.sizes]
theorem lvD_size (l : Lv) : (lvD l).size = 1 := by simp [lvD, D.size, D.sizes]

theorem RC.tm {w : World} {S : Nat → Prop} {t : Tm} {cs : List Value} : RC w S t.d cs ↔ ∃ A ca K ck, cs = [.int .i64 t.k, .int .i64 t.n, .int .i64 t.a, .slice A t.ls.length ca, .slice K t.ks.length ck] ∧
    inI t.k ∧ inI t.n ∧ inI t.a ∧ RC w S (.l 47 1 (t.ls.map lvD)) [.slice A t.ls.length ca] ∧ RC w S (.l 26 5 (t.ks.map Tm.d)) [.slice K t.ks.length ck] := by
  obtain ⟨k, n, a, ls, ks⟩ := t
  simp only [Tm.d, Tm.ds_eq, Tm.k, Tm.n, Tm.a, Tm.ls, Tm.ks]
  constructor
  · intro h
    unfold RC at h
    simp only [RCs] at h
    obtain ⟨c1, _, rfl, h1, c2, _, rfl, h2, c3, _, rfl, h3, c4, _, rfl, h4, c5, _, rfl, h5, rfl⟩ := h
    have e1 := h1; have e2 := h2; have e3 := h3
    unfold RC at e1 e2 e3
    obtain ⟨rfl, i1⟩ := e1
    obtain ⟨rfl, i2⟩ := e2
    obtain ⟨rfl, i3⟩ := e3
    have l4 := RC.len _ _ h4
    have l5 := RC.len _ _ h5
    simp only [D.size] at l4 l5
    match c4, l4, c5, l5 with
    | [v4], _, [v5], _ =>
      obtain ⟨A, ca, rfl, _⟩ := h4.slice
      obtain ⟨K, ck, rfl, _⟩ := h5.slice
      simp only [List.length_map] at h4 h5 ⊢
      exact ⟨A, ca, K, ck, rfl, i1, i2, i3, h4, h5⟩
  · rintro ⟨A, ca, K, ck, rfl, h1, h2, h3, h4, h5⟩
    unfold RC
    simp only [RCs]
    exact ⟨[_], _, rfl, by unfold RC; exact ⟨rfl, h1⟩, [_], _, rfl, by unfold RC; exact ⟨rfl, h2⟩, [_], _, rfl, by unfold RC; exact ⟨rfl, h3⟩, [_], _, rfl, h4, [_], _, rfl, h5, rfl⟩
theorem RO.tm {w : World} {B : Nat} {t : Tm} {cs : List Value} {L : List Nat} : RO w B t.d cs L ↔ ∃ v4 v5 L4 L5, cs = [.int .i64 t.k, .int .i64 t.n, .int .i64 t.a, v4, v5] ∧ L = L4 ++ L5 ∧
    inI t.k ∧ inI t.n ∧ inI t.a ∧ RO w B (.l 47 1 (t.ls.map lvD)) [v4] L4 ∧ RO w B (.l 26 5 (t.ks.map Tm.d)) [v5] L5 := by
  obtain ⟨k, n, a, ls, ks⟩ := t
  simp only [Tm.d, Tm.ds_eq, Tm.k, Tm.n, Tm.a, Tm.ls, Tm.ks]
  constructor
  · intro h
    unfold RO at h
    simp only [ROs] at h
    obtain ⟨c1, _, L1, _, rfl, rfl, h1, c2, _, L2, _, rfl, rfl, h2, c3, _, L3, _, rfl, rfl, h3, c4, _, L4, _, rfl, rfl, h4, c5, _, L5, _, rfl, rfl, h5, rfl, rfl⟩ := h
    have e1 := h1; have e2 := h2; have e3 := h3
    unfold RO at e1 e2 e3
    obtain ⟨rfl, i1, rfl⟩ := e1
    obtain ⟨rfl, i2, rfl⟩ := e2
    obtain ⟨rfl, i3, rfl⟩ := e3
    have l4 := RO.len h4
    have l5 := RO.len h5
    simp only [D.size] at l4 l5
    match c4, l4, c5, l5 with
    | [v4], _, [v5], _ => exact ⟨v4, v5, L4, L5, rfl, by simp, i1, i2, i3, h4, h5⟩
  · rintro ⟨v4, v5, L4, L5, rfl, rfl, h1, h2, h3, h4, h5⟩
    unfold RO
    simp only [ROs]
    exact ⟨[_], _, [], _, rfl, rfl, by unfold RO; exact ⟨rfl, h1, rfl⟩, [_], _, [], _, rfl, rfl, by unfold RO; exact ⟨rfl, h2, rfl⟩, [_], _, [], _, rfl, rfl, by unfold RO; exact ⟨rfl, h3, rfl⟩, [_], _, L4, _, rfl, rfl, h4, [_], _, L5, [], rfl, by simp, h5, rfl, rfl⟩

theorem RC.atTm {w : World} {S : Nat → Prop} {ts : List Tm} {A : Option Addr} {n c k : Nat} (h : RC w S (.l 26 5 (ts.map Tm.d)) [.slice A n c]) (hk : k < ts.length) :
    ∃ b o A1 ca A2 ck, A = some ⟨b, o, none⟩ ∧ b < w.heap.size ∧ S b ∧
      RC w S ts[k].d [.int .i64 ts[k].k, .int .i64 ts[k].n, .int .i64 ts[k].a, .slice A1 ts[k].ls.length ca, .slice A2 ts[k].ks.length ck] ∧
      w.cell? ⟨b, o + k * 5, none⟩ = some (.int .i64 ts[k].k) ∧ w.cell? ⟨b, o + k * 5 + 1, none⟩ = some (.int .i64 ts[k].n) ∧ w.cell? ⟨b, o + k * 5 + 2, none⟩ = some (.int .i64 ts[k].a) ∧
      w.cell? ⟨b, o + k * 5 + 3, none⟩ = some (.slice A1 ts[k].ls.length ca) ∧ w.cell? ⟨b, o + k * 5 + 4, none⟩ = some (.slice A2 ts[k].ks.length ck) := by
  obtain ⟨b, o, cs, rfl, hb, hS, hrc, hl, hcell⟩ := h.at_ (i := k) (d := ts[k].d) (by simp [hk])
  obtain ⟨A1, ca, A2, ck, rfl, _⟩ := RC.tm.1 hrc
  exact ⟨b, o, A1, ca, A2, ck, rfl, hb, hS, hrc, hcell 0 _ rfl, by rw [Nat.add_assoc]; exact hcell 1 _ rfl, by rw [Nat.add_assoc]; exact hcell 2 _ rfl, by rw [Nat.add_assoc]; exact hcell 3 _ rfl, by rw [Nat.add_assoc]; exact hcell 4 _ rfl⟩

def Acc (w wr : World) (e z : Nat) (ds : List D) (out : Value) : Prop := ∃ L, RO wr w.heap.size (.l e z ds) [out] L ∧ L.Nodup
theorem Acc.nil {w wr : World} {e z : Nat} : Acc w wr e z [] (.slice none 0 0) := ⟨[], RO.nil, List.nodup_nil⟩
theorem Acc.frame {w wr wr' : World} {e z : Nat} {ds : List D} {out : Value} {X : Nat → Prop} (h : Acc w wr e z ds out) (hx : Ext X wr wr') (hX : ∀ k, w.heap.size ≤ k → k < wr.heap.size → ¬ X k) : Acc w wr' e z ds out := by
  obtain ⟨L, h1, h2⟩ := h
  exact ⟨L, RO.frame _ _ _ (fun k hk => hx.block k (RO.lt _ _ _ h1 k hk).2 (hX k (RO.lt _ _ _ h1 k hk).1 (RO.lt _ _ _ h1 k hk).2)) h1, h2⟩
theorem no_not {k : Nat} : ¬ no k := fun h => h

def TV (w : World) (S : Nat → Prop) (t : Tm) (v : Value) : Prop := ∃ A ca K ck, v = .agg #[.int .i64 t.k, .int .i64 t.n, .int .i64 t.a, .slice A t.ls.length ca, .slice K t.ks.length ck] ∧
  RC w S t.d [.int .i64 t.k, .int .i64 t.n, .int .i64 t.a, .slice A t.ls.length ca, .slice K t.ks.length ck]
def TO (w : World) (t : Tm) (v : Value) (w' : World) : Prop := ∃ A ca K ck L, v = .agg #[.int .i64 t.k, .int .i64 t.n, .int .i64 t.a, .slice A t.ls.length ca, .slice K t.ks.length ck] ∧ RO w' w.heap.size t.d [.int .i64 t.k, .int .i64 t.n, .int .i64 t.a, .slice A t.ls.length ca, .slice K t.ks.length ck] L ∧ L.Nodup
def PTm (w : World) (t : Tm) (e : Ending) (w' : World) : Prop := ∃ v, e = .returned v ∧ TO w t v w' ∧ Ext no w w'
def PSl (w : World) (e z : Nat) (ds : List D) (en : Ending) (w' : World) : Prop := ∃ A c, en = .returned (.slice A ds.length c) ∧ Acc w w' e z ds (.slice A ds.length c) ∧ Ext no w w'
theorem RO.slice {w : World} {B e z : Nat} {ds : List D} {v : Value} {L : List Nat} (h : RO w B (.l e z ds) [v] L) : ∃ A c, v = .slice A ds.length c := by
  unfold RO at h
  obtain ⟨v1, es, Lr, h1, _, _, ⟨_, h⟩, _⟩ := h
  obtain rfl : v = v1 := by simpa using h1
  rcases h with ⟨rfl, h⟩ | ⟨g, cap, cur, rfl, _⟩
  · exact ⟨none, 0, by rw [h]⟩
  · exact ⟨_, _, rfl⟩
theorem Acc.slice {w wr : World} {e z : Nat} {ds : List D} {v : Value} (h : Acc w wr e z ds v) : ∃ A c, v = .slice A ds.length c := by
  obtain ⟨L, h, _⟩ := h
  exact h.slice
theorem PSl.of {w w' : World} {e z : Nat} {ds : List D} {v : Value} (h : Acc w w' e z ds v) (hx : Ext no w w') : PSl w e z ds (.returned v) w' := by
  obtain ⟨A, c, rfl⟩ := h.slice
  exact ⟨A, c, rfl, h, hx⟩
theorem RC.ext {w w' : World} {S X : Nat → Prop} {d : D} {cs : List Value} (h : RC w S d cs) (hx : Ext X w w') (hX : ∀ k, k < w.heap.size → S k → ¬ X k) : RC w' S d cs :=
  RC.frame hx.size (fun _ _ h => h) (fun k hk hS => hx.block k hk (hX k hk hS)) _ _ h
theorem RC.ext0 {w w' : World} {S : Nat → Prop} {d : D} {cs : List Value} (h : RC w S d cs) (hx : Ext no w w') : RC w' S d cs := h.ext hx (fun _ _ _ => no_not)
theorem RC.lenM {w : World} {S : Nat → Prop} {e z n c : Nat} {A : Option Addr} {ds : List D} (h : RC w S (.l e z ds) [.slice A n c]) : n ≤ 4294967296 ∧ n ≤ c := by
  obtain ⟨A', c', h1, h2, _, h3⟩ := h.slice
  obtain ⟨rfl, rfl, rfl⟩ := by simpa using h1
  exact ⟨by simpa [M] using h3, h2⟩

theorem Acc.ext0 {w wr wr' : World} {e z : Nat} {ds : List D} {out : Value} (h : Acc w wr e z ds out) (hx : Ext no wr wr') : Acc w wr' e z ds out := h.frame hx (fun _ _ _ => no_not)
theorem Ext.new {w0 wc w' : World} (h : Ext no w0 wc) (k : Ext (fun k => w0.heap.size ≤ k) wc w') : Ext no w0 w' :=
  h.trans k (fun _ _ h => h) (fun i hi h => by omega)
theorem take_map {α β : Type} (f : α → β) {ts : List α} {k : Nat} (hk : k < ts.length) : (ts.take (k + 1)).map f = (ts.take k).map f ++ [f ts[k]] := by
  rw [List.take_succ_eq_append_getElem hk, List.map_append]; rfl
theorem take_all {α : Type} {ts : List α} {k : Nat} (hk : ¬ k < ts.length) : ts.take k = ts := List.take_of_length_le (by omega)

section
variable {P : Program} {ops : Array Oper} {rest : List Oper} {o : Oper} {a : Act} {Q : Exit → Act → World → Prop}
theorem wp_push1 {K : Act → World → Prop} {w0 wr w1 wc : World} (s x : Operand) (t : TypeId) (ho : o.op = .call { callee := .builtin .append, args := #[s, x], argTypes := #[t, t] }) {e z : Nat} (hT : SlT P t e z)
    {ds : List D} {d : D} {out : Value} {L : List Nat} {cs : List Value} {g c : Nat} {B1 e1 : Nat}
    (hacc : Acc w0 wr e z ds out) (hnew : RO w1 B1 d cs L) (hnd : L.Nodup) (hB1 : wr.heap.size ≤ B1) (h1 : Ext no wr w1) (hc : Ext no w1 wc) (hw0 : w0.heap.size ≤ wr.heap.size)
    (hz : d.size = z) (hM : ds.length + 1 ≤ M) (hs : a.eval s = out) (hx : a.eval x = .slice (some ⟨g, 0, none⟩) 1 c) (hg : wc.heap[g]? = some (.cells cs.toArray e1 (0, 0)))
    (h : ∀ v' w', Acc w0 w' e z (ds ++ [d]) v' → Ext (fun k => w0.heap.size ≤ k ∧ k < wr.heap.size) wc w' → K (a.put o.dst v') w') : o.wp P a wc K Q := by
  obtain ⟨L0, hro, hn0⟩ := hacc
  have hx : Ext no wr wc := h1.trans hc (fun _ _ h => h) (fun _ _ h => h)
  have hro' : RO wc w0.heap.size (.l e z ds) [out] L0 := RO.frame _ _ _ (fun k hk => hx.block k (RO.lt _ _ _ hro k hk).2 no_not) hro
  have hnew' : RO wc B1 d cs L := RO.frame _ _ _ (fun k hk => hc.block k (RO.lt _ _ _ hnew k hk).2 no_not) hnew
  have hnew2 : RO wc w0.heap.size d cs L := RO.weaken _ _ _ (fun k hk => by have := (RO.lt _ _ _ hnew k hk).1; omega) hnew'
  refine wp_pushO s x t ho hT hs ‹_› hro' (ROs.single hnew2) (by simpa using hz) rfl (fun j u hu => by rw [cell_of_row wc g j _ e1 (0, 0) hg]; simpa using hu) ?_ (by simpa using hM) (Nat.le_trans hw0 hx.size) ?_
  · refine List.nodup_append.2 ⟨hn0, hnd, fun x hx y hy e => ?_⟩
    have := (RO.lt _ _ _ hro x hx).2
    have := (RO.lt _ _ _ hnew y hy).1
    omega
  · intro v' w' L2 g1 g2 g3 g4
    refine h v' w' ⟨L2, g1, g2⟩ ((Ext.refl _ _).grown g4 fun k hk => .inl ?_)
    unfold RO at hro
    obtain ⟨v1, es, Lr, e1, _, _, e4, _⟩ := hro
    obtain rfl : out = v1 := by simpa using e1
    exact e4.lt k hk
end
theorem Ext.keep {w w' : World} (hx : Ext no w w') {p : Addr} {v : Value} (h : w.cell? p = some v) : w'.cell? p = some v := (hx.cell (cell_lt h) no_not).trans h
theorem Ext.seq {a b c : World} (h : Ext no a b) (k : Ext no b c) : Ext no a c := h.trans k (fun _ _ h => h) (fun _ _ h => h)
theorem lvs_size (xs : List Lv) : ∀ d ∈ xs.map lvD, d.size = 1 := fun d hd => by
  obtain ⟨x, _, rfl⟩ := List.mem_map.1 hd
  exact lvD_size x
def Blk (w : World) (g t : Nat) (cs : Array Value) : Prop := w.heap[g]? = some (.cells cs t (0, 0))
section
variable {w w' : World} {g t : Nat} {cs : Array Value}
theorem Blk.lt (h : Blk w g t cs) : g < w.heap.size := by
  rcases Nat.lt_or_ge g w.heap.size with hlt | hge
  · exact hlt
  · unfold Blk at h; rw [Array.getElem?_eq_none hge] at h; cases h
theorem Blk.cells (h : Blk w g t cs) (i : Nat) : w.cell? ⟨g, i, none⟩ = cs[i]? := cell_of_row w g i cs t (0, 0) h
theorem Blk.frz (h : Blk w g t cs) (i : Nat) : w.frozen? ⟨g, i, none⟩ = false := by
  unfold Blk at h
  simp [World.frozen?, h]
theorem Blk.new (h : g = w.heap.size) : Blk (w.alloc (.cells cs t)) g t cs := by subst h; exact heap_alloc_new w _
theorem Blk.drew (h : Blk w g t cs) : Blk w.drew g t cs := h
theorem Blk.drewN (h : Blk w g t cs) (n : Nat) : Blk (w.drewN n) g t cs := h
theorem Blk.alloc (h : Blk w g t cs) (o : Obj) : Blk (w.alloc o) g t cs := (Below.heap_alloc w o g h.lt).trans h
theorem Blk.set (h : Blk w g t cs) (i : Nat) (u : Value) : Blk (w.setCell ⟨g, i, none⟩ u) g t (cs.setIfInBounds i u) := by
  unfold Blk at h ⊢
  simp [World.setCell, Array.getElem?_modify, h]
theorem Blk.far (h : Blk w g t cs) {p : Addr} (hp : g ≠ p.block) (u : Value) : Blk (w.setCell p u) g t cs := (Below.heap_setCell w p u g hp).trans h
theorem Blk.ext {X : Nat → Prop} (h : Blk w g t cs) (hx : Ext X w w') (hX : ¬ X g) : Blk w' g t cs := (hx.block g h.lt hX).trans h
theorem Blk.ext0 (h : Blk w g t cs) (hx : Ext no w w') : Blk w' g t cs := h.ext hx no_not
end
theorem Ext.frz {X : Nat → Prop} {w w' : World} (h : Ext X w w') {p : Addr} (hp : p.block < w.heap.size) (hn : ¬ X p.block) (hf : w.frozen? p = false) : w'.frozen? p = false := by
  rw [← hf]; unfold World.frozen?; rw [h.block p.block hp hn]
theorem RC.bd {w : World} {S : Nat → Prop} {d : D} {cs : List Value} (h : RC w S d cs) : RC w (fun k => S k ∧ k < w.heap.size) d cs :=
  RC.frame (Nat.le_refl _) (fun _ h1 h2 => ⟨h2, h1⟩) (fun _ _ _ => rfl) _ _ h
theorem Ext.undrew {X : Nat → Prop} {w w' : World} (h : Ext X w.drew w') : Ext X w w' := ⟨h.os, h.tape, h.output, h.size, h.block⟩
theorem opt_nodup {α : Type} (o : Option α) : o.toList.Nodup := by cases o <;> simp
theorem Ext.set5 (w : World) (b : Nat) (v0 v1 v2 v3 v4 : Value) : Ext (fun x => x = b) w (((((w.setCell ⟨b, 0, none⟩ v0).setCell ⟨b, 1, none⟩ v1).setCell ⟨b, 2, none⟩ v2).setCell ⟨b, 3, none⟩ v3).setCell ⟨b, 4, none⟩ v4) :=
  (((((Ext.refl (fun x => x = b) w).setCell (p := ⟨b, 0, none⟩) (.inl rfl) _).setCell (p := ⟨b, 1, none⟩) (.inl rfl) _).setCell (p := ⟨b, 2, none⟩) (.inl rfl) _).setCell (p := ⟨b, 3, none⟩) (.inl rfl) _).setCell (p := ⟨b, 4, none⟩) (.inl rfl) _
theorem RO.ext {w w' : World} {B : Nat} {d : D} {cs : List Value} {L : List Nat} {X : Nat → Prop} (h : RO w B d cs L) (hx : Ext X w w') (hX : ∀ k, B ≤ k → k < w.heap.size → ¬ X k) : RO w' B d cs L :=
  RO.frame _ _ _ (fun k hk => hx.block k (RO.lt _ _ _ h k hk).2 (hX k (RO.lt _ _ _ h k hk).1 (RO.lt _ _ _ h k hk).2)) h
theorem RO.ge {w : World} {B B' : Nat} {d : D} {cs : List Value} {L : List Nat} (h : RO w B d cs L) (hB : B' ≤ B) : RO w B' d cs L := RO.weaken _ _ _ (fun k hk => Nat.le_trans hB (RO.lt _ _ _ h k hk).1) h
theorem Ext.old {X : Nat → Prop} {w0 w w' : World} (h : Ext no w0 w) (k : Ext X w w') (hX : ∀ i, i < w0.heap.size → ¬ X i) : Ext no w0 w' := h.trans k (fun _ _ h => h) (fun i hi hx => absurd hx (hX i hi))

def Cells (w : World) : List (Addr × Value) → Prop
  | [] => True
  | x :: l => w.cell? x.1 = some x.2 ∧ Cells w l
theorem Cells_nil {w : World} : Cells w [] ↔ True := Iff.rfl
theorem Cells_cons {w : World} {p : Addr} {v : Value} {l : List (Addr × Value)} : Cells w ((p, v) :: l) ↔ w.cell? p = some v ∧ Cells w l := Iff.rfl
theorem Cells.keep {w w' : World} {l : List (Addr × Value)} (h : Cells w l) (hx : Ext no w w') : Cells w' l := by
  induction l with
  | nil => trivial
  | cons x l ih => exact ⟨hx.keep h.1, ih h.2⟩
theorem Cells.ext {w w' : World} {X : Nat → Prop} {l : List (Addr × Value)} (h : Cells w l) (hx : Ext X w w') (hX : ∀ x ∈ l, ¬ X x.1.block) : Cells w' l := by
  induction l with
  | nil => trivial
  | cons x l ih => exact ⟨(hx.cell (cell_lt h.1) (hX x (by simp))).trans h.1, ih h.2 (fun y hy => hX y (by simp [hy]))⟩
theorem Acc.sliceN {w wr : World} {e z n : Nat} {ds : List D} {v : Value} (h : Acc w wr e z ds v) (hn : ds.length = n) : ∃ A c, v = .slice A n c := by
  obtain ⟨A, c, h⟩ := h.slice
  exact ⟨A, c, by rw [h, hn]⟩
theorem RO.frame_ {w w' : World} {B : Nat} {d : D} {cs : List Value} {L : List Nat} (h : RO w B d cs L) (hw : ∀ k, k ∈ L → w'.heap[k]? = w.heap[k]?) : RO w' B d cs L := RO.frame _ _ _ hw h
theorem Ext.rules {W w1 : World} (hx : Ext no W w1) : (∀ b o, b < W.heap.size → w1.cell? ⟨b, o, none⟩ = W.cell? ⟨b, o, none⟩) ∧ (∀ b o, b < W.heap.size → w1.frozen? ⟨b, o, none⟩ = W.frozen? ⟨b, o, none⟩) ∧ W.heap.size ≤ w1.heap.size :=
  ⟨fun b o h => hx.cell (p := ⟨b, o, none⟩) h no_not, fun b o h => by unfold World.frozen?; rw [hx.block b h no_not], hx.size⟩
end Go.Proofs.YtmedomglemllnaaGreatDoor
