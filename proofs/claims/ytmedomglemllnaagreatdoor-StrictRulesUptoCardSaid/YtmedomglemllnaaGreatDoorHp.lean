/- The state of a call at work: what has turned of the old memory (X), the boxes and the rows of its own, apart from each other. Laws on it. No statement of the seat is proved here. -/
import Derived.Test.YtmedomglemllnaaGreatDoorLevel
namespace Go.Proofs.YtmedomglemllnaaGreatDoor
set_option linter.unusedSimpArgs false
set_option linter.unusedVariables false
open Go.RowKit

inductive Ch where
  | box (g t : Nat) (cs : List Value)
  | dat (d : D) (cs : List Value)
  /-- A row of its own; its elements lie in old memory. -/
  | row (e z : Nat) (ds : List D) (v : Value)
  /-- A map with numbers as keys. -/
  | map (g : Nat) (es : List (Int × Value))
  /-- A block that is no cells. -/
  | obj (g : Nat) (o : Obj)
  /-- A row of its own whose cells are known; what they lead to is said elsewhere. -/
  | raw (e z n : Nat) (v : Value) (es : List Value)
  /-- Blocks of its own, and what is said of them. -/
  | gh (K : List Nat) (p : World → Prop)
def ents (k : Nat) : List (Int × Value) → List MapEntry
  | [] => []
  | x :: l => { key := .int .i64 x.1, val := x.2, born := k } :: ents (k + 1) l
def Mp (w : World) (g : Nat) (es : List (Int × Value)) : Prop := w.heap[g]? = some (.map (ents 0 es).toArray es.length)
def Ch1 (X : Nat → Prop) (w : World) (B : Nat) : Ch → List Nat → Prop
  | .box g t cs, L => L = [g] ∧ (X g ∨ B ≤ g) ∧ Blk w g t cs.toArray
  | .dat d cs, L => RO w B d cs L
  | .row e z ds v, L => L = v.ownBlock.toList ∧ RG w B (fun k => k < B ∧ ¬ X k) e z ds v
  | .map g es, L => L = [g] ∧ B ≤ g ∧ Mp w g es
  | .obj g o, L => L = [g] ∧ B ≤ g ∧ w.heap[g]? = some o
  | .raw e z n v es, L => L = v.ownBlock.toList ∧ w.ownsRow B e z v n es
  | .gh K p, L => L = K ∧ (∀ k ∈ K, B ≤ k ∧ k < w.heap.size) ∧ p w ∧ ∀ w' : World, w.heap.size ≤ w'.heap.size → (∀ k ∈ K, w'.heap[k]? = w.heap[k]?) → p w'
def Chs (X : Nat → Prop) (w : World) (B : Nat) : List Ch → List Nat → Prop
  | [], L => L = []
  | c :: cs, L => ∃ L1 L2, L = L1 ++ L2 ∧ Ch1 X w B c L1 ∧ Chs X w B cs L2
structure Hp (X : Nat → Prop) (w0 w : World) (l : List Ch) : Prop where
  ext : Ext X w0 w
  own : ∃ L, Chs X w w0.heap.size l L ∧ L.Nodup
inductive Pick : List Ch → Ch → List Ch → Prop where
  | head {c : Ch} {l : List Ch} : Pick (c :: l) c l
  | tail {c d : Ch} {l l' : List Ch} (h : Pick l c l') : Pick (d :: l) c (d :: l')
inductive Upd : List Ch → Ch → Ch → List Ch → Prop where
  | head {c c' : Ch} {l : List Ch} : Upd (c :: l) c c' (c' :: l)
  | tail {c c' d : Ch} {l l' : List Ch} (h : Upd l c c' l') : Upd (d :: l) c c' (d :: l')

section
variable {X : Nat → Prop} {w0 w w1 : World} {B : Nat} {l l' : List Ch} {c c' : Ch} {L : List Nat}
theorem Ch1.lt (h : Ch1 X w B c L) : ∀ k ∈ L, (X k ∨ B ≤ k) ∧ k < w.heap.size := by
  cases c with
  | box g t cs =>
    obtain ⟨rfl, h1, h2⟩ := h
    intro k hk
    obtain rfl : k = g := by simpa using hk
    exact ⟨h1, h2.lt⟩
  | dat d cs => exact fun k hk => ⟨.inr (RO.lt _ _ _ h k hk).1, (RO.lt _ _ _ h k hk).2⟩
  | row e z ds v =>
    obtain ⟨rfl, h1, h2, es, h3, h4⟩ := h
    intro k hk
    exact ⟨.inr (h3.lt k (by simpa using hk)).1, (h3.lt k (by simpa using hk)).2⟩
  | map g es =>
    obtain ⟨rfl, h1, h2⟩ := h
    intro k hk
    obtain rfl : k = g := by simpa using hk
    exact ⟨.inr h1, (Array.getElem?_eq_some_iff.1 h2).1⟩
  | obj g o =>
    obtain ⟨rfl, h1, h2⟩ := h
    intro k hk
    obtain rfl : k = g := by simpa using hk
    exact ⟨.inr h1, (Array.getElem?_eq_some_iff.1 h2).1⟩
  | raw e z n v es =>
    obtain ⟨rfl, h3⟩ := h
    intro k hk
    exact ⟨.inr (h3.lt k (by simpa using hk)).1, (h3.lt k (by simpa using hk)).2⟩
  | gh K p =>
    obtain ⟨rfl, h3, _⟩ := h
    intro k hk
    exact ⟨.inr (h3 k hk).1, (h3 k hk).2⟩
theorem Chs.lt (h : Chs X w B l L) : ∀ k ∈ L, (X k ∨ B ≤ k) ∧ k < w.heap.size := by
  induction l generalizing L with
  | nil => unfold Chs at h; subst h; intro k hk; cases hk
  | cons c l ih =>
    unfold Chs at h
    obtain ⟨L1, L2, rfl, h1, h2⟩ := h
    intro k hk
    rcases List.mem_append.1 hk with hk | hk
    · exact h1.lt k hk
    · exact ih h2 k hk
theorem Ch1.frame (h : Ch1 X w B c L) (hB : B ≤ w.heap.size) (hsz : w.heap.size ≤ w1.heap.size) (ho : ∀ k, k < B → ¬ X k → w1.heap[k]? = w.heap[k]?) (hw : ∀ k ∈ L, w1.heap[k]? = w.heap[k]?) : Ch1 X w1 B c L := by
  cases c with
  | box g t cs =>
    obtain ⟨rfl, h1, h2⟩ := h
    exact ⟨rfl, h1, (hw g (by simp)).trans h2⟩
  | dat d cs => exact RO.frame _ _ _ hw h
  | row e z ds v =>
    obtain ⟨rfl, h1, h2, es, h3, h4⟩ := h
    exact ⟨rfl, h1, h2, es, ownsRow.frame h3 (fun k hk => hw k (by simp [hk])), RCs.frame hsz (fun _ _ h => h) (fun k _ hk => ho k hk.1.1 hk.1.2) _ _ h4⟩
  | map g es =>
    obtain ⟨rfl, h1, h2⟩ := h
    exact ⟨rfl, h1, (hw g (by simp)).trans h2⟩
  | obj g o =>
    obtain ⟨rfl, h1, h2⟩ := h
    exact ⟨rfl, h1, (hw g (by simp)).trans h2⟩
  | raw e z n v es =>
    obtain ⟨rfl, h3⟩ := h
    exact ⟨rfl, ownsRow.frame h3 (fun k hk => hw k (by simp [hk]))⟩
  | gh K p =>
    obtain ⟨rfl, h3, _, h4⟩ := h
    exact ⟨rfl, fun k hk => ⟨(h3 k hk).1, Nat.lt_of_lt_of_le (h3 k hk).2 hsz⟩, h4 w1 hsz hw, fun w' hz' hw' => h4 w' (Nat.le_trans hsz hz') (fun k hk => (hw' k hk).trans (hw k hk))⟩
theorem Chs.frame (h : Chs X w B l L) (hB : B ≤ w.heap.size) (hsz : w.heap.size ≤ w1.heap.size) (ho : ∀ k, k < B → ¬ X k → w1.heap[k]? = w.heap[k]?) (hw : ∀ k ∈ L, w1.heap[k]? = w.heap[k]?) : Chs X w1 B l L := by
  induction l generalizing L with
  | nil => exact h
  | cons c l ih =>
    unfold Chs at h ⊢
    obtain ⟨L1, L2, rfl, h1, h2⟩ := h
    exact ⟨L1, L2, rfl, h1.frame hB hsz ho (fun k hk => hw k (by simp [hk])), ih h2 (fun k hk => hw k (by simp [hk]))⟩
theorem Chs.pick (p : Pick l c l') (h : Chs X w B l L) : ∃ L1 L2, Ch1 X w B c L1 ∧ Chs X w B l' L2 ∧ L.Perm (L1 ++ L2) := by
  induction p generalizing L with
  | head =>
    unfold Chs at h
    obtain ⟨L1, L2, rfl, h1, h2⟩ := h
    exact ⟨L1, L2, h1, h2, .refl _⟩
  | tail _ ih =>
    unfold Chs at h
    obtain ⟨L1, L2, rfl, h1, h2⟩ := h
    obtain ⟨K1, K2, g1, g2, g3⟩ := ih h2
    refine ⟨K1, L1 ++ K2, g1, by unfold Chs; exact ⟨L1, K2, rfl, h1, g2⟩, ?_⟩
    exact (List.Perm.append_left L1 g3).trans (by rw [← List.append_assoc, ← List.append_assoc]; exact List.Perm.append_right K2 List.perm_append_comm)
theorem Hp.pick (H : Hp X w0 w l) (p : Pick l c l') : Hp X w0 w (c :: l') := by
  obtain ⟨L, h, hn⟩ := H.own
  obtain ⟨L1, L2, h1, h2, h3⟩ := h.pick p
  exact ⟨H.ext, _, by unfold Chs; exact ⟨L1, L2, rfl, h1, h2⟩, h3.nodup_iff.1 hn⟩
theorem Hp.tl (H : Hp X w0 w (c :: l)) : Hp X w0 w l := by
  obtain ⟨L, h, hn⟩ := H.own
  unfold Chs at h
  obtain ⟨L1, L2, rfl, h1, h2⟩ := h
  exact ⟨H.ext, L2, h2, (List.nodup_append.1 hn).2.1⟩
inductive Arr : List Ch → List Ch → Prop where
  | nil {l : List Ch} : Arr l []
  | cons {l m l' : List Ch} {c : Ch} (p : Pick l c m) (h : Arr m l') : Arr l (c :: l')
theorem Chs.arr (s : Arr l l') (h : Chs X w B l L) (hn : L.Nodup) : ∃ L', Chs X w B l' L' ∧ L'.Nodup ∧ ∀ k ∈ L', k ∈ L := by
  induction s generalizing L with
  | nil => exact ⟨[], by unfold Chs; rfl, by simp, by simp⟩
  | cons p _ ih =>
    obtain ⟨L1, L2, h1, h2, h3⟩ := h.pick p
    have hn' := h3.nodup_iff.1 hn
    obtain ⟨K, g1, g2, g3⟩ := ih h2 (List.nodup_append.1 hn').2.1
    refine ⟨L1 ++ K, by unfold Chs; exact ⟨L1, K, rfl, h1, g1⟩, List.nodup_append.2 ⟨(List.nodup_append.1 hn').1, g2, fun x hx y hy e => (List.nodup_append.1 hn').2.2 x hx y (g3 y hy) e⟩, fun k hk => h3.mem_iff.2 ?_⟩
    rcases List.mem_append.1 hk with hk | hk
    · simp [hk]
    · simp [g3 k hk]
theorem Hp.arr (H : Hp X w0 w l) (s : Arr l l') : Hp X w0 w l' := by
  obtain ⟨L, h, hn⟩ := H.own
  obtain ⟨K, g1, g2, _⟩ := h.arr s hn
  exact ⟨H.ext, K, g1, g2⟩
theorem Hp.drop (H : Hp X w0 w l) (p : Pick l c l') : Hp X w0 w l' := (H.pick p).tl
theorem Hp.swap {d : Ch} (H : Hp X w0 w (c :: d :: l)) : Hp X w0 w (d :: c :: l) := H.pick (.tail .head)
theorem Hp.norm (H : Hp X w0 w l) (e : l = l') : Hp X w0 w l' := e ▸ H
theorem size_drew_ {w : World} : w.drew.heap.size = w.heap.size := rfl
theorem size_drewN_ {w : World} {n : Nat} : (w.drewN n).heap.size = w.heap.size := rfl
inductive Subl : List Ch → List Ch → Prop where
  | nil {l : List Ch} : Subl l []
  | keep {c : Ch} {l l' : List Ch} (h : Subl l l') : Subl (c :: l) (c :: l')
  | drop {c : Ch} {l l' : List Ch} (h : Subl l l') : Subl (c :: l) l'
theorem Chs.subl (s : Subl l l') (h : Chs X w B l L) (hn : L.Nodup) : ∃ L', Chs X w B l' L' ∧ L'.Nodup ∧ ∀ k ∈ L', k ∈ L := by
  induction s generalizing L with
  | nil => exact ⟨[], by unfold Chs; rfl, by simp, by simp⟩
  | keep _ ih =>
    unfold Chs at h
    obtain ⟨L1, L2, rfl, h1, h2⟩ := h
    obtain ⟨K, g1, g2, g3⟩ := ih h2 (List.nodup_append.1 hn).2.1
    refine ⟨L1 ++ K, by unfold Chs; exact ⟨L1, K, rfl, h1, g1⟩, List.nodup_append.2 ⟨(List.nodup_append.1 hn).1, g2, fun x hx y hy e => (List.nodup_append.1 hn).2.2 x hx y (g3 y hy) e⟩, fun k hk => ?_⟩
    rcases List.mem_append.1 hk with hk | hk
    · simp [hk]
    · simp [g3 k hk]
  | drop _ ih =>
    unfold Chs at h
    obtain ⟨L1, L2, rfl, h1, h2⟩ := h
    obtain ⟨K, g1, g2, g3⟩ := ih h2 (List.nodup_append.1 hn).2.1
    exact ⟨K, g1, g2, fun k hk => by simp [g3 k hk]⟩
theorem Hp.only (H : Hp X w0 w l) (s : Subl l l') : Hp X w0 w l' := by
  obtain ⟨L, h, hn⟩ := H.own
  obtain ⟨K, g1, g2, _⟩ := h.subl s hn
  exact ⟨H.ext, K, g1, g2⟩
theorem Hp.start (X : Nat → Prop) (w : World) : Hp X w w [] := ⟨Ext.refl _ _, [], by unfold Chs; rfl, by simp⟩
theorem Hp.drew (H : Hp X w0 w l) : Hp X w0 w.drew l := by
  obtain ⟨L, h, hn⟩ := H.own
  exact ⟨H.ext.drew, L, h.frame H.ext.size (Nat.le_refl _) (fun _ _ _ => rfl) (fun _ _ => rfl), hn⟩
theorem Hp.drewN (H : Hp X w0 w l) (n : Nat) : Hp X w0 (w.drewN n) l := by
  obtain ⟨L, h, hn⟩ := H.own
  exact ⟨H.ext.drewN n, L, h.frame H.ext.size (Nat.le_refl _) (fun _ _ _ => rfl) (fun _ _ => rfl), hn⟩
theorem Hp.alloc (H : Hp X w0 w l) (cs : List Value) (t : Nat) : Hp X w0 (w.alloc (.cells cs.toArray t)) (.box w.heap.size t cs :: l) := by
  obtain ⟨L, h, hn⟩ := H.own
  refine ⟨H.ext.alloc _, [w.heap.size] ++ L, ?_, ?_⟩
  · unfold Chs
    exact ⟨_, L, rfl, ⟨rfl, .inr H.ext.size, Blk.new rfl⟩, h.frame H.ext.size (by simp) (fun k hk _ => Below.heap_alloc _ _ _ (Nat.lt_of_lt_of_le hk H.ext.size)) (fun k hk => Below.heap_alloc _ _ _ (h.lt k hk).2)⟩
  · simp only [List.singleton_append, List.nodup_cons]
    exact ⟨fun hk => by have := (h.lt _ hk).2; omega, hn⟩
theorem Hp.allocMap (H : Hp X w0 w l) : Hp X w0 (w.alloc (.map #[] 0)) (.map w.heap.size [] :: l) := by
  obtain ⟨L, h, hn⟩ := H.own
  refine ⟨H.ext.alloc _, [w.heap.size] ++ L, ?_, ?_⟩
  · unfold Chs
    exact ⟨_, L, rfl, ⟨rfl, H.ext.size, heap_alloc_new _ _⟩, h.frame H.ext.size (by simp) (fun k hk _ => Below.heap_alloc _ _ _ (Nat.lt_of_lt_of_le hk H.ext.size)) (fun k hk => Below.heap_alloc _ _ _ (h.lt k hk).2)⟩
  · simp only [List.singleton_append, List.nodup_cons]
    exact ⟨fun hk => by have := (h.lt _ hk).2; omega, hn⟩
theorem Hp.call (H : Hp X w0 w l) (hx : Ext no w w1) : Hp X w0 w1 l := by
  obtain ⟨L, h, hn⟩ := H.own
  exact ⟨H.ext.trans hx (fun _ _ h => h) (fun _ _ h => h.elim), L, h.frame H.ext.size hx.size (fun k hk _ => hx.block k (Nat.lt_of_lt_of_le hk H.ext.size) no_not) (fun k hk => hx.block k (h.lt k hk).2 no_not), hn⟩
theorem Hp.res (H : Hp X w0 w l) (hx : Ext no w w1) {d : D} {cs : List Value} {K : List Nat} (hr : RO w1 w.heap.size d cs K) (hk : K.Nodup) : Hp X w0 w1 (.dat d cs :: l) := by
  obtain ⟨L, h, hn⟩ := (H.call hx).own
  obtain ⟨L', h', _⟩ := H.own
  refine ⟨(H.call hx).ext, K ++ L', ?_, ?_⟩
  · unfold Chs
    refine ⟨K, L', rfl, hr.weaken _ _ _ (fun k hk => Nat.le_trans H.ext.size (RO.lt _ _ _ hr k hk).1), h'.frame H.ext.size hx.size (fun k hk _ => hx.block k (Nat.lt_of_lt_of_le hk H.ext.size) no_not) (fun k hk => hx.block k (h'.lt k hk).2 no_not)⟩
  · refine List.nodup_append.2 ⟨hk, ‹_›, fun x hx y hy e => ?_⟩
    have := (RO.lt _ _ _ hr x hx).1
    have := (h'.lt y hy).2
    omega
theorem Hp.flat (H : Hp X w0 w l) {d : D} {cs : List Value} (hr : RO w w0.heap.size d cs []) : Hp X w0 w (.dat d cs :: l) := by
  obtain ⟨L, h, hn⟩ := H.own
  exact ⟨H.ext, L, by unfold Chs; exact ⟨[], L, rfl, hr, h⟩, hn⟩
theorem Hp.nil (H : Hp X w0 w l) (e z : Nat) : Hp X w0 w (.dat (.l e z []) [.slice none 0 0] :: l) := H.flat RO.nil
theorem Chs.sub {d d' : Ch} (u : Upd l d d' l') (h : Chs X w B l L) : ∃ K, Ch1 X w B d K ∧ ∀ k ∈ K, k ∈ L := by
  induction u generalizing L with
  | head =>
    unfold Chs at h
    obtain ⟨K1, K2, rfl, g1, g2⟩ := h
    exact ⟨K1, g1, fun k hk => by simp [hk]⟩
  | tail u ih =>
    unfold Chs at h
    obtain ⟨K1, K2, rfl, g1, g2⟩ := h
    obtain ⟨K, hK, hs⟩ := ih g2
    exact ⟨K, hK, fun k hk => by simp [hs k hk]⟩
theorem Chs.upd {d d' : Ch} (u : Upd l d d' l') (h : Chs X w B l L) (hB : B ≤ w.heap.size) (hsz : w.heap.size ≤ w1.heap.size) (hn : L.Nodup) (ho : ∀ k, k < B → ¬ X k → w1.heap[k]? = w.heap[k]?) (hd : ∀ K, Ch1 X w B d K → Ch1 X w1 B d' K) (hw : ∀ K, Ch1 X w B d K → ∀ k, k < w.heap.size → k ∉ K → w1.heap[k]? = w.heap[k]?) : Chs X w1 B l' L := by
  induction u generalizing L with
  | head =>
    unfold Chs at h ⊢
    obtain ⟨L1, L2, rfl, h1, h2⟩ := h
    exact ⟨L1, L2, rfl, hd _ h1, h2.frame hB hsz ho (fun k hk => hw _ h1 k (h2.lt k hk).2 (fun hk1 => (List.nodup_append.1 hn).2.2 k hk1 k hk rfl))⟩
  | tail u ih =>
    unfold Chs at h ⊢
    obtain ⟨L1, L2, rfl, h1, h2⟩ := h
    refine ⟨L1, L2, rfl, ?_, ih h2 (List.nodup_append.1 hn).2.1 hd hw⟩
    refine h1.frame hB hsz ho (fun k hk => ?_)
    obtain ⟨K, hK, hsub⟩ := h2.sub u
    exact hw K hK k (h1.lt k hk).2 (fun hk2 => (List.nodup_append.1 hn).2.2 k hk k (hsub k hk2) rfl)
theorem Upd.pick {c c' : Ch} (u : Upd l c c' l') : ∃ m, Pick l c m := by
  induction u with
  | head => exact ⟨_, .head⟩
  | tail u ih => exact ih.elim fun l h => ⟨_, .tail h⟩
theorem Hp.set (H : Hp X w0 w l) {g t i : Nat} {cs : List Value} {v : Value} (u : Upd l (.box g t cs) (.box g t (cs.set i v)) l') : Hp X w0 (w.setCell ⟨g, i, none⟩ v) l' := by
  obtain ⟨L, h, hn⟩ := H.own
  obtain ⟨_, ⟨_, hg, _⟩, _⟩ := h.sub u
  refine ⟨H.ext.setCell hg v, L, h.upd u H.ext.size (by simp [World.setCell]) hn (fun k hk hx => Below.heap_setCell _ _ _ _ (fun e => by
    rcases hg with hg | hg
    · exact hx (e ▸ hg)
    · dsimp only at e; omega)) ?_ ?_, hn⟩
  · rintro K ⟨rfl, h1, h2⟩
    refine ⟨rfl, h1, ?_⟩
    have := h2.set i v
    simpa using this
  · rintro K ⟨rfl, h1, h2⟩ k hk hne
    exact Below.heap_setCell _ _ _ _ (by simpa using hne)
theorem Hp.put (H : Hp X w0 w l) {g t : Nat} {cs cs' : List Value} (u : Upd l (.box g t cs) (.box g t cs') l') (hx : Ext (fun x => x = g) w w1) (hb : Blk w1 g t cs'.toArray) : Hp X w0 w1 l' := by
  obtain ⟨L, h, hn⟩ := H.own
  obtain ⟨_, ⟨_, hg, _⟩, _⟩ := h.sub u
  refine ⟨H.ext.trans hx (fun _ _ h => h) (fun i hi e => by
    rcases hg with hg | hg
    · exact e ▸ hg
    · omega), L, h.upd u H.ext.size hx.size hn (fun k hk hn => hx.block k (Nat.lt_of_lt_of_le hk H.ext.size) (fun e => by
    rcases hg with hg | hg
    · exact hn (e ▸ hg)
    · omega)) ?_ ?_, hn⟩
  · rintro K ⟨rfl, h1, h2⟩
    exact ⟨rfl, h1, hb⟩
  · rintro K ⟨rfl, h1, h2⟩ k hk hne
    exact hx.block k hk (by simpa using hne)
theorem Hp.blk (H : Hp X w0 w l) {g t : Nat} {cs : List Value} (p : Pick l (.box g t cs) l') : Blk w g t cs.toArray := by
  obtain ⟨L, h, _⟩ := (H.pick p).own
  unfold Chs at h
  obtain ⟨L1, L2, rfl, h1, h2⟩ := h
  exact h1.2.2
def Rules (w : World) : List Ch → Prop
  | [] => True
  | .box g _ cs :: l => ((∀ i, w.cell? ⟨g, i, none⟩ = cs[i]?) ∧ (∀ i, w.frozen? ⟨g, i, none⟩ = false) ∧ g < w.heap.size) ∧ Rules w l
  | .dat _ _ :: l => Rules w l
  | .row _ _ _ _ :: l => Rules w l
  | .map _ _ :: l => Rules w l
  | .obj _ _ :: l => Rules w l
  | .raw _ _ _ _ _ :: l => Rules w l
  | .gh _ _ :: l => Rules w l
theorem Chs.rules (h : Chs X w B l L) : Rules w l := by
  induction l generalizing L with
  | nil => trivial
  | cons c l ih =>
    unfold Chs at h
    obtain ⟨L1, L2, rfl, h1, h2⟩ := h
    cases c with
    | box g t cs => exact ⟨⟨fun i => by have := h1.2.2.cells i; simpa using this, h1.2.2.frz, h1.2.2.lt⟩, ih h2⟩
    | dat d cs => exact ih h2
    | row e z ds v => exact ih h2
    | map g es => exact ih h2
    | obj g o => exact ih h2
    | raw e z n v es => exact ih h2
    | gh K p => exact ih h2
theorem Hp.rules (H : Hp X w0 w l) : Rules w l := H.own.elim fun _ h => h.1.rules
def Neq (g : Nat) : List Ch → Prop
  | [] => True
  | .box g' _ _ :: l => g ≠ g' ∧ Neq g l
  | .dat _ _ :: l => Neq g l
  | .row _ _ _ _ :: l => Neq g l
  | .map _ _ :: l => Neq g l
  | .obj _ _ :: l => Neq g l
  | .raw _ _ _ _ _ :: l => Neq g l
  | .gh _ _ :: l => Neq g l
def Dif (B : Nat) : List Ch → Prop
  | [] => True
  | .box g _ _ :: l => (B ≤ g ∧ Neq g l) ∧ Dif B l
  | .dat _ _ :: l => Dif B l
  | .row _ _ _ _ :: l => Dif B l
  | .map _ _ :: l => Dif B l
  | .obj _ _ :: l => Dif B l
  | .raw _ _ _ _ _ :: l => Dif B l
  | .gh _ _ :: l => Dif B l
theorem Chs.neq {g : Nat} (h : Chs X w B l L) (hn : g ∉ L) : Neq g l := by
  induction l generalizing L with
  | nil => trivial
  | cons c l ih =>
    unfold Chs at h
    obtain ⟨L1, L2, rfl, h1, h2⟩ := h
    have hi := ih h2 (fun hk => hn (by simp [hk]))
    cases c with
    | box g' t cs =>
      obtain ⟨rfl, _⟩ := h1
      exact ⟨fun e => hn (by simp [e]), hi⟩
    | dat d cs => exact hi
    | row e z ds v => exact hi
    | map g es => exact hi
    | obj g o => exact hi
    | raw e z n v es => exact hi
    | gh K p => exact hi
theorem Chs.dif (h : Chs no w B l L) (hn : L.Nodup) : Dif B l := by
  induction l generalizing L with
  | nil => trivial
  | cons c l ih =>
    unfold Chs at h
    obtain ⟨L1, L2, rfl, h1, h2⟩ := h
    have hi := ih h2 (List.nodup_append.1 hn).2.1
    cases c with
    | box g' t cs =>
      obtain ⟨rfl, hg, _⟩ := h1
      exact ⟨⟨hg.resolve_left no_not, h2.neq (fun hk => (List.nodup_append.1 hn).2.2 g' (by simp) g' hk rfl)⟩, hi⟩
    | dat d cs => exact hi
    | row e z ds v => exact hi
    | map g es => exact hi
    | obj g o => exact hi
    | raw e z n v es => exact hi
    | gh K p => exact hi
theorem Hp.dif (H : Hp no w0 w l) : Dif w0.heap.size l := H.own.elim fun _ h => h.1.dif h.2
theorem Hp.old (H : Hp X w0 w l) : (∀ b o, b < w0.heap.size → ¬ X b → w.cell? ⟨b, o, none⟩ = w0.cell? ⟨b, o, none⟩) ∧ w0.heap.size ≤ w.heap.size :=
  ⟨fun b o h hn => H.ext.cell (p := ⟨b, o, none⟩) h hn, H.ext.size⟩
theorem Hp.rd (H : Hp X w0 w l) {d : D} {cs : List Value} (p : Pick l (.dat d cs) l') : RC w (fun k => w0.heap.size ≤ k) d cs := by
  obtain ⟨L, h, _⟩ := (H.pick p).own
  unfold Chs at h
  obtain ⟨L1, L2, rfl, h1, h2⟩ := h
  exact RO.rc _ _ _ (fun k hk => (RO.lt _ _ _ h1 k hk).1) h1
theorem Hp.got {d : D} {cs : List Value} (H : Hp X w0 w (.dat d cs :: l)) : ∃ K, RO w w0.heap.size d cs K ∧ K.Nodup := by
  obtain ⟨L, h, hn⟩ := H.own
  unfold Chs at h
  obtain ⟨L1, L2, rfl, h1, h2⟩ := h
  exact ⟨L1, h1, (List.nodup_append.1 hn).1⟩
theorem Hp.turn {ds ds' : List Ch} (H : Hp X w0 w (ds ++ l)) (h : ∀ L, Chs X w w0.heap.size ds L → Chs X w w0.heap.size ds' L) : Hp X w0 w (ds' ++ l) := by
  have sp : ∀ (a b : List Ch) L, Chs X w w0.heap.size (a ++ b) L ↔ ∃ L1 L2, L = L1 ++ L2 ∧ Chs X w w0.heap.size a L1 ∧ Chs X w w0.heap.size b L2 := by
    intro a b
    induction a with
    | nil =>
      intro L
      simp only [List.nil_append, Chs]
      exact ⟨fun h => ⟨[], L, rfl, rfl, h⟩, by rintro ⟨_, L2, rfl, rfl, h⟩; exact h⟩
    | cons c a ih =>
      intro L
      simp only [List.cons_append, Chs, ih]
      constructor
      · rintro ⟨L1, _, rfl, h1, L2, L3, rfl, h2, h3⟩
        exact ⟨L1 ++ L2, L3, by simp, ⟨L1, L2, rfl, h1, h2⟩, h3⟩
      · rintro ⟨_, L3, rfl, ⟨L1, L2, rfl, h1, h2⟩, h3⟩
        exact ⟨L1, L2 ++ L3, by simp, h1, L2, L3, rfl, h2, h3⟩
  obtain ⟨L, h1, hn⟩ := H.own
  obtain ⟨L1, L2, rfl, h2, h3⟩ := (sp _ _ _).1 h1
  exact ⟨H.ext, _, (sp _ _ _).2 ⟨L1, L2, rfl, h _ h2, h3⟩, hn⟩
end

section
variable {X : Nat → Prop} {w0 w w1 : World} {l l1 l2 l3 : List Ch}
theorem Hp.tm {k n a : Int} {ls : List Lv} {ks : List Tm} {v4 v5 : Value} (H : Hp X w0 w l) (p1 : Pick l (.dat (.l 47 1 (ls.map lvD)) [v4]) l1) (p2 : Pick l1 (.dat (.l 26 5 (ks.map Tm.d)) [v5]) l2) (i1 : inI k) (i2 : inI n) (i3 : inI a) :
    Hp X w0 w (.dat (Tm.mk k n a ls ks).d [.int .i64 k, .int .i64 n, .int .i64 a, v4, v5] :: l2) := by
  have H2 := ((H.pick p1).pick (.tail p2)).swap
  refine Hp.turn (ds := [_, _]) (ds' := [_]) H2 ?_
  intro L h
  simp only [Chs] at h ⊢
  obtain ⟨L1, _, rfl, h1, L2, _, rfl, h2, rfl⟩ := h
  exact ⟨L1 ++ L2, [], by simp, RO.tm.2 ⟨v4, v5, L1, L2, rfl, rfl, i1, i2, i3, h1, h2⟩, rfl⟩
theorem Hp.ptm {t : Tm} {A K : Option Addr} {c k : Nat} (H : Hp no w0 w l) (p : Pick l (.dat t.d [.int .i64 t.k, .int .i64 t.n, .int .i64 t.a, .slice A t.ls.length c, .slice K t.ks.length k]) l1) : PTm w0 t (.returned (.agg #[.int .i64 t.k, .int .i64 t.n, .int .i64 t.a, .slice A t.ls.length c, .slice K t.ks.length k])) w := by
  obtain ⟨L, h1, h2⟩ := (H.pick p).got
  exact ⟨_, rfl, ⟨A, c, K, k, L, rfl, h1, h2⟩, H.ext⟩
theorem Hp.ptmk {k n a : Int} {ls : List Lv} {ks : List Tm} {A K : Option Addr} {nl nk c k' : Nat} (H : Hp no w0 w l) (p : Pick l (.dat (Tm.mk k n a ls ks).d [.int .i64 k, .int .i64 n, .int .i64 a, .slice A nl c, .slice K nk k']) l1) (hl : nl = ls.length) (hk : nk = ks.length) : PTm w0 (.mk k n a ls ks) (.returned (.agg #[.int .i64 k, .int .i64 n, .int .i64 a, .slice A nl c, .slice K nk k'])) w := by
  subst hl hk
  exact H.ptm (t := .mk k n a ls ks) p
theorem Hp.acc {e z : Nat} {ds : List D} {v : Value} (H : Hp no w0 w l) (p : Pick l (.dat (.l e z ds) [v]) l1) : Acc w0 w e z ds v := (H.pick p).got
theorem Hp.psl {e z : Nat} {ds : List D} {v : Value} (H : Hp no w0 w l) (p : Pick l (.dat (.l e z ds) [v]) l1) : PSl w0 e z ds (.returned v) w := PSl.of (H.acc p) H.ext
theorem Hp.slice {e z : Nat} {ds : List D} {v : Value} (H : Hp X w0 w l) (p : Pick l (.dat (.l e z ds) [v]) l1) : ∃ A c, v = .slice A ds.length c ∧ ds.length ≤ c ∧ c ≤ maxLen ∧ ds.length ≤ M := (H.rd p).slice
theorem Hp.sliceN {e z n : Nat} {ds : List D} {v : Value} (H : Hp X w0 w l) (p : Pick l (.dat (.l e z ds) [v]) l1) (hn : ds.length = n) : ∃ A c, v = .slice A n c := by
  obtain ⟨A, c, h, _⟩ := H.slice p
  exact ⟨A, c, by rw [h, hn]⟩
theorem Hp.resTm {t : Tm} {v : Value} (H : Hp X w0 w l) (hx : Ext no w w1) (h : TO w t v w1) : ∃ A ca K ck, v = .agg #[.int .i64 t.k, .int .i64 t.n, .int .i64 t.a, .slice A t.ls.length ca, .slice K t.ks.length ck] ∧
    Hp X w0 w1 (.dat t.d [.int .i64 t.k, .int .i64 t.n, .int .i64 t.a, .slice A t.ls.length ca, .slice K t.ks.length ck] :: l) := by
  obtain ⟨A, ca, K, ck, L, rfl, h1, h2⟩ := h
  exact ⟨A, ca, K, ck, rfl, H.res hx h1 h2⟩
theorem Hp.resSl {e z : Nat} {ds : List D} {v : Value} (H : Hp X w0 w l) (hx : Ext no w w1) (h : Acc w w1 e z ds v) : Hp X w0 w1 (.dat (.l e z ds) [v] :: l) := by
  obtain ⟨L, h1, h2⟩ := h
  exact H.res hx h1 h2
variable {P : Program} {ops : Array Oper} {rest : List Oper} {o : Oper} {a : Act} {Q : Exit → Act → World → Prop}
theorem wp_pushHs {K : Act → World → Prop} (s x : Operand) (t : TypeId) (ho : o.op = .call { callee := .builtin .append, args := #[s, x], argTypes := #[t, t] }) {e z : Nat} (hT : SlT P t e z)
    {ds ds' : List D} {out : Value} {cs : List Value} {g m c e1 : Nat} (H : Hp X w0 w l) (p3 : Pick l (.box g e1 cs) l1) (p1 : Pick l1 (.dat (.l e z ds) [out]) l2) (p2 : Pick l2 (.dat (.s ds') cs) l3)
    (hz : ∀ d ∈ ds', d.size = z) (hM : ds.length + ds'.length ≤ M) (hm : m = ds'.length) (hs : a.eval s = out) (hx : a.eval x = .slice (some ⟨g, 0, none⟩) m c)
    (h : ∀ v' w', Hp X w0 w' (.dat (.l e z (ds ++ ds')) [v'] :: l3) → K (a.put o.dst v') w') : o.wp P a w K Q := by
  obtain ⟨L, hL, hn⟩ := (((H.pick p3).pick (.tail p1)).pick (.tail (.tail p2))).own
  simp only [Chs] at hL
  obtain ⟨L2, _, rfl, h2, L1, _, rfl, h1, L3, L4, rfl, h3, h4⟩ := hL
  obtain ⟨rfl, hg1, hg⟩ := h3
  have h2' : ROs w w0.heap.size ds' cs L2 := by have h := h2; unfold Ch1 RO at h; exact h
  have n12 : (L1 ++ L2).Nodup := by
    refine List.nodup_append.2 ⟨?_, (List.nodup_append.1 hn).1, fun x hx y hy e => (List.nodup_append.1 hn).2.2 y hy x (by simp [hx]) e.symm⟩
    exact (List.nodup_append.1 (List.nodup_append.1 hn).2.1).1
  refine wp_pushO s x t ho hT hs hx h1 h2' hz hm (fun j u hu => by have := hg.cells j; rw [this]; simpa using hu) n12 hM H.ext.size ?_
  intro v' w' L5 g1 g2 g3 g4
  refine h v' w' ⟨H.ext.grown g4 ?_, L5 ++ L4, ?_, ?_⟩
  · intro k hk
    have : k ∈ L1 := by
      unfold Ch1 RO at h1
      obtain ⟨v1, es, Lr, e1, _, _, _, _, rfl⟩ := h1
      obtain rfl : out = v1 := by simpa using e1
      simp [hk]
    exact .inr (RO.lt _ _ _ h1 k this).1
  · unfold Chs
    refine ⟨L5, L4, rfl, g1, h4.frame H.ext.size g4.size (fun k hk hx => g4.block k (Nat.lt_of_lt_of_le hk H.ext.size) ?_) (fun k hk => g4.block k (h4.lt k hk).2 ?_)⟩
    · intro e
      have : k ∈ L1 := by
        unfold Ch1 RO at h1
        obtain ⟨v1, es, Lr, e1, _, _, _, _, rfl⟩ := h1
        obtain rfl : out = v1 := by simpa using e1
        simp [← e]
      have := (RO.lt _ _ _ h1 k this).1
      omega
    · intro e
      have hk1 : k ∈ L1 := by
        unfold Ch1 RO at h1
        obtain ⟨v1, es, Lr, e1, _, _, _, _, rfl⟩ := h1
        obtain rfl : out = v1 := by simpa using e1
        simp [← e]
      exact (List.nodup_append.1 (List.nodup_append.1 hn).2.1).2.2 k hk1 k (by simp [hk]) rfl
  · refine List.nodup_append.2 ⟨g2, ?_, fun x hx y hy e => ?_⟩
    · exact (List.nodup_append.1 (List.nodup_append.1 (List.nodup_append.1 hn).2.1).2.1).2.1
    · subst e
      rcases g3 x hx with h | h | h
      · exact (List.nodup_append.1 (List.nodup_append.1 hn).2.1).2.2 x h x (by simp [hy]) rfl
      · exact (List.nodup_append.1 hn).2.2 x h x (by simp [hy]) rfl
      · have := (h4.lt x hy).2; omega
theorem Hp.one {d : D} {cs : List Value} (H : Hp X w0 w (.dat d cs :: l)) : Hp X w0 w (.dat (.s [d]) cs :: l) :=
  Hp.turn (ds := [_]) (ds' := [_]) H fun L h => by
    simp only [Chs] at h ⊢
    obtain ⟨L1, _, rfl, h1, rfl⟩ := h
    exact ⟨L1, [], rfl, by unfold Ch1 RO; exact ROs.single h1, rfl⟩
theorem wp_pushH {K : Act → World → Prop} (s x : Operand) (t : TypeId) (ho : o.op = .call { callee := .builtin .append, args := #[s, x], argTypes := #[t, t] }) {e z : Nat} (hT : SlT P t e z)
    {ds : List D} {d : D} {out : Value} {cs : List Value} {g c e1 : Nat} (hs : a.eval s = out) (hx : a.eval x = .slice (some ⟨g, 0, none⟩) 1 c) (H : Hp X w0 w l) (p3 : Pick l (.box g e1 cs) l1) (p1 : Pick l1 (.dat (.l e z ds) [out]) l2) (p2 : Pick l2 (.dat d cs) l3)
    (hz : d.size = z) (hM : ds.length + 1 ≤ M)
    (h : ∀ v' w', Hp X w0 w' (.dat (.l e z (ds ++ [d])) [v'] :: l3) → K (a.put o.dst v') w') : o.wp P a w K Q :=
  wp_pushHs s x t ho hT ((((H.pick p3).pick (.tail p1)).pick (.tail (.tail p2))).one) (.tail (.tail .head)) (.tail .head) .head (by simpa using hz) (by simpa using hM) rfl hs hx h
theorem wpList_pushH (hgd : o.guard = none) (s x : Operand) (t : TypeId) (ho : o.op = .call { callee := .builtin .append, args := #[s, x], argTypes := #[t, t] }) {e z : Nat} (hT : SlT P t e z)
    {ds : List D} {d : D} {out : Value} {cs : List Value} {g c e1 : Nat} (hs : a.eval s = out) (hx : a.eval x = .slice (some ⟨g, 0, none⟩) 1 c) (H : Hp X w0 w l) (p3 : Pick l (.box g e1 cs) l1) (p1 : Pick l1 (.dat (.l e z ds) [out]) l2) (p2 : Pick l2 (.dat d cs) l3)
    (hz : d.size = z) (hM : ds.length + 1 ≤ M)
    (h : ∀ v' w', Hp X w0 w' (.dat (.l e z (ds ++ [d])) [v'] :: l3) → wpList P ops Q rest (a.put o.dst v') w') : wpList P ops Q (o :: rest) a w :=
  wpList_plain hgd fun _ hK => wp_pushH s x t ho hT hs hx H p3 p1 p2 hz hM fun v' w' h1 => hK _ _ (h v' w' h1)
def Rd (X : Nat → Prop) (w0 w : World) (l : List Ch) : Prop := Ext X w0 w ∧ Rules w l
inductive Sel (l : List Ch) : List Nat → List Ch → Prop where
  | nil : Sel l [] []
  | cons {i : Nat} {is : List Nat} {c : Ch} {cs : List Ch} (h : l[i]? = some c) (hs : Sel l is cs) : Sel l (i :: is) (c :: cs)
theorem Rules.mem {w : World} {l : List Ch} (h : Rules w l) {g t : Nat} {cs : List Value} (hm : .box g t cs ∈ l) : (∀ i, w.cell? ⟨g, i, none⟩ = cs[i]?) ∧ (∀ i, w.frozen? ⟨g, i, none⟩ = false) ∧ g < w.heap.size := by
  induction l with
  | nil => cases hm
  | cons c l ih =>
    cases hm with
    | head => exact h.1
    | tail _ hm =>
      cases c with
      | box g t cs => exact ih h.2 hm
      | dat d cs => exact ih h hm
      | row e z ds v => exact ih h hm
      | map g es => exact ih h hm
      | obj g o => exact ih h hm
      | raw e z n v es => exact ih h hm
      | gh K p => exact ih h hm
theorem Rules.sub {w : World} {l lr : List Ch} (h : Rules w l) (hs : ∀ c ∈ lr, c ∈ l) : Rules w lr := by
  induction lr with
  | nil => trivial
  | cons c lr ih =>
    have h2 := ih (fun c hc => hs c (by simp [hc]))
    cases c with
    | box g t cs => exact ⟨h.mem (t := t) (hs _ (by simp)), h2⟩
    | dat d cs => exact h2
    | row e z ds v => exact h2
    | map g es => exact h2
    | obj g o => exact h2
    | raw e z n v es => exact h2
    | gh K p => exact h2
theorem Sel.sub {l lr : List Ch} {is : List Nat} (h : Sel l is lr) : ∀ c ∈ lr, c ∈ l := by
  induction h with
  | nil => intro c hc; cases hc
  | cons h hs ih =>
    intro c hc
    cases hc with
    | head => exact List.mem_of_getElem? h
    | tail _ hc => exact ih c hc
theorem Hp.sel {lr : List Ch} {is : List Nat} (H : Hp X w0 w l) (hs : Sel l is lr) : Rd X w0 w lr := ⟨H.ext, H.rules.sub hs.sub⟩
theorem Hp.sub {lr : List Ch} (H : Hp X w0 w l) (hs : ∀ c ∈ lr, c ∈ l) : Rd X w0 w lr := ⟨H.ext, H.rules.sub hs⟩
theorem Rd.old0 (H : Rd no w0 w l) : (∀ b o, b < w0.heap.size → w.cell? ⟨b, o, none⟩ = w0.cell? ⟨b, o, none⟩) ∧ w0.heap.size ≤ w.heap.size :=
  ⟨fun b o h => H.1.cell (p := ⟨b, o, none⟩) h no_not, H.1.size⟩
theorem Rd.old (H : Rd X w0 w l) : (∀ b o, b < w0.heap.size → ¬ X b → w.cell? ⟨b, o, none⟩ = w0.cell? ⟨b, o, none⟩) ∧ w0.heap.size ≤ w.heap.size :=
  ⟨fun b o h hn => H.1.cell (p := ⟨b, o, none⟩) h hn, H.1.size⟩
theorem Rd.rules (H : Rd X w0 w l) : Rules w l := H.2
theorem Rd.lies (H : Rd X w0 w l) {b o : Nat} {cs : List Value} (hb : b < w0.heap.size) (hX : ¬ X b) (h : ∀ j u, cs[j]? = some u → w0.cell? ⟨b, o + j, none⟩ = some u) : ∀ j u, cs[j]? = some u → w.cell? ((⟨b, o, none⟩ : Addr).add j) = some u := fun j u hu => by
  rw [Addr.add_lit, H.1.cell (p := ⟨b, o + j, none⟩) hb hX]
  exact h j u hu
theorem Rd.boxlies (H : Rd X w0 w l) {g t : Nat} {cs : List Value} (p : .box g t cs ∈ l) : ∀ j u, cs[j]? = some u → w.cell? ((⟨g, 0, none⟩ : Addr).add j) = some u := fun j u hu => by
  rw [Addr.add_lit, Nat.zero_add, (H.2.mem p).1 j]
  exact hu
theorem wp_region_H {id : Nat} {lr : List Ch} {is : List Nat} (n : Nat) (l0 : List Bool) (late : List Nat) (H : Hp X w0 w l) (hs : Sel l is lr) (hm : P.follows .mixedOrders = true) (hn : ops.size = n) (hl : List.replicate n false = l0)
    (h : Hp X w0 w.drew l → Rd X w0 w.drew lr → wpL P .any ops Q (fun w' => Rd X w0 w' lr) late n l0.toArray a w.drew) : (Code.region id ops true).wp P Q a w :=
  wp_region_L _ late hm (by
    subst hn
    rw [← List.toArray_replicate, hl]
    exact h H.drew (H.drew.sel hs))
end

section
variable {P : Program} {ops : Array Oper} {Q : Exit → Act → World → Prop} {md : Region.Mode} {S : World → Prop} {late : List Nat}
theorem wpL_many {is : List Nat} {fuel : Nat} {listed : Array Bool} {a : Act} {w : World} (hk : Region.ready md ops listed = is) (hne : is ≠ [])
    (h : ∀ i ∈ is, wpOp P ops Q i (fun a' w' => (i ∉ late → S w') ∧ wpL P md ops Q S late fuel (listed.setIfInBounds i true) a' w') a w) : wpL P md ops Q S late (fuel + 1) listed a w := by
  unfold wpL
  exact ⟨fun h0 => absurd (hk.symm.trans h0) hne, fun j hj => wpOp_mono (fun a' w' h => ⟨fun hl _ => h.1 hl, h.2⟩) (h j (hk ▸ hj))⟩
theorem wpOp_do {i : Nat} {oi : Oper} {fuel : Nat} {listed : Array Bool} {a : Act} {w : World} (hi : ops[i]? = some oi) (hw : Region.wanted oi (yielded ops a.tmps) = true)
    (h : ∀ K : Act → World → Prop, (∀ a' w', (i ∉ late → S w') → ((i ∉ late → S w') → wpL P md ops Q S late fuel (listed.setIfInBounds i true) a' w') → K a' w') → oi.wp P a w K Q) :
    wpOp P ops Q i (fun a' w' => (i ∉ late → S w') ∧ wpL P md ops Q S late fuel (listed.setIfInBounds i true) a' w') a w := by
  unfold wpOp
  simp only [hi, hw, if_true]
  exact .inl (h _ fun a' w' h1 h2 => ⟨h1, h2 h1⟩)
end
def AggT (P : Program) (t z : Nat) : Prop := ∃ d, P.underlying t = some d ∧ (match d with | .struct _ | .array _ _ => true | _ => false) = true ∧ (P.info? t).map (·.size) = some z
section
variable {X : Nat → Prop} {w0 w w1 : World} {l l' l1 l2 l3 : List Ch}
variable {P : Program} {ops : Array Oper} {rest : List Oper} {o : Oper} {a : Act} {Q : Exit → Act → World → Prop}
theorem run_loadVarL {t z : Nat} {p : Addr} {cs : List Value} (hT : AggT P t z) (hl : cs.length = z) (h : ∀ j u, cs[j]? = some u → w.cell? (p.add j) = some u) : (loadVar t p).run P w = .ok (.agg cs.toArray) w := by
  obtain ⟨d, hu, hd, hi⟩ := hT
  have hl' := run_loadCells_list (P := P) w p cs h
  cases hq : P.info? t with
  | none => simp [hq] at hi
  | some i =>
    have hs : i.size = cs.length := by simp [hq] at hi; omega
    have hagg : (isAgg t).run P w = .ok true w := by
      cases d <;> simp_all [isAgg, run_underlying hu]
    simp only [loadVar, Sem.run_bind, Sem.run_pure, Result.andThen_ok, hagg, if_true, sizeOf, typeInfo]
    simp [hq, hs, hl']
theorem run_loadL {t z : Nat} {x : Operand} {p : Addr} {cs : List Value} (hT : AggT P t z) (ho : o.op = .load t x) (hx : a.eval x = .pointer (some p)) (hl : cs.length = z) (h : ∀ j u, cs[j]? = some u → w.cell? (p.add j) = some u) :
    (execOp a.eval o).run P w = .ok (.value (.agg cs.toArray)) w := by
  unfold execOp
  simp only [ho, hx, Instr.loadAt, Instr.sureAddr, Sem.run_bind, Sem.run_pure, Result.andThen_ok, run_loadVarL hT hl h]
def Res (P : Program) (w : World) (tmps : Array Value) : ResultVar → Value → Prop
  | .tmp t, v => tmps.getD t undef = v
  | .cell a t, v => ∃ p, tmps.getD a undef = .pointer (some p) ∧ (loadVar t p).run P w = .ok v w
theorem Res.one {fn : Func} {tmps : Array Value} {r : ResultVar} {v : Value} (hf : fn.results = #[r]) (h : Res P w tmps r v) : (results fn tmps).run P w = .ok v w := by
  cases r <;> simp only [Res] at h <;> (try obtain ⟨p, h1, h2⟩ := h) <;> simp_all [results, asAddr]
theorem Res.two {fn : Func} {tmps : Array Value} {r r' : ResultVar} {v v' : Value} (hf : fn.results = #[r, r']) (h : Res P w tmps r v) (h' : Res P w tmps r' v') : (results fn tmps).run P w = .ok (.tuple #[v, v']) w := by
  cases r <;> cases r' <;> simp only [Res] at h h' <;> (try obtain ⟨p, h1, h2⟩ := h) <;> (try obtain ⟨p', h1', h2'⟩ := h') <;> simp_all [results, asAddr]
theorem Hp.resBox {X : Nat → Prop} {w0 : World} {l l' : List Ch} (H : Hp X w0 w l) {g e t z i : Nat} {cs : List Value} {tmps : Array Value} (p : Pick l (.box g e cs) l') (hT : AggT P t z) (hl : cs.length = z) (hi : tmps.getD i undef = .pointer (some ⟨g, 0, none⟩)) : Res P w tmps (.cell i t) (.agg cs.toArray) :=
  ⟨_, hi, run_loadVarL hT hl fun j u hu => by
    rw [Addr.add_lit, Nat.zero_add, (H.blk p).cells j]
    simpa using hu⟩
theorem Hp.lies (H : Hp X w0 w l) {b o : Nat} {cs : List Value} (hb : b < w0.heap.size) (hX : ¬ X b) (h : ∀ j u, cs[j]? = some u → w0.cell? ⟨b, o + j, none⟩ = some u) : ∀ j u, cs[j]? = some u → w.cell? ((⟨b, o, none⟩ : Addr).add j) = some u := fun j u hu => by
  rw [Addr.add_lit, H.ext.cell (p := ⟨b, o + j, none⟩) hb hX]
  exact h j u hu
theorem RC.el {w : World} {S : Nat → Prop} {e z : Nat} {ds : List D} {A : Option Addr} {n c : Nat} (h : RC w S (.l e z ds) [.slice A n c]) {i : Nat} {d : D} (hd : ds[i]? = some d) :
    ∃ b o cs, A = some ⟨b, o, none⟩ ∧ b < w.heap.size ∧ S b ∧ RC w S d cs ∧ cs.length = z ∧ ∀ j u, cs[j]? = some u → w.cell? ⟨b, o + i * z + j, none⟩ = some u := by
  obtain ⟨b, o, cs, h1, h2, h3, h4, h5, h6⟩ := h.at_ hd
  exact ⟨b, o, cs, h1, h2, h3, h4, h5, fun j u hu => by rw [Nat.add_assoc]; exact h6 j u hu⟩
theorem Hp.boxlies (H : Hp X w0 w l) {g t : Nat} {cs : List Value} (p : Pick l (.box g t cs) l') : ∀ j u, cs[j]? = some u → w.cell? ((⟨g, 0, none⟩ : Addr).add j) = some u := fun j u hu => by
  rw [Addr.add_lit, Nat.zero_add, (H.blk p).cells j]
  simpa using hu
theorem Hp.old0 (H : Hp no w0 w l) : (∀ b o, b < w0.heap.size → w.cell? ⟨b, o, none⟩ = w0.cell? ⟨b, o, none⟩) ∧ w0.heap.size ≤ w.heap.size :=
  ⟨fun b o h => H.ext.cell (p := ⟨b, o, none⟩) h no_not, H.ext.size⟩
theorem wp_storeH {K : Act → World → Prop} {t : Nat} {x y : Operand} {g e : Nat} {cs cs' : List Value} (ho : o.op = .store t x y) (hx : a.eval x = .pointer (some ⟨g, 0, none⟩)) (hy : a.eval y = .agg cs'.toArray) (H : Hp X w0 w l) (u : Upd l (.box g e cs) (.box g e cs') l')
    (hT : AggT P t cs'.length) (hl : cs.length = cs'.length) (h1 : ∀ u ∈ cs', u.oneCell' = true) (h : ∀ w', Hp X w0 w' l' → K (a.put o.dst undef) w') : o.wp P a w K Q := by
  obtain ⟨d, hu, hd, hi⟩ := hT
  have hb : Blk w g e cs.toArray := by
    exact u.pick.elim fun _ p => H.blk p
  refine wp_store_row t x y ho g cs'.toArray hx hy e cs.toArray hb (by simpa using hi) (by simpa using hl) (by simpa using h1) (h _ (H.put u ?_ (setRow_heap _ _ _ _ _ _ hb)))
  exact ⟨rfl, rfl, rfl, by simp, fun k hk hne => by simp [World.setRow, Array.getElem?_modify, Ne.symm hne]⟩
theorem wpList_storeH (hgd : o.guard = none) {t : Nat} {x y : Operand} {g e : Nat} {cs cs' : List Value} (ho : o.op = .store t x y) (hx : a.eval x = .pointer (some ⟨g, 0, none⟩)) (hy : a.eval y = .agg cs'.toArray) (H : Hp X w0 w l) (u : Upd l (.box g e cs) (.box g e cs') l')
    (hT : AggT P t cs'.length) (hl : cs.length = cs'.length) (h1 : ∀ u ∈ cs', u.oneCell' = true) (h : ∀ w', Hp X w0 w' l' → wpList P ops Q rest (a.put o.dst undef) w') : wpList P ops Q (o :: rest) a w :=
  wpList_plain hgd fun _ hK => wp_storeH ho hx hy H u hT hl h1 fun w' h1 => hK _ _ (h w' h1)
theorem atStore {t : Nat} {x y : Operand} {ty : TypeId} {po : String} {af : Array Edge} {d : Option Tmp} (h : wpList P ops Q (⟨d, .store t x y, ty, po, af, none⟩ :: rest) a w) : wpList P ops Q (⟨d, .store t x y, ty, po, af, none⟩ :: rest) a w := h
theorem atLoad {t : Nat} {x : Operand} {ty : TypeId} {po : String} {af : Array Edge} {d : Option Tmp} (h : wpList P ops Q (⟨d, .load t x, ty, po, af, none⟩ :: rest) a w) : wpList P ops Q (⟨d, .load t x, ty, po, af, none⟩ :: rest) a w := h
theorem wpList_run (hgd : o.guard = none) {v : Value} (hr : (execOp a.eval o).run P w = .ok (.value v) w) (h : wpList P ops Q rest (a.put o.dst v) w) : wpList P ops Q (o :: rest) a w :=
  wpList_plain hgd fun _ hK => by
    unfold Oper.wp
    rw [hr]
    exact hK _ _ h
theorem callsH {W : World} {f : FuncId} {args : Array Value} {R : Ending → World → Prop} (H : Hp X w0 W l) (h : ∀ w', Hp X w0 w' l → Calls P f args w' R) : Calls P f args W R := h W H
theorem regionH {W : World} {id : Nat} {d : Bool} (H : Hp X w0 W l) (h : ∀ w', Hp X w0 w' l → (Code.region id ops d).wp P Q a w') : (Code.region id ops d).wp P Q a W := h W H
theorem codeH {W : World} {c : Code} (H : Hp X w0 W l) (h : ∀ w', Hp X w0 w' l → c.wp P Q a w') : c.wp P Q a W := h W H
theorem listH {W : World} (H : Hp X w0 W l) (h : ∀ w', Hp X w0 w' l → wpList P ops Q rest a w') : wpList P ops Q rest a W := h W H
theorem kontH {W : World} {K : Act → World → Prop} (H : Hp X w0 W l) (h : ∀ w', Hp X w0 w' l → K a w') : K a W := h W H
theorem endH {W : World} {e : Exit} (H : Hp X w0 W l) (h : ∀ w', Hp X w0 w' l → Q e a w') : Q e a W := h W H
end
theorem run_assert_same {P : Program} {t xT : TypeId} {d : TypeDesc} {v : Value} (hu : P.underlying t = some d) (hd : (match d with | .interface _ => false | _ => true) = true) (w : World) : (Instr.typeAssert (.iface t v) xT t true).run P w = .ok (.tuple #[v, .bool true]) w := by
  cases d <;> simp_all [Instr.typeAssert, run_underlying hu]
theorem wrapE (n : Int) : IntKind.i64.wrap n = wrap64 n := IntWalk.i64_left n
theorem aggDecl : AggT Tryz.prog 51 16 := ⟨_, Tryz.underlying51, rfl, by kernel_rfl⟩
theorem aggTerm : AggT Tryz.prog 26 5 := ⟨_, Tryz.underlying26, rfl, by kernel_rfl⟩
mutual
theorem RC.back {w w' : World} {S : Nat → Prop} (hx : Ext no w w') : (d : D) → (cs : List Value) → RC w' (fun k => S k ∧ k < w.heap.size) d cs → RC w S d cs
  | .i n, cs, h => h
  | .b x, cs, h => h
  | .s ds, cs, h => by
    unfold RC at h ⊢
    exact RCs.back hx ds cs h
  | .l e z ds, cs, h => by
    unfold RC at h ⊢
    obtain ⟨A, c, h1, h2, h3, h4, h5, h6⟩ := h
    refine ⟨A, c, h1, h2, h3, h4, h5, ?_⟩
    rcases h6 with h6 | ⟨b, o, es, h7, hb, h8, h9, h10⟩
    · exact .inl h6
    · exact .inr ⟨b, o, es, h7, h8.2, h8.1, RCs.back hx ds es h9, fun j u hu => (hx.cell (p := ⟨b, o + j, none⟩) h8.2 no_not).symm.trans (h10 j u hu)⟩
theorem RCs.back {w w' : World} {S : Nat → Prop} (hx : Ext no w w') : (ds : List D) → (cs : List Value) → RCs w' (fun k => S k ∧ k < w.heap.size) ds cs → RCs w S ds cs
  | [], cs, h => h
  | d :: ds, cs, h => by
    unfold RCs at h ⊢
    obtain ⟨c1, c2, h1, h2, h3⟩ := h
    exact ⟨c1, c2, h1, RC.back hx d c1 h2, RCs.back hx ds c2 h3⟩
end
theorem RC.dcG {w : World} {S : Nat → Prop} {d : Dc} {cs : List Value} (h : RC w S d.d cs) : ∃ Am cm Ac cc, cs.length = 16 ∧ cs[0]? = some (.int .i64 d.kind) ∧ cs[14]? = some (.slice Am d.members.length cm) ∧ cs[15]? = some (.slice Ac d.ctors.length cc) ∧
    RC w S (.l 73 1 (d.members.map Mb.d)) [.slice Am d.members.length cm] ∧ RC w S (.l 148 6 (d.ctors.map Ct.d)) [.slice Ac d.ctors.length cc] := by
  obtain ⟨Aty, cty, Kty, kty, Abody, cbody, Kbody, kbody, Aparams, cparams, Asort, csort, Amembers, cmembers, Actors, cctors, rfl, hr⟩ := RC.dc.1 h
  exact ⟨_, _, _, _, rfl, rfl, rfl, rfl, hr.2.2.2.2.2.2.1, hr.2.2.2.2.2.2.2⟩
end Go.Proofs.YtmedomglemllnaaGreatDoor
