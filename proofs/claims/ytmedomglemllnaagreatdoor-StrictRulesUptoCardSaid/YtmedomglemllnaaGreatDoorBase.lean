/- The pure data that a Go value of this program stands for, what it means that memory holds such data (readable: RC; owned by nobody else: RO), and the laws on both. No statement of the seat is proved here. -/
import Derived.Test.YtmedomglemllnaaGreatDoorProg
import Derived.WalkKit
import Derived.WalkSpells
import Derived.WalkLawsBesides
import Derived.Maps.AppendAt
namespace Go.Proofs.YtmedomglemllnaaGreatDoor
set_option linter.unusedSimpArgs false
set_option linter.unusedVariables false
open Go.RowKit

def inI (n : Int) : Prop := -9223372036854775808 ≤ n ∧ n ≤ 9223372036854775807

def M : Nat := 4294967296

inductive D where
  | i (n : Int)
  | b (x : Bool)
  | s (ds : List D)
  | l (e z : Nat) (ds : List D)

mutual
def D.size : D → Nat
  | .i _ => 1
  | .b _ => 1
  | .l _ _ _ => 1
  | .s ds => D.sizes ds
def D.sizes : List D → Nat
  | [] => 0
  | d :: ds => d.size + D.sizes ds
end

mutual
def RC (w : World) (S : Nat → Prop) : D → List Value → Prop
  | .i n, cs => cs = [.int .i64 n] ∧ inI n
  | .b x, cs => cs = [.bool x]
  | .s ds, cs => RCs w S ds cs
  | .l _ z ds, cs => ∃ A c, cs = [.slice A ds.length c] ∧ ds.length ≤ c ∧ c ≤ maxLen ∧ ds.length ≤ M ∧ (∀ d ∈ ds, d.size = z) ∧
      (ds = [] ∨ ∃ b o es, A = some ⟨b, o, none⟩ ∧ b < w.heap.size ∧ S b ∧ RCs w S ds es ∧ ∀ j u, es[j]? = some u → w.cell? ⟨b, o + j, none⟩ = some u)
def RCs (w : World) (S : Nat → Prop) : List D → List Value → Prop
  | [], cs => cs = []
  | d :: ds, cs => ∃ c1 c2, cs = c1 ++ c2 ∧ RC w S d c1 ∧ RCs w S ds c2
end

mutual
def RO (w : World) (B : Nat) : D → List Value → List Nat → Prop
  | .i n, cs, L => cs = [.int .i64 n] ∧ inI n ∧ L = []
  | .b x, cs, L => cs = [.bool x] ∧ L = []
  | .s ds, cs, L => ROs w B ds cs L
  | .l e z ds, cs, L => ∃ v es Lr, cs = [v] ∧ ds.length ≤ M ∧ (∀ d ∈ ds, d.size = z) ∧ w.ownsRow B e z v ds.length es ∧ ROs w B ds es Lr ∧ L = v.ownBlock.toList ++ Lr
def ROs (w : World) (B : Nat) : List D → List Value → List Nat → Prop
  | [], cs, L => cs = [] ∧ L = []
  | d :: ds, cs, L => ∃ c1 c2 L1 L2, cs = c1 ++ c2 ∧ L = L1 ++ L2 ∧ RO w B d c1 L1 ∧ ROs w B ds c2 L2
end

structure Ext (X : Nat → Prop) (w w' : World) : Prop where
  os : w'.os = w.os
  tape : w'.tape = w.tape
  output : w'.output = w.output
  size : w.heap.size ≤ w'.heap.size
  block : ∀ k, k < w.heap.size → ¬ X k → w'.heap[k]? = w.heap[k]?

theorem Ext.refl (X : Nat → Prop) (w : World) : Ext X w w := ⟨rfl, rfl, rfl, Nat.le_refl _, fun _ _ _ => rfl⟩
theorem Ext.trans {X Y Z : Nat → Prop} {a b c : World} (h : Ext X a b) (k : Ext Y b c) (hX : ∀ i, i < a.heap.size → X i → Z i) (hY : ∀ i, i < a.heap.size → Y i → Z i) : Ext Z a c :=
  ⟨k.os.trans h.os, k.tape.trans h.tape, k.output.trans h.output, Nat.le_trans h.size k.size, fun i hi hn =>
    (k.block i (Nat.lt_of_lt_of_le hi h.size) (fun hy => hn (hY i hi hy))).trans (h.block i hi (fun hx => hn (hX i hi hx)))⟩
theorem Ext.mono {X Z : Nat → Prop} {a b : World} (h : Ext X a b) (hX : ∀ i, i < a.heap.size → X i → Z i) : Ext Z a b :=
  ⟨h.os, h.tape, h.output, h.size, fun i hi hn => h.block i hi (fun hx => hn (hX i hi hx))⟩
theorem Ext.drew {X : Nat → Prop} {a w : World} (h : Ext X a w) : Ext X a w.drew := ⟨h.os, h.tape, h.output, h.size, h.block⟩
theorem Ext.drewN {X : Nat → Prop} {a w : World} (h : Ext X a w) (n : Nat) : Ext X a (w.drewN n) := ⟨h.os, h.tape, h.output, h.size, h.block⟩
theorem Ext.alloc {X : Nat → Prop} {a w : World} (h : Ext X a w) (o : Obj) : Ext X a (w.alloc o) :=
  ⟨h.os, h.tape, h.output, Nat.le_trans h.size (by simp), fun k hk hn => (Below.heap_alloc w o k (Nat.lt_of_lt_of_le hk h.size)).trans (h.block k hk hn)⟩
theorem Ext.setCell {X : Nat → Prop} {a w : World} (h : Ext X a w) {p : Addr} (hp : X p.block ∨ a.heap.size ≤ p.block) (u : Value) : Ext X a (w.setCell p u) :=
  ⟨h.os, h.tape, h.output, by simpa [World.setCell] using h.size, fun k hk hn => (Below.heap_setCell w p u k (fun e => by
    rcases hp with hp | hp
    · exact hn (e ▸ hp)
    · omega)).trans (h.block k hk hn)⟩
theorem Ext.grown {X : Nat → Prop} {a w w' : World} {row : Option Nat} (h : Ext X a w) (hg : w.grownBy w' row) (hr : ∀ k, row = some k → X k ∨ a.heap.size ≤ k) : Ext X a w' :=
  ⟨hg.os.trans h.os, hg.tape.trans h.tape, hg.output.trans h.output, Nat.le_trans h.size hg.size, fun k hk hn =>
    (hg.block k (Nat.lt_of_lt_of_le hk h.size) (fun e => by
      rcases hr k e.symm with hp | hp
      · exact hn hp
      · omega)).trans (h.block k hk hn)⟩
theorem Ext.below {w w' : World} (h : Ext (fun _ => False) w w') : Below w.heap.size w w' :=
  ⟨h.os, h.tape, h.output, h.size, fun k hk => h.block k hk (fun f => f)⟩
theorem Ext.cell {X : Nat → Prop} {w w' : World} (h : Ext X w w') {p : Addr} (hp : p.block < w.heap.size) (hn : ¬ X p.block) : w'.cell? p = w.cell? p :=
  World.cell?_of_block (h.block p.block hp hn)

/- the read relation -/
theorem cell_lt {w : World} {a : Addr} {v : Value} (h : w.cell? a = some v) : a.block < w.heap.size := by
  rcases Nat.lt_or_ge a.block w.heap.size with hlt | hge
  · exact hlt
  · simp [World.cell?, Array.getElem?_eq_none hge] at h

mutual
theorem RC.frame {w w' : World} {S S' : Nat → Prop} (hsz : w.heap.size ≤ w'.heap.size) (hS : ∀ k, k < w.heap.size → S k → S' k) (hw : ∀ k, k < w.heap.size → S k → w'.heap[k]? = w.heap[k]?) :
    (d : D) → (cs : List Value) → RC w S d cs → RC w' S' d cs
  | .i n, cs, h => h
  | .b x, cs, h => h
  | .s ds, cs, h => by
    unfold RC at h ⊢
    exact RCs.frame hsz hS hw ds cs h
  | .l e z ds, cs, h => by
    unfold RC at h ⊢
    obtain ⟨A, c, h1, h2, h3, h4, h5, h6⟩ := h
    refine ⟨A, c, h1, h2, h3, h4, h5, ?_⟩
    rcases h6 with h6 | ⟨b, o, es, h7, hb, h8, h9, h10⟩
    · exact .inl h6
    · exact .inr ⟨b, o, es, h7, Nat.lt_of_lt_of_le hb hsz, hS b hb h8, RCs.frame hsz hS hw ds es h9, fun j u hu => (World.cell?_of_block (hw b hb h8)).trans (h10 j u hu)⟩
theorem RCs.frame {w w' : World} {S S' : Nat → Prop} (hsz : w.heap.size ≤ w'.heap.size) (hS : ∀ k, k < w.heap.size → S k → S' k) (hw : ∀ k, k < w.heap.size → S k → w'.heap[k]? = w.heap[k]?) :
    (ds : List D) → (cs : List Value) → RCs w S ds cs → RCs w' S' ds cs
  | [], cs, h => h
  | d :: ds, cs, h => by
    unfold RCs at h ⊢
    obtain ⟨c1, c2, h1, h2, h3⟩ := h
    exact ⟨c1, c2, h1, RC.frame hsz hS hw d c1 h2, RCs.frame hsz hS hw ds c2 h3⟩
end

mutual
theorem RC.len {w : World} {S : Nat → Prop} : (d : D) → (cs : List Value) → RC w S d cs → cs.length = d.size
  | .i n, cs, h => by unfold RC at h; simp [h.1, D.size]
  | .b x, cs, h => by unfold RC at h; simp [h, D.size]
  | .s ds, cs, h => by
    unfold RC at h; unfold D.size
    exact RCs.len ds cs h
  | .l e z ds, cs, h => by
    unfold RC at h
    obtain ⟨A, c, h1, _⟩ := h
    simp [h1, D.size]
theorem RCs.len {w : World} {S : Nat → Prop} : (ds : List D) → (cs : List Value) → RCs w S ds cs → cs.length = D.sizes ds
  | [], cs, h => by unfold RCs at h; simp [h, D.sizes]
  | d :: ds, cs, h => by
    unfold RCs at h; unfold D.sizes
    obtain ⟨c1, c2, h1, h2, h3⟩ := h
    rw [h1, List.length_append, RC.len d c1 h2, RCs.len ds c2 h3]
end

mutual
theorem RC.one {w : World} {S : Nat → Prop} : (d : D) → (cs : List Value) → RC w S d cs → ∀ u ∈ cs, u.oneCell' = true
  | .i n, cs, h => by unfold RC at h; simp [h.1, Value.oneCell']
  | .b x, cs, h => by unfold RC at h; simp [h, Value.oneCell']
  | .s ds, cs, h => by
    unfold RC at h
    exact RCs.one ds cs h
  | .l e z ds, cs, h => by
    unfold RC at h
    obtain ⟨A, c, h1, _⟩ := h
    simp [h1, Value.oneCell']
theorem RCs.one {w : World} {S : Nat → Prop} : (ds : List D) → (cs : List Value) → RCs w S ds cs → ∀ u ∈ cs, u.oneCell' = true
  | [], cs, h => by unfold RCs at h; simp [h]
  | d :: ds, cs, h => by
    unfold RCs at h
    obtain ⟨c1, c2, h1, h2, h3⟩ := h
    subst h1
    intro u hu
    rcases List.mem_append.1 hu with hu | hu
    · exact RC.one d c1 h2 u hu
    · exact RCs.one ds c2 h3 u hu
end

theorem RCs.append {w : World} {S : Nat → Prop} {ds es : List D} {cs fs : List Value} (h : RCs w S ds cs) (k : RCs w S es fs) : RCs w S (ds ++ es) (cs ++ fs) := by
  induction ds generalizing cs with
  | nil => unfold RCs at h; subst h; simpa using k
  | cons d ds ih =>
    unfold RCs at h
    obtain ⟨c1, c2, rfl, h2, h3⟩ := h
    rw [List.cons_append, List.append_assoc]
    unfold RCs
    exact ⟨c1, _, rfl, h2, ih h3⟩

theorem RCs.get {w : World} {S : Nat → Prop} {ds : List D} {es : List Value} {z : Nat} (h : RCs w S ds es) (hz : ∀ d ∈ ds, d.size = z) {i : Nat} {d : D} (hd : ds[i]? = some d) :
    ∃ cs, RC w S d cs ∧ cs.length = z ∧ ∀ j u, cs[j]? = some u → es[i * z + j]? = some u := by
  induction ds generalizing es i with
  | nil => simp at hd
  | cons d0 ds ih =>
    unfold RCs at h
    obtain ⟨c1, c2, rfl, h2, h3⟩ := h
    have hl : c1.length = z := (RC.len d0 c1 h2).trans (hz d0 (by simp))
    rcases i with _ | i
    · simp only [List.getElem?_cons_zero, Option.some.injEq] at hd
      subst hd
      refine ⟨c1, h2, hl, fun j u hu => ?_⟩
      have hj := (List.getElem?_eq_some_iff.1 hu).1
      rw [Nat.zero_mul, Nat.zero_add, List.getElem?_append_left hj]
      exact hu
    · obtain ⟨cs, g1, g2, g3⟩ := ih h3 (fun d hd => hz d (by simp [hd])) (by simpa using hd)
      refine ⟨cs, g1, g2, fun j u hu => ?_⟩
      have : (i + 1) * z + j = c1.length + (i * z + j) := by rw [hl, Nat.add_mul]; omega
      rw [this, List.getElem?_append_right (by omega)]
      simpa using g3 j u hu

/- slices, as they are read -/
theorem RC.slice {w : World} {S : Nat → Prop} {e z : Nat} {ds : List D} {v : Value} (h : RC w S (.l e z ds) [v]) : ∃ A c, v = .slice A ds.length c ∧ ds.length ≤ c ∧ c ≤ maxLen ∧ ds.length ≤ M := by
  unfold RC at h
  obtain ⟨A, c, h1, h2, h3, h4, _⟩ := h
  exact ⟨A, c, by simpa using h1, h2, h3, h4⟩

theorem RC.at_ {w : World} {S : Nat → Prop} {e z : Nat} {ds : List D} {A : Option Addr} {n c : Nat} (h : RC w S (.l e z ds) [.slice A n c]) {i : Nat} {d : D} (hd : ds[i]? = some d) :
    ∃ b o cs, A = some ⟨b, o, none⟩ ∧ b < w.heap.size ∧ S b ∧ RC w S d cs ∧ cs.length = z ∧ ∀ j u, cs[j]? = some u → w.cell? ⟨b, o + (i * z + j), none⟩ = some u := by
  unfold RC at h
  obtain ⟨A', c', h1, h2, h3, h4, h5, h6⟩ := h
  simp only [List.cons.injEq, Value.slice.injEq, and_true] at h1
  obtain ⟨rfl, rfl, rfl⟩ := h1
  rcases h6 with rfl | ⟨b, o, es, h7, hb, h8, h9, h10⟩
  · simp at hd
  · obtain ⟨cs, g1, g2, g3⟩ := h9.get h5 hd
    exact ⟨b, o, cs, h7, hb, h8, g1, g2, fun j u hu => h10 _ u (g3 j u hu)⟩

theorem RC.nil {w : World} {S : Nat → Prop} {e z : Nat} : RC w S (.l e z []) [.slice none 0 0] := by
  unfold RC
  exact ⟨none, 0, rfl, Nat.le_refl _, Nat.zero_le _, Nat.zero_le _, by simp, .inl rfl⟩

/- the owned relation -/
theorem ownsRow.frame {w w' : World} {base e size n : Nat} {v : Value} {xs : List Value} (h : w.ownsRow base e size v n xs) (hw : ∀ k, v.ownBlock = some k → w'.heap[k]? = w.heap[k]?) : w'.ownsRow base e size v n xs := by
  obtain ⟨h1, h2⟩ := h
  refine ⟨h1, ?_⟩
  rcases h2 with h2 | ⟨g, cap, cur, h3, h4, h5, h6⟩
  · exact .inl h2
  · exact .inr ⟨g, cap, cur, h3, h4, (hw g (by rw [h3]; rfl)).trans h5, h6⟩

mutual
theorem RO.frame {w w' : World} {B : Nat} : (d : D) → (cs : List Value) → (L : List Nat) → (∀ k, k ∈ L → w'.heap[k]? = w.heap[k]?) → RO w B d cs L → RO w' B d cs L
  | .i n, cs, L, _, h => h
  | .b x, cs, L, _, h => h
  | .s ds, cs, L, hw, h => by
    unfold RO at h ⊢
    exact ROs.frame ds cs L hw h
  | .l e z ds, cs, L, hw, h => by
    unfold RO at h ⊢
    obtain ⟨v, es, Lr, h1, h2, h3, h4, h5, h6⟩ := h
    subst h6
    exact ⟨v, es, Lr, h1, h2, h3, ownsRow.frame h4 (fun k hk => hw k (by simp [hk])), ROs.frame ds es Lr (fun k hk => hw k (by simp [hk])) h5, rfl⟩
theorem ROs.frame {w w' : World} {B : Nat} : (ds : List D) → (cs : List Value) → (L : List Nat) → (∀ k, k ∈ L → w'.heap[k]? = w.heap[k]?) → ROs w B ds cs L → ROs w' B ds cs L
  | [], cs, L, _, h => h
  | d :: ds, cs, L, hw, h => by
    unfold ROs at h ⊢
    obtain ⟨c1, c2, L1, L2, h1, h2, h3, h4⟩ := h
    subst h2
    exact ⟨c1, c2, L1, L2, h1, rfl, RO.frame d c1 L1 (fun k hk => hw k (by simp [hk])) h3, ROs.frame ds c2 L2 (fun k hk => hw k (by simp [hk])) h4⟩
end

mutual
theorem RO.weaken {w : World} {B B' : Nat} : (d : D) → (cs : List Value) → (L : List Nat) → (∀ k, k ∈ L → B' ≤ k) → RO w B d cs L → RO w B' d cs L
  | .i n, cs, L, _, h => h
  | .b x, cs, L, _, h => h
  | .s ds, cs, L, hw, h => by
    unfold RO at h ⊢
    exact ROs.weaken ds cs L hw h
  | .l e z ds, cs, L, hw, h => by
    unfold RO at h ⊢
    obtain ⟨v, es, Lr, h1, h2, h3, h4, h5, h6⟩ := h
    subst h6
    refine ⟨v, es, Lr, h1, h2, h3, ⟨h4.1, ?_⟩, ROs.weaken ds es Lr (fun k hk => hw k (by simp [hk])) h5, rfl⟩
    rcases h4.2 with h | ⟨g, cap, cur, g1, g2, g3⟩
    · exact .inl h
    · exact .inr ⟨g, cap, cur, g1, hw g (by rw [g1]; simp [Value.ownBlock]), g3⟩
theorem ROs.weaken {w : World} {B B' : Nat} : (ds : List D) → (cs : List Value) → (L : List Nat) → (∀ k, k ∈ L → B' ≤ k) → ROs w B ds cs L → ROs w B' ds cs L
  | [], cs, L, _, h => h
  | d :: ds, cs, L, hw, h => by
    unfold ROs at h ⊢
    obtain ⟨c1, c2, L1, L2, h1, h2, h3, h4⟩ := h
    subst h2
    exact ⟨c1, c2, L1, L2, h1, rfl, RO.weaken d c1 L1 (fun k hk => hw k (by simp [hk])) h3, ROs.weaken ds c2 L2 (fun k hk => hw k (by simp [hk])) h4⟩
end

mutual
theorem RO.lt {w : World} {B : Nat} : (d : D) → (cs : List Value) → (L : List Nat) → RO w B d cs L → ∀ k ∈ L, B ≤ k ∧ k < w.heap.size
  | .i n, cs, L, h => by unfold RO at h; simp [h.2.2]
  | .b x, cs, L, h => by unfold RO at h; simp [h.2]
  | .s ds, cs, L, h => by
    unfold RO at h
    exact ROs.lt ds cs L h
  | .l e z ds, cs, L, h => by
    unfold RO at h
    obtain ⟨v, es, Lr, h1, h2, h3, h4, h5, h6⟩ := h
    subst h6
    intro k hk
    rcases List.mem_append.1 hk with hk | hk
    · exact h4.lt k (by simpa using hk)
    · exact ROs.lt ds es Lr h5 k hk
theorem ROs.lt {w : World} {B : Nat} : (ds : List D) → (cs : List Value) → (L : List Nat) → ROs w B ds cs L → ∀ k ∈ L, B ≤ k ∧ k < w.heap.size
  | [], cs, L, h => by unfold ROs at h; simp [h.2]
  | d :: ds, cs, L, h => by
    unfold ROs at h
    obtain ⟨c1, c2, L1, L2, h1, h2, h3, h4⟩ := h
    subst h2
    intro k hk
    rcases List.mem_append.1 hk with hk | hk
    · exact RO.lt d c1 L1 h3 k hk
    · exact ROs.lt ds c2 L2 h4 k hk
end

mutual
theorem RO.rc {w : World} {B : Nat} {S : Nat → Prop} : (d : D) → (cs : List Value) → (L : List Nat) → (∀ k ∈ L, S k) → RO w B d cs L → RC w S d cs
  | .i n, cs, L, _, h => by unfold RO at h; unfold RC; exact ⟨h.1, h.2.1⟩
  | .b x, cs, L, _, h => by unfold RO at h; unfold RC; exact h.1
  | .s ds, cs, L, hS, h => by
    unfold RO at h; unfold RC
    exact ROs.rc ds cs L hS h
  | .l e z ds, cs, L, hS, h => by
    unfold RO at h; unfold RC
    obtain ⟨v, es, Lr, h1, h2, h3, h4, h5, h6⟩ := h
    subst h6
    have hr := ROs.rc (S := S) ds es Lr (fun k hk => hS k (by simp [hk])) h5
    obtain ⟨hl, h4⟩ := h4
    rcases h4 with ⟨g1, g2⟩ | ⟨g, cap, cur, g1, g2, g3, g4, g5, g6, g7⟩
    · subst g1
      have hn : ds = [] := List.eq_nil_of_length_eq_zero g2
      subst hn
      exact ⟨none, 0, by rw [h1]; rfl, Nat.le_refl _, Nat.zero_le _, h2, h3, .inl rfl⟩
    · subst g1
      refine ⟨_, cap, h1, g4, g5, h2, h3, .inr ⟨g, 0, es, rfl, ?_, hS g (by simp [Value.ownBlock]), hr, fun j u hu => ?_⟩⟩
      · rcases Nat.lt_or_ge g w.heap.size with hlt | hge
        · exact hlt
        · rw [Array.getElem?_eq_none hge] at g3; cases g3
      · rw [Nat.zero_add, cell_of_row w g j cur e (0, 0) g3]
        rw [← g7] at hu
        have hj := (List.getElem?_eq_some_iff.1 hu).1
        rw [List.getElem?_take] at hu
        split at hu
        · simpa using hu
        · cases hu
theorem ROs.rc {w : World} {B : Nat} {S : Nat → Prop} : (ds : List D) → (cs : List Value) → (L : List Nat) → (∀ k ∈ L, S k) → ROs w B ds cs L → RCs w S ds cs
  | [], cs, L, _, h => by unfold ROs at h; unfold RCs; exact h.1
  | d :: ds, cs, L, hS, h => by
    unfold ROs at h; unfold RCs
    obtain ⟨c1, c2, L1, L2, h1, h2, h3, h4⟩ := h
    subst h2
    exact ⟨c1, c2, h1, RO.rc d c1 L1 (fun k hk => hS k (by simp [hk])) h3, ROs.rc ds c2 L2 (fun k hk => hS k (by simp [hk])) h4⟩
end

theorem ROs.append {w : World} {B : Nat} {ds es : List D} {cs fs : List Value} {L K : List Nat} (h : ROs w B ds cs L) (k : ROs w B es fs K) : ROs w B (ds ++ es) (cs ++ fs) (L ++ K) := by
  induction ds generalizing cs L with
  | nil => unfold ROs at h; obtain ⟨rfl, rfl⟩ := h; simpa using k
  | cons d ds ih =>
    unfold ROs at h
    obtain ⟨c1, c2, L1, L2, rfl, rfl, h2, h3⟩ := h
    rw [List.cons_append, List.append_assoc, List.append_assoc]
    unfold ROs
    exact ⟨c1, _, L1, _, rfl, rfl, h2, ih h3⟩
theorem ROs.single {w : World} {B : Nat} {d : D} {cs : List Value} {L : List Nat} (h : RO w B d cs L) : ROs w B [d] cs L := by
  unfold ROs
  exact ⟨cs, [], L, [], by simp, by simp, h, by unfold ROs; exact ⟨rfl, rfl⟩⟩
theorem RCs.single {w : World} {S : Nat → Prop} {d : D} {cs : List Value} (h : RC w S d cs) : RCs w S [d] cs := by
  unfold RCs
  exact ⟨cs, [], by simp, h, by unfold RCs; rfl⟩
theorem RO.nil {w : World} {B e z : Nat} : RO w B (.l e z []) [.slice none 0 0] [] := by
  unfold RO
  exact ⟨_, [], [], rfl, by unfold M; simp, by simp, World.ownsRow_nil _ _ _ _, by unfold ROs; exact ⟨rfl, rfl⟩, rfl⟩
theorem RO.len {w : World} {B : Nat} {d : D} {cs : List Value} {L : List Nat} (h : RO w B d cs L) : cs.length = d.size := RC.len d cs (RO.rc (S := fun _ => True) d cs L (fun _ _ => trivial) h)
theorem ROs.len {w : World} {B : Nat} {ds : List D} {cs : List Value} {L : List Nat} (h : ROs w B ds cs L) : cs.length = D.sizes ds := RCs.len ds cs (ROs.rc (S := fun _ => True) ds cs L (fun _ _ => trivial) h)
theorem RO.one {w : World} {B : Nat} {d : D} {cs : List Value} {L : List Nat} (h : RO w B d cs L) : ∀ u ∈ cs, u.oneCell' = true := RC.one d cs (RO.rc (S := fun _ => True) d cs L (fun _ _ => trivial) h)
theorem ROs.one {w : World} {B : Nat} {ds : List D} {cs : List Value} {L : List Nat} (h : ROs w B ds cs L) : ∀ u ∈ cs, u.oneCell' = true := RCs.one ds cs (ROs.rc (S := fun _ => True) ds cs L (fun _ _ => trivial) h)
theorem D.sizes_eq {ds : List D} {z : Nat} (h : ∀ d ∈ ds, d.size = z) : D.sizes ds = ds.length * z := by
  induction ds with
  | nil => simp [D.sizes]
  | cons d ds ih => rw [D.sizes, ih (fun d hd => h d (by simp [hd])), h d (by simp), List.length_cons, Nat.add_mul]; omega

def SlT (P : Program) (t e z : Nat) : Prop := P.underlying t = some (.slice e) ∧ ∃ i zv, P.info? e = some i ∧ i.zero = some zv ∧ i.size = z ∧ zv.cells.size = z ∧ 0 < z ∧ i.bytes ≤ 1024
theorem SlT.of {P : Program} {t e z bytes : Nat} {zv : Value} (h1 : P.underlying t = some (.slice e)) (h2 : (P.info? e).map (fun i => (i.zero, i.size, i.bytes)) = some (some zv, z, bytes)) (h3 : zv.cells.size = z) (h4 : 0 < z) (h5 : bytes ≤ 1024) : SlT P t e z := by
  obtain ⟨i, g1, g2, g3, g4⟩ := info_parts h2
  exact ⟨h1, i, zv, g1, g2, g3, h3, h4, by omega⟩

section
variable {P : Program} {w : World} {ops : Array Oper} {rest : List Oper} {o : Oper} {a : Act} {Q : Exit → Act → World → Prop}
theorem wp_pushO (s x : Operand) (t : TypeId) (ho : o.op = .call { callee := .builtin .append, args := #[s, x], argTypes := #[t, t] }) {e z : Nat} (hT : SlT P t e z)
    {B : Nat} {ds ds' : List D} {v : Value} {L L' : List Nat} {cs : List Value} {g m c : Nat}
    (hs : a.eval s = v) (hx : a.eval x = .slice (some ⟨g, 0, none⟩) m c) (hown : RO w B (.l e z ds) [v] L) (hnew : ROs w B ds' cs L') (hz : ∀ d ∈ ds', d.size = z) (hm : m = ds'.length)
    (hcell : ∀ j u, cs[j]? = some u → w.cell? ⟨g, j, none⟩ = some u) (hnd : (L ++ L').Nodup) (hM : ds.length + ds'.length ≤ M) (hB : B ≤ w.heap.size) {K : Act → World → Prop}
    (h : ∀ v' w' L2, RO w' B (.l e z (ds ++ ds')) [v'] L2 → L2.Nodup → (∀ k ∈ L2, k ∈ L ∨ k ∈ L' ∨ k = w.heap.size) → w.grownBy w' v.ownBlock → K (a.put o.dst v') w') : o.wp P a w K Q := by
  obtain ⟨ht, i, zv, hi, hzv, hsz, hzs, hz0, hby⟩ := hT
  unfold RO at hown
  obtain ⟨v1, es, Lr, h1, h2, h3, h4, h5, h6⟩ := hown
  obtain rfl : v = v1 := by simpa using h1
  subst h6 hm
  have hlen : cs.length = ds'.length * z := by rw [hnew.len, D.sizes_eq hz]
  have hb : (ds.length + ds'.length) * i.bytes ≤ 140737488355328 := by
    have : (ds.length + ds'.length) * i.bytes ≤ M * 1024 := Nat.mul_le_mul hM hby
    unfold M at this
    omega
  obtain ⟨v', w', hrun, r1, r2, _, r4⟩ := run_append_own_at (P := P) w B t o.type e i zv z i.bytes ht hi hzv hsz rfl hzs hz0 v ds.length es h4 ⟨g, 0, none⟩ ds'.length c cs hlen
    (fun j u hu => by rw [Addr.add_lit, Nat.zero_add]; exact hcell j u hu) hnew.one (by unfold M at hM; unfold maxLen; omega) hb hB
  have hlt1 : ∀ k ∈ Lr ++ L', k < w.heap.size ∧ some k ≠ v.ownBlock := by
    intro k hk
    have hne : some k ≠ v.ownBlock := by
      intro e
      have hin : k ∈ v.ownBlock.toList := by simp [← e]
      rw [List.append_assoc] at hnd
      exact (List.nodup_append.1 hnd).2.2 k hin k hk rfl
    rcases List.mem_append.1 hk with hk | hk
    · exact ⟨(ROs.lt ds es Lr h5 k hk).2, hne⟩
    · exact ⟨(ROs.lt ds' cs L' hnew k hk).2, hne⟩
  have hfr : ∀ k, k ∈ Lr ++ L' → w'.heap[k]? = w.heap[k]? := fun k hk => r2.block k (hlt1 k hk).1 (hlt1 k hk).2
  have hro : RO w' B (.l e z (ds ++ ds')) [v'] (v'.ownBlock.toList ++ (Lr ++ L')) := by
    unfold RO
    refine ⟨v', es ++ cs, Lr ++ L', rfl, by simpa using hM, ?_, by simpa using r1, ?_, rfl⟩
    · intro d hd
      rcases List.mem_append.1 hd with hd | hd
      · exact h3 d hd
      · exact hz d hd
    · exact (h5.append hnew).frame _ _ _ hfr
  have hn2 : (v'.ownBlock.toList ++ (Lr ++ L')).Nodup := by
    rw [List.append_assoc] at hnd
    refine List.nodup_append.2 ⟨by cases v'.ownBlock <;> simp, (List.nodup_append.1 hnd).2.1, ?_⟩
    intro x hx y hy e
    subst e
    rcases r4 with r4 | r4
    · rw [r4] at hx
      exact (List.nodup_append.1 hnd).2.2 x hx x hy rfl
    · rw [r4] at hx
      have : x = w.heap.size := by simpa using hx
      have := (hlt1 x hy).1
      omega
  have := h v' w' _ hro hn2 (by
    intro k hk
    simp only [List.mem_append] at hk ⊢
    rcases hk with hk | hk | hk
    · rcases r4 with r4 | r4
      · rw [r4] at hk; exact .inl (.inl hk)
      · rw [r4] at hk; exact .inr (.inr (by simpa using hk))
    · exact .inl (.inr hk)
    · exact .inr (.inl hk)) r2
  unfold Oper.wp execOp
  simp only [ho, resolve, invoke, builtin, Sem.run_bind, Sem.run_pure, Result.andThen_ok, List.map_toArray, List.map_cons, List.map_nil, hs, hx, hrun]
  exact this

def RG (w : World) (B : Nat) (S : Nat → Prop) (e z : Nat) (ds : List D) (v : Value) : Prop :=
  ds.length ≤ M ∧ (∀ d ∈ ds, d.size = z) ∧ ∃ es, w.ownsRow B e z v ds.length es ∧ RCs w (fun k => S k ∧ some k ≠ v.ownBlock) ds es

theorem wp_pushC (s x : Operand) (t : TypeId) (ho : o.op = .call { callee := .builtin .append, args := #[s, x], argTypes := #[t, t] }) {e z : Nat} (hT : SlT P t e z)
    {B : Nat} {S : Nat → Prop} {ds ds' : List D} {v : Value} {cs : List Value} {ad : Addr} {m c : Nat}
    (hs : a.eval s = v) (hx : a.eval x = .slice (some ad) m c) (hown : RG w B S e z ds v) (hnew : RCs w (fun k => S k ∧ some k ≠ v.ownBlock) ds' cs) (hz : ∀ d ∈ ds', d.size = z) (hm : m = ds'.length)
    (hcell : ∀ j u, cs[j]? = some u → w.cell? (ad.add j) = some u) (hM : ds.length + ds'.length ≤ M) (hB : B ≤ w.heap.size) {K : Act → World → Prop}
    (h : ∀ v' w', RG w' B S e z (ds ++ ds') v' → w.grownBy w' v.ownBlock → (v'.ownBlock = v.ownBlock ∨ v'.ownBlock = some w.heap.size) → K (a.put o.dst v') w') : o.wp P a w K Q := by
  obtain ⟨ht, i, zv, hi, hzv, hsz, hzs, hz0, hby⟩ := hT
  obtain ⟨h2, h3, es, h4, h5⟩ := hown
  subst hm
  have hlen : cs.length = ds'.length * z := by rw [RCs.len _ _ hnew, D.sizes_eq hz]
  have hb : (ds.length + ds'.length) * i.bytes ≤ 140737488355328 := by
    have : (ds.length + ds'.length) * i.bytes ≤ M * 1024 := Nat.mul_le_mul hM hby
    unfold M at this
    omega
  obtain ⟨v', w', hrun, r1, r2, _, r4⟩ := run_append_own_at (P := P) w B t o.type e i zv z i.bytes ht hi hzv hsz rfl hzs hz0 v ds.length es h4 ad ds'.length c cs hlen
    hcell (RCs.one _ _ hnew) (by unfold M at hM; unfold maxLen; omega) hb hB
  have hall := h5.append hnew
  have hfr : RCs w' (fun k => S k ∧ some k ≠ v'.ownBlock) (ds ++ ds') (es ++ cs) := by
    refine RCs.frame (S := fun k => S k ∧ some k ≠ v.ownBlock) r2.size ?_ (fun k hk hS => r2.block k hk hS.2) _ _ hall
    intro k hk hS
    refine ⟨hS.1, fun e => ?_⟩
    rcases r4 with r4 | r4
    · rw [r4] at e; exact hS.2 e
    · rw [r4] at e
      have : k = w.heap.size := by simpa using e
      omega
  have := h v' w' ⟨by simpa using hM, by
      intro d hd
      rcases List.mem_append.1 hd with hd | hd
      · exact h3 d hd
      · exact hz d hd, es ++ cs, by simpa using r1, hfr⟩ r2 r4
  unfold Oper.wp execOp
  simp only [ho, resolve, invoke, builtin, Sem.run_bind, Sem.run_pure, Result.andThen_ok, List.map_toArray, List.map_cons, List.map_nil, hs, hx, hrun]
  exact this

theorem wpList_pushC (hgd : o.guard = none) (s x : Operand) (t : TypeId) (ho : o.op = .call { callee := .builtin .append, args := #[s, x], argTypes := #[t, t] }) {e z : Nat} (hT : SlT P t e z)
    {B : Nat} {S : Nat → Prop} {ds ds' : List D} {v : Value} {cs : List Value} {ad : Addr} {m c : Nat}
    (hs : a.eval s = v) (hx : a.eval x = .slice (some ad) m c) (hown : RG w B S e z ds v) (hnew : RCs w (fun k => S k ∧ some k ≠ v.ownBlock) ds' cs) (hz : ∀ d ∈ ds', d.size = z) (hm : m = ds'.length)
    (hcell : ∀ j u, cs[j]? = some u → w.cell? (ad.add j) = some u) (hM : ds.length + ds'.length ≤ M) (hB : B ≤ w.heap.size)
    (h : ∀ v' w', RG w' B S e z (ds ++ ds') v' → w.grownBy w' v.ownBlock → (v'.ownBlock = v.ownBlock ∨ v'.ownBlock = some w.heap.size) → wpList P ops Q rest (a.put o.dst v') w') : wpList P ops Q (o :: rest) a w :=
  wpList_plain hgd fun _ hK => wp_pushC s x t ho hT hs hx hown hnew hz hm hcell hM hB fun v' w' h1 h2 h3 => hK _ _ (h v' w' h1 h2 h3)
end
theorem RG.nil {w : World} {B : Nat} {S : Nat → Prop} {e z : Nat} : RG w B S e z [] (.slice none 0 0) := ⟨by unfold M; simp, by simp, [], World.ownsRow_nil _ _ _ _, by unfold RCs; rfl⟩
end Go.Proofs.YtmedomglemllnaaGreatDoor
