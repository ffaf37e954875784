/- The plain law of CarryApart: the constants of a declaration's names lie apart, from its base on, below the next one's. No program in sight. No statement of the seat is proved here. -/
import Derived.Test.YteelplgdojjakaaDoorCarrySpec
import Derived.Test.YteelplgdojjakaaDoorRead
namespace Go.Proofs.YteelplgdojjakaaDoor
set_option linter.unusedSimpArgs false
set_option linter.unusedVariables false
open Go.RowKit

def cntN (d : Dc) : Nat := if d.kind = 1 ∨ d.kind = 2 then 1 else if d.kind = 3 then 6 + 2 * d.members.length + 2 * d.ctors.length else 0
theorem countD_nat (d : Dc) : countD d = (cntN d : Int) := by
  unfold countD cntN
  split
  · rfl
  · split
    · push_cast; rfl
    · rfl
def baseN (ds : List Dc) (k : Nat) : Nat := (ds.take k).foldl (fun n d => n + cntN d) 0
theorem baseN_zero (ds : List Dc) : baseN ds 0 = 0 := by simp [baseN]
theorem baseN_succ {ds : List Dc} {k : Nat} (hk : k < ds.length) : baseN ds (k + 1) = baseN ds k + cntN ds[k] := by
  unfold baseN
  rw [List.take_succ_eq_append_getElem hk, List.foldl_append]
  rfl
theorem cntN_bulk (d : Dc) : cntN d ≤ 8 * d.d.bulk := by
  have h1 := D.len_bulks (d.members.map Mb.d)
  have h2 := D.len_bulks (d.ctors.map Ct.d)
  have h3 : D.bulks (d.members.map Mb.d) + D.bulks (d.ctors.map Ct.d) + 1 ≤ d.d.bulk := by
    simp only [Dc.d, D.bulk, D.bulks]
    omega
  simp only [List.length_map] at h1 h2
  unfold cntN
  split
  · omega
  · split <;> omega
theorem foldl_shift (ds : List Dc) : ∀ n, ds.foldl (fun n d => n + cntN d) n = n + ds.foldl (fun n d => n + cntN d) 0 := by
  induction ds with
  | nil => intro n; simp
  | cons d ds ih => intro n; simp only [List.foldl_cons]; rw [ih, ih (0 + cntN d)]; omega
theorem fold_bulk (ds : List Dc) : ds.foldl (fun n d => n + cntN d) 0 ≤ 8 * D.bulks (ds.map Dc.d) := by
  induction ds with
  | nil => simp
  | cons d ds ih =>
    simp only [List.foldl_cons, List.map_cons, D.bulks]
    rw [foldl_shift]
    have := cntN_bulk d
    omega
theorem bulks_take (ds : List D) (k : Nat) : D.bulks (ds.take k) ≤ D.bulks ds := by
  have : D.bulks (ds.take k ++ ds.drop k) = D.bulks ds := by rw [List.take_append_drop]
  rw [D.bulks_append] at this
  omega
theorem baseN_bulk (ds : List Dc) (k : Nat) : baseN ds k ≤ 8 * D.bulks (ds.map Dc.d) := by
  have h := fold_bulk (ds.take k)
  rw [List.map_take] at h
  have := bulks_take (ds.map Dc.d) k
  unfold baseN
  omega
theorem baseD_nat {ds : List Dc} (hb : D.bulks (ds.map Dc.d) ≤ 1048576) : ∀ k ≤ ds.length, baseD ds k = (baseN ds k : Int)
  | 0, _ => by rw [baseD_zero, baseN_zero]; rfl
  | k + 1, hk => by
    have h := baseN_bulk ds (k + 1)
    rw [baseD_succ (by omega), baseD_nat hb k (by omega), countD_nat]
    rw [baseN_succ (by omega)] at h ⊢
    unfold wrap64
    omega
theorem baseN_le {ds : List Dc} {k : Nat} (hk : k < ds.length) : baseN ds k + cntN ds[k] ≤ baseN ds ds.length := by
  rw [← baseN_succ hk]
  have key : ∀ n m, n ≤ m → m ≤ ds.length → baseN ds n ≤ baseN ds m := by
    intro n m h
    induction h with
    | refl => intro _; exact Nat.le_refl _
    | step h ih => intro hm; have := ih (by omega); rw [Nat.succ_eq_add_one, baseN_succ (by omega)]; omega
  exact key _ _ (by omega) (Nat.le_refl _)

/-- How many names a declaration has; each of them; its place among the constants. -/
def nNames (d : Dc) : Nat := if d.kind = 3 then 2 * d.members.length + d.ctors.length else if d.kind = 1 ∨ d.kind = 2 then 1 else 0
def nameAt (i : Nat) (d : Dc) (j : Nat) : Tm := if d.kind = 3 then (if j < 2 * d.members.length then (if j % 2 = 0 then .mk 8 i ((j / 2 : Nat) : Int) [] [] else .mk 10 i ((j / 2 : Nat) : Int) [] []) else .mk 9 i ((j - 2 * d.members.length : Nat) : Int) [] []) else .mk 3 i 0 [] []
def offAt (d : Dc) (j : Nat) : Nat := if d.kind = 3 then (if j < 2 * d.members.length then (if j % 2 = 0 then 5 + j / 2 else 6 + d.members.length + d.ctors.length + j / 2) else 5 + d.members.length + (j - 2 * d.members.length)) else 0
theorem offAt_lt {d : Dc} {j : Nat} (h : j < nNames d) : offAt d j < cntN d := by
  by_cases h3 : d.kind = 3
  · have h12 : ¬ (d.kind = 1 ∨ d.kind = 2) := by omega
    simp only [nNames, if_pos h3] at h
    simp only [offAt, cntN, if_pos h3, if_neg h12]
    split
    · split <;> omega
    · omega
  · by_cases h12 : d.kind = 1 ∨ d.kind = 2
    · simp only [offAt, cntN, if_neg h3, if_pos h12]; omega
    · simp only [nNames, if_neg h3, if_neg h12] at h; omega
theorem offAt_inj {d : Dc} {j k : Nat} (hj : j < nNames d) (hk : k < nNames d) (h : offAt d j = offAt d k) : j = k := by
  by_cases h3 : d.kind = 3
  · simp only [nNames, if_pos h3] at hj hk
    simp only [offAt, if_pos h3] at h
    (repeat' split at h) <;> omega
  · by_cases h12 : d.kind = 1 ∨ d.kind = 2
    · simp only [nNames, if_neg h3, if_pos h12] at hj hk; omega
    · simp only [nNames, if_neg h3, if_neg h12] at hj; omega
theorem ws {n : Int} (h0 : 0 ≤ n) (h1 : n < 1000000000) : wrap64 n = n := by unfold wrap64; omega
/-- A name that is there has its constant. -/
theorem name_const {ds : List Dc} (hb : D.bulks (ds.map Dc.d) ≤ 1048576) {i j : Nat} (hi : i < ds.length) (hj : j < nNames ds[i]) : carryT ds (atL ds) (nameAt i ds[i] j) = .mk 3 ((baseN ds i + offAt ds[i] j : Nat) : Int) 0 [] [] := by
  have hB := baseN_bulk ds i
  have hC := cntN_bulk ds[i]
  have hm : ds[i].d.bulk ≤ D.bulks (ds.map Dc.d) := D.mem_bulks (List.mem_map_of_mem (List.getElem_mem hi))
  have e1 : (if (0 : Int) ≤ (i : Int) then ds[(i : Int).toNat]? else none) = some ds[i] := by simp [hi]
  have e2 : (if (0 : Int) ≤ (i : Int) then (atL ds)[(i : Int).toNat]? else none) = some (baseN ds i : Int) := by
    rw [← baseD_nat hb i (by omega)]
    simp [atL, hi]
  have key : ∀ k a, nameOf ds (atL ds) k i a = some ((baseN ds i + offAt ds[i] j : Nat) : Int) → carryT ds (atL ds) (.mk k i a [] []) = .mk 3 ((baseN ds i + offAt ds[i] j : Nat) : Int) 0 [] [] := fun k a h => by
    rw [carryT, h]; rfl
  have hcnt : cntN ds[i] = if ds[i].kind = 1 ∨ ds[i].kind = 2 then 1 else if ds[i].kind = 3 then 6 + 2 * ds[i].members.length + 2 * ds[i].ctors.length else 0 := rfl
  unfold nNames at hj
  unfold nameAt
  generalize hd : ds[i] = d at *
  generalize hbase : baseN ds i = B at *
  by_cases h3 : d.kind = 3
  · rw [if_pos h3] at hj ⊢
    rw [if_neg (by omega), if_pos h3] at hcnt
    generalize hM : d.members.length = M at *
    generalize hK : d.ctors.length = K at *
    by_cases h1 : j < 2 * M
    · rw [if_pos h1]
      by_cases h2 : j % 2 = 0
      · rw [if_pos h2]
        refine key _ _ ?_
        unfold nameOf
        rw [e1, e2]
        dsimp only
        rw [if_neg (by omega), if_pos ⟨h3, by omega⟩, if_pos rfl, hM, if_pos (by omega), ws (n := (B : Int) + 5) (by omega) (by omega), ws (by omega) (by omega)]
        simp only [offAt, h3, hM, h1, h2, if_true]
        congr 1
        omega
      · rw [if_neg h2]
        refine key _ _ ?_
        unfold nameOf
        rw [e1, e2]
        dsimp only
        rw [if_neg (by omega), if_pos ⟨h3, by omega⟩, if_neg (by omega), if_neg (by omega), if_pos rfl, hM, hK, if_pos (by omega), ws (n := (B : Int) + 6) (by omega) (by omega), ws (n := (B : Int) + 6 + M) (by omega) (by omega), ws (n := (B : Int) + 6 + M + K) (by omega) (by omega), ws (by omega) (by omega)]
        simp only [offAt, h3, hM, hK, h1, h2, if_true, if_false]
        congr 1
        omega
    · rw [if_neg h1]
      refine key _ _ ?_
      unfold nameOf
      rw [e1, e2]
      dsimp only
      rw [if_neg (by omega), if_pos ⟨h3, by omega⟩, if_neg (by omega), if_pos rfl, hM, hK, if_pos (by omega), ws (n := (B : Int) + 5) (by omega) (by omega), ws (n := (B : Int) + 5 + M) (by omega) (by omega), ws (by omega) (by omega)]
      simp only [offAt, h3, hM, h1, if_true, if_false]
      congr 1
      omega
  · rw [if_neg h3] at hj ⊢
    refine key _ _ ?_
    unfold nameOf
    rw [e1, e2]
    have h12 : d.kind = 1 ∨ d.kind = 2 := by
      rcases Classical.em (d.kind = 1 ∨ d.kind = 2) with h | h
      · exact h
      · rw [if_neg h] at hj; omega
    simp only [h12, if_true, offAt, h3, if_false, Nat.add_zero]
/-- Which places are marked. -/
def Used (bs : List Bool) (b : Nat) (d : Dc) (k : Nat) : Prop := ∀ x, bs[x]? = some true → x < b ∨ ∃ j, j < k ∧ x = b + offAt d j
theorem Used.free {bs : List Bool} {b k : Nat} {d : Dc} (h : Used bs b d k) (hk : k < nNames d) (hl : b + offAt d k < bs.length) : bs[b + offAt d k]? = some false := by
  cases hq : bs[b + offAt d k]? with
  | none => rw [List.getElem?_eq_none_iff] at hq; omega
  | some q =>
    cases q
    · rfl
    · rcases h _ hq with h | ⟨j, hj, h⟩
      · omega
      · have := offAt_inj (Nat.lt_trans hj hk) hk (by omega)
        omega
theorem Used.mark {bs : List Bool} {b k : Nat} {d : Dc} (h : Used bs b d k) : Used (bs.set (b + offAt d k) true) b d (k + 1) := by
  intro x hx
  by_cases e : b + offAt d k = x
  · exact .inr ⟨k, by omega, e.symm⟩
  · rw [List.getElem?_set_ne e] at hx
    rcases h x hx with h | ⟨j, hj, h⟩
    · exact .inl h
    · exact .inr ⟨j, by omega, h⟩
theorem Used.next {bs : List Bool} {b : Nat} {d d' : Dc} (h : Used bs b d (nNames d)) : Used bs (b + cntN d) d' 0 := by
  intro x hx
  rcases h x hx with h | ⟨j, hj, h⟩
  · exact .inl (by omega)
  · have := offAt_lt hj
    exact .inl (by omega)
theorem Used.none {n b : Nat} {d : Dc} : Used (List.replicate n false) b d 0 := by
  intro x hx
  rw [List.getElem?_replicate] at hx
  split at hx <;> simp at hx
end Go.Proofs.YteelplgdojjakaaDoor
