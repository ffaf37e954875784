/- What layer 21 (carry) computes, as plain Lean on data: how many constants a declaration has, the bases, a name's constant, terms carried over. No statement of the seat is proved here. -/
import Derived.Test.YteelplgdojjakaaDoorLift
namespace Go.Proofs.YteelplgdojjakaaDoor
set_option linter.unusedSimpArgs false
set_option linter.unusedVariables false
open Go.RowKit

/-- How many constants a declaration has. -/
def countD (d : Dc) : Int := if d.kind = 1 ∨ d.kind = 2 then 1 else if d.kind = 3 then 6 + 2 * (d.members.length : Int) + 2 * (d.ctors.length : Int) else 0
/-- The base of the declaration k. -/
def baseD (ds : List Dc) (k : Nat) : Int := (ds.take k).foldl (fun n d => wrap64 (n + countD d)) 0
theorem baseD_zero (ds : List Dc) : baseD ds 0 = 0 := by simp [baseD]
theorem baseD_succ {ds : List Dc} {k : Nat} (hk : k < ds.length) : baseD ds (k + 1) = wrap64 (baseD ds k + countD ds[k]) := by
  unfold baseD
  rw [List.take_succ_eq_append_getElem hk, List.foldl_append]
  rfl
theorem baseD_inI (ds : List Dc) (k : Nat) : inI (baseD ds k) := by
  unfold baseD
  rcases List.eq_nil_or_concat (ds.take k) with h | ⟨l, d, h⟩
  · rw [h]; simp [inI]
  · rw [h, List.concat_eq_append, List.foldl_append]; exact wrap64_inI _
/-- The bases. -/
def atL (ds : List Dc) : List Int := (List.range ds.length).map (baseD ds)
theorem atL_len (ds : List Dc) : (atL ds).length = ds.length := by simp [atL]
theorem atL_take {ds : List Dc} {k : Nat} (hk : k < ds.length) : ((atL ds).take (k + 1)).map D.i = ((atL ds).take k).map D.i ++ [D.i (baseD ds k)] := by
  have hk' : k < (atL ds).length := by rw [atL_len]; exact hk
  rw [take_map D.i hk']
  simp [atL]

/-- The constant of a name. -/
def nameOf (ds : List Dc) (at_ : List Int) (k n a : Int) : Option Int :=
  match (if 0 ≤ n then ds[n.toNat]? else none), (if 0 ≤ n then at_[n.toNat]? else none) with
  | some d, some b =>
    if k = 3 then (if d.kind = 1 ∨ d.kind = 2 then some b else none)
    else if d.kind = 3 ∧ 0 ≤ a then
      if k = 8 then (if a < d.members.length then some (wrap64 (wrap64 (b + 5) + a)) else none)
      else if k = 9 then (if a < d.ctors.length then some (wrap64 (wrap64 (wrap64 (b + 5) + d.members.length) + a)) else none)
      else if k = 10 then (if a < d.members.length then some (wrap64 (wrap64 (wrap64 (wrap64 (b + 6) + d.members.length) + d.ctors.length) + a)) else none)
      else none
    else none
  | _, _ => none

mutual
/-- A term carried over. -/
def carryT (ds : List Dc) (at_ : List Int) : Tm → Tm
  | .mk k n a ls ks => match nameOf ds at_ k n a with
    | some c => .mk 3 c 0 ls (carryTs ds at_ ks)
    | none => .mk k n a ls (carryTs ds at_ ks)
def carryTs (ds : List Dc) (at_ : List Int) : List Tm → List Tm
  | [] => []
  | t :: ts => carryT ds at_ t :: carryTs ds at_ ts
end
theorem carryTs_eq (ds : List Dc) (at_ : List Int) (ts : List Tm) : carryTs ds at_ ts = ts.map (carryT ds at_) := by
  induction ts with
  | nil => rfl
  | cons t ts ih => rw [carryTs, ih, List.map_cons]
theorem lift00 {k n a : Int} {ls : List Lv} (hn : inI n) : liftT (.mk k n a ls []) 0 0 = .mk k n a ls [] := by
  have e : wrap64 (n + 0) = n := by rw [Int.add_zero]; unfold inI at hn; unfold wrap64; omega
  simp only [liftT, walkT, liftF, walkTs, Tm.k_mk, Tm.n_mk, Tm.a_mk, Tm.ls_mk, e, ite_self]
end Go.Proofs.YteelplgdojjakaaDoor
