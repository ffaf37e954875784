/- The reference of layer 2 (term): contracts. -/
import Derived.Test.YtmedomglemllnaaGreatDoorMgTele3
import Derived.Deep.DeepCutAuto
import Derived.Test.YtmedomglemllnaaGreatDoorFree
import Derived.Test.YtmedomglemllnaaGreatDoorMgSelf
import Derived.Test.YtmedomglemllnaaGreatDoorMgSplitSpec
import Derived.Test.YtmedomglemllnaaGreatDoorMgBack
namespace Go.Proofs.YtmedomglemllnaaGreatDoor
set_option linter.unusedSimpArgs false
set_option linter.unusedVariables false
open Go.RowKit

theorem Acc.parts {w wr : World} {S : Nat → Prop} {e : Nat} {xs : List (Int × Int)} {v : Value} (h : RG wr w.heap.size S e 2 (xs.map ptD) v) : Acc w wr e 2 (xs.map ptD) v := ⟨_, h.parts, opt_nodup _⟩
theorem Acc.old {w W w' : World} {e z : Nat} {ds : List D} {v : Value} (h : Acc W w' e z ds v) (hw : Ext no w W) : Acc w w' e z ds v := by
  obtain ⟨L, h1, h2⟩ := h
  exact ⟨L, h1.ge hw.size, h2⟩
end Go.Proofs.YtmedomglemllnaaGreatDoor
/- References 02, 04, 12: free, Count, Self, some: contracts. No statement of the seat is proved here. -/
namespace Go.Proofs.YtmedomglemllnaaGreatDoor
set_option linter.unusedSimpArgs false
set_option linter.unusedVariables false
open Go.RowKit

end Go.Proofs.YtmedomglemllnaaGreatDoor
/- Reference 04: Count, Open, Spine: contracts. No statement of the seat is proved here. -/
namespace Go.Proofs.YtmedomglemllnaaGreatDoor
set_option linter.unusedSimpArgs false
set_option linter.unusedVariables false
open Go.RowKit

end Go.Proofs.YtmedomglemllnaaGreatDoor
/- Reference 04: Open: contract. No statement of the seat is proved here. -/
namespace Go.Proofs.YtmedomglemllnaaGreatDoor
set_option linter.unusedSimpArgs false
set_option linter.unusedVariables false
open Go.RowKit

theorem openAll_step {u : Tm} (h4 : u.k = 4) (h2 : u.ks.length = 2) : openAll u = ((u.ks[0]'(by omega)) :: (openAll (u.ks[1]'(by omega))).1, (openAll (u.ks[1]'(by omega))).2) := by
  have h := openAll_eq u
  rw [countT_step h4 h2, openT_step h4 h2, openAll_eq] at h
  simpa using h.symm
theorem openAll_stop {u : Tm} (h : countT u = 0) : openAll u = ([], u) := by
  have h1 := openAll_eq u
  rw [h, openT] at h1
  simpa using h1.symm
end Go.Proofs.YtmedomglemllnaaGreatDoor
/- Reference 04: Spine: contract. No statement of the seat is proved here. -/
namespace Go.Proofs.YtmedomglemllnaaGreatDoor
set_option linter.unusedSimpArgs false
set_option linter.unusedVariables false
open Go.RowKit

theorem spineR_step {t : Tm} (h6 : t.k = 6) (h2 : t.ks.length = 2) : spineT t = ((spineT (t.ks[0]'(by omega))).1, (spineT (t.ks[0]'(by omega))).2 ++ [t.ks[1]'(by omega)]) := by
  obtain ⟨k, n, a, ls, x, y, rfl⟩ := Tm.two h2
  simp only [Tm.k_mk] at h6
  rw [spineT, if_pos h6]
  rfl
theorem spineR_stop {t : Tm} (h : ¬ (t.k = 6 ∧ t.ks.length = 2)) : spineT t = (t, []) := by
  obtain ⟨k, n, a, ls, ks⟩ := t
  match ks with
  | [] => simp [spineT]
  | [_] => simp [spineT]
  | [x, y] =>
    rw [spineT, if_neg]
    intro e
    exact h ⟨e, rfl⟩
  | _ :: _ :: _ :: _ => simp [spineT]
end Go.Proofs.YtmedomglemllnaaGreatDoor
