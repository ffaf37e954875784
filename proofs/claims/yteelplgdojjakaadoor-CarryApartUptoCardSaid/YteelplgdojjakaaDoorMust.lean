/- carry.must and the library's search in a row of truths: contracts. -/
import Derived.Test.YteelplgdojjakaaDoorLift
import Derived.BigQuiet
namespace Go.Proofs.YteelplgdojjakaaDoor
set_option linter.unusedSimpArgs false
set_option linter.unusedVariables false
open Go.RowKit

/-- The truth at k of a row, in memory. -/
theorem RC.atB {w : World} {S : Nat → Prop} {xs : List Bool} {A : Option Addr} {n c k : Nat} (h : RC w S (.l 4 1 (xs.map D.b)) [.slice A n c]) (hk : k < xs.length) :
    ∃ b o, A = some ⟨b, o, none⟩ ∧ b < w.heap.size ∧ S b ∧ w.cell? ⟨b, o + k, none⟩ = some (.bool xs[k]) := by
  obtain ⟨b, o, cs, rfl, hb, hS, hrc, hl, hcell⟩ := h.at_ (i := k) (d := D.b xs[k]) (by simp [hk])
  unfold RC at hrc
  subst hrc
  exact ⟨b, o, rfl, hb, hS, by simpa using hcell 0 _ rfl⟩
/-- A block of truths, as a row. -/
theorem Blk.truths {w : World} {g t : Nat} {bs : List Bool} {n : Nat} (h : Blk w g t (bs.map Value.bool).toArray) (hn : n = bs.length) (hM : bs.length ≤ 100) : RC w (fun _ => True) (.l 4 1 (bs.map D.b)) [.slice (some ⟨g, 0, none⟩) n n] := by
  subst hn
  unfold RC
  refine ⟨_, _, by rw [List.length_map], by simp, by simp [maxLen]; omega, by simp [M]; omega, fun d hd => ?_, .inr ⟨g, 0, bs.map Value.bool, rfl, h.lt, trivial, ?_, fun j u hu => ?_⟩⟩
  · obtain ⟨x, _, rfl⟩ := List.mem_map.1 hd
    simp [D.size]
  · clear h hM
    induction bs with
    | nil => simp [RCs]
    | cons b bs ih => simp only [List.map_cons, RCs]; exact ⟨[.bool b], _, rfl, by unfold RC; rfl, ih⟩
  · rw [h.cells]
    simpa using hu
theorem Blk.truths3 {w : World} {g t : Nat} {a b c : Bool} (h : Blk w g t #[.bool a, .bool b, .bool c]) : RC w (fun _ => True) (.l 4 1 ([a, b, c].map D.b)) [.slice (some ⟨g, 0, none⟩) 3 3] := Blk.truths (bs := [a, b, c]) h rfl (by simp)
theorem Blk.truths1 {w : World} {g t : Nat} {a : Bool} (h : Blk w g t #[.bool a]) : RC w (fun _ => True) (.l 4 1 ([a].map D.b)) [.slice (some ⟨g, 0, none⟩) 1 1] := Blk.truths (bs := [a]) h rfl (by simp)
theorem not_all {bs : List Bool} {k : Nat} (hk : k < bs.length) (h : bs[k] = false) : bs.all id = false := by
  rw [Bool.eq_false_iff]
  intro e
  rw [List.all_eq_true] at e
  have := e _ (List.getElem_mem hk)
  simp [h] at this
theorem all_take {bs : List Bool} {k : Nat} (hk : k < bs.length) (h : (bs.take k).all id = true) (e : bs[k] = true) : (bs.take (k + 1)).all id = true := by
  rw [List.take_succ_eq_append_getElem hk, List.all_append, h]; simp [e]
set_option maxHeartbeats 1000000 in
theorem index_false {w : World} {S : Nat → Prop} {bs : List Bool} {A : Option Addr} {n c : Nat} (h : RC w S (.l 4 1 (bs.map D.b)) [.slice A n c]) (hn : n = bs.length) :
    Calls Tryd.prog 149 #[.slice A n c, .bool false] w fun e w' => ∃ i : Int, e = .returned (.int .i64 i) ∧ ((0 ≤ i) = (bs.all id = false)) ∧ Ext no w w' := by
  subst hn
  have hM := h.lenM
  go_enter Tryd.func149, Tryd.ntmps149
  go_wp2_with fail
  go_loopw [8] (fun i wr => ∃ k : Nat, k ≤ bs.length ∧ i = .int .i64 k ∧ (bs.take k).all id = true ∧ Ext no w wr) (fun i _ => bs.length - (intOf i).toNat)
  case atStart => exact ⟨0, Nat.zero_le _, rfl, by simp, Ext.refl _ _⟩
  case round =>
    obtain ⟨k, hk, rfl, hall, hext⟩ := hrel
    by_cases hlt : k < bs.length
    · obtain ⟨b, o, rfl, hb, hS, p0⟩ := (h.ext0 hext).atB hlt
      cases hq : bs[k]
      · rw [hq] at p0
        have HQ := Lib.hid hq
        clear hq
        go_wp2_with fail
        go_ret
        exact ⟨k, rfl, by simp [not_all hlt HQ.out], hext⟩
      · rw [hq] at p0
        have HQ := Lib.hid hq
        have HA := Lib.hid hall
        clear hq hall
        go_wp2_with fail
        go_roundw
        case rel => exact ⟨k + 1, by omega, by first | go_num | rfl | simp, all_take hlt HA.out HQ.out, hext⟩
        case measure => simp [intOf]; omega
    · go_wp2_with fail
      go_ret
      refine ⟨-1, rfl, ?_, hext⟩
      rw [take_all hlt] at hall
      simp [hall]
theorem contains_false {w : World} {S : Nat → Prop} {bs : List Bool} {A : Option Addr} {n c : Nat} (h : RC w S (.l 4 1 (bs.map D.b)) [.slice A n c]) (hn : n = bs.length) :
    Calls Tryd.prog 114 #[.slice A n c, .bool false] w (PV w (.bool (!bs.all id))) := by
  subst hn
  go_enter Tryd.func114, Tryd.ntmps114
  go_wp2_with fail
  refine (index_false h rfl).mono ?_
  rintro e w1 ⟨i, rfl, hi, hx1⟩
  cases hq : bs.all id
  · have g : decide (0 ≤ i) = true := by rw [hq] at hi; simpa using hi
    have HQ := Lib.hid hq
    clear hi hq
    go_wp2_with fail
    go_ret
    exact ⟨by rw [HQ.out]; rfl, hx1⟩
  · have g : decide (0 ≤ i) = false := by rw [hq] at hi; simpa using hi
    have HQ := Lib.hid hq
    clear hi hq
    go_wp2_with fail
    go_ret
    exact ⟨by rw [HQ.out]; rfl, hx1⟩
/-- What must throws. -/
def absent : List PanicEntry := [{ v := .iface 171 (.agg #[]), recovered := false }]
/-- must: comes back if all are so, throws else. -/
def PMust (w : World) (q : Bool) (e : Ending) (w' : World) : Prop := e = (if q then .returned (.tuple #[]) else .panicked absent) ∧ Ext no w w'
theorem must_calls {w : World} {S : Nat → Prop} {bs : List Bool} {A : Option Addr} {n c : Nat} (h : RC w S (.l 4 1 (bs.map D.b)) [.slice A n c]) (hn : n = bs.length) :
    Calls Tryd.prog 134 #[.slice A n c] w (PMust w (bs.all id)) := by
  subst hn
  go_enter Tryd.func134, Tryd.ntmps134
  go_wp2_with fail
  refine (contains_false h rfl).mono ?_
  rintro e w1 ⟨rfl, hx1⟩
  cases hq : bs.all id
  · have HQ := Lib.hid hq
    clear hq
    go_wp2_with fail
    exact ⟨rfl, by rw [HQ.out]; rfl, hx1⟩
  · have HQ := Lib.hid hq
    clear hq
    go_wp2_with fail
    go_end0
    exact ⟨by rw [HQ.out]; rfl, hx1⟩
end Go.Proofs.YteelplgdojjakaaDoor
