/- law 04: great: contract. No statement of the seat is proved here. -/
import Derived.Test.YteelplgdojjakaaDoorTele3
import Derived.Test.YteelplgdojjakaaDoorOpen
import Derived.Test.YteelplgdojjakaaDoorCount
import Derived.Test.YteelplgdojjakaaDoorRow
namespace Go.Proofs.YteelplgdojjakaaDoor
set_option linter.unusedSimpArgs false
set_option linter.unusedVariables false
open Go.RowKit

/-- A box as a row of one element, which is read in old memory. -/
theorem Hp.rgOne {w0 w : World} {l l' : List Ch} {g e z : Nat} {d : D} {cs : List Value} {S : Nat → Prop} (H : Hp no w0 w l) (p : Pick l (.box g e cs) l') (h : RC w0 S d cs) (hz : d.size = z) :
    RG w w0.heap.size (fun k => k < w0.heap.size) e z [d] (.slice (some ⟨g, 0, none⟩) 1 1) ∧ w0.heap.size ≤ g := by
  have hl := RC.len _ _ h
  have H1 := H.boxraw (z := z) (n := 1) p (by omega) (by unfold maxLen; omega)
  obtain ⟨L, h1, _⟩ := H1.own
  simp only [Chs] at h1
  obtain ⟨L1, _, rfl, ⟨rfl, hown⟩, _⟩ := h1
  have hg : w0.heap.size ≤ g := (hown.lt g (by simp [Value.ownBlock])).1
  refine ⟨⟨by unfold M; simp, by simpa using hz, cs, hown, ?_⟩, hg⟩
  unfold RCs
  refine ⟨cs, [], by simp, RC.frame (Nat.le_refl _) (fun k hk hS => ⟨hS.1, fun e => ?_⟩) (fun _ _ _ => rfl) _ _ (h.oldP H.ext), by unfold RCs; rfl⟩
  simp only [Value.ownBlock, Option.some.injEq] at e
  have := hS.1
  omega
/-- A truth, and old memory as it was. -/
def PAny (w : World) (e : Ending) (w' : World) : Prop := ∃ q : Bool, e = .returned (.bool q) ∧ Ext no w w'
set_option maxRecDepth 100000 in
set_option maxHeartbeats 2000000 in
theorem great04_calls {S S2 : Nat → Prop} {t : Tm} {ts : List Tm} {w : World} {v : Value} {A : Option Addr} {n c : Nat} (h : TV w S t v) (hl : RC w S2 (.l 30 5 (ts.map Tm.d)) [.slice A n c]) (hn : n = ts.length) (hb : ts.length ≤ 4000000000) :
    Calls Tryd.prog 20 #[v, .slice A n c] w (PAny w) := by
  subst hn
  obtain ⟨A0, ca, K0, ck, rfl, hrc⟩ := h
  have HRC := Lib.hid hrc
  have HL := Lib.hid hl
  clear hrc hl
  have H := Hp.start no w
  go_enter Tryd.func20, Tryd.ntmps20
  go_wp2_with (at_builtin; go_must (refine listH (by (repeat (first | with_reducible exact H | with_reducible exact H0_ | with_reducible apply Hp.alloc | with_reducible apply Hp.allocMap | with_reducible apply Hp.drew | with_reducible apply Hp.drewN | with_reducible apply Hp.set)); (try any_goals (repeat (first | with_reducible exact Upd.head | with_reducible apply Upd.tail)))) ?_; clear H; intro w2 H; (try simp only [size_drew_, size_drewN_, World.size_alloc, World.size_setCell, List.set_cons_zero, List.set_cons_succ] at H); refine wpList_pushS rfl (.tmp 6) (.tmp 7) 28 rfl stTerms (H.rgOne .head HRC.out (Tm.size_d _)).1 (HL.out.oldP H.ext) (fun k _ hk => ⟨hk.1, fun e => by have := (H.rgOne .head HRC.out (Tm.size_d _)).2; have := hk.1; simp only [Value.ownBlock, Option.some.injEq] at e; omega⟩) (by simp [M]; omega) H.ext.size rfl rfl ?_; intro v' w' hg hgr hat))
  have hx : Ext no w w' := H.ext.grown hgr (fun k hk => .inr (by simp only [Value.ownBlock, Option.some.injEq] at hk; omega))
  obtain ⟨A', c', hv⟩ := hg.slice
  have hv2 : v' = .slice A' (t :: ts).length c' := by rw [hv]; simp
  subst hv2
  have hr : RC w' (fun k => k < w.heap.size ∨ w.heap.size ≤ k) (.l 30 5 ((t :: ts).map Tm.d)) [.slice A' (t :: ts).length c'] := by simpa using hg.rc
  have HR := Lib.hid hr
  have HX := Lib.hid hx
  clear hg hgr hat hv hr hx H
  refine (termsOf_calls_ (ts := t :: ts) (fun t _ => termOf_calls t) HR.out 600).mono ?_
  rintro e w3 ⟨rfl, hx3⟩
  have HX3 := Lib.hid hx3
  clear hx3
  obtain ⟨N, hN⟩ : ∃ N, N = termsOfS 600 (t :: ts) := ⟨_, rfl⟩
  rw [← hN]
  clear hN
  go_wp2_with fail
  go_ret
  exact ⟨_, rfl, HX.out.seq HX3.out⟩
end Go.Proofs.YteelplgdojjakaaDoor
