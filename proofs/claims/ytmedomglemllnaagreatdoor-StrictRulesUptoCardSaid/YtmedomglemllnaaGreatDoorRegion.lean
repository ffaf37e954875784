/- A region that draws its order: what only reads may be taken first, under a condition on the world that is asked as long as some such reading is still to come. -/
import Derived.Test.YtmedomglemllnaaGreatDoorTypes
import Derived.OrdersHeld
namespace Go.Proofs.YtmedomglemllnaaGreatDoor
set_option linter.unusedSimpArgs false
set_option linter.unusedVariables false
open Go.RowKit

section
variable {P : Program} {ops : Array Oper} {Q : Exit → Act → World → Prop} {md : Region.Mode} {S : World → Prop} {late : List Nat}
def wpL (P : Program) (md : Region.Mode) (ops : Array Oper) (Q : Exit → Act → World → Prop) (S : World → Prop) (late : List Nat) : Nat → Array Bool → Act → World → Prop
  | 0, listed, a, w => Region.ready md ops listed = [] ∧ Q .normal a w
  | fuel + 1, listed, a, w =>
    (Region.ready md ops listed = [] → Q .normal a w) ∧
    ∀ i ∈ Region.ready md ops listed, wpOp P ops Q i (fun a' w' => (i ∉ late → S w → S w') ∧ wpL P md ops Q S late fuel (listed.setIfInBounds i true) a' w') a w
theorem wpL.any : ∀ (fuel : Nat) (listed : Array Bool) (a : Act) (w : World), wpL P md ops Q S late fuel listed a w → wpAny P md ops Q fuel listed a w
  | 0, _, _, _, h => h
  | fuel + 1, _, _, _, h => ⟨h.1, fun i hi => wpOp_mono (fun a' w' h' => wpL.any fuel _ a' w' h'.2) (h.2 i hi)⟩
def reach (md : Region.Mode) (ops : Array Oper) (i : Nat) : Nat → Nat → Bool
  | 0, _ => false
  | n + 1, j => match ops[j]? with
    | some o => o.after.any fun e => Region.binds md e && (e.on == i || reach md ops i n e.on)
    | none => false
def waits (md : Region.Mode) (ops : Array Oper) (late : List Nat) (i : Nat) : Bool := late.all fun j => reach md ops i 4 j
def closed (md : Region.Mode) (ops : Array Oper) (listed : Array Bool) : Prop := ∀ k ok, ops[k]? = some ok → listed.getD k false = true → ∀ e ∈ ok.after, Region.binds md e = true → listed.getD e.on false = true
def closedB (md : Region.Mode) (ops : Array Oper) (listed : Array Bool) : Bool := (List.range ops.size).all fun k => !listed.getD k false || (match ops[k]? with
  | some ok => ok.after.all fun e => !Region.binds md e || listed.getD e.on false
  | none => true)
theorem closedB.spec {listed : Array Bool} (h : closedB md ops listed = true) : closed md ops listed := by
  intro k ok hk hl e he hb
  unfold closedB at h
  rw [List.all_eq_true] at h
  have := h k (by rw [List.mem_range]; exact (Array.getElem?_eq_some_iff.1 hk).1)
  simp only [hl, hk, Bool.not_true, Bool.false_or] at this
  have := Array.all_eq_true_iff_forall_mem.1 this e he
  simpa [hb] using this
theorem reach.spec {listed : Array Bool} (hc : closed md ops listed) {i : Nat} : ∀ (n j : Nat), reach md ops i n j = true → (∀ oj, ops[j]? = some oj → ∀ e ∈ oj.after, Region.binds md e = true → listed.getD e.on false = true) → listed.getD i false = true
  | 0, _, h, _ => by simp [reach] at h
  | n + 1, j, h, hj => by
    unfold reach at h
    cases ho : ops[j]? with
    | none => simp [ho] at h
    | some o =>
      simp only [ho, Array.any_eq_true'] at h
      obtain ⟨e, he, h1⟩ := h
      simp only [Bool.and_eq_true, Bool.or_eq_true, beq_iff_eq] at h1
      obtain ⟨hb, h1 | h1⟩ := h1
      · rw [← h1]; exact hj o ho e he hb
      · exact reach.spec hc n e.on h1 (fun ok hk e' he' hb' => hc e.on ok hk (hj o ho e he hb) e' he' hb')
theorem wpL.first {i : Nat} {oi : Oper} {v : Value} {T : World → Prop} (hi : ops[i]? = some oi) (hsel : ∀ (j : Nat) (o : Oper) cs b, ops[j]? = some o → o.op ≠ .select cs b)
    (hQ : ∀ c a w, Q (.panic c) (a.put oi.dst v) w → Q (.panic c) a w) (hst : (∀ w, T w) ∨ (waits md ops late i = true ∧ ∀ w, S w → T w)) :
    ∀ (fuel : Nat) (listed : Array Bool) (a : Act) (w : World),
      (∀ j oj, ops[j]? = some oj → j ≠ i → listed.getD j true = false → (∀ e ∈ oj.after, Region.binds md e = true → e.on ≠ i) → oi.apart ops oj = true) →
      i ∈ Region.ready md ops listed → closed md ops listed → YieldsIf P ops T oi v a → T w → ((∀ w, T w) ∨ S w) →
      wpL P md ops Q S late fuel (listed.setIfInBounds i true) (a.put oi.dst v) w → wpL P md ops Q S late (fuel + 1) listed a w := by
  intro fuel
  induction fuel with
  | zero =>
    intro listed a w _ hr _ hy hT hS H
    refine ⟨fun h => (by rw [h] at hr; cases hr), fun j hj => ?_⟩
    by_cases hji : j = i
    · subst hji; exact hy.wpOp hi hT ⟨fun _ h => h, H⟩
    · have := ready_mono hj hji
      rw [H.1] at this
      cases this
  | succ fuel ih =>
    intro listed a w hfree hr hcl hy hT hS H
    have hun := (mem_ready.1 hr).1
    refine ⟨fun h => (by rw [h] at hr; cases hr), fun j hj => ?_⟩
    by_cases hji : j = i
    · subst hji; exact hy.wpOp hi hT ⟨fun _ h => h, H⟩
    · have h1 := H.2 j (ready_mono hj hji)
      obtain ⟨hjun, oj, hoj, hall⟩ := mem_ready.1 hj
      have hnot : ∀ e ∈ oj.after, Region.binds md e = true → e.on ≠ i := fun e he hb heq => by
        have h1 := hall e he hb
        have h0 := hun
        rw [heq] at h1
        rcases Nat.lt_or_ge i listed.size with h' | h'
        · simp [h'] at h0 h1; rw [h0] at h1; cases h1
        · simp [Array.getElem?_eq_none h'] at h1
      have h2 := wpOp_putIf hoj (hfree j oj hoj hji hjun hnot) (fun cs b => hsel i oi cs b hi) (fun cs b => hsel j oj cs b hoj) hQ hy h1
      have hfree' : ∀ k ok, ops[k]? = some ok → k ≠ i → (listed.setIfInBounds j true).getD k true = false →
          (∀ e ∈ ok.after, Region.binds md e = true → e.on ≠ i) → oi.apart ops ok = true := fun k ok hk hki hun hno => by
        refine hfree k ok hk hki ?_ hno
        by_cases hjk : j = k
        · subst hjk; exact hjun
        · rw [getD_set_ne true hjk] at hun; exact hun
      have hSw : ∀ w', (j ∉ late → S w → S w') → (∀ w, T w) ∨ (S w' ∧ T w') := fun w' h => by
        rcases hst with hall2 | ⟨hl, hST⟩
        · exact .inl hall2
        · rcases hS with hall2 | hS
          · exact .inl hall2
          · have hnl : j ∉ late := fun hjl => by
              have h1 : listed.getD i false = true := reach.spec hcl _ j (List.all_eq_true.1 hl j hjl) (fun ok hk => by
                obtain rfl : oj = ok := Option.some.inj (hoj.symm.trans hk)
                exact hall)
              rcases Nat.lt_or_ge i listed.size with h' | h'
              · simp [h'] at hun h1; rw [hun] at h1; cases h1
              · simp [Array.getElem?_eq_none h'] at h1
            exact .inr ⟨h hnl hS, hST w' (h hnl hS)⟩
      have hcl' : closed md ops (listed.setIfInBounds j true) := by
        intro k ok hk hkl e he hb
        by_cases hjk : j = k
        · subst hjk
          obtain rfl : oj = ok := Option.some.inj (hoj.symm.trans hk)
          exact getD_set_true (hall e he hb)
        · rw [getD_set_ne false hjk] at hkl
          exact getD_set_true (hcl k ok hk hkl e he hb)
      refine wpOp_mono (fun a' w' h3 => ⟨h3.2.1, ih (listed.setIfInBounds j true) a' w' hfree' (ready_mono hr (Ne.symm hji)) hcl' h3.1 ?_ ?_ ?_⟩) h2
      · rcases hSw w' h3.2.1 with h | h
        · exact h w'
        · exact h.2
      · rcases hSw w' h3.2.1 with h | h
        · exact .inl h
        · exact .inr h.1
      · rw [Array.setIfInBounds_comm _ _ hji]
        exact h3.2.2
theorem wpL_take {i : Nat} {oi : Oper} {v : Value} {fuel : Nat} {listed : Array Bool} {a : Act} {w : World} (hi : ops[i]? = some oi)
    (hk : (Region.noSelect ops && Region.free md ops listed i && (Region.ready md ops listed).contains i && waits md ops late i && closedB md ops listed) = true)
    (hQ : ∀ c a w, Q (.panic c) (a.put oi.dst v) w → Q (.panic c) a w) (hS : S w) (hw : Region.wanted oi (yielded ops a.tmps) = true)
    (hy : ∀ w, S w → (execOp a.eval oi).run P w = .ok (.value v) w)
    (h : wpL P md ops Q S late fuel (listed.setIfInBounds i true) (a.put oi.dst v) w) : wpL P md ops Q S late (fuel + 1) listed a w := by
  simp only [Bool.and_eq_true] at hk
  exact wpL.first hi (Region.noSelect_spec hk.1.1.1.1) hQ (.inr ⟨hk.1.2, fun _ h => h⟩) fuel listed a w (Region.free_spec hi hk.1.1.1.2) (by simpa using hk.1.1.2) (closedB.spec hk.2) (.inl ⟨hw, hy⟩) hS (.inr hS) h
theorem wpL_skip {i : Nat} {oi : Oper} {fuel : Nat} {listed : Array Bool} {a : Act} {w : World} (hi : ops[i]? = some oi)
    (hk : (Region.noSelect ops && Region.free md ops listed i && (Region.ready md ops listed).contains i && waits md ops late i && closedB md ops listed) = true)
    (hQ : ∀ c a w, Q (.panic c) (a.put oi.dst undef) w → Q (.panic c) a w) (hS : S w) (hw : Region.wanted oi (yielded ops a.tmps) = false)
    (h : wpL P md ops Q S late fuel (listed.setIfInBounds i true) (a.put oi.dst undef) w) : wpL P md ops Q S late (fuel + 1) listed a w := by
  simp only [Bool.and_eq_true] at hk
  exact wpL.first hi (Region.noSelect_spec hk.1.1.1.1) hQ (.inr ⟨hk.1.2, fun _ h => h⟩) fuel listed a w (Region.free_spec hi hk.1.1.1.2) (by simpa using hk.1.1.2) (closedB.spec hk.2) (.inr ⟨hw, rfl⟩) hS (.inr hS) h
theorem wpL_takeF {i : Nat} {oi : Oper} {v : Value} {fuel : Nat} {listed : Array Bool} {a : Act} {w : World} (hi : ops[i]? = some oi)
    (hk : (Region.noSelect ops && Region.free md ops listed i && (Region.ready md ops listed).contains i && closedB md ops listed) = true)
    (hQ : ∀ c a w, Q (.panic c) (a.put oi.dst v) w → Q (.panic c) a w) (hw : Region.wanted oi (yielded ops a.tmps) = true)
    (hy : ∀ w, (execOp a.eval oi).run P w = .ok (.value v) w)
    (h : wpL P md ops Q S late fuel (listed.setIfInBounds i true) (a.put oi.dst v) w) : wpL P md ops Q S late (fuel + 1) listed a w := by
  simp only [Bool.and_eq_true] at hk
  exact wpL.first (T := fun _ => True) hi (Region.noSelect_spec hk.1.1.1) hQ (.inl fun _ => trivial) fuel listed a w (Region.free_spec hi hk.1.1.2) (by simpa using hk.1.2) (closedB.spec hk.2) (.inl ⟨hw, fun w _ => hy w⟩) trivial (.inl fun _ => trivial) h
theorem wpL_do {i : Nat} {oi : Oper} {fuel : Nat} {listed : Array Bool} {a : Act} {w : World} (hi : ops[i]? = some oi) (hk : Region.ready md ops listed = [i]) (hw : Region.wanted oi (yielded ops a.tmps) = true)
    (h : ∀ K : Act → World → Prop, (∀ a' w', (i ∉ late → S w') → ((i ∉ late → S w') → wpL P md ops Q S late fuel (listed.setIfInBounds i true) a' w') → K a' w') → oi.wp P a w K Q) : wpL P md ops Q S late (fuel + 1) listed a w := by
  unfold wpL
  refine ⟨fun h0 => (by rw [hk] at h0; cases h0), fun j hj => ?_⟩
  rw [hk] at hj
  obtain rfl : j = i := by simpa using hj
  unfold wpOp
  simp only [hi, hw, if_true]
  exact .inl (h _ fun a' w' h1 h2 => ⟨fun hl _ => h1 hl, h2 h1⟩)
theorem wpL_done {listed : Array Bool} {a : Act} {w : World} (hr : Region.ready md ops listed = []) (h : Q .normal a w) : ∀ fuel, wpL P md ops Q S late fuel listed a w
  | 0 => ⟨hr, h⟩
  | _ + 1 => ⟨fun _ => h, by rw [hr]; simp⟩
theorem wp_region_L {id : Nat} {a : Act} {w : World} (S : World → Prop) (late : List Nat) (hm : P.follows .mixedOrders = true)
    (h : wpL P .any ops Q S late ops.size (Array.replicate ops.size false) a w.drew) : (Code.region id ops true).wp P Q a w :=
  wp_region_any hm (wpL.any _ _ _ _ h)
end
end Go.Proofs.YtmedomglemllnaaGreatDoor
