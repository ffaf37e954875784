/- What a law's call leaves, for laws over arguments. No statement of the seat is proved here. -/
import Derived.Test.YtmedomglemllnaaGreatDoorTab
import Derived.WalkKit
import Derived.ProofKit
import Derived.OpenShut
import Derived.Carry
namespace Go.Proofs.YtmedomglemllnaaGreatDoor
set_option linter.unusedSimpArgs false
set_option linter.unusedVariables false
open Go.ChangeShapes Go.WideShapes Go.ChangeAt Go.RowKit

theorem law_post {H : Type} {enc : TypeId × Value → H} {P : Program} {f : Func} {s : ChangeSpec} {apart fresh handsOn again : Bool} {W W' : World} {args : Array Value} {v : Value} {ds gs : List (DataW H)} {before pa pv : List MemPlace}
    (hW : DataW.Whole enc P f.params.toList s.vars apart W args.toList ds gs before) (hx : Ext no W W')
    (hres : ∀ (b : Nat) (sp : Nat → Bool) (hd : Bool), DataW.TrodAll enc P W' b sp hd f.resultTypes.toList (v.resultList f.resultTypes.size) (s.fn H (ds ++ gs)).results [])
    (hargs : ∀ sp : Nat → Bool, (∀ p ∈ before, sp p.block = true) → DataW.TrodAll enc P W' 0 sp true f.params.toList args.toList (s.fn H (ds ++ gs)).args pa)
    (hvars : ∀ sp : Nat → Bool, (∀ p ∈ before, sp p.block = true) → DataW.TrodVars enc P W' sp s.vars (s.fn H (ds ++ gs)).vars pv)
    (hps : before = pa ++ pv) (hok : ∀ (j : Nat) (t : TypeId) (r : Value), f.resultTypes[j]? = some t → (v.resultList f.resultTypes.size)[j]? = some r → Value.okWide P W' .any 0 t r) :
    s.post enc P f apart fresh handsOn again W args v W' := by
  have hb := hx.below
  have old : ∀ p ∈ before, p.block < W.heap.size := fun p hp => hW.lt p hp
  have inB : ∀ p ∈ before, (decide (p.block < W.heap.size)) = true := fun p hp => decide_eq_true (old p hp)
  have tr : ∀ p ∈ before, (fun _ : Nat => true) p.block = true := fun _ _ => rfl
  refine ⟨ds, gs, before, [], pa, pv, hW, hres _ _ _, hargs (fun b => decide (b < W.heap.size)) inB, hvars (fun b => decide (b < W.heap.size)) inB, ?_, fun _ => ⟨hok, _, _, ([] ++ pa) ++ pv, ⟨[] ++ pa, pv, trodAll_append (hargs (fun _ => true) tr) (hres _ _ _), hvars (fun _ => true) tr, rfl, ?_, ?_⟩, ?_⟩⟩
  · exact World.keptBut_mono (fun p hp => ⟨hp, .inr (by simpa [hps] using hp)⟩) (hb.frame (· ∈ before))
  · intro b off hp
    have hp2 : MemPlace.cell b off ∈ before := by rw [hps]; simpa using hp
    rw [hb.frozen (old _ hp2)]
    obtain ⟨_, _, _, _, _, hz, _⟩ := hW
    exact hz b off hp2
  · obtain ⟨_, _, _, _, _, _, hn⟩ := hW
    intro ha
    have h1 := hn ha
    rw [hps] at h1
    simpa using h1
  · intro p hp _
    rw [hps]
    simpa using hp

theorem laidOut : laidOutB Tryz.prog = true := by kernel_rfl
theorem law_arg {H : Type} {enc : TypeId × Value → H} {W W' : World} {t : TypeId} {v : Value} {d : DataW H} {p : List MemPlace} (hr : Tryz.prog.readableRec t = true) (ht : t < Tryz.prog.types.size) (h : DataW.Trod enc Tryz.prog W 0 (fun _ => true) true t v d p) (hlt : ∀ x ∈ p, x.block < W.heap.size) (hx : Ext no W W')
    {sp : Nat → Bool} (hs : ∀ x ∈ p, sp x.block = true) : DataW.Trod enc Tryz.prog W' 0 sp true t v d p :=
  WideElems.Trod_stays laidOut hr ht h (fun x hq => hx.below.same (hlt x hq)) hs
end Go.Proofs.YtmedomglemllnaaGreatDoor
