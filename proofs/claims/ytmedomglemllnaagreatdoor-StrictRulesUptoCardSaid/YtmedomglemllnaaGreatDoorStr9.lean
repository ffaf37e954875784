/- strict: whether a block takes a param strictly: contract, by the number of the block. No statement of the seat is proved here. -/
import Derived.Test.YtmedomglemllnaaGreatDoorStr6
import Derived.Test.YtmedomglemllnaaGreatDoorStr8
namespace Go.Proofs.YtmedomglemllnaaGreatDoor
set_option linter.unusedSimpArgs false
set_option linter.unusedVariables false
open Go.RowKit

section
variable {X : Nat → Prop} {w0 w w1 : World} {l l2 : List Ch}
def Ch.plS : Ch → Bool
  | .box .. => true
  | .dat .. => true
  | _ => false
theorem Chs.appS {B B1 : Nat} {L L2 : List Nat} (hB : B ≤ B1) (hp : l2.all Ch.plS = true) (h2 : Chs no w B1 l2 L2) (h : Chs X w B l L) : Chs X w B (l2 ++ l) (L2 ++ L) := by
  induction l2 generalizing L2 with
  | nil => unfold Chs at h2; subst h2; simpa using h
  | cons c l2 ih =>
    rw [List.all_cons, Bool.and_eq_true] at hp
    unfold Chs at h2
    obtain ⟨K1, K2, rfl, g1, g2⟩ := h2
    rw [List.cons_append]
    unfold Chs
    refine ⟨K1, K2 ++ L, by simp, ?_, ih hp.2 g2⟩
    cases c with
    | box g t cs =>
      obtain ⟨rfl, h1, h2⟩ := g1
      exact ⟨rfl, .inr (h1.elim (fun h => h.elim) (fun h => Nat.le_trans hB h)), h2⟩
    | dat d cs => exact RO.weaken _ _ _ (fun k hk => Nat.le_trans hB (RO.lt _ _ _ g1 k hk).1) g1
    | row => simp [Ch.plS] at hp
    | map => simp [Ch.plS] at hp
    | obj => simp [Ch.plS] at hp
    | raw => simp [Ch.plS] at hp
    | gh => simp [Ch.plS] at hp
theorem Hp.resAllS (H : Hp X w0 w l) (H2 : Hp no w w1 l2) (hp : l2.all Ch.plS = true) : Hp X w0 w1 (l2 ++ l) := by
  have hx := H2.ext
  obtain ⟨L2, h2, hk⟩ := H2.own
  obtain ⟨L', h', _⟩ := H.own
  obtain ⟨L, h, hn⟩ := (H.call hx).own
  have h1 : Chs X w1 w0.heap.size l L' := h'.frame H.ext.size hx.size (fun k hk _ => hx.block k (Nat.lt_of_lt_of_le hk H.ext.size) no_not) (fun k hk => hx.block k (h'.lt k hk).2 no_not)
  refine ⟨(H.call hx).ext, L2 ++ L', Chs.appS H.ext.size hp h2 h1, ?_⟩
  refine List.nodup_append.2 ⟨hk, ‹_›, fun x hx y hy e => ?_⟩
  have := (h2.lt x hx).1.elim (fun h => h.elim) id
  have := (h'.lt y hy).2
  omega
end
theorem lookupP2 {P : Program} {ops : Array Oper} {rest : List Oper} {a : Act} {Q : Exit → Act → World → Prop} {w : World} {d : Option Tmp} {t kt et : TypeId} {m x : Operand} {ty : TypeId} {po : String} {af : Array Edge} {g : Nat} {es : List (Ky × Bool)} (k : Ky) (r s : Bool) (hr : (es.lookup k).getD false = r) (hs : (es.lookup k).isSome = s) (hu : P.underlying t = some (.map kt et)) (hT : PairT P kt) (hz : (zeroValue et).run P w = .ok (.bool false) w)
    (hm : a.eval m = .map (some g)) (hx : a.eval x = keyP k) (hb : w.heap[g]? = some (mapO es))
    (h : wpList P ops Q rest (a.put d (.tuple #[.bool r, .bool s])) w) : wpList P ops Q (⟨d, .lookup t m x true, ty, po, af, none⟩ :: rest) a w := by
  subst hr hs
  exact wpList_lookupP hu hT hz hm hx hb h
theorem atMapUpdate {P : Program} {ops : Array Oper} {rest : List Oper} {a : Act} {Q : Exit → Act → World → Prop} {w : World} {d : Option Tmp} {t : TypeId} {m x y : Operand} {ty : TypeId} {po : String} {af : Array Edge} (h : wpList P ops Q (⟨d, .mapUpdate t m x y, ty, po, af, none⟩ :: rest) a w) : wpList P ops Q (⟨d, .mapUpdate t m x y, ty, po, af, none⟩ :: rest) a w := h
set_option maxRecDepth 100000 in
set_option maxHeartbeats 16000000 in
theorem param_of {ds : List Dc} {num : Nat} (IHs : ∀ F, StrictAt ds num F) : ParamOK ds num := by
  intro w g n A0 c es mk fs fi ha hnum hk a hal
  obtain ⟨F1, x1, y1, rfl⟩ := ha.st.fn
  obtain ⟨F2, x2, y2, rfl⟩ := ha.is.fn
  have hMn := ha.len
  have HA := Lib.hid ha
  have hds := ha.hn
  have hnd : num < ds.length := by omega
  have hdd : ds[num] = ds.getD num zDc := by rw [List.getD_eq_getElem?_getD, List.getElem?_eq_getElem hnd]; rfl
  have HSM := Lib.hid (show SmDc (ds.getD num zDc) by rw [← hdd]; exact ha.sm _ (List.getElem_mem hnd))
  have hmt : num < (ds.take n).length := by rw [List.length_take]; omega
  have hdt : (ds.take n)[num] = ds.getD num zDc := by rw [← getD_take hnum, List.getD_eq_getElem?_getD, List.getElem?_eq_getElem hmt]; rfl
  obtain ⟨Sd, hdcs, hSd⟩ := ha.dcs
  obtain ⟨b_, o, Aty, cty, Kty, kty, Abody, cbody, Kbody, kbody, Aparams, cparams, Asort, csort, Amembers, cmembers, Actors, cctors, hA_, hbd, hS_, hdc, u0, u1, u2, u3, u4, u5, u6, u7, u8, u9, u10, u11, u12, u13, u14, u15⟩ := hdcs.atDc hmt
  rw [hdt] at hdc u0 u1 u2 u3 u4 u5 u6 u7 u8 u9 u10 u11 u12 u13 u14 u15
  subst hA_
  have hpq := parQ_eq ds num a
  obtain ⟨d, hd_⟩ : ∃ d, d = ds.getD num zDc := ⟨_, rfl⟩
  rw [← hd_] at hdc u0 u1 u2 u3 u4 u5 u6 u7 u8 u9 u10 u11 u12 u13 u14 u15 hk hal HSM hpq
  obtain ⟨q, hq⟩ : ∃ q, q = parQ ds num a := ⟨_, rfl⟩
  rw [← hq]
  have HPQ := Lib.hid hpq
  have HQ := Lib.hid hq
  have HDC := Lib.hid hdc
  have HK := Lib.hid hk
  have HMP := Lib.hid ha.mp
  have HGL := Lib.hid ha.lt
  have hpl := HSM.out.pa
  have hmM : (num : Int) ≤ 4294967296 := by omega
  have hv0 : wrap64 (wrap64 ((d.params.length : Int) - 1) - (a : Int)) = (d.params.length : Int) - 1 - a := by unfold wrap64; omega
  have hv : IntKind.i64.wrap (IntKind.i64.wrap ((d.params.length : Int) - 1) - (a : Int)) = (d.params.length : Int) - 1 - a := by rw [IntKind.wrap_i64, IntKind.wrap_i64]; omega
  have HV := Lib.hid hv
  clear ha hdcs hdc hk hq hpq hd_ hv hv0 hS_ hdt hmt hdd
  have hmf : ∀ (fn : Fn) (first cap : Array Value) (w : World), (Instr.makeFunc fn first cap).run Tryz.prog w = .ok (.func fn first cap) w := fun _ _ _ _ => rfl
  cases hl : es.lookup (num, a) with
  | some v =>
    have HV2 := Lib.hid (HA.out.rt.look hl)
    have hr : (es.lookup (num, a)).getD false = v := by rw [hl]; rfl
    have hs : (es.lookup (num, a)).isSome = true := by rw [hl]; rfl
    have HR := Lib.hid hr
    have HSS := Lib.hid hs
    clear hl hr hs u0 u1 u2 u3 u4 u5 u6 u7 u8 u9 u10 u11 u12 u13 u14 u15
    go_enter Tryz.func132, Tryz.ntmps132
    have H := Hp.start no w
    go_wp2_with (first | ((with_reducible refine atStore (t := 231) ?_); go_must (refine wpList_storeH (t := 231) rfl rfl (by go_simp <;> first | rfl | exact ⟨rfl, rfl⟩) (by go_simp <;> first | rfl | exact ⟨rfl, rfl⟩) (by exact Hp.norm (by (repeat (first | with_reducible exact H | with_reducible exact H0_ | with_reducible apply Hp.alloc | with_reducible apply Hp.allocMap | with_reducible apply Hp.drew | with_reducible apply Hp.drewN | with_reducible apply Hp.set)); (try any_goals (repeat (first | with_reducible exact Upd.head | with_reducible apply Upd.tail)))) (by ((try simp only [size_drew_, size_drewN_, World.size_alloc, World.size_setCell, List.set_cons_zero, List.set_cons_succ, List.nil_append, List.cons_append]) <;> rfl))) (by (repeat (first | with_reducible exact Upd.head | with_reducible apply Upd.tail))) (by exact aggPlace) (by rfl) (by simp [Value.oneCell']) ?_; clear H; intro w1 H; (try simp only [size_drew_, size_drewN_, World.size_alloc, World.size_setCell, List.set_cons_zero, List.set_cons_succ] at H); (try clear hr_ hd_ ho_ hz_); have hr_ := H.rules; simp only [Rules, and_true] at hr_; have hd_ := H.dif; simp only [Dif, Neq, and_true] at hd_; obtain ⟨ho_, hz_⟩ := H.old0)) | ((with_reducible refine atLookup ?_); go_must (refine lookupP2 (es := es) (g := g) (num, a) v true HR.out HSS.out Tryz.underlying159 pairT (run_zero (t := 4) (by kernel_rfl)) (by go_simp <;> first | rfl | exact ⟨rfl, rfl⟩) (by go_simp <;> first | rfl | exact ⟨rfl, rfl⟩) ((H.ext.block g HGL.out no_not).trans HMP.out) ?_)))
    (try clear hr_ hd_ ho_ hz_)
    go_ret
    exact ⟨by rw [HV2.out, HQ.out]; rfl, (Kn.start HMP.out).ext H.ext⟩
  | none =>
    have hr : (es.lookup (num, a)).getD false = false := by rw [hl]; rfl
    have hs : (es.lookup (num, a)).isSome = false := by rw [hl]; rfl
    have HR := Lib.hid hr
    have HSS := Lib.hid hs
    have HLN := Lib.hid hl
    clear hl hr hs
    go_enter Tryz.func132, Tryz.ntmps132
    have H := Hp.start no w
    have hr_ := H.rules; simp only [Rules, and_true] at hr_; have hd_ := H.dif; simp only [Dif, Neq, and_true] at hd_; obtain ⟨ho_, hz_⟩ := H.old0
    go_wp2_with (first | ((with_reducible refine atStore (t := 231) ?_); go_must (refine wpList_storeH (t := 231) rfl rfl (by go_simp <;> first | rfl | exact ⟨rfl, rfl⟩) (by go_simp <;> first | rfl | exact ⟨rfl, rfl⟩) (by exact Hp.norm (by (repeat (first | with_reducible exact H | with_reducible exact H0_ | with_reducible apply Hp.alloc | with_reducible apply Hp.allocMap | with_reducible apply Hp.drew | with_reducible apply Hp.drewN | with_reducible apply Hp.set)); (try any_goals (repeat (first | with_reducible exact Upd.head | with_reducible apply Upd.tail)))) (by ((try simp only [size_drew_, size_drewN_, World.size_alloc, World.size_setCell, List.set_cons_zero, List.set_cons_succ, List.nil_append, List.cons_append]) <;> rfl))) (by (repeat (first | with_reducible exact Upd.head | with_reducible apply Upd.tail))) (by exact aggPlace) (by rfl) (by simp [Value.oneCell']) ?_; clear H; intro w1 H; (try simp only [size_drew_, size_drewN_, World.size_alloc, World.size_setCell, List.set_cons_zero, List.set_cons_succ] at H); (try clear hr_ hd_ ho_ hz_); have hr_ := H.rules; simp only [Rules, and_true] at hr_; have hd_ := H.dif; simp only [Dif, Neq, and_true] at hd_; obtain ⟨ho_, hz_⟩ := H.old0)) | ((with_reducible refine atStore (t := 51) ?_); go_must (refine wpList_storeH (t := 51) rfl rfl (by go_simp <;> first | rfl | exact ⟨rfl, rfl⟩) (by go_simp <;> first | rfl | exact ⟨rfl, rfl⟩) (by exact Hp.norm (by (repeat (first | with_reducible exact H | with_reducible exact H0_ | with_reducible apply Hp.alloc | with_reducible apply Hp.allocMap | with_reducible apply Hp.drew | with_reducible apply Hp.drewN | with_reducible apply Hp.set)); (try any_goals (repeat (first | with_reducible exact Upd.head | with_reducible apply Upd.tail)))) (by ((try simp only [size_drew_, size_drewN_, World.size_alloc, World.size_setCell, List.set_cons_zero, List.set_cons_succ, List.nil_append, List.cons_append]) <;> rfl))) (by (repeat (first | with_reducible exact Upd.head | with_reducible apply Upd.tail))) (by exact aggDecl) (by rfl) (by simp [Value.oneCell']) ?_; clear H; intro w1 H; (try simp only [size_drew_, size_drewN_, World.size_alloc, World.size_setCell, List.set_cons_zero, List.set_cons_succ] at H); (try clear hr_ hd_ ho_ hz_); have hr_ := H.rules; simp only [Rules, and_true] at hr_; have hd_ := H.dif; simp only [Dif, Neq, and_true] at hd_; obtain ⟨ho_, hz_⟩ := H.old0)) | ((with_reducible refine atLookup ?_); go_must (refine lookupP2 (es := es) (g := g) (num, a) false false HR.out HSS.out Tryz.underlying159 pairT (run_zero (t := 4) (by kernel_rfl)) (by go_simp <;> first | rfl | exact ⟨rfl, rfl⟩) (by go_simp <;> first | rfl | exact ⟨rfl, rfl⟩) ((H.ext.block g HGL.out no_not).trans HMP.out) ?_)))
    (try clear hr_ hd_ ho_ hz_)
    refine regionH (by (repeat (first | with_reducible exact H | with_reducible exact H0_ | with_reducible apply Hp.alloc | with_reducible apply Hp.allocMap | with_reducible apply Hp.drew | with_reducible apply Hp.drewN | with_reducible apply Hp.set)); (try any_goals (repeat (first | with_reducible exact Upd.head | with_reducible apply Upd.tail)))) ?_
    clear H; intro w2 H; (try simp only [size_drew_, size_drewN_, World.size_alloc, World.size_setCell, List.set_cons_zero, List.set_cons_succ] at H)
    refine wp_region_H 12 [false, false, false, false, false, false, false, false, false, false, false, false] [] H (.cons (i := 0) rfl (.cons (i := 2) rfl .nil)) (by kernel_rfl) rfl rfl (fun H_ hR_ => ?_)
    (try clear H0_); have H0_ := H; clear H; have H := H_; clear H_
    refine wpL_reads (is := [(0, ?v1_0), (1, ?v1_1), (2, ?v1_2), (3, ?v1_3), (4, ?v1_4), (5, ?v1_5), (6, ?v1_6), (8, ?v1_7)]) (by kernel_rfl) (Nat.le_of_ble_eq_true rfl) (by intro _ _ d_ _ _ h_; cases d_ <;> exact h_) (by kernel_rfl) hR_ (fun w_ hw_ => ?h1_) ?_
    case h1_ =>
      have ho_ := hw_.old0.1; have hz_ := hw_.old0.2; have hr_ := hw_.rules; clear hw_; simp only [Rules, and_true] at hr_; go_split_ands
      (repeat (first | with_reducible exact RdOps.nil | (refine RdOps.run rfl (by rfl) ?_ ?_; (focus (first | (go_simp; done) | (go_simp; with_reducible rfl))); simp only [List.getElem_toArray, List.getElem_cons_zero, List.getElem_cons_succ, Act.put, List.setIfInBounds_toArray, List.set_cons_zero, List.set_cons_succ]) | (refine RdOps.skip rfl (by rfl) ?_ ?_; (focus (with_reducible rfl)); simp only [List.getElem_toArray, List.getElem_cons_zero, List.getElem_cons_succ, Act.put, List.setIfInBounds_toArray, List.set_cons_zero, List.set_cons_succ])))
    simp only [rdMark, rdAct, List.map_cons, List.map_nil, List.length_cons, List.length_nil, Nat.reduceAdd, Nat.reduceSub, Nat.zero_add, List.getElem?_toArray, List.getElem?_cons_zero, List.getElem?_cons_succ, Option.bind_some, Act.put, List.setIfInBounds_toArray, List.set_cons_zero, List.set_cons_succ]
    refine wpL_many (is := [7, 10]) (by kernel_rfl) (by simp) ?_
    simp only [List.forall_mem_cons]
    refine ⟨?_, ?_, fun _ h => by cases h⟩
    · refine wpOp_do (i := 7) rfl (by rfl) (fun K_ hK_ => ?_)
      go_simp
      refine tvariable_calls.mono ?_
      rintro e w_ ⟨bn, hbn, hcell, rfl, H2⟩
      replace H := H.resAllS H2 rfl
      dsimp only [List.cons_append, List.nil_append] at H
      clear H2 hcell hbn
      refine hK_ _ _ (fun _ => H.sub (by simp)) (fun hR_ => ?_)
      replace hR_ := hR_ (by decide)
      refine wpL_many (is := [9, 10]) (by kernel_rfl) (by simp) ?_
      simp only [List.forall_mem_cons]
      refine ⟨?_, ?_, fun _ h => by cases h⟩
      · refine wpOp_do (i := 9) rfl (by rfl) (fun K_ hK_ => ?_)
        go_simp
        refine (of_calls (k := num) ⟨_, _, _, rfl⟩ ⟨_, _, _, rfl⟩ (Nat.le_of_lt hnum) hMn.2 hMn.1).mono ?_
        rintro e w_ ⟨rfl, hx⟩
        replace H := H.call hx
        clear hx
        refine hK_ _ _ (fun _ => H.sub (by simp)) (fun hR_ => ?_)
        replace hR_ := hR_ (by decide)
        refine wpL_do (i := 10) rfl (by kernel_rfl) (by rfl) (fun K_ hK_ => ?_)
        go_simp
        refine kontH (by (repeat (first | with_reducible exact H | with_reducible exact H0_ | with_reducible apply Hp.alloc | with_reducible apply Hp.allocMap | with_reducible apply Hp.drew | with_reducible apply Hp.drewN | with_reducible apply Hp.set)); (try any_goals (repeat (first | with_reducible exact Upd.head | with_reducible apply Upd.tail)))) ?_
        clear H; intro wb_ H; (try simp only [size_drew_, size_drewN_, World.size_alloc, World.size_setCell, List.set_cons_zero, List.set_cons_succ] at H)
        refine hK_ _ _ (fun _ => H.sub (by simp)) (fun hR_ => ?_)
        replace hR_ := hR_ (by decide)
        refine wpL_do (i := 11) rfl (by kernel_rfl) (by rfl) (fun K_ hK_ => ?_)
        refine wp_storeH rfl (by go_simp <;> first | rfl | exact ⟨rfl, rfl⟩) (by go_simp <;> first | rfl | exact ⟨rfl, rfl⟩) H (by (repeat (first | with_reducible exact Upd.head | with_reducible apply Upd.tail))) (by exact aggAsker) (by rfl) (by simp [Value.oneCell']) (fun w12 H_ => ?_)
        clear H; have H := H_; clear H_
        refine hK_ _ _ (fun _ => H.sub (by simp)) (fun hR_ => ?_)
        replace hR_ := hR_ (by decide)
        refine wpL_done (by kernel_rfl) ?_ _
        go_wp2_with fail
        refine callsH (by (repeat (first | with_reducible exact H | with_reducible exact H0_ | with_reducible apply Hp.alloc | with_reducible apply Hp.allocMap | with_reducible apply Hp.drew | with_reducible apply Hp.drewN | with_reducible apply Hp.set)); (try any_goals (repeat (first | with_reducible exact Upd.head | with_reducible apply Upd.tail)))) ?_
        clear H; intro w13 H; (try simp only [size_drew_, size_drewN_, World.size_alloc, World.size_setCell, List.set_cons_zero, List.set_cons_succ] at H)
        rw [HV.out] at H
        have hAK := HA.out.ext H.ext
        have bN := H.blk (t := 3) (cs := [.int .i64 ((d.params.length : Int) - 1 - a)]) (by (repeat (first | with_reducible exact Pick.head | with_reducible apply Pick.tail)))
        have bD := H.blk (t := 51) (cs := [.int .i64 d.kind, .int .i64 d.levels, .int .i64 d.ty.k, .int .i64 d.ty.n, .int .i64 d.ty.a, .slice Aty d.ty.ls.length cty, .slice Kty d.ty.ks.length kty, .int .i64 d.body.k, .int .i64 d.body.n, .int .i64 d.body.a, .slice Abody d.body.ls.length cbody, .slice Kbody d.body.ks.length kbody, .slice Aparams d.params.length cparams, .slice Asort d.sort.length csort, .slice Amembers d.members.length cmembers, .slice Actors d.ctors.length cctors]) (by (repeat (first | with_reducible exact Pick.head | with_reducible apply Pick.tail)))
        have bA := H.blk (t := 161) (cs := [.func (.func 260) #[] #[.pointer (some ⟨bn, 0, none⟩)], .func (.func 261) #[] #[.pointer (some ⟨bn, 0, none⟩)], .slice (some ⟨b_, o, none⟩) num c, .map (some g)]) (by (repeat (first | with_reducible exact Pick.head | with_reducible apply Pick.tail)))
        have hqq : ((d.members.all fun m => freeRow (some ((d.params.length : Int) - 1 - a)) 0 m.index) && d.ctors.all (ctorP (ds.take num) (parT ds num) ((d.params.length : Int) - 1 - a))) = q := by
          rw [HQ.out, HPQ.out]; rfl
        have hmk : MkOK (some ((d.params.length : Int) - 1 - a)) := fun n hn => by cases hn; omega
        have hcall := theld_calls (w := w13) (g := g) (ds := ds) (n := num) (es := es) hAK.lt (enters_of Tryz.func212 (by kernel_rfl) rfl) (fun w' hx => by
          have hN' := hx.keep (show w13.cell? ⟨bn, 0, none⟩ = some (.int .i64 ((d.params.length : Int) - 1 - a)) from bN.cells 0)
          have vs := variable_st (W := w') (g := g) (no_cells (hAK.ext hx).mp hN') hN' (hmk _ rfl).1 (hmk _ rfl).2
          exact param1_calls IHs ((hAK.ext hx).of_ (Nat.le_of_lt hnum) vs.1 vs.2 hmk) (HDC.out.ext0 (H.ext.seq hx)) hSd HSM.out ⟨hx.keep (bD.cells 14), hx.keep (bD.cells 15), hx.keep (bA.cells 0), hx.keep (bA.cells 1), hx.keep (bA.cells 2), hx.keep (bA.cells 3), trivial⟩)
        rw [hqq] at hcall
        clear hqq bN bD bA hAK hmk
        refine hcall.mono ?_
        clear hcall
        rintro e w14 ⟨rfl, hkn⟩
        obtain ⟨ex, hx, hm, hr⟩ := hkn
        have HXX := Lib.hid ((H.ext.noX (X := fun k => k = g)).also hx fun _ h => h)
        have HM14 := Lib.hid hm
        have HR14 := Lib.hid hr
        have HLN2 := Lib.hid (look_app HLN.out (hr.none (k := (num, a)) (Nat.le_refl _)))
        have H := H.rebase hx HGL.out hm trivial
        clear hx hm hr
        have hr_ := H.rules; simp only [Rules, and_true] at hr_; have hd_ := H.dif; simp only [Dif, Neq, and_true] at hd_; obtain ⟨ho_, hz_⟩ := H.old0
        go_wp2_with ((with_reducible refine atMapUpdate ?_); go_must (refine wpList_mapUpdateP (es := es ++ ex) (g := g) (k := (num, a)) (v := q) Tryz.underlying159 pairT (by go_simp <;> first | rfl | exact ⟨rfl, rfl⟩) (by go_simp <;> first | rfl | exact ⟨rfl, rfl⟩) (by go_simp <;> first | rfl | exact ⟨rfl, rfl⟩) HM14.out HLN2.out ?_))
        (try clear hr_ hd_ ho_ hz_)
        go_ret
        refine ⟨rfl, ex ++ [((num, a), q)], HXX.out.also World.at_ext (fun _ h => h), ?_, (HR14.out.more (Nat.le_succ _)).app (fun x hx => ?_)⟩
        · rw [← List.append_assoc]
          exact World.at_at (Array.getElem?_eq_some_iff.1 HM14.out).1
        · obtain rfl := List.mem_singleton.1 hx
          exact ⟨Nat.lt_succ_self _, HQ.out⟩
      · refine wpOp_do (i := 10) rfl (by rfl) (fun K_ hK_ => ?_)
        go_simp
        refine kontH (by (repeat (first | with_reducible exact H | with_reducible exact H0_ | with_reducible apply Hp.alloc | with_reducible apply Hp.allocMap | with_reducible apply Hp.drew | with_reducible apply Hp.drewN | with_reducible apply Hp.set)); (try any_goals (repeat (first | with_reducible exact Upd.head | with_reducible apply Upd.tail)))) ?_
        clear H; intro wb_ H; (try simp only [size_drew_, size_drewN_, World.size_alloc, World.size_setCell, List.set_cons_zero, List.set_cons_succ] at H)
        refine hK_ _ _ (fun _ => H.sub (by simp)) (fun hR_ => ?_)
        replace hR_ := hR_ (by decide)
        refine wpL_do (i := 9) rfl (by kernel_rfl) (by rfl) (fun K_ hK_ => ?_)
        go_simp
        refine (of_calls (k := num) ⟨_, _, _, rfl⟩ ⟨_, _, _, rfl⟩ (Nat.le_of_lt hnum) hMn.2 hMn.1).mono ?_
        rintro e w_ ⟨rfl, hx⟩
        replace H := H.call hx
        clear hx
        refine hK_ _ _ (fun _ => H.sub (by simp)) (fun hR_ => ?_)
        replace hR_ := hR_ (by decide)
        refine wpL_do (i := 11) rfl (by kernel_rfl) (by rfl) (fun K_ hK_ => ?_)
        refine wp_storeH rfl (by go_simp <;> first | rfl | exact ⟨rfl, rfl⟩) (by go_simp <;> first | rfl | exact ⟨rfl, rfl⟩) H (by (repeat (first | with_reducible exact Upd.head | with_reducible apply Upd.tail))) (by exact aggAsker) (by rfl) (by simp [Value.oneCell']) (fun w12 H_ => ?_)
        clear H; have H := H_; clear H_
        refine hK_ _ _ (fun _ => H.sub (by simp)) (fun hR_ => ?_)
        replace hR_ := hR_ (by decide)
        refine wpL_done (by kernel_rfl) ?_ _
        go_wp2_with fail
        refine callsH (by (repeat (first | with_reducible exact H | with_reducible exact H0_ | with_reducible apply Hp.alloc | with_reducible apply Hp.allocMap | with_reducible apply Hp.drew | with_reducible apply Hp.drewN | with_reducible apply Hp.set)); (try any_goals (repeat (first | with_reducible exact Upd.head | with_reducible apply Upd.tail)))) ?_
        clear H; intro w13 H; (try simp only [size_drew_, size_drewN_, World.size_alloc, World.size_setCell, List.set_cons_zero, List.set_cons_succ] at H)
        rw [HV.out] at H
        have hAK := HA.out.ext H.ext
        have bN := H.blk (t := 3) (cs := [.int .i64 ((d.params.length : Int) - 1 - a)]) (by (repeat (first | with_reducible exact Pick.head | with_reducible apply Pick.tail)))
        have bD := H.blk (t := 51) (cs := [.int .i64 d.kind, .int .i64 d.levels, .int .i64 d.ty.k, .int .i64 d.ty.n, .int .i64 d.ty.a, .slice Aty d.ty.ls.length cty, .slice Kty d.ty.ks.length kty, .int .i64 d.body.k, .int .i64 d.body.n, .int .i64 d.body.a, .slice Abody d.body.ls.length cbody, .slice Kbody d.body.ks.length kbody, .slice Aparams d.params.length cparams, .slice Asort d.sort.length csort, .slice Amembers d.members.length cmembers, .slice Actors d.ctors.length cctors]) (by (repeat (first | with_reducible exact Pick.head | with_reducible apply Pick.tail)))
        have bA := H.blk (t := 161) (cs := [.func (.func 260) #[] #[.pointer (some ⟨bn, 0, none⟩)], .func (.func 261) #[] #[.pointer (some ⟨bn, 0, none⟩)], .slice (some ⟨b_, o, none⟩) num c, .map (some g)]) (by (repeat (first | with_reducible exact Pick.head | with_reducible apply Pick.tail)))
        have hqq : ((d.members.all fun m => freeRow (some ((d.params.length : Int) - 1 - a)) 0 m.index) && d.ctors.all (ctorP (ds.take num) (parT ds num) ((d.params.length : Int) - 1 - a))) = q := by
          rw [HQ.out, HPQ.out]; rfl
        have hmk : MkOK (some ((d.params.length : Int) - 1 - a)) := fun n hn => by cases hn; omega
        have hcall := theld_calls (w := w13) (g := g) (ds := ds) (n := num) (es := es) hAK.lt (enters_of Tryz.func212 (by kernel_rfl) rfl) (fun w' hx => by
          have hN' := hx.keep (show w13.cell? ⟨bn, 0, none⟩ = some (.int .i64 ((d.params.length : Int) - 1 - a)) from bN.cells 0)
          have vs := variable_st (W := w') (g := g) (no_cells (hAK.ext hx).mp hN') hN' (hmk _ rfl).1 (hmk _ rfl).2
          exact param1_calls IHs ((hAK.ext hx).of_ (Nat.le_of_lt hnum) vs.1 vs.2 hmk) (HDC.out.ext0 (H.ext.seq hx)) hSd HSM.out ⟨hx.keep (bD.cells 14), hx.keep (bD.cells 15), hx.keep (bA.cells 0), hx.keep (bA.cells 1), hx.keep (bA.cells 2), hx.keep (bA.cells 3), trivial⟩)
        rw [hqq] at hcall
        clear hqq bN bD bA hAK hmk
        refine hcall.mono ?_
        clear hcall
        rintro e w14 ⟨rfl, hkn⟩
        obtain ⟨ex, hx, hm, hr⟩ := hkn
        have HXX := Lib.hid ((H.ext.noX (X := fun k => k = g)).also hx fun _ h => h)
        have HM14 := Lib.hid hm
        have HR14 := Lib.hid hr
        have HLN2 := Lib.hid (look_app HLN.out (hr.none (k := (num, a)) (Nat.le_refl _)))
        have H := H.rebase hx HGL.out hm trivial
        clear hx hm hr
        have hr_ := H.rules; simp only [Rules, and_true] at hr_; have hd_ := H.dif; simp only [Dif, Neq, and_true] at hd_; obtain ⟨ho_, hz_⟩ := H.old0
        go_wp2_with ((with_reducible refine atMapUpdate ?_); go_must (refine wpList_mapUpdateP (es := es ++ ex) (g := g) (k := (num, a)) (v := q) Tryz.underlying159 pairT (by go_simp <;> first | rfl | exact ⟨rfl, rfl⟩) (by go_simp <;> first | rfl | exact ⟨rfl, rfl⟩) (by go_simp <;> first | rfl | exact ⟨rfl, rfl⟩) HM14.out HLN2.out ?_))
        (try clear hr_ hd_ ho_ hz_)
        go_ret
        refine ⟨rfl, ex ++ [((num, a), q)], HXX.out.also World.at_ext (fun _ h => h), ?_, (HR14.out.more (Nat.le_succ _)).app (fun x hx => ?_)⟩
        · rw [← List.append_assoc]
          exact World.at_at (Array.getElem?_eq_some_iff.1 HM14.out).1
        · obtain rfl := List.mem_singleton.1 hx
          exact ⟨Nat.lt_succ_self _, HQ.out⟩
    · refine wpOp_do (i := 10) rfl (by rfl) (fun K_ hK_ => ?_)
      go_simp
      refine kontH (by (repeat (first | with_reducible exact H | with_reducible exact H0_ | with_reducible apply Hp.alloc | with_reducible apply Hp.allocMap | with_reducible apply Hp.drew | with_reducible apply Hp.drewN | with_reducible apply Hp.set)); (try any_goals (repeat (first | with_reducible exact Upd.head | with_reducible apply Upd.tail)))) ?_
      clear H; intro wb_ H; (try simp only [size_drew_, size_drewN_, World.size_alloc, World.size_setCell, List.set_cons_zero, List.set_cons_succ] at H)
      refine hK_ _ _ (fun _ => H.sub (by simp)) (fun hR_ => ?_)
      replace hR_ := hR_ (by decide)
      refine wpL_do (i := 7) rfl (by kernel_rfl) (by rfl) (fun K_ hK_ => ?_)
      go_simp
      refine tvariable_calls.mono ?_
      rintro e w_ ⟨bn, hbn, hcell, rfl, H2⟩
      replace H := H.resAllS H2 rfl
      dsimp only [List.cons_append, List.nil_append] at H
      clear H2 hcell hbn
      refine hK_ _ _ (fun _ => H.sub (by simp)) (fun hR_ => ?_)
      replace hR_ := hR_ (by decide)
      refine wpL_do (i := 9) rfl (by kernel_rfl) (by rfl) (fun K_ hK_ => ?_)
      go_simp
      refine (of_calls (k := num) ⟨_, _, _, rfl⟩ ⟨_, _, _, rfl⟩ (Nat.le_of_lt hnum) hMn.2 hMn.1).mono ?_
      rintro e w_ ⟨rfl, hx⟩
      replace H := H.call hx
      clear hx
      refine hK_ _ _ (fun _ => H.sub (by simp)) (fun hR_ => ?_)
      replace hR_ := hR_ (by decide)
      refine wpL_do (i := 11) rfl (by kernel_rfl) (by rfl) (fun K_ hK_ => ?_)
      refine wp_storeH rfl (by go_simp <;> first | rfl | exact ⟨rfl, rfl⟩) (by go_simp <;> first | rfl | exact ⟨rfl, rfl⟩) H (by (repeat (first | with_reducible exact Upd.head | with_reducible apply Upd.tail))) (by exact aggAsker) (by rfl) (by simp [Value.oneCell']) (fun w12 H_ => ?_)
      clear H; have H := H_; clear H_
      refine hK_ _ _ (fun _ => H.sub (by simp)) (fun hR_ => ?_)
      replace hR_ := hR_ (by decide)
      refine wpL_done (by kernel_rfl) ?_ _
      go_wp2_with fail
      refine callsH (by (repeat (first | with_reducible exact H | with_reducible exact H0_ | with_reducible apply Hp.alloc | with_reducible apply Hp.allocMap | with_reducible apply Hp.drew | with_reducible apply Hp.drewN | with_reducible apply Hp.set)); (try any_goals (repeat (first | with_reducible exact Upd.head | with_reducible apply Upd.tail)))) ?_
      clear H; intro w13 H; (try simp only [size_drew_, size_drewN_, World.size_alloc, World.size_setCell, List.set_cons_zero, List.set_cons_succ] at H)
      rw [HV.out] at H
      have hAK := HA.out.ext H.ext
      have bN := H.blk (t := 3) (cs := [.int .i64 ((d.params.length : Int) - 1 - a)]) (by (repeat (first | with_reducible exact Pick.head | with_reducible apply Pick.tail)))
      have bD := H.blk (t := 51) (cs := [.int .i64 d.kind, .int .i64 d.levels, .int .i64 d.ty.k, .int .i64 d.ty.n, .int .i64 d.ty.a, .slice Aty d.ty.ls.length cty, .slice Kty d.ty.ks.length kty, .int .i64 d.body.k, .int .i64 d.body.n, .int .i64 d.body.a, .slice Abody d.body.ls.length cbody, .slice Kbody d.body.ks.length kbody, .slice Aparams d.params.length cparams, .slice Asort d.sort.length csort, .slice Amembers d.members.length cmembers, .slice Actors d.ctors.length cctors]) (by (repeat (first | with_reducible exact Pick.head | with_reducible apply Pick.tail)))
      have bA := H.blk (t := 161) (cs := [.func (.func 260) #[] #[.pointer (some ⟨bn, 0, none⟩)], .func (.func 261) #[] #[.pointer (some ⟨bn, 0, none⟩)], .slice (some ⟨b_, o, none⟩) num c, .map (some g)]) (by (repeat (first | with_reducible exact Pick.head | with_reducible apply Pick.tail)))
      have hqq : ((d.members.all fun m => freeRow (some ((d.params.length : Int) - 1 - a)) 0 m.index) && d.ctors.all (ctorP (ds.take num) (parT ds num) ((d.params.length : Int) - 1 - a))) = q := by
        rw [HQ.out, HPQ.out]; rfl
      have hmk : MkOK (some ((d.params.length : Int) - 1 - a)) := fun n hn => by cases hn; omega
      have hcall := theld_calls (w := w13) (g := g) (ds := ds) (n := num) (es := es) hAK.lt (enters_of Tryz.func212 (by kernel_rfl) rfl) (fun w' hx => by
        have hN' := hx.keep (show w13.cell? ⟨bn, 0, none⟩ = some (.int .i64 ((d.params.length : Int) - 1 - a)) from bN.cells 0)
        have vs := variable_st (W := w') (g := g) (no_cells (hAK.ext hx).mp hN') hN' (hmk _ rfl).1 (hmk _ rfl).2
        exact param1_calls IHs ((hAK.ext hx).of_ (Nat.le_of_lt hnum) vs.1 vs.2 hmk) (HDC.out.ext0 (H.ext.seq hx)) hSd HSM.out ⟨hx.keep (bD.cells 14), hx.keep (bD.cells 15), hx.keep (bA.cells 0), hx.keep (bA.cells 1), hx.keep (bA.cells 2), hx.keep (bA.cells 3), trivial⟩)
      rw [hqq] at hcall
      clear hqq bN bD bA hAK hmk
      refine hcall.mono ?_
      clear hcall
      rintro e w14 ⟨rfl, hkn⟩
      obtain ⟨ex, hx, hm, hr⟩ := hkn
      have HXX := Lib.hid ((H.ext.noX (X := fun k => k = g)).also hx fun _ h => h)
      have HM14 := Lib.hid hm
      have HR14 := Lib.hid hr
      have HLN2 := Lib.hid (look_app HLN.out (hr.none (k := (num, a)) (Nat.le_refl _)))
      have H := H.rebase hx HGL.out hm trivial
      clear hx hm hr
      have hr_ := H.rules; simp only [Rules, and_true] at hr_; have hd_ := H.dif; simp only [Dif, Neq, and_true] at hd_; obtain ⟨ho_, hz_⟩ := H.old0
      go_wp2_with ((with_reducible refine atMapUpdate ?_); go_must (refine wpList_mapUpdateP (es := es ++ ex) (g := g) (k := (num, a)) (v := q) Tryz.underlying159 pairT (by go_simp <;> first | rfl | exact ⟨rfl, rfl⟩) (by go_simp <;> first | rfl | exact ⟨rfl, rfl⟩) (by go_simp <;> first | rfl | exact ⟨rfl, rfl⟩) HM14.out HLN2.out ?_))
      (try clear hr_ hd_ ho_ hz_)
      go_ret
      refine ⟨rfl, ex ++ [((num, a), q)], HXX.out.also World.at_ext (fun _ h => h), ?_, (HR14.out.more (Nat.le_succ _)).app (fun x hx => ?_)⟩
      · rw [← List.append_assoc]
        exact World.at_at (Array.getElem?_eq_some_iff.1 HM14.out).1
      · obtain rfl := List.mem_singleton.1 hx
        exact ⟨Nat.lt_succ_self _, HQ.out⟩
theorem strict0 (ds : List Dc) (n : Nat) : StrictAt ds n 0 := by
  intro W g A0 c es mk fs fi ha S t v below hv hS hb hF
  have := sizeT_eq t
  omega
theorem params_ok (ds : List Dc) : ∀ num, ParamOK ds num := by
  intro num
  induction num using Nat.strongRecOn with
  | ind num ih =>
    refine param_of fun F => ?_
    induction F with
    | zero => exact strict0 ds num
    | succ F ihF => exact strA ihF ih
theorem stricts_ok (ds : List Dc) (n : Nat) : ∀ F, StrictAt ds n F := by
  intro F
  induction F with
  | zero => exact strict0 ds n
  | succ F ihF => exact strA ihF fun num _ => params_ok ds num
end Go.Proofs.YtmedomglemllnaaGreatDoor
