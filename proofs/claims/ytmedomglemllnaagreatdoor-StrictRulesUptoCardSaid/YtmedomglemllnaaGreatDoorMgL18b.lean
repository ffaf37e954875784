/- tele: a row of old memory laid above an old term: contract. No statement of the seat is proved here. -/
import Derived.Test.YtmedomglemllnaaGreatDoorMgTele3
import Derived.Test.YtmedomglemllnaaGreatDoorMgWalkG
import Derived.Test.YtmedomglemllnaaGreatDoorStr11
namespace Go.Proofs.YtmedomglemllnaaGreatDoor
set_option linter.unusedSimpArgs false
set_option linter.unusedVariables false
open Go.RowKit
attribute [local go_sem] Oper.semAt_some

def anyW : Nat → Prop := fun _ => True
theorem RC.blkRow {w : World} {S : Nat → Prop} {e z g t n : Nat} {ds : List D} {cs : List Value} (hb : Blk w g t cs.toArray) (hS : S g) (h : RCs w S ds cs) (hz : ∀ d ∈ ds, d.size = z) (hn : n = ds.length) (hM : ds.length ≤ M) : RC w S (.l e z ds) [.slice (some ⟨g, 0, none⟩) n n] := by
  subst hn
  unfold RC
  refine ⟨_, _, rfl, Nat.le_refl _, by unfold M at hM; unfold maxLen; omega, hM, hz, .inr ⟨g, 0, cs, rfl, hb.lt, hS, h, fun j u hu => ?_⟩⟩
  rw [Nat.zero_add, hb.cells j]
  simpa using hu
theorem RCs.two {w : World} {S : Nat → Prop} {d d' : D} {c1 c2 : List Value} (h : RC w S d c1) (h' : RC w S d' c2) : RCs w S [d, d'] (c1 ++ c2) := by
  unfold RCs
  refine ⟨c1, c2, rfl, h, ?_⟩
  unfold RCs
  exact ⟨c2, [], by simp, h', by unfold RCs; rfl⟩
theorem RC.any {w : World} {S : Nat → Prop} {d : D} {cs : List Value} (h : RC w S d cs) : RC w anyW d cs := RC.frame (Nat.le_refl _) (fun _ _ _ => trivial) (fun _ _ _ => rfl) _ _ h
end Go.Proofs.YtmedomglemllnaaGreatDoor
/- law 18: what its terms are built with: contracts. No statement of the seat is proved here. -/
namespace Go.Proofs.YtmedomglemllnaaGreatDoor
set_option linter.unusedSimpArgs false
set_option linter.unusedVariables false
open Go.RowKit

abbrev tV18 (k n a : Int) : Value := .agg #[.int .i64 k, .int .i64 n, .int .i64 a, .slice none 0 0, .slice none 0 0]
theorem inI18 {k : Int} (h0 : -1000000000 ≤ k) (h1 : k ≤ 1000000000) : inI k := by unfold inI; omega
theorem tN18 {w : World} {S : Nat → Prop} {k n a : Int} (h1 : inI k) (h2 : inI n) (h3 : inI a) : RC w S (Tm.mk k n a [] []).d [.int .i64 k, .int .i64 n, .int .i64 a, .slice none 0 0, .slice none 0 0] := RC.tm.2 ⟨none, 0, none, 0, rfl, h1, h2, h3, RC.nil, RC.nil⟩
def PR18 (w : World) (S : Nat → Prop) (d : D) (e : Ending) (w' : World) : Prop := ∃ cs : List Value, e = .returned (.agg cs.toArray) ∧ RC w' (fun k => S k ∨ w.heap.size ≤ k) d cs ∧ Ext no w w'
set_option maxRecDepth 100000 in
set_option maxHeartbeats 2000000 in
theorem v18_calls {w : World} {n : Int} : Calls Tryz.prog 45 #[.int .i64 n] w (PV w (tV18 1 n 0)) := by
  go_enter Tryz.func45, Tryz.ntmps45
  have H := Hp.start no w
  go_wp2_with ((with_reducible refine atStore (t := 26) ?_); go_must (refine wpList_storeH (t := 26) rfl rfl (by go_simp <;> first | rfl | exact ⟨rfl, rfl⟩) (by go_simp <;> first | rfl | exact ⟨rfl, rfl⟩) (by exact Hp.norm (by (repeat (first | with_reducible exact H | with_reducible exact H0_ | with_reducible apply Hp.alloc | with_reducible apply Hp.allocMap | with_reducible apply Hp.drew | with_reducible apply Hp.drewN | with_reducible apply Hp.set)); (try any_goals (repeat (first | with_reducible exact Upd.head | with_reducible apply Upd.tail)))) (by ((try simp only [size_drew_, size_drewN_, World.size_alloc, World.size_setCell, List.set_cons_zero, List.set_cons_succ, List.nil_append, List.cons_append]) <;> rfl))) (by (repeat (first | with_reducible exact Upd.head | with_reducible apply Upd.tail))) (by exact aggTerm) (by rfl) (by simp [Value.oneCell']) ?_; clear H; intro w7 H; (try simp only [size_drew_, size_drewN_, World.size_alloc, World.size_setCell, List.set_cons_zero, List.set_cons_succ] at H); (try clear hr_ hd_ ho_ hz_); have hr_ := H.rules; simp only [Rules, and_true] at hr_; have hd_ := H.dif; simp only [Dif, Neq, and_true] at hd_; obtain ⟨ho_, hz_⟩ := H.old0))
  (try clear hr_ hd_ ho_ hz_)
  exact bodyPost_ret (v := tV18 1 n 0) (Res.one Tryz.results45 (H.resBox (by (repeat (first | with_reducible exact Pick.head | with_reducible apply Pick.tail))) aggTerm rfl rfl)) rfl ⟨rfl, H.ext⟩
set_option maxRecDepth 100000 in
set_option maxHeartbeats 2000000 in
theorem self18_calls {w : World} {n : Int} : Calls Tryz.prog 44 #[.int .i64 n] w (PV w (tV18 11 0 n)) := by
  go_enter Tryz.func44, Tryz.ntmps44
  have H := Hp.start no w
  go_wp2_with ((with_reducible refine atStore (t := 26) ?_); go_must (refine wpList_storeH (t := 26) rfl rfl (by go_simp <;> first | rfl | exact ⟨rfl, rfl⟩) (by go_simp <;> first | rfl | exact ⟨rfl, rfl⟩) (by exact Hp.norm (by (repeat (first | with_reducible exact H | with_reducible exact H0_ | with_reducible apply Hp.alloc | with_reducible apply Hp.allocMap | with_reducible apply Hp.drew | with_reducible apply Hp.drewN | with_reducible apply Hp.set)); (try any_goals (repeat (first | with_reducible exact Upd.head | with_reducible apply Upd.tail)))) (by ((try simp only [size_drew_, size_drewN_, World.size_alloc, World.size_setCell, List.set_cons_zero, List.set_cons_succ, List.nil_append, List.cons_append]) <;> rfl))) (by (repeat (first | with_reducible exact Upd.head | with_reducible apply Upd.tail))) (by exact aggTerm) (by rfl) (by simp [Value.oneCell']) ?_; clear H; intro w7 H; (try simp only [size_drew_, size_drewN_, World.size_alloc, World.size_setCell, List.set_cons_zero, List.set_cons_succ] at H); (try clear hr_ hd_ ho_ hz_); have hr_ := H.rules; simp only [Rules, and_true] at hr_; have hd_ := H.dif; simp only [Dif, Neq, and_true] at hd_; obtain ⟨ho_, hz_⟩ := H.old0))
  (try clear hr_ hd_ ho_ hz_)
  exact bodyPost_ret (v := tV18 11 0 n) (Res.one Tryz.results44 (H.resBox (by (repeat (first | with_reducible exact Pick.head | with_reducible apply Pick.tail))) aggTerm rfl rfl)) rfl ⟨rfl, H.ext⟩
set_option maxRecDepth 100000 in
set_option maxHeartbeats 2000000 in
theorem ind18_calls {w : World} {n : Int} : Calls Tryz.prog 49 #[.int .i64 n] w (PV w (tV18 8 n 0)) := by
  go_enter Tryz.func49, Tryz.ntmps49
  have H := Hp.start no w
  go_wp2_with ((with_reducible refine atStore (t := 26) ?_); go_must (refine wpList_storeH (t := 26) rfl rfl (by go_simp <;> first | rfl | exact ⟨rfl, rfl⟩) (by go_simp <;> first | rfl | exact ⟨rfl, rfl⟩) (by exact Hp.norm (by (repeat (first | with_reducible exact H | with_reducible exact H0_ | with_reducible apply Hp.alloc | with_reducible apply Hp.allocMap | with_reducible apply Hp.drew | with_reducible apply Hp.drewN | with_reducible apply Hp.set)); (try any_goals (repeat (first | with_reducible exact Upd.head | with_reducible apply Upd.tail)))) (by ((try simp only [size_drew_, size_drewN_, World.size_alloc, World.size_setCell, List.set_cons_zero, List.set_cons_succ, List.nil_append, List.cons_append]) <;> rfl))) (by (repeat (first | with_reducible exact Upd.head | with_reducible apply Upd.tail))) (by exact aggTerm) (by rfl) (by simp [Value.oneCell']) ?_; clear H; intro w7 H; (try simp only [size_drew_, size_drewN_, World.size_alloc, World.size_setCell, List.set_cons_zero, List.set_cons_succ] at H); (try clear hr_ hd_ ho_ hz_); have hr_ := H.rules; simp only [Rules, and_true] at hr_; have hd_ := H.dif; simp only [Dif, Neq, and_true] at hd_; obtain ⟨ho_, hz_⟩ := H.old0))
  (try clear hr_ hd_ ho_ hz_)
  exact bodyPost_ret (v := tV18 8 n 0) (Res.one Tryz.results49 (H.resBox (by (repeat (first | with_reducible exact Pick.head | with_reducible apply Pick.tail))) aggTerm rfl rfl)) rfl ⟨rfl, H.ext⟩
abbrev sort18T : Tm := .mk 2 0 0 [[]] []
set_option maxRecDepth 100000 in
set_option maxHeartbeats 2000000 in
theorem sort18_calls {w : World} {S : Nat → Prop} : Calls Tryz.prog 50 #[] w (PR18 w S sort18T.d) := by
  go_enter Tryz.func50, Tryz.ntmps50
  have H := Hp.start no w
  go_wp2_with ((with_reducible refine atStore (t := 26) ?_); go_must (refine wpList_storeH (t := 26) rfl rfl (by go_simp <;> first | rfl | exact ⟨rfl, rfl⟩) (by go_simp <;> first | rfl | exact ⟨rfl, rfl⟩) (by exact Hp.norm (by (repeat (first | with_reducible exact H | with_reducible exact H0_ | with_reducible apply Hp.alloc | with_reducible apply Hp.allocMap | with_reducible apply Hp.drew | with_reducible apply Hp.drewN | with_reducible apply Hp.set)); (try any_goals (repeat (first | with_reducible exact Upd.head | with_reducible apply Upd.tail)))) (by ((try simp only [size_drew_, size_drewN_, World.size_alloc, World.size_setCell, List.set_cons_zero, List.set_cons_succ, List.nil_append, List.cons_append]) <;> rfl))) (by (repeat (first | with_reducible exact Upd.head | with_reducible apply Upd.tail))) (by exact aggTerm) (by rfl) (by simp [Value.oneCell']) ?_; clear H; intro w7 H; (try simp only [size_drew_, size_drewN_, World.size_alloc, World.size_setCell, List.set_cons_zero, List.set_cons_succ] at H); (try clear hr_ hd_ ho_ hz_); have hr_ := H.rules; simp only [Rules, and_true] at hr_; have hd_ := H.dif; simp only [Dif, Neq, and_true] at hd_; obtain ⟨ho_, hz_⟩ := H.old0))
  (try clear hr_ hd_ ho_ hz_)
  have b := H.blk (t := 47) (cs := [.slice none 0 0]) (g := w.heap.size + 1) (by (repeat (first | with_reducible exact Pick.head | with_reducible apply Pick.tail)))
  exact bodyPost_ret (v := .agg #[.int .i64 2, .int .i64 0, .int .i64 0, .slice (some ⟨w.heap.size + 1, 0, none⟩) 1 1, .slice none 0 0]) (Res.one Tryz.results50 (H.resBox (by (repeat (first | with_reducible exact Pick.head | with_reducible apply Pick.tail))) aggTerm rfl rfl)) rfl
    ⟨_, rfl, RC.tm.2 ⟨_, _, _, _, rfl, inI18 (by decide) (by decide), inI18 (by decide) (by decide), inI18 (by decide) (by decide), RC.blkRow (ds := [lvD []]) b (.inr (by omega)) (by unfold RCs; exact ⟨[.slice none 0 0], [], rfl, RC.lv.2 ⟨none, 0, rfl, RC.nil⟩, by unfold RCs; rfl⟩) (by simp [lvD_size]) rfl (by unfold M; simp), RC.nil⟩, H.ext⟩
end Go.Proofs.YtmedomglemllnaaGreatDoor
/- law 18: pi, app: functions' types, a term at others: contracts. No statement of the seat is proved here. -/
namespace Go.Proofs.YtmedomglemllnaaGreatDoor
set_option linter.unusedSimpArgs false
set_option linter.unusedVariables false
open Go.RowKit

def TP (w0 : World) (S : Nat → Prop) (K : List Nat) (u : Tm) (cs : List Value) (W : World) : Prop :=
  ∀ W' : World, W.heap.size ≤ W'.heap.size → (∀ k ∈ K, W'.heap[k]? = W.heap[k]?) → (∀ k, k < w0.heap.size → W'.heap[k]? = w0.heap[k]?) → RC W' (fun k => k ∈ K ∨ (S k ∧ k < w0.heap.size)) u.d cs
section
variable {w0 w w1 : World} {l l1 l2 : List Ch} {K : List Nat} {u x : Tm} {cu cx : List Value} {S : Nat → Prop}
theorem TP.stays (h : TP w0 S K u cu w) (hz : w.heap.size ≤ w1.heap.size) (hw : ∀ k ∈ K, w1.heap[k]? = w.heap[k]?) : TP w0 S K u cu w1 :=
  fun W' hz' hk ho => h W' (Nat.le_trans hz hz') (fun k hk' => (hk k hk').trans (hw k hk')) ho
theorem Hp.ghStart (H : Hp no w0 w l) (h : RC w0 S u.d cu) : Hp no w0 w (.gh [] (TP w0 S [] u cu) :: l) := by
  obtain ⟨L, h1, hn⟩ := H.own
  refine ⟨H.ext, L, ?_, hn⟩
  unfold Chs
  refine ⟨[], L, rfl, ⟨rfl, by simp, ?_, fun w' hz hw => ?_⟩, h1⟩
  · intro W' hz hk ho
    exact RC.frame (Nat.le_trans H.ext.size hz) (fun k hk' hs => .inr ⟨hs, hk'⟩) (fun k hk' _ => ho k hk') _ _ h
  · exact TP.stays (fun W' hz hk ho => RC.frame (Nat.le_trans H.ext.size hz) (fun k hk' hs => .inr ⟨hs, hk'⟩) (fun k hk' _ => ho k hk') _ _ h) hz hw
theorem Hp.ghAt (H : Hp no w0 w l) (p : Pick l (.gh K (TP w0 S K u cu)) l1) : RC w (fun k => S k ∨ w0.heap.size ≤ k) u.d cu := by
  obtain ⟨L, h, _⟩ := (H.pick p).own
  unfold Chs at h
  obtain ⟨L1, L2, rfl, ⟨rfl, h2, h3, h4⟩, h5⟩ := h
  exact RC.frame (Nat.le_refl _) (fun k _ hk => hk.elim (fun hk => .inr (h2 k hk).1) (fun hk => .inl hk.1)) (fun _ _ _ => rfl) _ _ (h3 w (Nat.le_refl _) (fun _ _ => rfl) (fun k hk => H.ext.block k hk no_not))
theorem Hp.ghNode {k : Int} {g : Nat} {a b : Tm} {ca cb : List Value} (H : Hp no w0 w l) (p0 : Pick l (.box g 26 (ca ++ cb)) l1) (p1 : Pick l1 (.gh K (TP w0 S K u cu)) l2) (hx : RC w0 S x.d cx) (hab : (a = x ∧ ca = cx ∧ b = u ∧ cb = cu) ∨ (a = u ∧ ca = cu ∧ b = x ∧ cb = cx)) (hk : inI k) :
    Hp no w0 w (.gh (g :: K) (TP w0 S (g :: K) (.mk k 0 0 [] [a, b]) [.int .i64 k, .int .i64 0, .int .i64 0, .slice none 0 0, .slice (some ⟨g, 0, none⟩) 2 2]) :: l2) := by
  have H2 := ((H.pick p0).pick (.tail p1)).swap
  refine Hp.turn (ds := [_, _]) (ds' := [_]) H2 ?_
  intro L h
  simp only [Chs] at h ⊢
  obtain ⟨L1, _, rfl, ⟨rfl, hg, hb⟩, L2, _, rfl, ⟨rfl, hK, hp, hst⟩, rfl⟩ := h
  have hsz := H.ext.size
  have key : TP w0 S (g :: L2) (.mk k 0 0 [] [a, b]) [.int .i64 k, .int .i64 0, .int .i64 0, .slice none 0 0, .slice (some ⟨g, 0, none⟩) 2 2] w := by
    intro W' hz hk' ho
    have hu := hp W' hz (fun j hj => hk' j (by simp [hj])) ho
    have hu2 : RC W' (fun j => j ∈ g :: L2 ∨ (S j ∧ j < w0.heap.size)) u.d cu := RC.frame (Nat.le_refl _) (fun j _ hj => hj.imp (fun h => by simp [h]) id) (fun _ _ _ => rfl) _ _ hu
    have hx2 : RC W' (fun j => j ∈ g :: L2 ∨ (S j ∧ j < w0.heap.size)) x.d cx := RC.frame (Nat.le_trans hsz hz) (fun j hj hs => .inr ⟨hs, hj⟩) (fun j hj _ => ho j hj) _ _ hx
    have hb2 : Blk W' g 26 (ca ++ cb).toArray := (hk' g (by simp)).trans hb
    refine RC.tm.2 ⟨none, 0, some ⟨g, 0, none⟩, 2, rfl, hk, by simp only [Tm.n_mk]; exact inI18 (by decide) (by decide), by simp only [Tm.a_mk]; exact inI18 (by decide) (by decide), RC.nil, ?_⟩
    refine RC.blkRow (ds := [a.d, b.d]) hb2 (.inl (by simp)) ?_ (by simp [Tm.size_d]) rfl (by unfold M; simp)
    rcases hab with ⟨rfl, rfl, rfl, rfl⟩ | ⟨rfl, rfl, rfl, rfl⟩
    · exact RCs.two hx2 hu2
    · exact RCs.two hu2 hx2
  refine ⟨g :: L2, [], by simp, ⟨rfl, ?_, key, fun w' hz hw => key.stays hz hw⟩, rfl⟩
  intro j hj
  rcases List.mem_cons.1 hj with rfl | hj
  · exact ⟨hg.resolve_left no_not, hb.lt⟩
  · exact hK j hj
end
theorem aboveT_app (k : Int) (ts : List Tm) (x b : Tm) : aboveT k (ts ++ [x]) b = aboveT k ts (.mk k 0 0 [] [x, b]) := by
  induction ts with
  | nil => rfl
  | cons t ts ih => rw [List.cons_append, aboveT, ih, aboveT]
theorem appsT_app (f : Tm) (xs : List Tm) (x : Tm) : appsT f (xs ++ [x]) = .mk 6 0 0 [] [appsT f xs, x] := by
  rw [appsT_append]; rfl
set_option maxRecDepth 100000 in
set_option maxHeartbeats 8000000 in
theorem pi18_calls {w : World} {S : Nat → Prop} {b : Tm} {row : List Tm} {cb : List Value} {A0 : Option Addr} {c : Nat} (hb : RC w S b.d cb) (h : RC w S (.l 26 5 (row.map Tm.d)) [.slice A0 row.length c]) :
    Calls Tryz.prog 47 #[.agg cb.toArray, .slice A0 row.length c] w (PR18 w S (aboveT 4 row b).d) := by
  obtain ⟨B1, c1, K1, k1, rfl, _⟩ := RC.tm.1 hb
  have hM := h.lenM
  have HB := Lib.hid hb
  have HR := Lib.hid h
  clear hb h
  go_enter Tryz.func47, Tryz.ntmps47
  have H := Hp.start no w
  go_wp2_with fail
  refine codeH (by (repeat (first | with_reducible exact H | with_reducible exact H0_ | with_reducible apply Hp.alloc | with_reducible apply Hp.allocMap | with_reducible apply Hp.drew | with_reducible apply Hp.drewN | with_reducible apply Hp.set)); (try any_goals (repeat (first | with_reducible exact Upd.head | with_reducible apply Upd.tail)))) ?_
  clear H; intro w1 H; (try simp only [size_drew_, size_drewN_, World.size_alloc, World.size_setCell, List.set_cons_zero, List.set_cons_succ] at H)
  replace H := H.ghStart HB.out
  go_loopw [5] (fun i wr => ∃ (k : Nat) (u : Tm) (B1 K1 : Option Addr) (c1 k1 : Nat) (KK : List Nat), k ≤ row.length ∧ i = .int .i64 ((k : Int) - 1) ∧ Hid (aboveT 4 row b = aboveT 4 (row.take k) u) ∧ Hp no w wr [.gh KK (TP w S KK u [.int .i64 u.k, .int .i64 u.n, .int .i64 u.a, .slice B1 u.ls.length c1, .slice K1 u.ks.length k1]), .box (w.heap.size + 1) 26 [.int .i64 0, .int .i64 0, .int .i64 0, .slice none 0 0, .slice none 0 0], .box w.heap.size 26 [.int .i64 u.k, .int .i64 u.n, .int .i64 u.a, .slice B1 u.ls.length c1, .slice K1 u.ks.length k1]]) (fun i _ => (intOf i + 1).toNat)
  case atStart => exact ⟨row.length, b, B1, K1, c1, k1, [], Nat.le_refl _, rfl, Lib.hid (by rw [List.take_length]), H⟩
  case round =>
    clear H
    obtain ⟨k, u, B1, K1, c1, k1, KK, hk, rfl, HU, H⟩ := hrel
    rcases k with _ | k
    · rw [show (((0 : Nat) : Int)) - 1 = -1 by rfl]
      have hr_ := H.rules; simp only [Rules, and_true] at hr_; have hd_ := H.dif; simp only [Dif, Neq, and_true] at hd_; obtain ⟨ho_, hz_⟩ := H.old0
      go_wp2_with ((with_reducible refine atStore (t := 26) ?_); go_must (refine wpList_storeH (t := 26) rfl rfl (by go_simp <;> first | rfl | exact ⟨rfl, rfl⟩) (by go_simp <;> first | rfl | exact ⟨rfl, rfl⟩) (by exact Hp.norm (by (repeat (first | with_reducible exact H | with_reducible exact H0_ | with_reducible apply Hp.alloc | with_reducible apply Hp.allocMap | with_reducible apply Hp.drew | with_reducible apply Hp.drewN | with_reducible apply Hp.set)); (try any_goals (repeat (first | with_reducible exact Upd.head | with_reducible apply Upd.tail)))) (by ((try simp only [size_drew_, size_drewN_, World.size_alloc, World.size_setCell, List.set_cons_zero, List.set_cons_succ, List.nil_append, List.cons_append]) <;> rfl))) (by (repeat (first | with_reducible exact Upd.head | with_reducible apply Upd.tail))) (by exact aggTerm) (by rfl) (by simp [Value.oneCell']) ?_; clear H; intro w7 H; (try simp only [size_drew_, size_drewN_, World.size_alloc, World.size_setCell, List.set_cons_zero, List.set_cons_succ] at H); (try clear hr_ hd_ ho_ hz_); have hr_ := H.rules; simp only [Rules, and_true] at hr_; have hd_ := H.dif; simp only [Dif, Neq, and_true] at hd_; obtain ⟨ho_, hz_⟩ := H.old0))
      (try clear hr_ hd_ ho_ hz_)
      exact bodyPost_ret (v := .agg #[.int .i64 u.k, .int .i64 u.n, .int .i64 u.a, .slice B1 u.ls.length c1, .slice K1 u.ks.length k1]) (Res.one Tryz.results47 (H.resBox (g := w.heap.size + 1) (by (repeat (first | with_reducible exact Pick.head | with_reducible apply Pick.tail))) aggTerm rfl rfl)) rfl ⟨_, rfl, (by have e : aboveT 4 row b = u := HU.out.trans (by simp [aboveT]); rw [e]; exact H.ghAt (by (repeat (first | with_reducible exact Pick.head | with_reducible apply Pick.tail)))), H.ext⟩
    · rw [show (((k + 1 : Nat) : Int)) - 1 = (k : Int) by omega]
      have hlt : k < row.length := by omega
      have hA : ∃ b_ o, A0 = some ⟨b_, o, none⟩ := by
        obtain ⟨b_, o, _, _, _, _, h, _⟩ := HR.out.atTm hlt
        exact ⟨b_, o, h⟩
      obtain ⟨b_, o, rfl⟩ := hA
      obtain ⟨b2_, o2, B2, ca2, L2, ck2, hA_, hb, hS_, hd, p0, p1, p2, p3, p4⟩ := HR.out.atTm hlt
      simp only [Option.some.injEq, Addr.mk.injEq, and_true] at hA_
      obtain ⟨rfl, rfl⟩ := hA_
      have HD := Lib.hid hd
      clear hd hS_
      have hr_ := H.rules; simp only [Rules, and_true] at hr_; have hd_ := H.dif; simp only [Dif, Neq, and_true] at hd_; obtain ⟨ho_, hz_⟩ := H.old0
      go_wp2_with fail
      (try clear hr_ hd_ ho_ hz_)
      refine regionH (by (repeat (first | with_reducible exact H | with_reducible exact H0_ | with_reducible apply Hp.alloc | with_reducible apply Hp.allocMap | with_reducible apply Hp.drew | with_reducible apply Hp.drewN | with_reducible apply Hp.set)); (try any_goals (repeat (first | with_reducible exact Upd.head | with_reducible apply Upd.tail)))) ?_
      clear H; intro w2 H; (try simp only [size_drew_, size_drewN_, World.size_alloc, World.size_setCell, List.set_cons_zero, List.set_cons_succ] at H)
      refine wp_region_H 8 [false, false, false, false, false, false, false, false] [7] H (.cons (i := 2) rfl .nil) (by kernel_rfl) rfl rfl (fun H_ hR_ => ?_)
      (try clear H0_); have H0_ := H; clear H; have H := H_; clear H_
      refine wpL_reads (is := [(0, ?v1_0), (1, ?v1_1), (2, ?v1_2), (3, ?v1_3), (4, ?v1_4)]) (by kernel_rfl) (Nat.le_of_ble_eq_true rfl) (by intro _ _ d_ _ _ h_; cases d_ <;> exact h_) (by kernel_rfl) hR_ (fun w_ hw_ => ?h1_) ?_
      case h1_ =>
        have ho_ := hw_.old0.1; have hz_ := hw_.old0.2; have hr_ := hw_.rules; clear hw_; simp only [Rules, and_true] at hr_; go_split_ands
        (repeat (first | with_reducible exact RdOps.nil | (refine RdOps.run rfl (by rfl) ?_ ?_; (focus (first | (go_simp; done) | (go_simp; with_reducible rfl))); simp only [List.getElem_toArray, List.getElem_cons_zero, List.getElem_cons_succ, Act.put, List.setIfInBounds_toArray, List.set_cons_zero, List.set_cons_succ]) | (refine RdOps.skip rfl (by rfl) ?_ ?_; (focus (with_reducible rfl)); simp only [List.getElem_toArray, List.getElem_cons_zero, List.getElem_cons_succ, Act.put, List.setIfInBounds_toArray, List.set_cons_zero, List.set_cons_succ])))
      simp only [rdMark, rdAct, List.map_cons, List.map_nil, List.length_cons, List.length_nil, Nat.reduceAdd, Nat.reduceSub, Nat.zero_add, List.getElem?_toArray, List.getElem?_cons_zero, List.getElem?_cons_succ, Option.bind_some, Act.put, List.setIfInBounds_toArray, List.set_cons_zero, List.set_cons_succ]
      refine wpL_do (i := 5) rfl (by kernel_rfl) (by rfl) (fun K_ hK_ => ?_)
      go_simp
      refine kontH (by (repeat (first | with_reducible exact H | with_reducible exact H0_ | with_reducible apply Hp.alloc | with_reducible apply Hp.allocMap | with_reducible apply Hp.drew | with_reducible apply Hp.drewN | with_reducible apply Hp.set)); (try any_goals (repeat (first | with_reducible exact Upd.head | with_reducible apply Upd.tail)))) ?_
      clear H; intro wb_ H; (try simp only [size_drew_, size_drewN_, World.size_alloc, World.size_setCell, List.set_cons_zero, List.set_cons_succ] at H)
      refine hK_ _ _ (fun _ => H.sub (by simp)) (fun hR_ => ?_)
      replace hR_ := hR_ (by decide)
      refine wpL_reads (is := [(6, ?v2_0)]) (by kernel_rfl) (Nat.le_of_ble_eq_true rfl) (by intro _ _ d_ _ _ h_; cases d_ <;> exact h_) (by kernel_rfl) hR_ (fun w_ hw_ => ?h2_) ?_
      case h2_ =>
        have ho_ := hw_.old0.1; have hz_ := hw_.old0.2; have hr_ := hw_.rules; clear hw_; simp only [Rules, and_true] at hr_; go_split_ands
        (repeat (first | with_reducible exact RdOps.nil | (refine RdOps.run rfl (by rfl) ?_ ?_; (focus (first | (go_simp; done) | (go_simp; with_reducible rfl))); simp only [List.getElem_toArray, List.getElem_cons_zero, List.getElem_cons_succ, Act.put, List.setIfInBounds_toArray, List.set_cons_zero, List.set_cons_succ]) | (refine RdOps.skip rfl (by rfl) ?_ ?_; (focus (with_reducible rfl)); simp only [List.getElem_toArray, List.getElem_cons_zero, List.getElem_cons_succ, Act.put, List.setIfInBounds_toArray, List.set_cons_zero, List.set_cons_succ])))
      simp only [rdMark, rdAct, List.map_cons, List.map_nil, List.length_cons, List.length_nil, Nat.reduceAdd, Nat.reduceSub, Nat.zero_add, List.getElem?_toArray, List.getElem?_cons_zero, List.getElem?_cons_succ, Option.bind_some, Act.put, List.setIfInBounds_toArray, List.set_cons_zero, List.set_cons_succ]
      refine wpL_do (i := 7) rfl (by kernel_rfl) (by rfl) (fun K_ hK_ => ?_)
      refine wp_storeH rfl (by go_simp <;> first | rfl | exact ⟨rfl, rfl⟩) (by go_simp <;> first | rfl | exact ⟨rfl, rfl⟩) H (by (repeat (first | with_reducible exact Upd.head | with_reducible apply Upd.tail))) (by exact aggTerm) (by rfl) (by simp [Value.oneCell']) (fun w12 H_ => ?_)
      clear H; have H := H_; clear H_
      refine hK_ _ _ (fun h => absurd (by decide) h) (fun _ => ?_)
      refine wpL_done (by kernel_rfl) ?_ _
      have H3 := H.ghNode (k := 4) (cu := [.int .i64 u.k, .int .i64 u.n, .int .i64 u.a, .slice B1 u.ls.length c1, .slice K1 u.ks.length k1]) (ca := [.int .i64 row[k].k, .int .i64 row[k].n, .int .i64 row[k].a, .slice B2 row[k].ls.length ca2, .slice L2 row[k].ks.length ck2]) (cb := [.int .i64 u.k, .int .i64 u.n, .int .i64 u.a, .slice B1 u.ls.length c1, .slice K1 u.ks.length k1]) .head .head HD.out (.inl ⟨rfl, rfl, rfl, rfl⟩) (inI18 (by decide) (by decide))
      have HU2 := Lib.hid (show aboveT 4 row b = aboveT 4 (row.take k) (.mk 4 0 0 [] [row[k], u]) by rw [HU.out, List.take_succ_eq_append_getElem hlt, aboveT_app])
      clear H
      go_wp2_with fail
      go_roundw
      case rel =>
        refine ⟨k, .mk 4 0 0 [] [row[k], u], none, some ⟨w2.heap.size, 0, none⟩, 0, 2, w2.heap.size :: KK, by omega, by first | go_num | rfl | simp, HU2, ?_⟩
        exact H3
      case measure => first | (simp [intOf]; done) | (simp [intOf]; omega)
set_option maxRecDepth 100000 in
set_option maxHeartbeats 8000000 in
theorem app18_calls {w : World} {S : Nat → Prop} {b : Tm} {row : List Tm} {cb : List Value} {A0 : Option Addr} {c : Nat} (hb : RC w S b.d cb) (h : RC w S (.l 26 5 (row.map Tm.d)) [.slice A0 row.length c]) :
    Calls Tryz.prog 48 #[.agg cb.toArray, .slice A0 row.length c] w (PR18 w S (appsT b row).d) := by
  obtain ⟨B1, c1, K1, k1, rfl, _⟩ := RC.tm.1 hb
  have hM := h.lenM
  have HB := Lib.hid hb
  have HR := Lib.hid h
  clear hb h
  go_enter Tryz.func48, Tryz.ntmps48
  have H := Hp.start no w
  go_wp2_with fail
  refine codeH (by (repeat (first | with_reducible exact H | with_reducible exact H0_ | with_reducible apply Hp.alloc | with_reducible apply Hp.allocMap | with_reducible apply Hp.drew | with_reducible apply Hp.drewN | with_reducible apply Hp.set)); (try any_goals (repeat (first | with_reducible exact Upd.head | with_reducible apply Upd.tail)))) ?_
  clear H; intro w1 H; (try simp only [size_drew_, size_drewN_, World.size_alloc, World.size_setCell, List.set_cons_zero, List.set_cons_succ] at H)
  replace H := H.ghStart HB.out
  go_loopw [5] (fun i wr => ∃ (k : Nat) (B1 K1 : Option Addr) (c1 k1 : Nat) (KK : List Nat) (u : Tm), k ≤ row.length ∧ i = .int .i64 (k : Int) ∧ Hid (u = appsT b (row.take k)) ∧ Hp no w wr [.gh KK (TP w S KK u [.int .i64 u.k, .int .i64 u.n, .int .i64 u.a, .slice B1 u.ls.length c1, .slice K1 u.ks.length k1]), .box (w.heap.size + 1) 26 [.int .i64 0, .int .i64 0, .int .i64 0, .slice none 0 0, .slice none 0 0], .box w.heap.size 26 [.int .i64 u.k, .int .i64 u.n, .int .i64 u.a, .slice B1 u.ls.length c1, .slice K1 u.ks.length k1]]) (fun i _ => row.length - (intOf i).toNat)
  case atStart => exact ⟨0, B1, K1, c1, k1, [], b, Nat.zero_le _, rfl, Lib.hid (by simp [appsT]), H⟩
  case round =>
    clear H
    obtain ⟨k, B1, K1, c1, k1, KK, u, hk, rfl, HU, H⟩ := hrel
    by_cases hlt : k < row.length
    · have hA : ∃ b_ o, A0 = some ⟨b_, o, none⟩ := by
        obtain ⟨b_, o, _, _, _, _, h, _⟩ := HR.out.atTm hlt
        exact ⟨b_, o, h⟩
      obtain ⟨b_, o, rfl⟩ := hA
      obtain ⟨b2_, o2, B2, ca2, L2, ck2, hA_, hb, hS_, hd, p0, p1, p2, p3, p4⟩ := HR.out.atTm hlt
      simp only [Option.some.injEq, Addr.mk.injEq, and_true] at hA_
      obtain ⟨rfl, rfl⟩ := hA_
      have HD := Lib.hid hd
      clear hd hS_
      have hr_ := H.rules; simp only [Rules, and_true] at hr_; have hd_ := H.dif; simp only [Dif, Neq, and_true] at hd_; obtain ⟨ho_, hz_⟩ := H.old0
      go_wp2_with fail
      (try clear hr_ hd_ ho_ hz_)
      refine regionH (by (repeat (first | with_reducible exact H | with_reducible exact H0_ | with_reducible apply Hp.alloc | with_reducible apply Hp.allocMap | with_reducible apply Hp.drew | with_reducible apply Hp.drewN | with_reducible apply Hp.set)); (try any_goals (repeat (first | with_reducible exact Upd.head | with_reducible apply Upd.tail)))) ?_
      clear H; intro w2 H; (try simp only [size_drew_, size_drewN_, World.size_alloc, World.size_setCell, List.set_cons_zero, List.set_cons_succ] at H)
      refine wp_region_H 8 [false, false, false, false, false, false, false, false] [7] H (.cons (i := 2) rfl .nil) (by kernel_rfl) rfl rfl (fun H_ hR_ => ?_)
      (try clear H0_); have H0_ := H; clear H; have H := H_; clear H_
      refine wpL_reads (is := [(0, ?v3_0), (1, ?v3_1), (2, ?v3_2), (3, ?v3_3), (4, ?v3_4)]) (by kernel_rfl) (Nat.le_of_ble_eq_true rfl) (by intro _ _ d_ _ _ h_; cases d_ <;> exact h_) (by kernel_rfl) hR_ (fun w_ hw_ => ?h3_) ?_
      case h3_ =>
        have ho_ := hw_.old0.1; have hz_ := hw_.old0.2; have hr_ := hw_.rules; clear hw_; simp only [Rules, and_true] at hr_; go_split_ands
        (repeat (first | with_reducible exact RdOps.nil | (refine RdOps.run rfl (by rfl) ?_ ?_; (focus (first | (go_simp; done) | (go_simp; with_reducible rfl))); simp only [List.getElem_toArray, List.getElem_cons_zero, List.getElem_cons_succ, Act.put, List.setIfInBounds_toArray, List.set_cons_zero, List.set_cons_succ]) | (refine RdOps.skip rfl (by rfl) ?_ ?_; (focus (with_reducible rfl)); simp only [List.getElem_toArray, List.getElem_cons_zero, List.getElem_cons_succ, Act.put, List.setIfInBounds_toArray, List.set_cons_zero, List.set_cons_succ])))
      simp only [rdMark, rdAct, List.map_cons, List.map_nil, List.length_cons, List.length_nil, Nat.reduceAdd, Nat.reduceSub, Nat.zero_add, List.getElem?_toArray, List.getElem?_cons_zero, List.getElem?_cons_succ, Option.bind_some, Act.put, List.setIfInBounds_toArray, List.set_cons_zero, List.set_cons_succ]
      refine wpL_do (i := 5) rfl (by kernel_rfl) (by rfl) (fun K_ hK_ => ?_)
      go_simp
      refine kontH (by (repeat (first | with_reducible exact H | with_reducible exact H0_ | with_reducible apply Hp.alloc | with_reducible apply Hp.allocMap | with_reducible apply Hp.drew | with_reducible apply Hp.drewN | with_reducible apply Hp.set)); (try any_goals (repeat (first | with_reducible exact Upd.head | with_reducible apply Upd.tail)))) ?_
      clear H; intro wb_ H; (try simp only [size_drew_, size_drewN_, World.size_alloc, World.size_setCell, List.set_cons_zero, List.set_cons_succ] at H)
      refine hK_ _ _ (fun _ => H.sub (by simp)) (fun hR_ => ?_)
      replace hR_ := hR_ (by decide)
      refine wpL_reads (is := [(6, ?v4_0)]) (by kernel_rfl) (Nat.le_of_ble_eq_true rfl) (by intro _ _ d_ _ _ h_; cases d_ <;> exact h_) (by kernel_rfl) hR_ (fun w_ hw_ => ?h4_) ?_
      case h4_ =>
        have ho_ := hw_.old0.1; have hz_ := hw_.old0.2; have hr_ := hw_.rules; clear hw_; simp only [Rules, and_true] at hr_; go_split_ands
        (repeat (first | with_reducible exact RdOps.nil | (refine RdOps.run rfl (by rfl) ?_ ?_; (focus (first | (go_simp; done) | (go_simp; with_reducible rfl))); simp only [List.getElem_toArray, List.getElem_cons_zero, List.getElem_cons_succ, Act.put, List.setIfInBounds_toArray, List.set_cons_zero, List.set_cons_succ]) | (refine RdOps.skip rfl (by rfl) ?_ ?_; (focus (with_reducible rfl)); simp only [List.getElem_toArray, List.getElem_cons_zero, List.getElem_cons_succ, Act.put, List.setIfInBounds_toArray, List.set_cons_zero, List.set_cons_succ])))
      simp only [rdMark, rdAct, List.map_cons, List.map_nil, List.length_cons, List.length_nil, Nat.reduceAdd, Nat.reduceSub, Nat.zero_add, List.getElem?_toArray, List.getElem?_cons_zero, List.getElem?_cons_succ, Option.bind_some, Act.put, List.setIfInBounds_toArray, List.set_cons_zero, List.set_cons_succ]
      refine wpL_do (i := 7) rfl (by kernel_rfl) (by rfl) (fun K_ hK_ => ?_)
      refine wp_storeH rfl (by go_simp <;> first | rfl | exact ⟨rfl, rfl⟩) (by go_simp <;> first | rfl | exact ⟨rfl, rfl⟩) H (by (repeat (first | with_reducible exact Upd.head | with_reducible apply Upd.tail))) (by exact aggTerm) (by rfl) (by simp [Value.oneCell']) (fun w12 H_ => ?_)
      clear H; have H := H_; clear H_
      refine hK_ _ _ (fun h => absurd (by decide) h) (fun _ => ?_)
      refine wpL_done (by kernel_rfl) ?_ _
      have H3 := H.ghNode (k := 6) (cu := [.int .i64 u.k, .int .i64 u.n, .int .i64 u.a, .slice B1 u.ls.length c1, .slice K1 u.ks.length k1]) (cb := [.int .i64 row[k].k, .int .i64 row[k].n, .int .i64 row[k].a, .slice B2 row[k].ls.length ca2, .slice L2 row[k].ks.length ck2]) (ca := [.int .i64 u.k, .int .i64 u.n, .int .i64 u.a, .slice B1 u.ls.length c1, .slice K1 u.ks.length k1]) .head .head HD.out (.inr ⟨rfl, rfl, rfl, rfl⟩) (inI18 (by decide) (by decide))
      have HU2 := Lib.hid (show (Tm.mk 6 0 0 [] [u, row[k]]) = appsT b (row.take (k + 1)) by rw [List.take_succ_eq_append_getElem hlt, appsT_app, HU.out])
      clear H
      go_wp2_with fail
      go_roundw
      case rel =>
        refine ⟨k + 1, none, some ⟨w2.heap.size, 0, none⟩, 0, 2, w2.heap.size :: KK, .mk 6 0 0 [] [u, row[k]], by omega, by first | go_num | rfl | simp, HU2, ?_⟩
        exact H3
      case measure => first | (simp [intOf]; done) | (simp [intOf]; omega)
    · have hU3 := HU.out
      rw [List.take_of_length_le (by omega)] at hU3
      have HU3 := Lib.hid hU3
      clear hU3
      have hr_ := H.rules; simp only [Rules, and_true] at hr_; have hd_ := H.dif; simp only [Dif, Neq, and_true] at hd_; obtain ⟨ho_, hz_⟩ := H.old0
      go_wp2_with ((with_reducible refine atStore (t := 26) ?_); go_must (refine wpList_storeH (t := 26) rfl rfl (by go_simp <;> first | rfl | exact ⟨rfl, rfl⟩) (by go_simp <;> first | rfl | exact ⟨rfl, rfl⟩) (by exact Hp.norm (by (repeat (first | with_reducible exact H | with_reducible exact H0_ | with_reducible apply Hp.alloc | with_reducible apply Hp.allocMap | with_reducible apply Hp.drew | with_reducible apply Hp.drewN | with_reducible apply Hp.set)); (try any_goals (repeat (first | with_reducible exact Upd.head | with_reducible apply Upd.tail)))) (by ((try simp only [size_drew_, size_drewN_, World.size_alloc, World.size_setCell, List.set_cons_zero, List.set_cons_succ, List.nil_append, List.cons_append]) <;> rfl))) (by (repeat (first | with_reducible exact Upd.head | with_reducible apply Upd.tail))) (by exact aggTerm) (by rfl) (by simp [Value.oneCell']) ?_; clear H; intro w7 H; (try simp only [size_drew_, size_drewN_, World.size_alloc, World.size_setCell, List.set_cons_zero, List.set_cons_succ] at H); (try clear hr_ hd_ ho_ hz_); have hr_ := H.rules; simp only [Rules, and_true] at hr_; have hd_ := H.dif; simp only [Dif, Neq, and_true] at hd_; obtain ⟨ho_, hz_⟩ := H.old0))
      (try clear hr_ hd_ ho_ hz_)
      exact bodyPost_ret (v := .agg #[.int .i64 u.k, .int .i64 u.n, .int .i64 u.a, .slice B1 u.ls.length c1, .slice K1 u.ks.length k1]) (Res.one Tryz.results48 (H.resBox (g := w.heap.size + 1) (by (repeat (first | with_reducible exact Pick.head | with_reducible apply Pick.tail))) aggTerm rfl rfl)) rfl ⟨_, rfl, by rw [← HU3.out]; exact H.ghAt (by (repeat (first | with_reducible exact Pick.head | with_reducible apply Pick.tail))), H.ext⟩
end Go.Proofs.YtmedomglemllnaaGreatDoor
