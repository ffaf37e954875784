/- The law's terms and a row's prefix, as data. No statement of the seat is proved here. -/
import Derived.Test.YteelplgdojjakaaDoorAwake
import Derived.Test.YteelplgdojjakaaDoorRef21
namespace Go.Proofs.YteelplgdojjakaaDoor
set_option linter.unusedSimpArgs false
set_option linter.unusedVariables false
open Go.RowKit
/-- The law's terms. -/
def tT (k n m : Int) (nl : Nat) : Tm := .mk k n m (List.replicate nl []) []
def uT (k n m : Int) (nl : Nat) : Tm := .mk 6 n 0 [] [tT k n m nl, .mk k n 0 [] [tT k n m nl]]
theorem repl_rcs {w : World} {S : Nat → Prop} (nl : Nat) : RCs w S ((List.replicate nl ([] : Lv)).map lvD) (List.replicate nl (.slice none 0 0)) := by
  induction nl with
  | zero => exact RCs.nil_
  | succ n ih =>
    have : RC w S (lvD []) [.slice none 0 0] := RC.lv.2 ⟨none, 0, rfl, RC.nil⟩
    exact RCs.cons_ this ih
theorem RC.tru {w : World} {S : Nat → Prop} {d : D} {cs : List Value} (h : RC w S d cs) : RC w (fun _ => True) d cs := RC.frame (Nat.le_refl _) (fun _ _ _ => trivial) (fun _ _ _ => rfl) _ _ h
theorem names_rc {w W : World} {g7 g40 g38 gL g6 nl k1 c1 : Nat} {k n m : Int} {A1 K1 : Option Addr} {cL : List Value} {l : List Ch} (hcL : cL = List.replicate nl (.slice none 0 0)) (hnl : nl ≤ 100) (i1 : inI k) (i2 : inI n) (i3 : inI m)
    (H : Hp no w W (.box g7 30 [.int .i64 6, .int .i64 n, .int .i64 0, .slice none 0 0, .slice (some ⟨g40, 0, none⟩) 2 2] ::
      .box g40 30 [.int .i64 k, .int .i64 n, .int .i64 m, .slice (some ⟨gL, 0, none⟩) nl nl, .slice K1 0 k1, .int .i64 k, .int .i64 n, .int .i64 0, .slice none 0 0, .slice (some ⟨g38, 0, none⟩) 1 1] ::
      .box g38 30 [.int .i64 k, .int .i64 n, .int .i64 m, .slice (some ⟨gL, 0, none⟩) nl nl, .slice K1 0 k1] :: .box gL 38 cL ::
      .box g6 30 [.int .i64 k, .int .i64 n, .int .i64 m, .slice (some ⟨gL, 0, none⟩) nl nl, .slice K1 0 k1] :: .dat (Tm.mk k n m [] []).d [.int .i64 k, .int .i64 n, .int .i64 m, .slice A1 0 c1, .slice K1 0 k1] :: l)) :
    RC W (fun _ => True) (tT k n m nl).d [.int .i64 k, .int .i64 n, .int .i64 m, .slice (some ⟨gL, 0, none⟩) nl nl, .slice K1 0 k1] ∧ RC W (fun _ => True) (uT k n m nl).d [.int .i64 6, .int .i64 n, .int .i64 0, .slice none 0 0, .slice (some ⟨g40, 0, none⟩) 2 2] := by
  subst hcL
  have hK : RC W (fun _ => True) (.l 30 5 (([] : List Tm).map Tm.d)) [.slice K1 0 k1] := by
    have H2 := (H.pick (c := .dat (Tm.mk k n m [] []).d [.int .i64 k, .int .i64 n, .int .i64 m, .slice A1 0 c1, .slice K1 0 k1]) (.tail (.tail (.tail (.tail (.tail .head)))))).untm.2.2.2
    exact (H2.rd (.tail .head)).tru
  have hL : RC W (fun _ => True) (.l 38 1 ((List.replicate nl ([] : Lv)).map lvD)) [.slice (some ⟨gL, 0, none⟩) nl nl] := RC.ofBlk (H.blk (.tail (.tail (.tail .head)))) trivial (repl_rcs nl) (lvs_size _) (by simp) (small_M (by simpa using hnl))
  have z0 : inI 0 := ⟨by decide, by decide⟩
  have ht : RC W (fun _ => True) (tT k n m nl).d [.int .i64 k, .int .i64 n, .int .i64 m, .slice (some ⟨gL, 0, none⟩) nl nl, .slice K1 0 k1] := by
    refine RC.tm.2 ⟨some ⟨gL, 0, none⟩, nl, K1, k1, ?_, i1, i2, i3, ?_, ?_⟩
    · simp [tT, Tm.k_mk, Tm.n_mk, Tm.a_mk, Tm.ls_mk, Tm.ks_mk]
    · simpa only [tT, Tm.ls_mk, List.length_replicate] using hL
    · exact hK
  have h38 : RC W (fun _ => True) (.l 30 5 ([tT k n m nl].map Tm.d)) [.slice (some ⟨g38, 0, none⟩) 1 1] := RC.ofBlk (H.blk (.tail (.tail .head))) trivial (RCs.cons_ ht RCs.nil_) (by simp [Tm.size_d]) rfl (small_M (by simp))
  have h2 : RC W (fun _ => True) (Tm.mk k n 0 [] [tT k n m nl]).d [.int .i64 k, .int .i64 n, .int .i64 0, .slice none 0 0, .slice (some ⟨g38, 0, none⟩) 1 1] := RC.tm.2 ⟨none, 0, some ⟨g38, 0, none⟩, 1, rfl, i1, i2, z0, RC.nil, h38⟩
  have h40 : RC W (fun _ => True) (.l 30 5 ([tT k n m nl, .mk k n 0 [] [tT k n m nl]].map Tm.d)) [.slice (some ⟨g40, 0, none⟩) 2 2] := RC.ofBlk (H.blk (.tail .head)) trivial (RCs.cons_ ht (RCs.cons_ h2 RCs.nil_)) (by simp [Tm.size_d]) rfl (small_M (by simp))
  exact ⟨ht, RC.tm.2 ⟨none, 0, some ⟨g40, 0, none⟩, 2, rfl, (show inI 6 from ⟨by decide, by decide⟩), i2, z0, RC.nil, h40⟩⟩
theorem RCs.pre_ {w : World} {S : Nat → Prop} {ds : List D} {es : List Value} (h : RCs w S ds es) (i : Nat) : RCs w S (ds.take i) (es.take (D.sizes (ds.take i))) := by
  induction ds generalizing i es with
  | nil => simp [D.sizes]; unfold RCs; rfl
  | cons d ds ih =>
    cases i with
    | zero => simp [D.sizes]; unfold RCs; rfl
    | succ i =>
      unfold RCs at h
      obtain ⟨c1, c2, rfl, g1, g2⟩ := h
      have hc := RC.len _ _ g1
      simp only [List.take_succ_cons, D.sizes]
      rw [← hc, List.take_length_add_append]
      exact RCs.cons_ g1 (ih g2 i)
theorem RC.pre_ {w : World} {S : Nat → Prop} {e z n c i : Nat} {ds : List D} {A : Option Addr} (h : RC w S (.l e z ds) [.slice A n c]) (hi : i ≤ n) : RC w S (.l e z (ds.take i)) [.slice A i c] := by
  have hn := h.slice
  unfold RC at h ⊢
  obtain ⟨A', c', h1, h2, h3, h4, h5, h6⟩ := h
  simp only [List.cons.injEq, Value.slice.injEq, and_true] at h1
  obtain ⟨rfl, rfl, rfl⟩ := h1
  have hl : (ds.take i).length = i := by simp; omega
  refine ⟨A, c, by rw [hl], by omega, h3, by rw [hl]; omega, fun d hd => h5 d (List.mem_of_mem_take hd), ?_⟩
  rcases h6 with rfl | ⟨b, o, es, h7, hb, h8, h9, h10⟩
  · exact .inl (by simp)
  · by_cases h0 : ds.take i = []
    · exact .inl h0
    refine .inr ⟨b, o, es.take (D.sizes (ds.take i)), h7, hb, h8, ?_, fun j u hu => h10 j u ?_⟩
    · exact h9.pre_ i
    · rw [List.getElem?_take] at hu
      split at hu
      · exact hu
      · cases hu
theorem TV.ext0_ {w w' : World} {S : Nat → Prop} {t : Tm} {v : Value} (h : TV w S t v) (hx : Ext no w w') : TV w' S t v := by
  obtain ⟨A, ca, K, ck, rfl, h⟩ := h
  exact ⟨A, ca, K, ck, rfl, h.ext0 hx⟩
theorem tT_tv {w : World} {S : Nat → Prop} {k n m : Int} {nl gL k1 : Nat} {K1 : Option Addr} (h : RC w S (tT k n m nl).d [.int .i64 k, .int .i64 n, .int .i64 m, .slice (some ⟨gL, 0, none⟩) nl nl, .slice K1 0 k1]) : TV w S (tT k n m nl) (.agg #[.int .i64 k, .int .i64 n, .int .i64 m, .slice (some ⟨gL, 0, none⟩) nl nl, .slice K1 0 k1]) :=
  ⟨some ⟨gL, 0, none⟩, nl, K1, k1, by simp [tT, Tm.k_mk, Tm.n_mk, Tm.a_mk, Tm.ls_mk, Tm.ks_mk], by simpa [tT, Tm.k_mk, Tm.n_mk, Tm.a_mk, Tm.ls_mk, Tm.ks_mk] using h⟩
theorem uT_tv {w : World} {S : Nat → Prop} {k n m : Int} {nl g : Nat} (h : RC w S (uT k n m nl).d [.int .i64 6, .int .i64 n, .int .i64 0, .slice none 0 0, .slice (some ⟨g, 0, none⟩) 2 2]) : TV w S (uT k n m nl) (.agg #[.int .i64 6, .int .i64 n, .int .i64 0, .slice none 0 0, .slice (some ⟨g, 0, none⟩) 2 2]) :=
  ⟨none, 0, some ⟨g, 0, none⟩, 2, rfl, h⟩
end Go.Proofs.YteelplgdojjakaaDoor
