/- Reference 12: one: its last loops. No statement of the seat is proved here. -/
import Derived.Test.YtgbokmphbimihaaDoorMgSame12
import Derived.Test.YtgbokmphbimihaaDoorSplit4
namespace Go.Proofs.YtgbokmphbimihaaDoor
set_option linter.unusedSimpArgs false
set_option linter.unusedVariables false
open Go.RowKit

section
variable {X : Nat → Prop} {w0 w w1 : World} {l l2 : List Ch}
/-- Boxes and data. -/
def Ch.pl : Ch → Bool
  | .box .. => true
  | .dat .. => true
  | _ => false
theorem Chs.app {B B1 : Nat} {L L2 : List Nat} (hB : B ≤ B1) (hp : l2.all Ch.pl = true) (h2 : Chs no w B1 l2 L2) (h : Chs X w B l L) : Chs X w B (l2 ++ l) (L2 ++ L) := by
  induction l2 generalizing L2 with
  | nil => unfold Chs at h2; subst h2; simpa using h
  | cons c l2 ih =>
    rw [List.all_cons, Bool.and_eq_true] at hp
    unfold Chs at h2
    obtain ⟨K1, K2, rfl, g1, g2⟩ := h2
    rw [List.cons_append]
    unfold Chs
    refine ⟨K1, K2 ++ L, by simp, ?_, ih hp.2 g2⟩
    cases c with
    | box g t cs =>
      obtain ⟨rfl, h1, h2⟩ := g1
      exact ⟨rfl, .inr (h1.elim (fun h => h.elim) (fun h => Nat.le_trans hB h)), h2⟩
    | dat d cs => exact RO.weaken _ _ _ (fun k hk => Nat.le_trans hB (RO.lt _ _ _ g1 k hk).1) g1
    | row => simp [Ch.pl] at hp
    | map => simp [Ch.pl] at hp
    | obj => simp [Ch.pl] at hp
    | raw => simp [Ch.pl] at hp
    | gh => simp [Ch.pl] at hp
/-- A call, or a walk in a frame of its own, hands back all that it owns. -/
theorem Hp.resAll (H : Hp X w0 w l) (H2 : Hp no w w1 l2) (hp : l2.all Ch.pl = true) : Hp X w0 w1 (l2 ++ l) := by
  have hx := H2.ext
  obtain ⟨L2, h2, hk⟩ := H2.own
  obtain ⟨L', h', _⟩ := H.own
  obtain ⟨L, h, hn⟩ := (H.call hx).own
  have h1 : Chs X w1 w0.heap.size l L' := h'.frame H.ext.size hx.size (fun k hk _ => hx.block k (Nat.lt_of_lt_of_le hk H.ext.size) no_not) (fun k hk => hx.block k (h'.lt k hk).2 no_not)
  refine ⟨(H.call hx).ext, L2 ++ L', Chs.app H.ext.size hp h2 h1, ?_⟩
  refine List.nodup_append.2 ⟨hk, ‹_›, fun x hx y hy e => ?_⟩
  have := (h2.lt x hx).1.elim (fun h => h.elim) id
  have := (h'.lt y hy).2
  omega
end
/-- What the reference's one tells: a rule, or an error. -/
def PRuR (w : World) (r : Except Int Ru) (e : Ending) (w' : World) : Prop := match r with
  | .ok u => ∃ cs : List Value, e = .returned (.tuple #[.agg cs.toArray, .int .i64 0]) ∧ Hp no w w' [.dat u.d cs]
  | .error k => ∃ a A n c B m c', e = .returned (.tuple #[.agg #[.int .i64 a, .slice A n c, .slice B m c'], .int .i64 k]) ∧ Ext no w w' ∧ k ≠ 0
theorem okFrom_end {xs : List Ar} {e : Ar} {j k : Nat} (h : j + k < xs.length) : okFrom k (xs.drop (j + k) ++ [e]) = (!mentT xs[j + k] k && okFrom (k + 1) (xs.drop (j + (k + 1)) ++ [e])) := by
  rw [List.drop_eq_getElem_cons h, List.cons_append, okFrom]; rfl
theorem okFrom_last {xs : List Ar} {e : Ar} {j k : Nat} (h : xs.length ≤ j + k) : okFrom k (xs.drop (j + k) ++ [e]) = !mentT e k := by
  rw [List.drop_eq_nil_of_le h, List.nil_append, okFrom, okFrom, Bool.and_true]
theorem mentE {l : List Tm} {k : Nat} : mentT ⟨true, zT, [], 0, l⟩ k = anyFr k l := by
  unfold mentT anyFr
  simp [anyIx]
set_option maxRecDepth 100000 in
set_option maxHeartbeats 8000000 in
/-- From the rule's index on. -/
theorem oneB {w W : World} {m : Int} {as_ : List Ar} {l : List Tm} {A B : Option Addr} {c cb gr g4 : Nat} {x0 x1 x2 x3 x5 x7 x8 x9 x11 x12 x13 x14 x16 x17 x18 x19 x20 x21 x22 x23 x24 x25 x26 x27 x28 x29 x30 x31 x32 x33 x34 x35 x36 x37 x38 x39 x40 x41 x42 x43 x44 x45 x46 x47 x48 x49 x50 x51 x52 x53 x54 x55 x56 x57 x58 x59 x60 x61 x62 x63 x64 x65 x66 x67 x68 x69 x70 x71 x72 x73 x74 x75 x76 x77 x78 x79 x80 x81 x82 x83 x84 x85 x86 x87 x88 x89 x90 x91 x92 x93 x94 x95 x96 x97 x98 x99 x100 x101 x102 x103 x104 x105 x106 x107 x108 x109 x110 x111 x112 x113 x114 x115 x116 x117 x118 x119 x120 x121 x122 x123 x124 x125 x126 x127 x128 x129 x130 x131 x132 x133 x134 x135 x136 x137 x138 x139 x140 x141 x142 x143 x144 x145 x146 x147 x148 x149 x150 x151 x152 x153 x154 x155 x156 x157 : Value}
    (hn : as_.length ≤ 10) (hl : ∀ a ∈ as_, a.tele.length ≤ 6) (hok : ∀ a ∈ as_, ArOK a) (hll : l.length ≤ 1000000000) (im : inI m)
    (H : Hp no w W [.box gr 68 [.int .i64 m, .slice A as_.length c, .slice B l.length cb], .dat (.l 80 9 (as_.map Ar.d)) [.slice A as_.length c], .dat (.l 26 5 (l.map Tm.d)) [.slice B l.length cb], .box g4 68 [.int .i64 0, .slice none 0 0, .slice none 0 0]])
    {R : Except Int Ru} (hR : R = if linQ ⟨true, zT, [], 0, l⟩ as_ = true then .ok ⟨m, as_, l⟩ else .error 16) :
    (fromF 17 (Tryd.f112.body.getD .skip)).wp Tryd.prog (bodyPost Tryd.prog Tryd.f112 (PRuR w R)) { tmps := #[x0, x1, x2, x3, .pointer (some ⟨g4, 0, none⟩), x5, .int .i64 (as_.length : Int), x7, x8, x9, .pointer (some ⟨gr, 0, none⟩), x11, x12, x13, x14, .slice B l.length cb, x16, x17, x18, x19, x20, x21, x22, x23, x24, x25, x26, x27, x28, x29, x30, x31, x32, x33, x34, x35, x36, x37, x38, x39, x40, x41, x42, x43, x44, x45, x46, x47, x48, x49, x50, x51, x52, x53, x54, x55, x56, x57, x58, x59, x60, x61, x62, x63, x64, x65, x66, x67, x68, x69, x70, x71, x72, x73, x74, x75, x76, x77, x78, x79, x80, x81, x82, x83, x84, x85, x86, x87, x88, x89, x90, x91, x92, x93, x94, x95, x96, x97, x98, x99, x100, x101, x102, x103, x104, x105, x106, x107, x108, x109, x110, x111, x112, x113, x114, x115, x116, x117, x118, x119, x120, x121, x122, x123, x124, x125, x126, x127, x128, x129, x130, x131, x132, x133, x134, x135, x136, x137, x138, x139, x140, x141, x142, x143, x144, x145, x146, x147, x148, x149, x150, x151, x152, x153, x154, x155, x156, x157], defers := [] } W := by
  have HL := Lib.hid hl
  have HOK := Lib.hid hok
  have HR := Lib.hid hR
  have hM := (H.rd (d := .l 26 5 (l.map Tm.d)) (cs := [.slice B l.length cb]) (by (repeat (first | with_reducible exact Pick.head | with_reducible apply Pick.tail)))).lenM
  clear hl hok hR
  conv => arg 2; whnf
  go_wp2_with fail
  have H0_ := H
  clear H
  go_loopw [16] (fun i wr => ∃ j : Nat, j ≤ as_.length ∧ i = .int .i64 j ∧ Hid (linQ ⟨true, zT, [], 0, l⟩ (as_.drop j) = linQ ⟨true, zT, [], 0, l⟩ as_) ∧ Hp no w wr [.box gr 68 [.int .i64 m, .slice A as_.length c, .slice B l.length cb], .dat (.l 80 9 (as_.map Ar.d)) [.slice A as_.length c], .dat (.l 26 5 (l.map Tm.d)) [.slice B l.length cb], .box g4 68 [.int .i64 0, .slice none 0 0, .slice none 0 0]]) (fun i _ => as_.length - (intOf i).toNat)
  case atStart => exact ⟨0, Nat.zero_le _, rfl, Lib.hid (by simp), H0_⟩
  case round =>
    clear H0_
    obtain ⟨j, hj, rfl, HS, H⟩ := hrel
    by_cases hlt : j < as_.length
    · have harow := H.rd (d := .l 80 9 (as_.map Ar.d)) (cs := [.slice A as_.length c]) (by (repeat (first | with_reducible exact Pick.head | with_reducible apply Pick.tail)))
      obtain ⟨b_, o, B1, d1, B2, d2, B3, d3, B4, d4, hA, hb_, hS, hd, p0, p1, p2, p3, p4, p5, p6, p7, p8⟩ := harow.atAr hlt
      subst hA
      have HLD := Lib.hid (linQ_drop (e := ⟨true, zT, [], 0, l⟩) hlt)
      clear harow hd p1 p2 p3 p4 p5 p6 p7 p8 hS hb_
      cases hrc : as_[j].rc
      · have hp0 := p0
        rw [hrc] at hp0
        have HS2 : Hid (linQ ⟨true, zT, [], 0, l⟩ (as_.drop (j + 1)) = linQ ⟨true, zT, [], 0, l⟩ as_) := by
          unfold Hid
          rw [← HS.out, HLD.out, hrc]; rfl
        clear hrc p0
        have hr_ := H.rules; simp only [Rules, and_true] at hr_; have hd_ := H.dif; simp only [Dif, Neq, and_true] at hd_; obtain ⟨ho_, hz_⟩ := H.old0
        go_wp2_with fail
        (try clear hr_ hd_ ho_ hz_)
        go_roundw
        case rel => exact ⟨j + 1, by omega, by first | go_num | rfl | simp, HS2, H⟩
        case measure => simp [intOf]; omega
      · have hp0 := p0
        rw [hrc] at hp0
        have HS2 : Hid (linQ ⟨true, zT, [], 0, l⟩ as_ = (okFrom 0 (as_.drop (j + 1) ++ [⟨true, zT, [], 0, l⟩]) && linQ ⟨true, zT, [], 0, l⟩ (as_.drop (j + 1)))) := by
          unfold Hid
          rw [← HS.out, HLD.out, hrc]; rfl
        clear hrc p0
        have hr_ := H.rules; simp only [Rules, and_true] at hr_; have hd_ := H.dif; simp only [Dif, Neq, and_true] at hd_; obtain ⟨ho_, hz_⟩ := H.old0
        go_wp2_with fail
        (try clear hr_ hd_ ho_ hz_)
        have H0_ := H
        clear H hp0
        go_loopw [17] (fun i wr => ∃ k : Nat, j + 1 + k ≤ as_.length ∧ i = .int .i64 ((j : Int) + 1 + (k : Int)) ∧ Hid (okFrom k (as_.drop (j + 1 + k) ++ [⟨true, zT, [], 0, l⟩]) = okFrom 0 (as_.drop (j + 1) ++ [⟨true, zT, [], 0, l⟩])) ∧ Hp no w wr [.box gr 68 [.int .i64 m, .slice (some ⟨b_, o, none⟩) as_.length c, .slice B l.length cb], .dat (.l 80 9 (as_.map Ar.d)) [.slice (some ⟨b_, o, none⟩) as_.length c], .dat (.l 26 5 (l.map Tm.d)) [.slice B l.length cb], .box g4 68 [.int .i64 0, .slice none 0 0, .slice none 0 0]]) (fun i _ => as_.length - (intOf i).toNat)
        case atStart => exact ⟨0, by omega, by first | go_num | rfl | simp, Lib.hid (by simp), H0_⟩
        case round =>
          clear H0_
          obtain ⟨k, hk, rfl, HK, H⟩ := hrel
          by_cases hlk : j + 1 + k < as_.length
          · have harow := H.rd (d := .l 80 9 (as_.map Ar.d)) (cs := [.slice (some ⟨b_, o, none⟩) as_.length c]) (by (repeat (first | with_reducible exact Pick.head | with_reducible apply Pick.tail)))
            obtain ⟨b2, o2, C1, f1, C2, f2, C3, f3, C4, f4, hA, hb_, hS, hd, p0, p1, p2, p3, p4, p5, p6, p7, p8⟩ := harow.atAr hlk
            simp only [Option.some.injEq, Addr.mk.injEq, and_true] at hA
            obtain ⟨rfl, rfl⟩ := hA
            have HD := Lib.hid hd
            have HKE := Lib.hid (okFrom_end (e := ⟨true, zT, [], 0, l⟩) hlk)
            have HM := Lib.hid (List.getElem_mem hlk)
            clear harow hd hS hb_
            generalize as_[j + 1 + k] = a at p0 p1 p2 p3 p4 p5 p6 p7 p8 HD HKE HM
            have hlk2 : (j : Int) + 1 + (k : Int) < (as_.length : Int) := by omega
            have hcast : (((j + 1 + k : Nat) : Int)) = (j : Int) + 1 + (k : Int) := by push_cast; rfl
            have hr_ := H.rules; simp only [Rules, and_true] at hr_; have hd_ := H.dif; simp only [Dif, Neq, and_true] at hd_; obtain ⟨ho_, hz_⟩ := H.old0
            go_wp2_with fail
            (try clear hr_ hd_ ho_ hz_)
            rw [show (j : Int) + 1 + (k : Int) - 1 - (j : Int) = (k : Int) by omega]
            obtain ⟨z, hz⟩ : ∃ z, z = mentT a k := ⟨_, rfl⟩
            have hcall := refMent (f := k) HD.out (HOK.out _ HM.out) (by omega) (by have := HL.out _ HM.out; omega)
            rw [← hz] at hcall
            have HZ0 := Lib.hid hz
            clear hz
            refine (hcall).mono ?_
            rintro e w_ ⟨rfl, hx⟩
            replace H := H.call hx
            clear hx
            clear hcall p0 p1 p2 p3 p4 p5 p6 p7 p8
            cases z
            · have HK2 : Hid (okFrom (k + 1) (as_.drop (j + 1 + (k + 1)) ++ [⟨true, zT, [], 0, l⟩]) = okFrom 0 (as_.drop (j + 1) ++ [⟨true, zT, [], 0, l⟩])) := by
                unfold Hid
                rw [← HK.out, HKE.out, ← HZ0.out]; rfl
              go_wp2_with fail
              go_roundw
              case rel => exact ⟨k + 1, by omega, congrArg (Value.int .i64) (by push_cast; omega), HK2, H⟩
              case measure => simp [intOf]; omega
            · have HZ : Hid (R = .error 16) := by
                unfold Hid
                rw [HR.out, HS2.out, ← HK.out, HKE.out, ← HZ0.out]
                simp
              have hr_ := H.rules; simp only [Rules, and_true] at hr_; have hd_ := H.dif; simp only [Dif, Neq, and_true] at hd_; obtain ⟨ho_, hz_⟩ := H.old0
              go_wp2_with ((with_reducible refine atStore (t := 68) ?_); go_must (refine wpList_storeH (t := 68) rfl rfl (by go_simp <;> first | rfl | exact ⟨rfl, rfl⟩) (by go_simp <;> first | rfl | exact ⟨rfl, rfl⟩) (by exact Hp.norm (by (repeat (first | with_reducible exact H | with_reducible exact H0_ | with_reducible apply Hp.alloc | with_reducible apply Hp.allocMap | with_reducible apply Hp.drew | with_reducible apply Hp.drewN | with_reducible apply Hp.set)); (try any_goals (repeat (first | with_reducible exact Upd.head | with_reducible apply Upd.tail)))) (by ((try simp only [size_drew_, size_drewN_, World.size_alloc, World.size_setCell, List.set_cons_zero, List.set_cons_succ, List.nil_append, List.cons_append]) <;> rfl))) (by (repeat (first | with_reducible exact Upd.head | with_reducible apply Upd.tail))) (by exact aggRule) (by rfl) (by simp [Value.oneCell']) ?_; clear H; intro w14 H; (try simp only [size_drew_, size_drewN_, World.size_alloc, World.size_setCell, List.set_cons_zero, List.set_cons_succ] at H); (try clear hr_ hd_ ho_ hz_); have hr_ := H.rules; simp only [Rules, and_true] at hr_; have hd_ := H.dif; simp only [Dif, Neq, and_true] at hd_; obtain ⟨ho_, hz_⟩ := H.old0))
              (try clear hr_ hd_ ho_ hz_)
              refine bodyPost_ret (v := .tuple #[.agg #[_, _, _], .int .i64 16]) (Res.two Tryd.results112 (H.resBox (g := g4) (by (repeat (first | with_reducible exact Pick.head | with_reducible apply Pick.tail))) aggRule rfl rfl) rfl) rfl ?_
              rw [HZ.out]
              exact ⟨_, _, _, _, _, _, _, rfl, H.ext, by decide⟩
          · have HQ : Hid (okFrom 0 (as_.drop (j + 1) ++ [⟨true, zT, [], 0, l⟩]) = !anyFr k l) := by
              unfold Hid
              rw [← HK.out, okFrom_last (by omega), mentE]
            have hk1 : (as_.length : Int) = (j : Int) + 1 + (k : Int) := by omega
            have hk2 : (as_.length : Int) - 1 - (j : Int) = (k : Int) := by omega
            have hk3 : (as_.length : Int) - (j : Int) = (k : Int) + 1 := by omega
            have HK1 := Lib.hid hk1
            have HK2 := Lib.hid hk2
            have HK3 := Lib.hid hk3
            have hlk2 : ¬ ((j : Int) + 1 + (k : Int) < (as_.length : Int)) := by omega
            clear hk1 hk2 hk3 HK
            have hr_ := H.rules; simp only [Rules, and_true] at hr_; have hd_ := H.dif; simp only [Dif, Neq, and_true] at hd_; obtain ⟨ho_, hz_⟩ := H.old0
            go_wp2_with fail
            (try clear hr_ hd_ ho_ hz_)
            have H0_ := H
            clear H
            go_loopw [18] (fun i wr => ∃ p : Nat, p ≤ l.length ∧ i = .int .i64 p ∧ Hid (anyFr k (l.drop p) = anyFr k l) ∧ Hp no w wr [.box gr 68 [.int .i64 m, .slice (some ⟨b_, o, none⟩) as_.length c, .slice B l.length cb], .dat (.l 80 9 (as_.map Ar.d)) [.slice (some ⟨b_, o, none⟩) as_.length c], .dat (.l 26 5 (l.map Tm.d)) [.slice B l.length cb], .box g4 68 [.int .i64 0, .slice none 0 0, .slice none 0 0]]) (fun i _ => l.length - (intOf i).toNat)
            case atStart => exact ⟨0, Nat.zero_le _, rfl, Lib.hid (by simp), H0_⟩
            case round =>
              clear H0_
              obtain ⟨p, hp, rfl, HP, H⟩ := hrel
              by_cases hlp : p < l.length
              · have harow := H.rd (d := .l 26 5 (l.map Tm.d)) (cs := [.slice B l.length cb]) (by (repeat (first | with_reducible exact Pick.head | with_reducible apply Pick.tail)))
                obtain ⟨b3, o3, C1, f1, C2, f2, hA, hb_, hS, hd, p0, p1, p2, p3, p4⟩ := harow.atTm hlp
                subst hA
                have HD := Lib.hid hd
                have HPE := Lib.hid (anyFr_drop (f := k) hlp)
                clear harow hd hS hb_
                generalize l[p] = t at p0 p1 p2 p3 p4 HD HPE
                have hr_ := H.rules; simp only [Rules, and_true] at hr_; have hd_ := H.dif; simp only [Dif, Neq, and_true] at hd_; obtain ⟨ho_, hz_⟩ := H.old0
                go_wp2_with fail
                (try clear hr_ hd_ ho_ hz_)
                rw [HK2.out, HK3.out]
                obtain ⟨z, hz⟩ : ∃ z, z = freeT (k : Int) ((k : Int) + 1) 0 t := ⟨_, rfl⟩
                have hcall := refFree_calls (k : Int) ((k : Int) + 1) ⟨_, _, _, _, rfl, HD.out⟩
                rw [← hz] at hcall
                have HZ0 := Lib.hid hz
                clear hz
                refine (hcall).mono ?_
                rintro e w_ ⟨rfl, hx⟩
                replace H := H.call hx
                clear hx
                clear hcall p0 p1 p2 p3 p4
                cases z
                · have HP2 : Hid (anyFr k (l.drop (p + 1)) = anyFr k l) := by
                    unfold Hid
                    rw [← HP.out, HPE.out, ← HZ0.out]; rfl
                  go_wp2_with fail
                  go_roundw
                  case rel => exact ⟨p + 1, by omega, by first | go_num | rfl | simp, HP2, H⟩
                  case measure => simp [intOf]; omega
                · have HZ : Hid (R = .error 16) := by
                    unfold Hid
                    rw [HR.out, HS2.out, HQ.out, ← HP.out, HPE.out, ← HZ0.out]
                    simp
                  have hr_ := H.rules; simp only [Rules, and_true] at hr_; have hd_ := H.dif; simp only [Dif, Neq, and_true] at hd_; obtain ⟨ho_, hz_⟩ := H.old0
                  go_wp2_with ((with_reducible refine atStore (t := 68) ?_); go_must (refine wpList_storeH (t := 68) rfl rfl (by go_simp <;> first | rfl | exact ⟨rfl, rfl⟩) (by go_simp <;> first | rfl | exact ⟨rfl, rfl⟩) (by exact Hp.norm (by (repeat (first | with_reducible exact H | with_reducible exact H0_ | with_reducible apply Hp.alloc | with_reducible apply Hp.allocMap | with_reducible apply Hp.drew | with_reducible apply Hp.drewN | with_reducible apply Hp.set)); (try any_goals (repeat (first | with_reducible exact Upd.head | with_reducible apply Upd.tail)))) (by ((try simp only [size_drew_, size_drewN_, World.size_alloc, World.size_setCell, List.set_cons_zero, List.set_cons_succ, List.nil_append, List.cons_append]) <;> rfl))) (by (repeat (first | with_reducible exact Upd.head | with_reducible apply Upd.tail))) (by exact aggRule) (by rfl) (by simp [Value.oneCell']) ?_; clear H; intro w14 H; (try simp only [size_drew_, size_drewN_, World.size_alloc, World.size_setCell, List.set_cons_zero, List.set_cons_succ] at H); (try clear hr_ hd_ ho_ hz_); have hr_ := H.rules; simp only [Rules, and_true] at hr_; have hd_ := H.dif; simp only [Dif, Neq, and_true] at hd_; obtain ⟨ho_, hz_⟩ := H.old0))
                  (try clear hr_ hd_ ho_ hz_)
                  refine bodyPost_ret (v := .tuple #[.agg #[_, _, _], .int .i64 16]) (Res.two Tryd.results112 (H.resBox (g := g4) (by (repeat (first | with_reducible exact Pick.head | with_reducible apply Pick.tail))) aggRule rfl rfl) rfl) rfl ?_
                  rw [HZ.out]
                  exact ⟨_, _, _, _, _, _, _, rfl, H.ext, by decide⟩
              · have HS3 : Hid (linQ ⟨true, zT, [], 0, l⟩ (as_.drop (j + 1)) = linQ ⟨true, zT, [], 0, l⟩ as_) := by
                  unfold Hid
                  rw [HS2.out, HQ.out, ← HP.out, show l.drop p = [] from List.drop_eq_nil_of_le (by omega)]
                  simp [anyFr]
                have hr_ := H.rules; simp only [Rules, and_true] at hr_; have hd_ := H.dif; simp only [Dif, Neq, and_true] at hd_; obtain ⟨ho_, hz_⟩ := H.old0
                go_wp2_with fail
                (try clear hr_ hd_ ho_ hz_)
                go_roundw
                case rel => first | exact ⟨j + 1, by omega, by first | go_num | rfl | simp, HS3, H⟩ | ((repeat apply Exists.intro); refine ⟨⟨j + 1, by omega, by first | go_num | rfl | simp, HS3, H⟩, ?_⟩; rfl)
                case measure => simp [intOf]; omega
    · have HZ : Hid (R = .ok ⟨m, as_, l⟩) := by
        unfold Hid
        rw [HR.out, ← HS.out, List.drop_eq_nil_of_le (by omega), linQ]
        rfl
      have hr_ := H.rules; simp only [Rules, and_true] at hr_; have hd_ := H.dif; simp only [Dif, Neq, and_true] at hd_; obtain ⟨ho_, hz_⟩ := H.old0
      go_wp2_with ((with_reducible refine atStore (t := 68) ?_); go_must (refine wpList_storeH (t := 68) rfl rfl (by go_simp <;> first | rfl | exact ⟨rfl, rfl⟩) (by go_simp <;> first | rfl | exact ⟨rfl, rfl⟩) (by exact Hp.norm (by (repeat (first | with_reducible exact H | with_reducible exact H0_ | with_reducible apply Hp.alloc | with_reducible apply Hp.allocMap | with_reducible apply Hp.drew | with_reducible apply Hp.drewN | with_reducible apply Hp.set)); (try any_goals (repeat (first | with_reducible exact Upd.head | with_reducible apply Upd.tail)))) (by ((try simp only [size_drew_, size_drewN_, World.size_alloc, World.size_setCell, List.set_cons_zero, List.set_cons_succ, List.nil_append, List.cons_append]) <;> rfl))) (by (repeat (first | with_reducible exact Upd.head | with_reducible apply Upd.tail))) (by exact aggRule) (by rfl) (by simp [Value.oneCell']) ?_; clear H; intro w14 H; (try simp only [size_drew_, size_drewN_, World.size_alloc, World.size_setCell, List.set_cons_zero, List.set_cons_succ] at H); (try clear hr_ hd_ ho_ hz_); have hr_ := H.rules; simp only [Rules, and_true] at hr_; have hd_ := H.dif; simp only [Dif, Neq, and_true] at hd_; obtain ⟨ho_, hz_⟩ := H.old0))
      (try clear hr_ hd_ ho_ hz_)
      refine bodyPost_ret (v := .tuple #[.agg #[_, _, _], .int .i64 0]) (Res.two Tryd.results112 (H.resBox (g := g4) (by (repeat (first | with_reducible exact Pick.head | with_reducible apply Pick.tail))) aggRule rfl rfl) rfl) rfl ?_
      rw [HZ.out]
      exact ⟨_, rfl, (H.ru (m := m) (as_ := as_) (ix := l) (by (repeat (first | with_reducible exact Pick.head | with_reducible apply Pick.tail))) (by (repeat (first | with_reducible exact Pick.head | with_reducible apply Pick.tail))) im).only (.keep (by (repeat (first | with_reducible exact Subl.nil | with_reducible apply Subl.drop))))⟩
end Go.Proofs.YtgbokmphbimihaaDoor
