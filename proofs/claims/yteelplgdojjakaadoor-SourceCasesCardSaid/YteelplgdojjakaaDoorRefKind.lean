/- Reference 02: kind, its tests: contract. No statement of the seat is proved here. -/
import Derived.Deep.DeepCutAuto
import Derived.Test.YteelplgdojjakaaDoorRefKind0
namespace Go.Proofs.YteelplgdojjakaaDoor
set_option linter.unusedSimpArgs false
set_option linter.unusedVariables false
open Go.RowKit

set_option maxRecDepth 100000 in
set_option maxHeartbeats 8000000 in
theorem kind47 {w W : World} {k n a : Int} {ls : List Lv} {A0 K0 : Option Addr} {nk ca ck gt most : Nat} {num at_ : Bool} {lv kids : Int} {x0 x2 x7 x8 x9 x10 x11 x12 x13 x14 x15 x16 x17 x18 x19 x20 x21 x22 x23 x24 x25 x26 x27 x28 x29 x30 x31 x32 x33 x34 x35 x36 x37 x38 x39 x40 x41 x42 x43 x44 x45 x46 x47 x48 x49 x50 x51 x52 x53 x54 x55 x56 x57 x58 x59 x60 x61 x62 x63 x64 x65 x66 x67 x68 x69 x70 x71 x72 x73 x74 x75 x76 x77 x78 x79 x80 x81 x82 x83 x84 x85 x86 x87 x88 x89 x90 x91 x92 x93 x94 x95 x96 x97 x98 x99 x100 x101 x102 x103 x104 x105 x106 x107 x108 x109 x110 x111 x112 x113 x114 x115 x116 x117 x118 x119 : Value} (hM : ls.length ≤ 4294967296) (hm : (most : Int) = if k = 10 then 10 else 8)
    (H : Hp no w W [.box gt 30 [.int .i64 k, .int .i64 n, .int .i64 a, .slice A0 ls.length ca, .slice K0 nk ck]]) :
    (fromN 47 (Tryd.f148.body.getD .skip)).wp Tryd.prog (bodyPost Tryd.prog Tryd.f148 (PV w (.bool (tailK n a nk ls.length num at_ lv kids most)))) { tmps := #[x0, .pointer (some ⟨gt, 0, none⟩), x2, .bool num, .bool at_, .int .i64 lv, .int .i64 kids, x7, x8, x9, x10, x11, x12, x13, x14, x15, x16, x17, x18, x19, x20, x21, x22, x23, x24, x25, x26, x27, x28, x29, x30, x31, x32, x33, x34, x35, x36, x37, x38, x39, x40, x41, x42, x43, x44, x45, x46, x47, x48, x49, x50, x51, x52, x53, x54, x55, x56, x57, x58, x59, x60, x61, x62, x63, x64, x65, x66, x67, x68, x69, x70, x71, x72, x73, x74, x75, x76, x77, x78, x79, x80, x81, x82, x83, x84, x85, x86, x87, x88, x89, x90, x91, x92, x93, x94, x95, x96, x97, x98, x99, x100, x101, x102, x103, x104, x105, x106, x107, x108, x109, x110, x111, x112, x113, x114, x115, x116, x117, x118, x119], defers := [] } W := by
  have HMM := Lib.hid hm
  clear hm
  obtain ⟨R, hR⟩ : ∃ R, R = tailK n a nk ls.length num at_ lv kids most := ⟨_, rfl⟩
  rw [← hR]
  have HR := Lib.hid hR
  clear hR
  conv => arg 2; whnf
  by_cases e1 : (nk : Int) = kids
  · have f1 : ((nk : Int) != kids) = false := by simpa using e1
    have E1 := Lib.hid e1
    clear e1
    by_cases hnum : num = false
    · by_cases e2 : n = 0
      · have f2 : (n != 0) = false := by simpa using e2
        have E2 := Lib.hid e2
        clear e2
        by_cases hat : at_ = false
        · by_cases e3 : a = 0
          · have f3 : (a != 0) = false := by simpa using e3
            have E3 := Lib.hid e3
            clear e3
            by_cases e4 : lv < 0
            · have f4 : ¬ 0 ≤ lv := by omega
              rw [show R = endK n a ls.length most from by rw [HR.out]; unfold tailK; simp [E1.out, E2.out, E3.out, e4]]
              have hr_ := H.rules; simp only [Rules, and_true] at hr_; have hd_ := H.dif; simp only [Dif, Neq, and_true] at hd_; obtain ⟨ho_, hz_⟩ := H.old0
              repeat ((fail_if_success (with_reducible (show Code.wp _ (Code.seq (Code.region 49 _ _) _) _ _ _))); go_step)
              exact kind49 hM HMM.out H
            · have f4 : 0 ≤ lv := by omega
              by_cases e6 : (ls.length : Int) = lv
              · have f6 : ((ls.length : Int) != lv) = false := by simpa using e6
                rw [show R = endK n a ls.length most from by rw [HR.out]; unfold tailK; simp [E1.out, E2.out, E3.out, e6]]
                have hr_ := H.rules; simp only [Rules, and_true] at hr_; have hd_ := H.dif; simp only [Dif, Neq, and_true] at hd_; obtain ⟨ho_, hz_⟩ := H.old0
                repeat ((fail_if_success (with_reducible (show Code.wp _ (Code.seq (Code.region 49 _ _) _) _ _ _))); go_step)
                exact kind49 hM HMM.out H
              · have f6 : ((ls.length : Int) != lv) = true := by simpa using e6
                have HB : Hid (R = false) := by unfold Hid; rw [HR.out]; unfold tailK; simp [e4, e6]
                have hr_ := H.rules; simp only [Rules, and_true] at hr_; have hd_ := H.dif; simp only [Dif, Neq, and_true] at hd_; obtain ⟨ho_, hz_⟩ := H.old0
                go_wp2_with fail
                (try clear hr_ hd_ ho_ hz_)
                go_ret
                exact ⟨by rw [HB.out]; rfl, H.ext⟩
          · have f3 : (a != 0) = true := by simpa using e3
            have HB : Hid (R = false) := by unfold Hid; rw [HR.out]; unfold tailK; simp [e3, hat]
            have hr_ := H.rules; simp only [Rules, and_true] at hr_; have hd_ := H.dif; simp only [Dif, Neq, and_true] at hd_; obtain ⟨ho_, hz_⟩ := H.old0
            go_wp2_with fail
            (try clear hr_ hd_ ho_ hz_)
            go_ret
            exact ⟨by rw [HB.out]; rfl, H.ext⟩
        · have hat : at_ = true := by simpa using hat
          by_cases e4 : lv < 0
          · have f4 : ¬ 0 ≤ lv := by omega
            rw [show R = endK n a ls.length most from by rw [HR.out]; unfold tailK; simp [E1.out, E2.out, hat, e4]]
            have hr_ := H.rules; simp only [Rules, and_true] at hr_; have hd_ := H.dif; simp only [Dif, Neq, and_true] at hd_; obtain ⟨ho_, hz_⟩ := H.old0
            repeat ((fail_if_success (with_reducible (show Code.wp _ (Code.seq (Code.region 49 _ _) _) _ _ _))); go_step)
            exact kind49 hM HMM.out H
          · have f4 : 0 ≤ lv := by omega
            by_cases e6 : (ls.length : Int) = lv
            · have f6 : ((ls.length : Int) != lv) = false := by simpa using e6
              rw [show R = endK n a ls.length most from by rw [HR.out]; unfold tailK; simp [E1.out, E2.out, hat, e6]]
              have hr_ := H.rules; simp only [Rules, and_true] at hr_; have hd_ := H.dif; simp only [Dif, Neq, and_true] at hd_; obtain ⟨ho_, hz_⟩ := H.old0
              repeat ((fail_if_success (with_reducible (show Code.wp _ (Code.seq (Code.region 49 _ _) _) _ _ _))); go_step)
              exact kind49 hM HMM.out H
            · have f6 : ((ls.length : Int) != lv) = true := by simpa using e6
              have HB : Hid (R = false) := by unfold Hid; rw [HR.out]; unfold tailK; simp [e4, e6]
              have hr_ := H.rules; simp only [Rules, and_true] at hr_; have hd_ := H.dif; simp only [Dif, Neq, and_true] at hd_; obtain ⟨ho_, hz_⟩ := H.old0
              go_wp2_with fail
              (try clear hr_ hd_ ho_ hz_)
              go_ret
              exact ⟨by rw [HB.out]; rfl, H.ext⟩
      · have f2 : (n != 0) = true := by simpa using e2
        have HB : Hid (R = false) := by unfold Hid; rw [HR.out]; unfold tailK; simp [e2, hnum]
        have hr_ := H.rules; simp only [Rules, and_true] at hr_; have hd_ := H.dif; simp only [Dif, Neq, and_true] at hd_; obtain ⟨ho_, hz_⟩ := H.old0
        go_wp2_with fail
        (try clear hr_ hd_ ho_ hz_)
        go_ret
        exact ⟨by rw [HB.out]; rfl, H.ext⟩
    · have hnum : num = true := by simpa using hnum
      by_cases hat : at_ = false
      · by_cases e3 : a = 0
        · have f3 : (a != 0) = false := by simpa using e3
          have E3 := Lib.hid e3
          clear e3
          by_cases e4 : lv < 0
          · have f4 : ¬ 0 ≤ lv := by omega
            rw [show R = endK n a ls.length most from by rw [HR.out]; unfold tailK; simp [E1.out, hnum, E3.out, e4]]
            have hr_ := H.rules; simp only [Rules, and_true] at hr_; have hd_ := H.dif; simp only [Dif, Neq, and_true] at hd_; obtain ⟨ho_, hz_⟩ := H.old0
            repeat ((fail_if_success (with_reducible (show Code.wp _ (Code.seq (Code.region 49 _ _) _) _ _ _))); go_step)
            exact kind49 hM HMM.out H
          · have f4 : 0 ≤ lv := by omega
            by_cases e6 : (ls.length : Int) = lv
            · have f6 : ((ls.length : Int) != lv) = false := by simpa using e6
              rw [show R = endK n a ls.length most from by rw [HR.out]; unfold tailK; simp [E1.out, hnum, E3.out, e6]]
              have hr_ := H.rules; simp only [Rules, and_true] at hr_; have hd_ := H.dif; simp only [Dif, Neq, and_true] at hd_; obtain ⟨ho_, hz_⟩ := H.old0
              repeat ((fail_if_success (with_reducible (show Code.wp _ (Code.seq (Code.region 49 _ _) _) _ _ _))); go_step)
              exact kind49 hM HMM.out H
            · have f6 : ((ls.length : Int) != lv) = true := by simpa using e6
              have HB : Hid (R = false) := by unfold Hid; rw [HR.out]; unfold tailK; simp [e4, e6]
              have hr_ := H.rules; simp only [Rules, and_true] at hr_; have hd_ := H.dif; simp only [Dif, Neq, and_true] at hd_; obtain ⟨ho_, hz_⟩ := H.old0
              go_wp2_with fail
              (try clear hr_ hd_ ho_ hz_)
              go_ret
              exact ⟨by rw [HB.out]; rfl, H.ext⟩
        · have f3 : (a != 0) = true := by simpa using e3
          have HB : Hid (R = false) := by unfold Hid; rw [HR.out]; unfold tailK; simp [e3, hat]
          have hr_ := H.rules; simp only [Rules, and_true] at hr_; have hd_ := H.dif; simp only [Dif, Neq, and_true] at hd_; obtain ⟨ho_, hz_⟩ := H.old0
          go_wp2_with fail
          (try clear hr_ hd_ ho_ hz_)
          go_ret
          exact ⟨by rw [HB.out]; rfl, H.ext⟩
      · have hat : at_ = true := by simpa using hat
        by_cases e4 : lv < 0
        · have f4 : ¬ 0 ≤ lv := by omega
          rw [show R = endK n a ls.length most from by rw [HR.out]; unfold tailK; simp [E1.out, hnum, hat, e4]]
          have hr_ := H.rules; simp only [Rules, and_true] at hr_; have hd_ := H.dif; simp only [Dif, Neq, and_true] at hd_; obtain ⟨ho_, hz_⟩ := H.old0
          repeat ((fail_if_success (with_reducible (show Code.wp _ (Code.seq (Code.region 49 _ _) _) _ _ _))); go_step)
          exact kind49 hM HMM.out H
        · have f4 : 0 ≤ lv := by omega
          by_cases e6 : (ls.length : Int) = lv
          · have f6 : ((ls.length : Int) != lv) = false := by simpa using e6
            rw [show R = endK n a ls.length most from by rw [HR.out]; unfold tailK; simp [E1.out, hnum, hat, e6]]
            have hr_ := H.rules; simp only [Rules, and_true] at hr_; have hd_ := H.dif; simp only [Dif, Neq, and_true] at hd_; obtain ⟨ho_, hz_⟩ := H.old0
            repeat ((fail_if_success (with_reducible (show Code.wp _ (Code.seq (Code.region 49 _ _) _) _ _ _))); go_step)
            exact kind49 hM HMM.out H
          · have f6 : ((ls.length : Int) != lv) = true := by simpa using e6
            have HB : Hid (R = false) := by unfold Hid; rw [HR.out]; unfold tailK; simp [e4, e6]
            have hr_ := H.rules; simp only [Rules, and_true] at hr_; have hd_ := H.dif; simp only [Dif, Neq, and_true] at hd_; obtain ⟨ho_, hz_⟩ := H.old0
            go_wp2_with fail
            (try clear hr_ hd_ ho_ hz_)
            go_ret
            exact ⟨by rw [HB.out]; rfl, H.ext⟩
  · have f1 : ((nk : Int) != kids) = true := by simpa using e1
    have HB : Hid (R = false) := by unfold Hid; rw [HR.out]; unfold tailK; simp [e1]
    have hr_ := H.rules; simp only [Rules, and_true] at hr_; have hd_ := H.dif; simp only [Dif, Neq, and_true] at hd_; obtain ⟨ho_, hz_⟩ := H.old0
    go_wp2_with fail
    (try clear hr_ hd_ ho_ hz_)
    go_ret
    exact ⟨by rw [HB.out]; rfl, H.ext⟩
end Go.Proofs.YteelplgdojjakaaDoor
