/- Reference 02: kind, its end: contract. No statement of the seat is proved here. -/
import Derived.Test.YteelplgdojjakaaDoorSrcSpec
import Derived.Test.YteelplgdojjakaaDoorRef11a
namespace Go.Proofs.YteelplgdojjakaaDoor
set_option linter.unusedSimpArgs false
set_option linter.unusedVariables false
open Go.RowKit

/-- What the end of reference 02's kind tells. -/
def endK (n a : Int) (nl most : Nat) : Bool := decide (nl ≤ most) && !(outI n || outI a)
def tailK (n a : Int) (nk nl : Nat) (num at_ : Bool) (lv kids : Int) (most : Nat) : Bool := decide ((nk : Int) = kids) && (num || decide (n = 0)) && (at_ || decide (a = 0)) && (decide (lv < 0) || decide ((nl : Int) = lv)) && endK n a nl most
def kindR (t : Tm) : Bool := nodeB t && decide (t.k = 24 → t.a ≤ 20000)
theorem kindR_mk (k n a : Int) (ls : List Lv) (ks : List Tm) : kindR (.mk k n a ls ks) = (nodeB (.mk k n a ls ks) && decide (k = 24 → a ≤ 20000)) := rfl
theorem nodeR_kind (t : Tm) : nodeR t = (kindR t && !(t.ls.any fun x => !lvRight 9 x)) := rfl
theorem nodeB_tail (k n a : Int) (ls : List Lv) (ks : List Tm) (q0 q1 : Bool) (q2 q3 q4 : Int) (most : Nat) (h : kindAt k.toNat = (q0, q1, q2, q3, q4)) (h1 : 1 ≤ k) (h2 : k ≤ 24) (hm : (most : Int) = if k = 10 then 10 else 8) :
    nodeB (.mk k n a ls ks) = tailK n a ks.length ls.length q0 q1 q2 (q3 + if k = 24 then a else 0) most := by
  rw [nodeB_mk]
  unfold tailK endK
  rw [h, decide_eq_true h1, decide_eq_true h2]
  dsimp only
  have e : decide ((ls.length : Int) ≤ if k = 10 then 10 else 8) = decide (ls.length ≤ most) := by rw [← hm, decide_eq_decide]; omega
  rw [e]
  generalize outI n = x0
  generalize outI a = x1
  generalize decide ((ks.length : Int) = _) = x2
  generalize decide (n = 0) = x3
  generalize decide (a = 0) = x4
  generalize decide (q2 < 0) = x5
  generalize decide ((ls.length : Int) = q2) = x6
  generalize decide (ls.length ≤ most) = x7
  cases x0 <;> cases x1 <;> cases x2 <;> cases x3 <;> cases x4 <;> cases x5 <;> cases x6 <;> cases x7 <;> cases q0 <;> cases q1 <;> rfl
set_option maxRecDepth 100000 in
set_option maxHeartbeats 8000000 in
theorem kind49 {w W : World} {k n a : Int} {ls : List Lv} {A0 K0 : Option Addr} {nk ca ck gt most : Nat} {x0 x2 x3 x4 x5 x6 x7 x8 x9 x10 x11 x12 x13 x14 x15 x16 x17 x18 x19 x20 x21 x22 x23 x24 x25 x26 x27 x28 x29 x30 x31 x32 x33 x34 x35 x36 x37 x38 x39 x40 x41 x42 x43 x44 x45 x46 x47 x48 x49 x50 x51 x52 x53 x54 x55 x56 x57 x58 x59 x60 x61 x62 x63 x64 x65 x66 x67 x68 x69 x70 x71 x72 x73 x74 x75 x76 x77 x78 x79 x80 x81 x82 x83 x84 x85 x86 x87 x88 x89 x90 x91 x92 x93 x94 x95 x96 x97 x98 x99 x100 x101 x102 x103 x104 x105 x106 x107 x108 x109 x110 x111 x112 x113 x114 x115 x116 x117 x118 x119 : Value} (hM : ls.length ≤ 4294967296) (hm : (most : Int) = if k = 10 then 10 else 8)
    (H : Hp no w W [.box gt 30 [.int .i64 k, .int .i64 n, .int .i64 a, .slice A0 ls.length ca, .slice K0 nk ck]]) :
    (fromN 49 (Tryd.f148.body.getD .skip)).wp Tryd.prog (bodyPost Tryd.prog Tryd.f148 (PV w (.bool (endK n a ls.length most)))) { tmps := #[x0, .pointer (some ⟨gt, 0, none⟩), x2, x3, x4, x5, x6, x7, x8, x9, x10, x11, x12, x13, x14, x15, x16, x17, x18, x19, x20, x21, x22, x23, x24, x25, x26, x27, x28, x29, x30, x31, x32, x33, x34, x35, x36, x37, x38, x39, x40, x41, x42, x43, x44, x45, x46, x47, x48, x49, x50, x51, x52, x53, x54, x55, x56, x57, x58, x59, x60, x61, x62, x63, x64, x65, x66, x67, x68, x69, x70, x71, x72, x73, x74, x75, x76, x77, x78, x79, x80, x81, x82, x83, x84, x85, x86, x87, x88, x89, x90, x91, x92, x93, x94, x95, x96, x97, x98, x99, x100, x101, x102, x103, x104, x105, x106, x107, x108, x109, x110, x111, x112, x113, x114, x115, x116, x117, x118, x119], defers := [] } W := by
  obtain ⟨R, hR⟩ : ∃ R, R = endK n a ls.length most := ⟨_, rfl⟩
  rw [← hR]
  conv => arg 2; whnf
  by_cases k10 : k = 10
  · have g : (k == 10) = true := by simpa using k10
    obtain rfl : most = 10 := by rw [if_pos k10] at hm; omega
    have HR := Lib.hid hR
    clear hm k10 hR
    by_cases b1 : ls.length ≤ 10
    · by_cases b2 : n < 0
      · have c2 : ¬ 0 ≤ n := by omega
        have HB : Hid (R = false) := by unfold Hid; rw [HR.out]; unfold endK outI; simp [b2]
        have hw := Lib.hid b2
        clear b2
        have hr_ := H.rules; simp only [Rules, and_true] at hr_; have hd_ := H.dif; simp only [Dif, Neq, and_true] at hd_; obtain ⟨ho_, hz_⟩ := H.old0
        go_wp2_with fail
        (try clear hr_ hd_ ho_ hz_)
        go_ret
        exact ⟨by rw [HB.out]; rfl, H.ext⟩
      · by_cases b3 : 1048576 < n
        · have c2 : 0 ≤ n := by omega
          have c3 : ¬ n ≤ 1048576 := by omega
          have HB : Hid (R = false) := by unfold Hid; rw [HR.out]; unfold endK outI; simp [b3]
          clear b2 b3
          have hr_ := H.rules; simp only [Rules, and_true] at hr_; have hd_ := H.dif; simp only [Dif, Neq, and_true] at hd_; obtain ⟨ho_, hz_⟩ := H.old0
          go_wp2_with fail
          (try clear hr_ hd_ ho_ hz_)
          go_ret
          exact ⟨by rw [HB.out]; rfl, H.ext⟩
        · by_cases b4 : a < 0
          · have c2 : 0 ≤ n := by omega
            have c3 : n ≤ 1048576 := by omega
            have c4 : ¬ 0 ≤ a := by omega
            have HB : Hid (R = false) := by unfold Hid; rw [HR.out]; unfold endK outI; simp [b4]
            clear b2 b3 b4
            have hr_ := H.rules; simp only [Rules, and_true] at hr_; have hd_ := H.dif; simp only [Dif, Neq, and_true] at hd_; obtain ⟨ho_, hz_⟩ := H.old0
            go_wp2_with fail
            (try clear hr_ hd_ ho_ hz_)
            go_ret
            exact ⟨by rw [HB.out]; rfl, H.ext⟩
          · by_cases b5 : 1048576 < a
            · have c2 : 0 ≤ n := by omega
              have c3 : n ≤ 1048576 := by omega
              have c4 : 0 ≤ a := by omega
              have c5 : ¬ a ≤ 1048576 := by omega
              have HB : Hid (R = false) := by unfold Hid; rw [HR.out]; unfold endK outI; simp [b5]
              clear b2 b3 b4 b5
              have hr_ := H.rules; simp only [Rules, and_true] at hr_; have hd_ := H.dif; simp only [Dif, Neq, and_true] at hd_; obtain ⟨ho_, hz_⟩ := H.old0
              go_wp2_with fail
              (try clear hr_ hd_ ho_ hz_)
              go_ret
              exact ⟨by rw [HB.out]; rfl, H.ext⟩
            · have c2 : 0 ≤ n := by omega
              have c3 : n ≤ 1048576 := by omega
              have c4 : 0 ≤ a := by omega
              have c5 : a ≤ 1048576 := by omega
              have HB : Hid (R = true) := by unfold Hid; rw [HR.out]; unfold endK outI; simp [b1, b2, b3, b4, b5]
              clear b2 b3 b4 b5
              have hr_ := H.rules; simp only [Rules, and_true] at hr_; have hd_ := H.dif; simp only [Dif, Neq, and_true] at hd_; obtain ⟨ho_, hz_⟩ := H.old0
              go_wp2_with fail
              (try clear hr_ hd_ ho_ hz_)
              go_ret
              exact ⟨by rw [HB.out]; rfl, H.ext⟩
    · have HB : Hid (R = false) := by unfold Hid; rw [HR.out]; unfold endK; simp [b1]
      have hr_ := H.rules; simp only [Rules, and_true] at hr_; have hd_ := H.dif; simp only [Dif, Neq, and_true] at hd_; obtain ⟨ho_, hz_⟩ := H.old0
      go_wp2_with fail
      (try clear hr_ hd_ ho_ hz_)
      go_ret
      exact ⟨by rw [HB.out]; rfl, H.ext⟩
  · have g : (k == 10) = false := by simpa using k10
    obtain rfl : most = 8 := by rw [if_neg k10] at hm; omega
    have HR := Lib.hid hR
    clear hm k10 hR
    by_cases b1 : ls.length ≤ 8
    · by_cases b2 : n < 0
      · have c2 : ¬ 0 ≤ n := by omega
        have HB : Hid (R = false) := by unfold Hid; rw [HR.out]; unfold endK outI; simp [b2]
        have hw := Lib.hid b2
        clear b2
        have hr_ := H.rules; simp only [Rules, and_true] at hr_; have hd_ := H.dif; simp only [Dif, Neq, and_true] at hd_; obtain ⟨ho_, hz_⟩ := H.old0
        go_wp2_with fail
        (try clear hr_ hd_ ho_ hz_)
        go_ret
        exact ⟨by rw [HB.out]; rfl, H.ext⟩
      · by_cases b3 : 1048576 < n
        · have c2 : 0 ≤ n := by omega
          have c3 : ¬ n ≤ 1048576 := by omega
          have HB : Hid (R = false) := by unfold Hid; rw [HR.out]; unfold endK outI; simp [b3]
          clear b2 b3
          have hr_ := H.rules; simp only [Rules, and_true] at hr_; have hd_ := H.dif; simp only [Dif, Neq, and_true] at hd_; obtain ⟨ho_, hz_⟩ := H.old0
          go_wp2_with fail
          (try clear hr_ hd_ ho_ hz_)
          go_ret
          exact ⟨by rw [HB.out]; rfl, H.ext⟩
        · by_cases b4 : a < 0
          · have c2 : 0 ≤ n := by omega
            have c3 : n ≤ 1048576 := by omega
            have c4 : ¬ 0 ≤ a := by omega
            have HB : Hid (R = false) := by unfold Hid; rw [HR.out]; unfold endK outI; simp [b4]
            clear b2 b3 b4
            have hr_ := H.rules; simp only [Rules, and_true] at hr_; have hd_ := H.dif; simp only [Dif, Neq, and_true] at hd_; obtain ⟨ho_, hz_⟩ := H.old0
            go_wp2_with fail
            (try clear hr_ hd_ ho_ hz_)
            go_ret
            exact ⟨by rw [HB.out]; rfl, H.ext⟩
          · by_cases b5 : 1048576 < a
            · have c2 : 0 ≤ n := by omega
              have c3 : n ≤ 1048576 := by omega
              have c4 : 0 ≤ a := by omega
              have c5 : ¬ a ≤ 1048576 := by omega
              have HB : Hid (R = false) := by unfold Hid; rw [HR.out]; unfold endK outI; simp [b5]
              clear b2 b3 b4 b5
              have hr_ := H.rules; simp only [Rules, and_true] at hr_; have hd_ := H.dif; simp only [Dif, Neq, and_true] at hd_; obtain ⟨ho_, hz_⟩ := H.old0
              go_wp2_with fail
              (try clear hr_ hd_ ho_ hz_)
              go_ret
              exact ⟨by rw [HB.out]; rfl, H.ext⟩
            · have c2 : 0 ≤ n := by omega
              have c3 : n ≤ 1048576 := by omega
              have c4 : 0 ≤ a := by omega
              have c5 : a ≤ 1048576 := by omega
              have HB : Hid (R = true) := by unfold Hid; rw [HR.out]; unfold endK outI; simp [b1, b2, b3, b4, b5]
              clear b2 b3 b4 b5
              have hr_ := H.rules; simp only [Rules, and_true] at hr_; have hd_ := H.dif; simp only [Dif, Neq, and_true] at hd_; obtain ⟨ho_, hz_⟩ := H.old0
              go_wp2_with fail
              (try clear hr_ hd_ ho_ hz_)
              go_ret
              exact ⟨by rw [HB.out]; rfl, H.ext⟩
    · have HB : Hid (R = false) := by unfold Hid; rw [HR.out]; unfold endK; simp [b1]
      have hr_ := H.rules; simp only [Rules, and_true] at hr_; have hd_ := H.dif; simp only [Dif, Neq, and_true] at hd_; obtain ⟨ho_, hz_⟩ := H.old0
      go_wp2_with fail
      (try clear hr_ hd_ ho_ hz_)
      go_ret
      exact ⟨by rw [HB.out]; rfl, H.ext⟩
end Go.Proofs.YteelplgdojjakaaDoor
