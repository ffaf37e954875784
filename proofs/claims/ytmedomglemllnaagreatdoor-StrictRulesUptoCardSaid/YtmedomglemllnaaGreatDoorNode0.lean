/- term: node, its end: contract. No statement of the seat is proved here. -/
import Derived.Test.YtmedomglemllnaaGreatDoorMgSrcSpec
namespace Go.Proofs.YtmedomglemllnaaGreatDoor
set_option linter.unusedSimpArgs false
set_option linter.unusedVariables false
open Go.RowKit

def tailQ (m a : Int) (ls : List Lv) (nk : Nat) (q0 q1 : Bool) (q2 K : Int) (most : Nat) : Bool := decide ((nk : Int) = K) && (decide (m = 0) || q0) && (decide (a = 0) || q1) && (decide (q2 < 0) || decide ((ls.length : Int) = q2)) && decide (ls.length ≤ most) && !(ls.any fun x => !lvRight 9 x)
set_option maxRecDepth 100000 in
set_option maxHeartbeats 8000000 in
theorem node9 {w W : World} {S : Nat → Prop} {k m a : Int} {ls : List Lv} {A0 K0 : Option Addr} {nk ca ck gt gh : Nat} {q0 q1 : Bool} {q2 K q4 : Int} {most : Nat} {x0 x2 x5 x6 x7 x8 x9 x10 x11 x12 x13 x14 x15 x16 x17 x18 x19 x20 x21 x22 x23 x24 x25 x26 x27 x28 x29 x30 x31 x32 x33 x34 x35 x36 x37 x38 x39 x40 x41 x42 x43 x44 x45 x46 x47 x48 x49 x50 x51 x52 x53 x54 x55 x56 x57 x58 x59 x60 x61 x62 x63 x64 x65 x66 x67 x68 x69 x70 x71 x72 x73 x74 x75 x76 x77 x78 x79 x80 x81 x82 x83 x84 x85 x86 x87 x88 x89 : Value} (hls : RC w S (.l 47 1 (ls.map lvD)) [.slice A0 ls.length ca])
    (H : Hp no w W [.box gt 26 [.int .i64 k, .int .i64 m, .int .i64 a, .slice A0 ls.length ca, .slice K0 nk ck], .box gh 299 [.bool q0, .bool q1, .int .i64 q2, .int .i64 K, .int .i64 q4]]) :
    (fromN 9 (Tryz.f271.body.getD .skip)).wp Tryz.prog (bodyPost Tryz.prog Tryz.f271 (PV w (.bool (tailQ m a ls nk q0 q1 q2 K most)))) { tmps := #[x0, .pointer (some ⟨gt, 0, none⟩), x2, .pointer (some ⟨gh, 0, none⟩), .int .i64 most, x5, x6, x7, x8, x9, x10, x11, x12, x13, x14, x15, x16, x17, x18, x19, x20, x21, x22, x23, x24, x25, x26, x27, x28, x29, x30, x31, x32, x33, x34, x35, x36, x37, x38, x39, x40, x41, x42, x43, x44, x45, x46, x47, x48, x49, x50, x51, x52, x53, x54, x55, x56, x57, x58, x59, x60, x61, x62, x63, x64, x65, x66, x67, x68, x69, x70, x71, x72, x73, x74, x75, x76, x77, x78, x79, x80, x81, x82, x83, x84, x85, x86, x87, x88, x89], defers := [] } W := by
  have HLS := Lib.hid hls
  clear hls
  obtain ⟨R, hR⟩ : ∃ R, R = tailQ m a ls nk q0 q1 q2 K most := ⟨_, rfl⟩
  rw [← hR]
  have HR := Lib.hid hR
  clear hR
  by_cases e1 : (nk : Int) = K
  · have f1 : ((nk : Int) != K) = false := by simpa using e1
    have E1 := Lib.hid e1
    clear e1
    by_cases e2 : m = 0
    · have f2 : (m != 0) = false := by simpa using e2
      have E2 := Lib.hid e2
      clear e2
      by_cases e3 : a = 0
      · have f3 : (a != 0) = false := by simpa using e3
        have E3 := Lib.hid e3
        clear e3
        by_cases e4 : q2 < 0
        · have f4 : ¬ 0 ≤ q2 := by omega
          by_cases e5 : ls.length ≤ most
          · have f5 : ¬ most < ls.length := by omega
            have HB : Hid (tailQ m a ls nk q0 q1 q2 K most = !(ls.any fun x => !lvRight 9 x)) := by unfold Hid tailQ; simp [E1.out, E2.out, E3.out, e4, e5]
            conv => arg 2; whnf
            have hr_ := H.rules; simp only [Rules, and_true] at hr_; have hd_ := H.dif; simp only [Dif, Neq, and_true] at hd_; obtain ⟨ho_, hz_⟩ := H.old0
            go_wp2_with fail
            (try clear hr_ hd_ ho_ hz_)
            refine callsH (by (repeat (first | with_reducible exact H | with_reducible exact H0_ | with_reducible apply Hp.alloc | with_reducible apply Hp.allocMap | with_reducible apply Hp.drew | with_reducible apply Hp.drewN | with_reducible apply Hp.set)); (try any_goals (repeat (first | with_reducible exact Upd.head | with_reducible apply Upd.tail)))) ?_
            clear H; intro w3 H; (try simp only [size_drew_, size_drewN_, World.size_alloc, World.size_setCell, List.set_cons_zero, List.set_cons_succ] at H)
            refine (node_levels (HLS.out.ext0 H.ext) rfl).mono ?_
            rintro e w_ ⟨rfl, hx⟩
            replace H := H.call hx
            clear hx
            cases hq : ls.any fun x => !lvRight 9 x
            · have HQ := Lib.hid hq
              clear hq
              go_wp2_with fail
              go_ret
              exact ⟨by rw [HR.out, HB.out, HQ.out]; rfl, H.ext⟩
            · have HQ := Lib.hid hq
              clear hq
              go_wp2_with fail
              go_ret
              exact ⟨by rw [HR.out, HB.out, HQ.out]; rfl, H.ext⟩
          · have f5 : most < ls.length := by omega
            have HB : Hid (tailQ m a ls nk q0 q1 q2 K most = false) := by unfold Hid tailQ; simp [e5]
            conv => arg 2; whnf
            have hr_ := H.rules; simp only [Rules, and_true] at hr_; have hd_ := H.dif; simp only [Dif, Neq, and_true] at hd_; obtain ⟨ho_, hz_⟩ := H.old0
            go_wp2_with fail
            (try clear hr_ hd_ ho_ hz_)
            go_ret
            exact ⟨by rw [HR.out, HB.out]; rfl, H.ext⟩
        · have f4 : 0 ≤ q2 := by omega
          by_cases e6 : (ls.length : Int) = q2
          · have f6 : ((ls.length : Int) != q2) = false := by simpa using e6
            have E6 := Lib.hid e6
            clear e6
            by_cases e5 : ls.length ≤ most
            · have f5 : ¬ most < ls.length := by omega
              have HB : Hid (tailQ m a ls nk q0 q1 q2 K most = !(ls.any fun x => !lvRight 9 x)) := by unfold Hid tailQ; simp [E1.out, E2.out, E3.out, E6.out, e5]
              conv => arg 2; whnf
              have hr_ := H.rules; simp only [Rules, and_true] at hr_; have hd_ := H.dif; simp only [Dif, Neq, and_true] at hd_; obtain ⟨ho_, hz_⟩ := H.old0
              go_wp2_with fail
              (try clear hr_ hd_ ho_ hz_)
              refine callsH (by (repeat (first | with_reducible exact H | with_reducible exact H0_ | with_reducible apply Hp.alloc | with_reducible apply Hp.allocMap | with_reducible apply Hp.drew | with_reducible apply Hp.drewN | with_reducible apply Hp.set)); (try any_goals (repeat (first | with_reducible exact Upd.head | with_reducible apply Upd.tail)))) ?_
              clear H; intro w3 H; (try simp only [size_drew_, size_drewN_, World.size_alloc, World.size_setCell, List.set_cons_zero, List.set_cons_succ] at H)
              refine (node_levels (HLS.out.ext0 H.ext) rfl).mono ?_
              rintro e w_ ⟨rfl, hx⟩
              replace H := H.call hx
              clear hx
              cases hq : ls.any fun x => !lvRight 9 x
              · have HQ := Lib.hid hq
                clear hq
                go_wp2_with fail
                go_ret
                exact ⟨by rw [HR.out, HB.out, HQ.out]; rfl, H.ext⟩
              · have HQ := Lib.hid hq
                clear hq
                go_wp2_with fail
                go_ret
                exact ⟨by rw [HR.out, HB.out, HQ.out]; rfl, H.ext⟩
            · have f5 : most < ls.length := by omega
              have HB : Hid (tailQ m a ls nk q0 q1 q2 K most = false) := by unfold Hid tailQ; simp [e5]
              conv => arg 2; whnf
              have hr_ := H.rules; simp only [Rules, and_true] at hr_; have hd_ := H.dif; simp only [Dif, Neq, and_true] at hd_; obtain ⟨ho_, hz_⟩ := H.old0
              go_wp2_with fail
              (try clear hr_ hd_ ho_ hz_)
              go_ret
              exact ⟨by rw [HR.out, HB.out]; rfl, H.ext⟩
          · have f6 : ((ls.length : Int) != q2) = true := by simpa using e6
            have HB : Hid (tailQ m a ls nk q0 q1 q2 K most = false) := by unfold Hid tailQ; simp [e4, e6]
            conv => arg 2; whnf
            have hr_ := H.rules; simp only [Rules, and_true] at hr_; have hd_ := H.dif; simp only [Dif, Neq, and_true] at hd_; obtain ⟨ho_, hz_⟩ := H.old0
            go_wp2_with fail
            (try clear hr_ hd_ ho_ hz_)
            go_ret
            exact ⟨by rw [HR.out, HB.out]; rfl, H.ext⟩
      · have f3 : (a != 0) = true := by simpa using e3
        by_cases hq1 : q1 = false
        ·
          have HB : Hid (tailQ m a ls nk q0 q1 q2 K most = false) := by unfold Hid tailQ; simp [e3, hq1]
          conv => arg 2; whnf
          have hr_ := H.rules; simp only [Rules, and_true] at hr_; have hd_ := H.dif; simp only [Dif, Neq, and_true] at hd_; obtain ⟨ho_, hz_⟩ := H.old0
          go_wp2_with fail
          (try clear hr_ hd_ ho_ hz_)
          go_ret
          exact ⟨by rw [HR.out, HB.out]; rfl, H.ext⟩
        · have hq1 : q1 = true := by simpa using hq1
          by_cases e4 : q2 < 0
          · have f4 : ¬ 0 ≤ q2 := by omega
            by_cases e5 : ls.length ≤ most
            · have f5 : ¬ most < ls.length := by omega
              have HB : Hid (tailQ m a ls nk q0 q1 q2 K most = !(ls.any fun x => !lvRight 9 x)) := by unfold Hid tailQ; simp [E1.out, E2.out, e3, hq1, e4, e5]
              conv => arg 2; whnf
              have hr_ := H.rules; simp only [Rules, and_true] at hr_; have hd_ := H.dif; simp only [Dif, Neq, and_true] at hd_; obtain ⟨ho_, hz_⟩ := H.old0
              go_wp2_with fail
              (try clear hr_ hd_ ho_ hz_)
              refine callsH (by (repeat (first | with_reducible exact H | with_reducible exact H0_ | with_reducible apply Hp.alloc | with_reducible apply Hp.allocMap | with_reducible apply Hp.drew | with_reducible apply Hp.drewN | with_reducible apply Hp.set)); (try any_goals (repeat (first | with_reducible exact Upd.head | with_reducible apply Upd.tail)))) ?_
              clear H; intro w3 H; (try simp only [size_drew_, size_drewN_, World.size_alloc, World.size_setCell, List.set_cons_zero, List.set_cons_succ] at H)
              refine (node_levels (HLS.out.ext0 H.ext) rfl).mono ?_
              rintro e w_ ⟨rfl, hx⟩
              replace H := H.call hx
              clear hx
              cases hq : ls.any fun x => !lvRight 9 x
              · have HQ := Lib.hid hq
                clear hq
                go_wp2_with fail
                go_ret
                exact ⟨by rw [HR.out, HB.out, HQ.out]; rfl, H.ext⟩
              · have HQ := Lib.hid hq
                clear hq
                go_wp2_with fail
                go_ret
                exact ⟨by rw [HR.out, HB.out, HQ.out]; rfl, H.ext⟩
            · have f5 : most < ls.length := by omega
              have HB : Hid (tailQ m a ls nk q0 q1 q2 K most = false) := by unfold Hid tailQ; simp [e5]
              conv => arg 2; whnf
              have hr_ := H.rules; simp only [Rules, and_true] at hr_; have hd_ := H.dif; simp only [Dif, Neq, and_true] at hd_; obtain ⟨ho_, hz_⟩ := H.old0
              go_wp2_with fail
              (try clear hr_ hd_ ho_ hz_)
              go_ret
              exact ⟨by rw [HR.out, HB.out]; rfl, H.ext⟩
          · have f4 : 0 ≤ q2 := by omega
            by_cases e6 : (ls.length : Int) = q2
            · have f6 : ((ls.length : Int) != q2) = false := by simpa using e6
              have E6 := Lib.hid e6
              clear e6
              by_cases e5 : ls.length ≤ most
              · have f5 : ¬ most < ls.length := by omega
                have HB : Hid (tailQ m a ls nk q0 q1 q2 K most = !(ls.any fun x => !lvRight 9 x)) := by unfold Hid tailQ; simp [E1.out, E2.out, e3, hq1, E6.out, e5]
                conv => arg 2; whnf
                have hr_ := H.rules; simp only [Rules, and_true] at hr_; have hd_ := H.dif; simp only [Dif, Neq, and_true] at hd_; obtain ⟨ho_, hz_⟩ := H.old0
                go_wp2_with fail
                (try clear hr_ hd_ ho_ hz_)
                refine callsH (by (repeat (first | with_reducible exact H | with_reducible exact H0_ | with_reducible apply Hp.alloc | with_reducible apply Hp.allocMap | with_reducible apply Hp.drew | with_reducible apply Hp.drewN | with_reducible apply Hp.set)); (try any_goals (repeat (first | with_reducible exact Upd.head | with_reducible apply Upd.tail)))) ?_
                clear H; intro w3 H; (try simp only [size_drew_, size_drewN_, World.size_alloc, World.size_setCell, List.set_cons_zero, List.set_cons_succ] at H)
                refine (node_levels (HLS.out.ext0 H.ext) rfl).mono ?_
                rintro e w_ ⟨rfl, hx⟩
                replace H := H.call hx
                clear hx
                cases hq : ls.any fun x => !lvRight 9 x
                · have HQ := Lib.hid hq
                  clear hq
                  go_wp2_with fail
                  go_ret
                  exact ⟨by rw [HR.out, HB.out, HQ.out]; rfl, H.ext⟩
                · have HQ := Lib.hid hq
                  clear hq
                  go_wp2_with fail
                  go_ret
                  exact ⟨by rw [HR.out, HB.out, HQ.out]; rfl, H.ext⟩
              · have f5 : most < ls.length := by omega
                have HB : Hid (tailQ m a ls nk q0 q1 q2 K most = false) := by unfold Hid tailQ; simp [e5]
                conv => arg 2; whnf
                have hr_ := H.rules; simp only [Rules, and_true] at hr_; have hd_ := H.dif; simp only [Dif, Neq, and_true] at hd_; obtain ⟨ho_, hz_⟩ := H.old0
                go_wp2_with fail
                (try clear hr_ hd_ ho_ hz_)
                go_ret
                exact ⟨by rw [HR.out, HB.out]; rfl, H.ext⟩
            · have f6 : ((ls.length : Int) != q2) = true := by simpa using e6
              have HB : Hid (tailQ m a ls nk q0 q1 q2 K most = false) := by unfold Hid tailQ; simp [e4, e6]
              conv => arg 2; whnf
              have hr_ := H.rules; simp only [Rules, and_true] at hr_; have hd_ := H.dif; simp only [Dif, Neq, and_true] at hd_; obtain ⟨ho_, hz_⟩ := H.old0
              go_wp2_with fail
              (try clear hr_ hd_ ho_ hz_)
              go_ret
              exact ⟨by rw [HR.out, HB.out]; rfl, H.ext⟩
    · have f2 : (m != 0) = true := by simpa using e2
      by_cases hq0 : q0 = false
      ·
        have HB : Hid (tailQ m a ls nk q0 q1 q2 K most = false) := by unfold Hid tailQ; simp [e2, hq0]
        conv => arg 2; whnf
        have hr_ := H.rules; simp only [Rules, and_true] at hr_; have hd_ := H.dif; simp only [Dif, Neq, and_true] at hd_; obtain ⟨ho_, hz_⟩ := H.old0
        go_wp2_with fail
        (try clear hr_ hd_ ho_ hz_)
        go_ret
        exact ⟨by rw [HR.out, HB.out]; rfl, H.ext⟩
      · have hq0 : q0 = true := by simpa using hq0
        by_cases e3 : a = 0
        · have f3 : (a != 0) = false := by simpa using e3
          have E3 := Lib.hid e3
          clear e3
          by_cases e4 : q2 < 0
          · have f4 : ¬ 0 ≤ q2 := by omega
            by_cases e5 : ls.length ≤ most
            · have f5 : ¬ most < ls.length := by omega
              have HB : Hid (tailQ m a ls nk q0 q1 q2 K most = !(ls.any fun x => !lvRight 9 x)) := by unfold Hid tailQ; simp [E1.out, e2, hq0, E3.out, e4, e5]
              conv => arg 2; whnf
              have hr_ := H.rules; simp only [Rules, and_true] at hr_; have hd_ := H.dif; simp only [Dif, Neq, and_true] at hd_; obtain ⟨ho_, hz_⟩ := H.old0
              go_wp2_with fail
              (try clear hr_ hd_ ho_ hz_)
              refine callsH (by (repeat (first | with_reducible exact H | with_reducible exact H0_ | with_reducible apply Hp.alloc | with_reducible apply Hp.allocMap | with_reducible apply Hp.drew | with_reducible apply Hp.drewN | with_reducible apply Hp.set)); (try any_goals (repeat (first | with_reducible exact Upd.head | with_reducible apply Upd.tail)))) ?_
              clear H; intro w3 H; (try simp only [size_drew_, size_drewN_, World.size_alloc, World.size_setCell, List.set_cons_zero, List.set_cons_succ] at H)
              refine (node_levels (HLS.out.ext0 H.ext) rfl).mono ?_
              rintro e w_ ⟨rfl, hx⟩
              replace H := H.call hx
              clear hx
              cases hq : ls.any fun x => !lvRight 9 x
              · have HQ := Lib.hid hq
                clear hq
                go_wp2_with fail
                go_ret
                exact ⟨by rw [HR.out, HB.out, HQ.out]; rfl, H.ext⟩
              · have HQ := Lib.hid hq
                clear hq
                go_wp2_with fail
                go_ret
                exact ⟨by rw [HR.out, HB.out, HQ.out]; rfl, H.ext⟩
            · have f5 : most < ls.length := by omega
              have HB : Hid (tailQ m a ls nk q0 q1 q2 K most = false) := by unfold Hid tailQ; simp [e5]
              conv => arg 2; whnf
              have hr_ := H.rules; simp only [Rules, and_true] at hr_; have hd_ := H.dif; simp only [Dif, Neq, and_true] at hd_; obtain ⟨ho_, hz_⟩ := H.old0
              go_wp2_with fail
              (try clear hr_ hd_ ho_ hz_)
              go_ret
              exact ⟨by rw [HR.out, HB.out]; rfl, H.ext⟩
          · have f4 : 0 ≤ q2 := by omega
            by_cases e6 : (ls.length : Int) = q2
            · have f6 : ((ls.length : Int) != q2) = false := by simpa using e6
              have E6 := Lib.hid e6
              clear e6
              by_cases e5 : ls.length ≤ most
              · have f5 : ¬ most < ls.length := by omega
                have HB : Hid (tailQ m a ls nk q0 q1 q2 K most = !(ls.any fun x => !lvRight 9 x)) := by unfold Hid tailQ; simp [E1.out, e2, hq0, E3.out, E6.out, e5]
                conv => arg 2; whnf
                have hr_ := H.rules; simp only [Rules, and_true] at hr_; have hd_ := H.dif; simp only [Dif, Neq, and_true] at hd_; obtain ⟨ho_, hz_⟩ := H.old0
                go_wp2_with fail
                (try clear hr_ hd_ ho_ hz_)
                refine callsH (by (repeat (first | with_reducible exact H | with_reducible exact H0_ | with_reducible apply Hp.alloc | with_reducible apply Hp.allocMap | with_reducible apply Hp.drew | with_reducible apply Hp.drewN | with_reducible apply Hp.set)); (try any_goals (repeat (first | with_reducible exact Upd.head | with_reducible apply Upd.tail)))) ?_
                clear H; intro w3 H; (try simp only [size_drew_, size_drewN_, World.size_alloc, World.size_setCell, List.set_cons_zero, List.set_cons_succ] at H)
                refine (node_levels (HLS.out.ext0 H.ext) rfl).mono ?_
                rintro e w_ ⟨rfl, hx⟩
                replace H := H.call hx
                clear hx
                cases hq : ls.any fun x => !lvRight 9 x
                · have HQ := Lib.hid hq
                  clear hq
                  go_wp2_with fail
                  go_ret
                  exact ⟨by rw [HR.out, HB.out, HQ.out]; rfl, H.ext⟩
                · have HQ := Lib.hid hq
                  clear hq
                  go_wp2_with fail
                  go_ret
                  exact ⟨by rw [HR.out, HB.out, HQ.out]; rfl, H.ext⟩
              · have f5 : most < ls.length := by omega
                have HB : Hid (tailQ m a ls nk q0 q1 q2 K most = false) := by unfold Hid tailQ; simp [e5]
                conv => arg 2; whnf
                have hr_ := H.rules; simp only [Rules, and_true] at hr_; have hd_ := H.dif; simp only [Dif, Neq, and_true] at hd_; obtain ⟨ho_, hz_⟩ := H.old0
                go_wp2_with fail
                (try clear hr_ hd_ ho_ hz_)
                go_ret
                exact ⟨by rw [HR.out, HB.out]; rfl, H.ext⟩
            · have f6 : ((ls.length : Int) != q2) = true := by simpa using e6
              have HB : Hid (tailQ m a ls nk q0 q1 q2 K most = false) := by unfold Hid tailQ; simp [e4, e6]
              conv => arg 2; whnf
              have hr_ := H.rules; simp only [Rules, and_true] at hr_; have hd_ := H.dif; simp only [Dif, Neq, and_true] at hd_; obtain ⟨ho_, hz_⟩ := H.old0
              go_wp2_with fail
              (try clear hr_ hd_ ho_ hz_)
              go_ret
              exact ⟨by rw [HR.out, HB.out]; rfl, H.ext⟩
        · have f3 : (a != 0) = true := by simpa using e3
          by_cases hq1 : q1 = false
          ·
            have HB : Hid (tailQ m a ls nk q0 q1 q2 K most = false) := by unfold Hid tailQ; simp [e3, hq1]
            conv => arg 2; whnf
            have hr_ := H.rules; simp only [Rules, and_true] at hr_; have hd_ := H.dif; simp only [Dif, Neq, and_true] at hd_; obtain ⟨ho_, hz_⟩ := H.old0
            go_wp2_with fail
            (try clear hr_ hd_ ho_ hz_)
            go_ret
            exact ⟨by rw [HR.out, HB.out]; rfl, H.ext⟩
          · have hq1 : q1 = true := by simpa using hq1
            by_cases e4 : q2 < 0
            · have f4 : ¬ 0 ≤ q2 := by omega
              by_cases e5 : ls.length ≤ most
              · have f5 : ¬ most < ls.length := by omega
                have HB : Hid (tailQ m a ls nk q0 q1 q2 K most = !(ls.any fun x => !lvRight 9 x)) := by unfold Hid tailQ; simp [E1.out, e2, hq0, e3, hq1, e4, e5]
                conv => arg 2; whnf
                have hr_ := H.rules; simp only [Rules, and_true] at hr_; have hd_ := H.dif; simp only [Dif, Neq, and_true] at hd_; obtain ⟨ho_, hz_⟩ := H.old0
                go_wp2_with fail
                (try clear hr_ hd_ ho_ hz_)
                refine callsH (by (repeat (first | with_reducible exact H | with_reducible exact H0_ | with_reducible apply Hp.alloc | with_reducible apply Hp.allocMap | with_reducible apply Hp.drew | with_reducible apply Hp.drewN | with_reducible apply Hp.set)); (try any_goals (repeat (first | with_reducible exact Upd.head | with_reducible apply Upd.tail)))) ?_
                clear H; intro w3 H; (try simp only [size_drew_, size_drewN_, World.size_alloc, World.size_setCell, List.set_cons_zero, List.set_cons_succ] at H)
                refine (node_levels (HLS.out.ext0 H.ext) rfl).mono ?_
                rintro e w_ ⟨rfl, hx⟩
                replace H := H.call hx
                clear hx
                cases hq : ls.any fun x => !lvRight 9 x
                · have HQ := Lib.hid hq
                  clear hq
                  go_wp2_with fail
                  go_ret
                  exact ⟨by rw [HR.out, HB.out, HQ.out]; rfl, H.ext⟩
                · have HQ := Lib.hid hq
                  clear hq
                  go_wp2_with fail
                  go_ret
                  exact ⟨by rw [HR.out, HB.out, HQ.out]; rfl, H.ext⟩
              · have f5 : most < ls.length := by omega
                have HB : Hid (tailQ m a ls nk q0 q1 q2 K most = false) := by unfold Hid tailQ; simp [e5]
                conv => arg 2; whnf
                have hr_ := H.rules; simp only [Rules, and_true] at hr_; have hd_ := H.dif; simp only [Dif, Neq, and_true] at hd_; obtain ⟨ho_, hz_⟩ := H.old0
                go_wp2_with fail
                (try clear hr_ hd_ ho_ hz_)
                go_ret
                exact ⟨by rw [HR.out, HB.out]; rfl, H.ext⟩
            · have f4 : 0 ≤ q2 := by omega
              by_cases e6 : (ls.length : Int) = q2
              · have f6 : ((ls.length : Int) != q2) = false := by simpa using e6
                have E6 := Lib.hid e6
                clear e6
                by_cases e5 : ls.length ≤ most
                · have f5 : ¬ most < ls.length := by omega
                  have HB : Hid (tailQ m a ls nk q0 q1 q2 K most = !(ls.any fun x => !lvRight 9 x)) := by unfold Hid tailQ; simp [E1.out, e2, hq0, e3, hq1, E6.out, e5]
                  conv => arg 2; whnf
                  have hr_ := H.rules; simp only [Rules, and_true] at hr_; have hd_ := H.dif; simp only [Dif, Neq, and_true] at hd_; obtain ⟨ho_, hz_⟩ := H.old0
                  go_wp2_with fail
                  (try clear hr_ hd_ ho_ hz_)
                  refine callsH (by (repeat (first | with_reducible exact H | with_reducible exact H0_ | with_reducible apply Hp.alloc | with_reducible apply Hp.allocMap | with_reducible apply Hp.drew | with_reducible apply Hp.drewN | with_reducible apply Hp.set)); (try any_goals (repeat (first | with_reducible exact Upd.head | with_reducible apply Upd.tail)))) ?_
                  clear H; intro w3 H; (try simp only [size_drew_, size_drewN_, World.size_alloc, World.size_setCell, List.set_cons_zero, List.set_cons_succ] at H)
                  refine (node_levels (HLS.out.ext0 H.ext) rfl).mono ?_
                  rintro e w_ ⟨rfl, hx⟩
                  replace H := H.call hx
                  clear hx
                  cases hq : ls.any fun x => !lvRight 9 x
                  · have HQ := Lib.hid hq
                    clear hq
                    go_wp2_with fail
                    go_ret
                    exact ⟨by rw [HR.out, HB.out, HQ.out]; rfl, H.ext⟩
                  · have HQ := Lib.hid hq
                    clear hq
                    go_wp2_with fail
                    go_ret
                    exact ⟨by rw [HR.out, HB.out, HQ.out]; rfl, H.ext⟩
                · have f5 : most < ls.length := by omega
                  have HB : Hid (tailQ m a ls nk q0 q1 q2 K most = false) := by unfold Hid tailQ; simp [e5]
                  conv => arg 2; whnf
                  have hr_ := H.rules; simp only [Rules, and_true] at hr_; have hd_ := H.dif; simp only [Dif, Neq, and_true] at hd_; obtain ⟨ho_, hz_⟩ := H.old0
                  go_wp2_with fail
                  (try clear hr_ hd_ ho_ hz_)
                  go_ret
                  exact ⟨by rw [HR.out, HB.out]; rfl, H.ext⟩
              · have f6 : ((ls.length : Int) != q2) = true := by simpa using e6
                have HB : Hid (tailQ m a ls nk q0 q1 q2 K most = false) := by unfold Hid tailQ; simp [e4, e6]
                conv => arg 2; whnf
                have hr_ := H.rules; simp only [Rules, and_true] at hr_; have hd_ := H.dif; simp only [Dif, Neq, and_true] at hd_; obtain ⟨ho_, hz_⟩ := H.old0
                go_wp2_with fail
                (try clear hr_ hd_ ho_ hz_)
                go_ret
                exact ⟨by rw [HR.out, HB.out]; rfl, H.ext⟩
  · have f1 : ((nk : Int) != K) = true := by simpa using e1
    have HB : Hid (tailQ m a ls nk q0 q1 q2 K most = false) := by unfold Hid tailQ; simp [e1]
    conv => arg 2; whnf
    have hr_ := H.rules; simp only [Rules, and_true] at hr_; have hd_ := H.dif; simp only [Dif, Neq, and_true] at hd_; obtain ⟨ho_, hz_⟩ := H.old0
    go_wp2_with fail
    (try clear hr_ hd_ ho_ hz_)
    go_ret
    exact ⟨by rw [HR.out, HB.out]; rfl, H.ext⟩
end Go.Proofs.YtmedomglemllnaaGreatDoor
