/- SourceGrows: its guards. No statement of the seat is proved here. -/
import Derived.Test.YtgbokmphbimihaaDoorGrows2
namespace Go.Proofs.YtgbokmphbimihaaDoor
set_option linter.unusedSimpArgs false
set_option linter.unusedVariables false
open Go.RowKit

/-- A region's operations. -/
def opsL (n : Nat) : Code → List Oper
  | .seq (.region id ops d) b => if id = n then ops.toList else opsL n b
  | .seq (.seq (.region id ops d) y) b => if id = n then ops.toList else opsL n b
  | .seq _ b => opsL n b
  | _ => []
set_option maxRecDepth 100000 in
set_option maxHeartbeats 16000000 in
theorem growsR {w W : World} {S S1 S2 S3 : Nat → Prop} {ds es : List Dc} {t a : Tm} {n sc sf more : Int} {A Ae A1 K1 A2 K2 : Option Addr} {c ce d1 k1 d2 k2 : Nat} {l : List Ch} {q : Bool} {Q : Exit → Act → World → Prop} {x5 x6 x8 x9 x10 x11 x12 x15 x16 x17 x18 x19 x20 x21 x22 x23 x24 x25 x26 x27 x28 x30 x31 x32 x33 x34 x35 x36 x37 x38 x39 x40 x41 x42 x43 x44 x45 x46 x47 x48 x49 x50 x51 x52 x53 x54 x55 x56 x57 x58 x59 x60 x61 x62 x63 x64 x65 x66 x67 x68 x69 x70 x71 x72 x73 x74 x75 x76 x77 x78 x79 x80 x81 x82 x83 x84 x85 x86 x87 x88 x89 x90 x91 x92 x93 x94 x95 x96 x97 x98 x99 x100 x101 x102 x103 x104 x105 x106 x107 x108 x109 x110 x111 x112 x113 x114 x115 x116 x117 x118 x119 x120 x121 x122 x123 x124 x125 x126 x127 x128 x129 x130 x131 x132 x133 x134 : Value} (hT : Tab w) (h : RC w S (.l 37 16 (ds.map Dc.d)) [.slice A ds.length c]) (ht : RC w S1 t.d (tcL t A1 K1 d1 k1))
    (H : Hp no w W l) (hR_ : Rd no w W [.box (w.heap.size + 1) 26 [.int .i64 a.k, .int .i64 a.n, .int .i64 a.a, .slice A2 a.ls.length d2, .slice K2 a.ks.length k2], .box w.heap.size 26 [.int .i64 t.k, .int .i64 t.n, .int .i64 t.a, .slice A1 t.ls.length d1, .slice K1 t.ks.length k1]]) (hsub : ∀ w', Hp no w w' l → Rules w' [.box (w.heap.size + 1) 26 [.int .i64 a.k, .int .i64 a.n, .int .i64 a.a, .slice A2 a.ls.length d2, .slice K2 a.ks.length k2], .box w.heap.size 26 [.int .i64 t.k, .int .i64 t.n, .int .i64 t.a, .slice A1 t.ls.length d1, .slice K1 t.ks.length k1]])
    (hQp : ∀ c a d v w, Q (.panic c) (Act.put a d v) w → Q (.panic c) a w)
    (hQ : ∀ {y30 y31 y32 y33 y34 y35 y36 y37 y38 y39 y40 y41 y42 y43 y44 y45 y46 y47 y48 y49 y50 y51 y52 y53 y54 y55 y56 y57 y58 y59 y60 y61 : Value} (b : Bool) (W' : World), Hp no w W' l → (b = false → 0 ≤ sc ∧ sc ≤ 100 ∧ n ≤ 1000 ∧ sf ≤ 1000 ∧ 0 ≤ more ∧ more ≤ 100 ∧ srcQ ds n sc sf t = true) → Q .normal { tmps := #[.slice A ds.length c, .slice Ae es.length ce, .int .i64 n, .int .i64 sc, .int .i64 sf, x5, x6, .int .i64 more, x8, x9, x10, x11, x12, .pointer (some ⟨w.heap.size, 0, none⟩), .pointer (some ⟨w.heap.size + 1, 0, none⟩), x15, x16, x17, x18, x19, x20, x21, x22, x23, x24, x25, x26, x27, x28, .bool q, y30, y31, y32, y33, y34, y35, y36, y37, y38, y39, y40, y41, y42, y43, y44, y45, y46, y47, y48, y49, y50, y51, y52, y53, y54, y55, y56, y57, y58, y59, y60, y61, .bool b, x63, x64, x65, x66, x67, x68, x69, x70, x71, x72, x73, x74, x75, x76, x77, x78, x79, x80, x81, x82, x83, x84, x85, x86, x87, x88, x89, x90, x91, x92, x93, x94, x95, x96, x97, x98, x99, x100, x101, x102, x103, x104, x105, x106, x107, x108, x109, x110, x111, x112, x113, x114, x115, x116, x117, x118, x119, x120, x121, x122, x123, x124, x125, x126, x127, x128, x129, x130, x131, x132, x133, x134], defers := [] } W') :
    wpL Tryd.prog .any (opsL 3 (Tryd.f5.body.getD .skip)).toArray Q (fun w' => Rd no w w' [.box (w.heap.size + 1) 26 [.int .i64 a.k, .int .i64 a.n, .int .i64 a.a, .slice A2 a.ls.length d2, .slice K2 a.ks.length k2], .box w.heap.size 26 [.int .i64 t.k, .int .i64 t.n, .int .i64 t.a, .slice A1 t.ls.length d1, .slice K1 t.ks.length k1]]) [] 33 #[true, true, true, true, true, true, true, true, true, false, false, false, false, false, false, false, false, false, false, false, false, false, false, false, false, false, false, false, false, false, false, false, false, false, false, false, false, false, false, false, false, false] { tmps := #[.slice A ds.length c, .slice Ae es.length ce, .int .i64 n, .int .i64 sc, .int .i64 sf, x5, x6, .int .i64 more, x8, x9, x10, x11, x12, .pointer (some ⟨w.heap.size, 0, none⟩), .pointer (some ⟨w.heap.size + 1, 0, none⟩), x15, x16, x17, x18, x19, x20, x21, x22, x23, x24, x25, x26, x27, x28, .bool q, x30, x31, x32, x33, x34, x35, x36, x37, x38, x39, x40, x41, x42, x43, x44, x45, x46, x47, x48, x49, x50, x51, x52, x53, x54, x55, x56, x57, x58, x59, x60, x61, x62, x63, x64, x65, x66, x67, x68, x69, x70, x71, x72, x73, x74, x75, x76, x77, x78, x79, x80, x81, x82, x83, x84, x85, x86, x87, x88, x89, x90, x91, x92, x93, x94, x95, x96, x97, x98, x99, x100, x101, x102, x103, x104, x105, x106, x107, x108, x109, x110, x111, x112, x113, x114, x115, x116, x117, x118, x119, x120, x121, x122, x123, x124, x125, x126, x127, x128, x129, x130, x131, x132, x133, x134], defers := [] } W := by
  have HT := Lib.hid hT
  have HH := Lib.hid h
  have HTM := Lib.hid ht
  clear hT h ht
  conv => arg 3; arg 1; whnf
  cases q
  · skip
    by_cases e0 : sc < 0
    · refine wpL_reads (is := [(9, ?v1_0), (10, ?v1_1), (11, ?v1_2), (12, ?v1_3), (13, ?v1_4), (14, ?v1_5), (15, ?v1_6), (16, ?v1_7), (17, ?v1_8), (18, ?v1_9), (19, ?v1_10), (20, ?v1_11), (21, ?v1_12), (22, ?v1_13), (23, ?v1_14), (24, ?v1_15), (25, ?v1_16), (26, ?v1_17), (27, ?v1_18), (28, ?v1_19), (29, ?v1_20), (30, ?v1_21), (31, ?v1_22), (32, ?v1_23), (33, ?v1_24), (34, ?v1_25), (35, ?v1_26), (36, ?v1_27), (37, ?v1_28), (38, ?v1_29), (39, ?v1_30), (40, ?v1_31), (41, ?v1_32)]) (by kernel_rfl) (Nat.le_of_ble_eq_true rfl) hQp (by kernel_rfl) hR_ (fun w_ hw_ => ?h1_) ?_
      case h1_ =>
        have ho_ := hw_.old0.1; have hz_ := hw_.old0.2; have hr_ := hw_.rules; clear hw_; simp only [Rules, and_true] at hr_; go_split_ands
        (repeat (first | with_reducible exact RdOps.nil | (refine RdOps.run rfl (by rfl) ?_ ?_; (focus (first | (go_simp; done) | (go_simp; with_reducible rfl))); simp only [List.getElem_toArray, List.getElem_cons_zero, List.getElem_cons_succ, Act.put, List.setIfInBounds_toArray, List.set_cons_zero, List.set_cons_succ]) | (refine RdOps.skip rfl (by rfl) ?_ ?_; (focus (with_reducible rfl)); simp only [List.getElem_toArray, List.getElem_cons_zero, List.getElem_cons_succ, Act.put, List.setIfInBounds_toArray, List.set_cons_zero, List.set_cons_succ])))
      simp only [rdMark, rdAct, List.map_cons, List.map_nil, List.length_cons, List.length_nil, Nat.reduceAdd, Nat.reduceSub, Nat.zero_add, List.getElem?_toArray, List.getElem?_cons_zero, List.getElem?_cons_succ, Option.bind_some, Act.put, List.setIfInBounds_toArray, List.set_cons_zero, List.set_cons_succ]
      exact wpL_done (by kernel_rfl) (hQ true _ H (fun h => by cases h)) _
    · skip
      by_cases e1 : 100 < sc
      · refine wpL_reads (is := [(9, ?v2_0), (10, ?v2_1), (11, ?v2_2), (12, ?v2_3), (13, ?v2_4), (14, ?v2_5), (15, ?v2_6), (16, ?v2_7), (17, ?v2_8), (18, ?v2_9), (19, ?v2_10), (20, ?v2_11), (21, ?v2_12), (22, ?v2_13), (23, ?v2_14), (24, ?v2_15), (25, ?v2_16), (26, ?v2_17), (27, ?v2_18), (28, ?v2_19), (29, ?v2_20), (30, ?v2_21), (31, ?v2_22), (32, ?v2_23), (33, ?v2_24), (34, ?v2_25), (35, ?v2_26), (36, ?v2_27), (37, ?v2_28), (38, ?v2_29), (39, ?v2_30), (40, ?v2_31), (41, ?v2_32)]) (by kernel_rfl) (Nat.le_of_ble_eq_true rfl) hQp (by kernel_rfl) hR_ (fun w_ hw_ => ?h2_) ?_
        case h2_ =>
          have ho_ := hw_.old0.1; have hz_ := hw_.old0.2; have hr_ := hw_.rules; clear hw_; simp only [Rules, and_true] at hr_; go_split_ands
          (repeat (first | with_reducible exact RdOps.nil | (refine RdOps.run rfl (by rfl) ?_ ?_; (focus (first | (go_simp; done) | (go_simp; with_reducible rfl))); simp only [List.getElem_toArray, List.getElem_cons_zero, List.getElem_cons_succ, Act.put, List.setIfInBounds_toArray, List.set_cons_zero, List.set_cons_succ]) | (refine RdOps.skip rfl (by rfl) ?_ ?_; (focus (with_reducible rfl)); simp only [List.getElem_toArray, List.getElem_cons_zero, List.getElem_cons_succ, Act.put, List.setIfInBounds_toArray, List.set_cons_zero, List.set_cons_succ])))
        simp only [rdMark, rdAct, List.map_cons, List.map_nil, List.length_cons, List.length_nil, Nat.reduceAdd, Nat.reduceSub, Nat.zero_add, List.getElem?_toArray, List.getElem?_cons_zero, List.getElem?_cons_succ, Option.bind_some, Act.put, List.setIfInBounds_toArray, List.set_cons_zero, List.set_cons_succ]
        exact wpL_done (by kernel_rfl) (hQ true _ H (fun h => by cases h)) _
      · skip
        by_cases e2 : 1000 < n
        · refine wpL_reads (is := [(9, ?v3_0), (10, ?v3_1), (11, ?v3_2), (12, ?v3_3), (13, ?v3_4), (14, ?v3_5), (15, ?v3_6), (16, ?v3_7), (17, ?v3_8), (18, ?v3_9), (19, ?v3_10), (20, ?v3_11), (21, ?v3_12), (22, ?v3_13), (23, ?v3_14), (24, ?v3_15), (25, ?v3_16), (26, ?v3_17), (27, ?v3_18), (28, ?v3_19), (29, ?v3_20), (30, ?v3_21), (31, ?v3_22), (32, ?v3_23), (33, ?v3_24), (34, ?v3_25), (35, ?v3_26), (36, ?v3_27), (37, ?v3_28), (38, ?v3_29), (39, ?v3_30), (40, ?v3_31), (41, ?v3_32)]) (by kernel_rfl) (Nat.le_of_ble_eq_true rfl) hQp (by kernel_rfl) hR_ (fun w_ hw_ => ?h3_) ?_
          case h3_ =>
            have ho_ := hw_.old0.1; have hz_ := hw_.old0.2; have hr_ := hw_.rules; clear hw_; simp only [Rules, and_true] at hr_; go_split_ands
            (repeat (first | with_reducible exact RdOps.nil | (refine RdOps.run rfl (by rfl) ?_ ?_; (focus (first | (go_simp; done) | (go_simp; with_reducible rfl))); simp only [List.getElem_toArray, List.getElem_cons_zero, List.getElem_cons_succ, Act.put, List.setIfInBounds_toArray, List.set_cons_zero, List.set_cons_succ]) | (refine RdOps.skip rfl (by rfl) ?_ ?_; (focus (with_reducible rfl)); simp only [List.getElem_toArray, List.getElem_cons_zero, List.getElem_cons_succ, Act.put, List.setIfInBounds_toArray, List.set_cons_zero, List.set_cons_succ])))
          simp only [rdMark, rdAct, List.map_cons, List.map_nil, List.length_cons, List.length_nil, Nat.reduceAdd, Nat.reduceSub, Nat.zero_add, List.getElem?_toArray, List.getElem?_cons_zero, List.getElem?_cons_succ, Option.bind_some, Act.put, List.setIfInBounds_toArray, List.set_cons_zero, List.set_cons_succ]
          exact wpL_done (by kernel_rfl) (hQ true _ H (fun h => by cases h)) _
        · skip
          by_cases e3 : 1000 < sf
          · refine wpL_reads (is := [(9, ?v4_0), (10, ?v4_1), (11, ?v4_2), (12, ?v4_3), (13, ?v4_4), (14, ?v4_5), (15, ?v4_6), (16, ?v4_7), (17, ?v4_8), (18, ?v4_9), (19, ?v4_10), (20, ?v4_11), (21, ?v4_12), (22, ?v4_13), (23, ?v4_14), (24, ?v4_15), (25, ?v4_16), (26, ?v4_17), (27, ?v4_18), (28, ?v4_19), (29, ?v4_20), (30, ?v4_21), (31, ?v4_22), (32, ?v4_23), (33, ?v4_24), (34, ?v4_25), (35, ?v4_26), (36, ?v4_27), (37, ?v4_28), (38, ?v4_29), (39, ?v4_30), (40, ?v4_31), (41, ?v4_32)]) (by kernel_rfl) (Nat.le_of_ble_eq_true rfl) hQp (by kernel_rfl) hR_ (fun w_ hw_ => ?h4_) ?_
            case h4_ =>
              have ho_ := hw_.old0.1; have hz_ := hw_.old0.2; have hr_ := hw_.rules; clear hw_; simp only [Rules, and_true] at hr_; go_split_ands
              (repeat (first | with_reducible exact RdOps.nil | (refine RdOps.run rfl (by rfl) ?_ ?_; (focus (first | (go_simp; done) | (go_simp; with_reducible rfl))); simp only [List.getElem_toArray, List.getElem_cons_zero, List.getElem_cons_succ, Act.put, List.setIfInBounds_toArray, List.set_cons_zero, List.set_cons_succ]) | (refine RdOps.skip rfl (by rfl) ?_ ?_; (focus (with_reducible rfl)); simp only [List.getElem_toArray, List.getElem_cons_zero, List.getElem_cons_succ, Act.put, List.setIfInBounds_toArray, List.set_cons_zero, List.set_cons_succ])))
            simp only [rdMark, rdAct, List.map_cons, List.map_nil, List.length_cons, List.length_nil, Nat.reduceAdd, Nat.reduceSub, Nat.zero_add, List.getElem?_toArray, List.getElem?_cons_zero, List.getElem?_cons_succ, Option.bind_some, Act.put, List.setIfInBounds_toArray, List.set_cons_zero, List.set_cons_succ]
            exact wpL_done (by kernel_rfl) (hQ true _ H (fun h => by cases h)) _
          · skip
            by_cases e4 : more < 0
            · refine wpL_reads (is := [(9, ?v5_0), (10, ?v5_1), (11, ?v5_2), (12, ?v5_3), (13, ?v5_4), (14, ?v5_5), (15, ?v5_6), (16, ?v5_7), (17, ?v5_8), (18, ?v5_9), (19, ?v5_10), (20, ?v5_11), (21, ?v5_12), (22, ?v5_13), (23, ?v5_14), (24, ?v5_15), (25, ?v5_16), (26, ?v5_17), (27, ?v5_18), (28, ?v5_19), (29, ?v5_20), (30, ?v5_21), (31, ?v5_22), (32, ?v5_23), (33, ?v5_24), (34, ?v5_25), (35, ?v5_26), (36, ?v5_27), (37, ?v5_28), (38, ?v5_29), (39, ?v5_30), (40, ?v5_31), (41, ?v5_32)]) (by kernel_rfl) (Nat.le_of_ble_eq_true rfl) hQp (by kernel_rfl) hR_ (fun w_ hw_ => ?h5_) ?_
              case h5_ =>
                have ho_ := hw_.old0.1; have hz_ := hw_.old0.2; have hr_ := hw_.rules; clear hw_; simp only [Rules, and_true] at hr_; go_split_ands
                (repeat (first | with_reducible exact RdOps.nil | (refine RdOps.run rfl (by rfl) ?_ ?_; (focus (first | (go_simp; done) | (go_simp; with_reducible rfl))); simp only [List.getElem_toArray, List.getElem_cons_zero, List.getElem_cons_succ, Act.put, List.setIfInBounds_toArray, List.set_cons_zero, List.set_cons_succ]) | (refine RdOps.skip rfl (by rfl) ?_ ?_; (focus (with_reducible rfl)); simp only [List.getElem_toArray, List.getElem_cons_zero, List.getElem_cons_succ, Act.put, List.setIfInBounds_toArray, List.set_cons_zero, List.set_cons_succ])))
              simp only [rdMark, rdAct, List.map_cons, List.map_nil, List.length_cons, List.length_nil, Nat.reduceAdd, Nat.reduceSub, Nat.zero_add, List.getElem?_toArray, List.getElem?_cons_zero, List.getElem?_cons_succ, Option.bind_some, Act.put, List.setIfInBounds_toArray, List.set_cons_zero, List.set_cons_succ]
              exact wpL_done (by kernel_rfl) (hQ true _ H (fun h => by cases h)) _
            · skip
              by_cases e5 : 100 < more
              · refine wpL_reads (is := [(9, ?v6_0), (10, ?v6_1), (11, ?v6_2), (12, ?v6_3), (13, ?v6_4), (14, ?v6_5), (15, ?v6_6), (16, ?v6_7), (17, ?v6_8), (18, ?v6_9), (19, ?v6_10), (20, ?v6_11), (21, ?v6_12), (22, ?v6_13), (23, ?v6_14), (24, ?v6_15), (25, ?v6_16), (26, ?v6_17), (27, ?v6_18), (28, ?v6_19), (29, ?v6_20), (30, ?v6_21), (31, ?v6_22), (32, ?v6_23), (33, ?v6_24), (34, ?v6_25), (35, ?v6_26), (36, ?v6_27), (37, ?v6_28), (38, ?v6_29), (39, ?v6_30), (40, ?v6_31), (41, ?v6_32)]) (by kernel_rfl) (Nat.le_of_ble_eq_true rfl) hQp (by kernel_rfl) hR_ (fun w_ hw_ => ?h6_) ?_
                case h6_ =>
                  have ho_ := hw_.old0.1; have hz_ := hw_.old0.2; have hr_ := hw_.rules; clear hw_; simp only [Rules, and_true] at hr_; go_split_ands
                  (repeat (first | with_reducible exact RdOps.nil | (refine RdOps.run rfl (by rfl) ?_ ?_; (focus (first | (go_simp; done) | (go_simp; with_reducible rfl))); simp only [List.getElem_toArray, List.getElem_cons_zero, List.getElem_cons_succ, Act.put, List.setIfInBounds_toArray, List.set_cons_zero, List.set_cons_succ]) | (refine RdOps.skip rfl (by rfl) ?_ ?_; (focus (with_reducible rfl)); simp only [List.getElem_toArray, List.getElem_cons_zero, List.getElem_cons_succ, Act.put, List.setIfInBounds_toArray, List.set_cons_zero, List.set_cons_succ])))
                simp only [rdMark, rdAct, List.map_cons, List.map_nil, List.length_cons, List.length_nil, Nat.reduceAdd, Nat.reduceSub, Nat.zero_add, List.getElem?_toArray, List.getElem?_cons_zero, List.getElem?_cons_succ, Option.bind_some, Act.put, List.setIfInBounds_toArray, List.set_cons_zero, List.set_cons_succ]
                exact wpL_done (by kernel_rfl) (hQ true _ H (fun h => by cases h)) _
              · skip
                refine wpL_reads (is := [(9, ?v7_0), (10, ?v7_1), (11, ?v7_2), (12, ?v7_3), (13, ?v7_4), (14, ?v7_5), (15, ?v7_6), (16, ?v7_7), (17, ?v7_8), (18, ?v7_9), (19, ?v7_10), (20, ?v7_11), (21, ?v7_12), (22, ?v7_13), (23, ?v7_14), (24, ?v7_15), (25, ?v7_16), (26, ?v7_17), (27, ?v7_18), (28, ?v7_19), (29, ?v7_20), (30, ?v7_21), (31, ?v7_22), (32, ?v7_23), (33, ?v7_24), (34, ?v7_25), (35, ?v7_26), (36, ?v7_27), (37, ?v7_28), (38, ?v7_29)]) (by kernel_rfl) (Nat.le_of_ble_eq_true rfl) hQp (by kernel_rfl) hR_ (fun w_ hw_ => ?h7_) ?_
                case h7_ =>
                  have ho_ := hw_.old0.1; have hz_ := hw_.old0.2; have hr_ := hw_.rules; clear hw_; simp only [Rules, and_true] at hr_; go_split_ands
                  (repeat (first | with_reducible exact RdOps.nil | (refine RdOps.run rfl (by rfl) ?_ ?_; (focus (first | (go_simp; done) | (go_simp; with_reducible rfl))); simp only [List.getElem_toArray, List.getElem_cons_zero, List.getElem_cons_succ, Act.put, List.setIfInBounds_toArray, List.set_cons_zero, List.set_cons_succ]) | (refine RdOps.skip rfl (by rfl) ?_ ?_; (focus (with_reducible rfl)); simp only [List.getElem_toArray, List.getElem_cons_zero, List.getElem_cons_succ, Act.put, List.setIfInBounds_toArray, List.set_cons_zero, List.set_cons_succ])))
                simp only [rdMark, rdAct, List.map_cons, List.map_nil, List.length_cons, List.length_nil, Nat.reduceAdd, Nat.reduceSub, Nat.zero_add, List.getElem?_toArray, List.getElem?_cons_zero, List.getElem?_cons_succ, Option.bind_some, Act.put, List.setIfInBounds_toArray, List.set_cons_zero, List.set_cons_succ]
                refine wpL_do (i := 39) rfl (by kernel_rfl) (by rfl) (fun K_ hK_ => ?_)
                go_simp
                obtain ⟨z, hz⟩ : ∃ z, z = srcQ ds n sc sf t := ⟨_, rfl⟩
                have hcall := srcRight_calls (n := n) (sc := sc) (sf := sf) (t := t) (HT.out.ext H.ext) (HH.out.ext0 H.ext) rfl ⟨_, _, _, _, rfl, HTM.out.ext0 H.ext⟩
                rw [← hz] at hcall
                have HZ := Lib.hid hz
                clear hz
                refine (hcall).mono ?_
                rintro e w_ ⟨rfl, hx⟩
                replace H := H.call hx
                clear hx
                clear hcall
                cases z
                · refine hK_ _ _ (fun _ => ⟨H.ext, (hsub _ H)⟩) (fun hR_ => ?_)
                  replace hR_ := hR_ (by decide)
                  refine wpL_reads (is := [(40, ?v8_0), (41, ?v8_1)]) (by kernel_rfl) (Nat.le_of_ble_eq_true rfl) hQp (by kernel_rfl) hR_ (fun w_ hw_ => ?h8_) ?_
                  case h8_ =>
                    have ho_ := hw_.old0.1; have hz_ := hw_.old0.2; have hr_ := hw_.rules; clear hw_; simp only [Rules, and_true] at hr_; go_split_ands
                    (repeat (first | with_reducible exact RdOps.nil | (refine RdOps.run rfl (by rfl) ?_ ?_; (focus (first | (go_simp; done) | (go_simp; with_reducible rfl))); simp only [List.getElem_toArray, List.getElem_cons_zero, List.getElem_cons_succ, Act.put, List.setIfInBounds_toArray, List.set_cons_zero, List.set_cons_succ]) | (refine RdOps.skip rfl (by rfl) ?_ ?_; (focus (with_reducible rfl)); simp only [List.getElem_toArray, List.getElem_cons_zero, List.getElem_cons_succ, Act.put, List.setIfInBounds_toArray, List.set_cons_zero, List.set_cons_succ])))
                  simp only [rdMark, rdAct, List.map_cons, List.map_nil, List.length_cons, List.length_nil, Nat.reduceAdd, Nat.reduceSub, Nat.zero_add, List.getElem?_toArray, List.getElem?_cons_zero, List.getElem?_cons_succ, Option.bind_some, Act.put, List.setIfInBounds_toArray, List.set_cons_zero, List.set_cons_succ]
                  exact wpL_done (by kernel_rfl) (hQ true _ H (fun h => by cases h)) _
                · refine hK_ _ _ (fun _ => ⟨H.ext, (hsub _ H)⟩) (fun hR_ => ?_)
                  replace hR_ := hR_ (by decide)
                  refine wpL_reads (is := [(40, ?v9_0), (41, ?v9_1)]) (by kernel_rfl) (Nat.le_of_ble_eq_true rfl) hQp (by kernel_rfl) hR_ (fun w_ hw_ => ?h9_) ?_
                  case h9_ =>
                    have ho_ := hw_.old0.1; have hz_ := hw_.old0.2; have hr_ := hw_.rules; clear hw_; simp only [Rules, and_true] at hr_; go_split_ands
                    (repeat (first | with_reducible exact RdOps.nil | (refine RdOps.run rfl (by rfl) ?_ ?_; (focus (first | (go_simp; done) | (go_simp; with_reducible rfl))); simp only [List.getElem_toArray, List.getElem_cons_zero, List.getElem_cons_succ, Act.put, List.setIfInBounds_toArray, List.set_cons_zero, List.set_cons_succ]) | (refine RdOps.skip rfl (by rfl) ?_ ?_; (focus (with_reducible rfl)); simp only [List.getElem_toArray, List.getElem_cons_zero, List.getElem_cons_succ, Act.put, List.setIfInBounds_toArray, List.set_cons_zero, List.set_cons_succ])))
                  simp only [rdMark, rdAct, List.map_cons, List.map_nil, List.length_cons, List.length_nil, Nat.reduceAdd, Nat.reduceSub, Nat.zero_add, List.getElem?_toArray, List.getElem?_cons_zero, List.getElem?_cons_succ, Option.bind_some, Act.put, List.setIfInBounds_toArray, List.set_cons_zero, List.set_cons_succ]
                  exact wpL_done (by kernel_rfl) (hQ false _ H (fun _ => ⟨by omega, by omega, by omega, by omega, by omega, by omega, HZ.out.symm⟩)) _
  · refine wpL_reads (is := [(9, ?v10_0), (10, ?v10_1), (11, ?v10_2), (12, ?v10_3), (13, ?v10_4), (14, ?v10_5), (15, ?v10_6), (16, ?v10_7), (17, ?v10_8), (18, ?v10_9), (19, ?v10_10), (20, ?v10_11), (21, ?v10_12), (22, ?v10_13), (23, ?v10_14), (24, ?v10_15), (25, ?v10_16), (26, ?v10_17), (27, ?v10_18), (28, ?v10_19), (29, ?v10_20), (30, ?v10_21), (31, ?v10_22), (32, ?v10_23), (33, ?v10_24), (34, ?v10_25), (35, ?v10_26), (36, ?v10_27), (37, ?v10_28), (38, ?v10_29), (39, ?v10_30), (40, ?v10_31), (41, ?v10_32)]) (by kernel_rfl) (Nat.le_of_ble_eq_true rfl) hQp (by kernel_rfl) hR_ (fun w_ hw_ => ?h10_) ?_
    case h10_ =>
      have ho_ := hw_.old0.1; have hz_ := hw_.old0.2; have hr_ := hw_.rules; clear hw_; simp only [Rules, and_true] at hr_; go_split_ands
      (repeat (first | with_reducible exact RdOps.nil | (refine RdOps.run rfl (by rfl) ?_ ?_; (focus (first | (go_simp; done) | (go_simp; with_reducible rfl))); simp only [List.getElem_toArray, List.getElem_cons_zero, List.getElem_cons_succ, Act.put, List.setIfInBounds_toArray, List.set_cons_zero, List.set_cons_succ]) | (refine RdOps.skip rfl (by rfl) ?_ ?_; (focus (with_reducible rfl)); simp only [List.getElem_toArray, List.getElem_cons_zero, List.getElem_cons_succ, Act.put, List.setIfInBounds_toArray, List.set_cons_zero, List.set_cons_succ])))
    simp only [rdMark, rdAct, List.map_cons, List.map_nil, List.length_cons, List.length_nil, Nat.reduceAdd, Nat.reduceSub, Nat.zero_add, List.getElem?_toArray, List.getElem?_cons_zero, List.getElem?_cons_succ, Option.bind_some, Act.put, List.setIfInBounds_toArray, List.set_cons_zero, List.set_cons_succ]
    exact wpL_done (by kernel_rfl) (hQ true _ H (fun h => by cases h)) _
end Go.Proofs.YtgbokmphbimihaaDoor
