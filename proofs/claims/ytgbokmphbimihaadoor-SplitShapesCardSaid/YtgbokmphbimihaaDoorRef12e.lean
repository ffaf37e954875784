/- Reference 12: one, from the end of the arguments on. No statement of the seat is proved here. -/
import Derived.Test.YtgbokmphbimihaaDoorRef12c
namespace Go.Proofs.YtgbokmphbimihaaDoor
set_option linter.unusedSimpArgs false
set_option linter.unusedVariables false
open Go.RowKit

set_option maxRecDepth 100000 in
set_option maxHeartbeats 8000000 in
theorem oneM {S : Nat → Prop} {d : Dc} {c : Ct} {r hd : Tm} {ix : List Tm} {as_ : List Ar} {w W : World} {A A0 K0 B1 K1 : Option Addr} {cA ca ck cb1 kb1 gr g8 g4 gc gd : Nat} {Aty Kty Abody Kbody Aparams Asort Amembers Actors : Option Addr} {cty kty cbody kbody cparams csort cmembers cctors : Nat} {x0 x1 x5 x7 x9 x11 x12 x13 x14 x15 x16 x17 x18 x19 x20 x21 x22 x23 x24 x25 x26 x27 x28 x29 x30 x31 x32 x33 x34 x35 x36 x37 x38 x39 x40 x41 x42 x43 x44 x45 x46 x47 x48 x49 x50 x51 x52 x53 x54 x55 x56 x57 x58 x59 x60 x61 x62 x63 x64 x65 x66 x67 x68 x69 x70 x71 x72 x73 x74 x75 x76 x77 x78 x79 x80 x81 x82 x83 x84 x85 x86 x87 x88 x89 x90 x91 x92 x93 x94 x95 x96 x97 x98 x99 x100 x101 x102 x103 x104 x105 x106 x107 x108 x109 x110 x111 x112 x113 x114 x115 x116 x117 x118 x119 x120 x121 x122 x123 x124 x125 x126 x127 x128 x129 x130 x131 x132 x133 x134 x135 x136 x137 x138 x139 x140 x141 x142 x143 x144 x145 x146 x147 x148 x149 x150 x151 x152 x153 x154 x155 x156 x157 : Value}
    (hms : RC w S (.l 42 1 (d.members.map Mb.d)) [.slice Amembers d.members.length cmembers])
    (hn : as_.length ≤ 10) (hl : ∀ a ∈ as_, a.tele.length ≤ 6) (hok : ∀ a ∈ as_, ArOK a) (hsp : spineT r = (hd, ix)) (hll : ix.length ≤ 1000000000) (im : inI c.member)
    (H : Hp no w W [.box gr 68 [.int .i64 c.member, .slice A as_.length cA, .slice none 0 0], .dat (.l 80 9 (as_.map Ar.d)) [.slice A as_.length cA], .box g8 26 [.int .i64 r.k, .int .i64 r.n, .int .i64 r.a, .slice B1 r.ls.length cb1, .slice K1 r.ks.length kb1], .dat r.d [.int .i64 r.k, .int .i64 r.n, .int .i64 r.a, .slice B1 r.ls.length cb1, .slice K1 r.ks.length kb1], .box g4 68 [.int .i64 0, .slice none 0 0, .slice none 0 0], .box gc 40 [.int .i64 c.member, .int .i64 c.ty.k, .int .i64 c.ty.n, .int .i64 c.ty.a, .slice A0 c.ty.ls.length ca, .slice K0 c.ty.ks.length ck], .box gd 37 [.int .i64 d.kind, .int .i64 d.levels, .int .i64 d.ty.k, .int .i64 d.ty.n, .int .i64 d.ty.a, .slice Aty d.ty.ls.length cty, .slice Kty d.ty.ks.length kty, .int .i64 d.body.k, .int .i64 d.body.n, .int .i64 d.body.a, .slice Abody d.body.ls.length cbody, .slice Kbody d.body.ks.length kbody, .slice Aparams d.params.length cparams, .slice Asort d.sort.length csort, .slice Amembers d.members.length cmembers, .slice Actors d.ctors.length cctors]])
    {R : Except Int Ru} (hR : R = if endQ d.members c.member (hd, ix) = true then (if decide (ix.length = ((d.members.getD hd.a.toNat ⟨[]⟩).index).length) = true then (if linQ ⟨true, zT, [], 0, ix⟩ as_ = true then .ok ⟨c.member, as_, ix⟩ else .error 16) else .error 17) else .error 17) :
    (fromF 13 (Tryd.f112.body.getD .skip)).wp Tryd.prog (bodyPost Tryd.prog Tryd.f112 (PRuR w R)) { tmps := #[x0, x1, .pointer (some ⟨gd, 0, none⟩), .pointer (some ⟨gc, 0, none⟩), .pointer (some ⟨g4, 0, none⟩), x5, .int .i64 (as_.length : Int), x7, .pointer (some ⟨g8, 0, none⟩), x9, .pointer (some ⟨gr, 0, none⟩), x11, x12, x13, x14, x15, x16, x17, x18, x19, x20, x21, x22, x23, x24, x25, x26, x27, x28, x29, x30, x31, x32, x33, x34, x35, x36, x37, x38, x39, x40, x41, x42, x43, x44, x45, x46, x47, x48, x49, x50, x51, x52, x53, x54, x55, x56, x57, x58, x59, x60, x61, x62, x63, x64, x65, x66, x67, x68, x69, x70, x71, x72, x73, x74, x75, x76, x77, x78, x79, x80, x81, x82, x83, x84, x85, x86, x87, x88, x89, x90, x91, x92, x93, x94, x95, x96, x97, x98, x99, x100, x101, x102, x103, x104, x105, x106, x107, x108, x109, x110, x111, x112, x113, x114, x115, x116, x117, x118, x119, x120, x121, x122, x123, x124, x125, x126, x127, x128, x129, x130, x131, x132, x133, x134, x135, x136, x137, x138, x139, x140, x141, x142, x143, x144, x145, x146, x147, x148, x149, x150, x151, x152, x153, x154, x155, x156, x157], defers := [] } W := by
  have HMS := Lib.hid hms
  have HL := Lib.hid hl
  have HOK := Lib.hid hok
  have HR := Lib.hid hR
  have HSP := Lib.hid hsp
  have HLL := Lib.hid hll
  have HIM := Lib.hid im
  have HN := Lib.hid hn
  have hM2 := hms.lenM
  have HM2 := Lib.hid hM2
  clear hl hok hR hsp hll im hms hn hM2
  conv => arg 2; whnf
  have hr_ := H.rules; simp only [Rules, and_true] at hr_; have hd_ := H.dif; simp only [Dif, Neq, and_true] at hd_; obtain ⟨ho_, hz_⟩ := H.old0
  go_wp2_with fail
  (try clear hr_ hd_ ho_ hz_)
  refine callsH (by (repeat (first | with_reducible exact H | with_reducible exact H0_ | with_reducible apply Hp.alloc | with_reducible apply Hp.allocMap | with_reducible apply Hp.drew | with_reducible apply Hp.drewN | with_reducible apply Hp.set)); (try any_goals (repeat (first | with_reducible exact Upd.head | with_reducible apply Upd.tail)))) ?_
  clear H; intro w1 H; (try simp only [size_drew_, size_drewN_, World.size_alloc, World.size_setCell, List.set_cons_zero, List.set_cons_succ] at H)
  refine (refSpine (t := r) ⟨_, _, _, _, rfl, H.rd (by (repeat (first | with_reducible exact Pick.head | with_reducible apply Pick.tail)))⟩ (by rw [HSP.out]; exact HLL.out)).mono ?_
  rw [HSP.out]
  rintro e w9 ⟨B2, cb2, K2, kb2, A3, c3, rfl, H2⟩
  dsimp only at H2 ⊢
  replace H := H.res2 H2
  clear H2
  have hr_ := H.rules; simp only [Rules, and_true] at hr_; have hd_ := H.dif; simp only [Dif, Neq, and_true] at hd_; obtain ⟨ho_, hz_⟩ := H.old0
  repeat ((fail_if_success (with_reducible (first | show Code.wp _ (Code.seq (Code.region 14 _ _) _) _ _ _ | show Code.wp _ (Code.seq (Code.seq (Code.region 14 _ _) _) _) _ _ _))); (first | ((with_reducible refine atStore (t := 26) ?_); go_must (refine wpList_storeH (t := 26) rfl rfl (by go_simp <;> first | rfl | exact ⟨rfl, rfl⟩) (by go_simp <;> first | rfl | exact ⟨rfl, rfl⟩) (by exact Hp.norm (by (repeat (first | with_reducible exact H | with_reducible exact H0_ | with_reducible apply Hp.alloc | with_reducible apply Hp.allocMap | with_reducible apply Hp.drew | with_reducible apply Hp.drewN | with_reducible apply Hp.set)); (try any_goals (repeat (first | with_reducible exact Upd.head | with_reducible apply Upd.tail)))) (by ((try simp only [size_drew_, size_drewN_, World.size_alloc, World.size_setCell, List.set_cons_zero, List.set_cons_succ, List.nil_append, List.cons_append]) <;> rfl))) (by (repeat (first | with_reducible exact Upd.head | with_reducible apply Upd.tail))) (by exact aggTerm) (by rfl) (by simp [Value.oneCell']) ?_; clear H; intro w10 H; (try simp only [size_drew_, size_drewN_, World.size_alloc, World.size_setCell, List.set_cons_zero, List.set_cons_succ] at H); (try clear hr_ hd_ ho_ hz_); have hr_ := H.rules; simp only [Rules, and_true] at hr_; have hd_ := H.dif; simp only [Dif, Neq, and_true] at hd_; obtain ⟨ho_, hz_⟩ := H.old0)) | go_step))
  (try clear hr_ hd_ ho_ hz_)
  by_cases hk : hd.k = 11
  · have g1 : (hd.k == 11) = true := by simpa using hk
    have g1' : (hd.k != 11) = false := by simpa using hk
    by_cases hm : hd.a = c.member
    · have g2 : (hd.a == c.member) = true := by simpa using hm
      have g2' : (hd.a != c.member) = false := by simpa using hm
      by_cases ha : 0 ≤ hd.a
      · have g3 : ¬ (hd.a < 0) := by omega
        by_cases hml : hd.a < (d.members.length : Int)
        · have gl : ¬ ((d.members.length : Int) ≤ hd.a) := by omega
          obtain ⟨m, hmi⟩ : ∃ m : Nat, hd.a = m := ⟨hd.a.toNat, by omega⟩
          have hml2 : m < d.members.length := by omega
          have hR2 := HR.out
          have he : endQ d.members c.member (hd, ix) = !(ix.any selfT) := by unfold endQ; simp [hk, hm.symm, ha, hml, ← hm]
          rw [he, hmi, Int.toNat_natCast, show d.members.getD m ⟨[]⟩ = d.members[m] by simp [List.getD, hml2]] at hR2
          have HR2 := Lib.hid hR2
          have HMI := Lib.hid hmi
          have hm4 : (m : Int) ≤ 4294967296 := by have := HM2.out; omega
          rw [hmi] at H g2 g2' g3 gl ⊢
          clear hR2 he HR hk hm ha hml hmi
          obtain ⟨b, o, A5, c5, hAm, hb, hS, hdm, p0⟩ := HMS.out.atMb hml2
          subst hAm
          obtain ⟨_, _, he, hix⟩ := RC.mb.1 hdm
          simp only [List.cons.injEq, Value.slice.injEq, and_true, true_and] at he
          obtain ⟨rfl, rfl⟩ := he
          have hM3 := hix.lenM
          clear hdm hix
          by_cases h7 : ix.length = d.members[m].index.length
          · have g7 : ((ix.length : Int) == (d.members[m].index.length : Int)) = true := by simp [h7]
            have g7' : ((ix.length : Int) != (d.members[m].index.length : Int)) = false := by simp [h7]
            have H7 := Lib.hid h7
            clear h7
            have hr_ := H.rules; simp only [Rules, and_true] at hr_; have hd_ := H.dif; simp only [Dif, Neq, and_true] at hd_; obtain ⟨ho_, hz_⟩ := H.old0
            go_wp2_with fail
            (try clear hr_ hd_ ho_ hz_)
            obtain ⟨q2, hq2⟩ : ∃ q2, q2 = ix.any selfT := ⟨_, rfl⟩
            have hcall := refSome (ts := ix) (fun t _ => refSelf_calls t) (H.rd (by (repeat (first | with_reducible exact Pick.head | with_reducible apply Pick.tail))))
            have hR3 := HR2.out
            rw [← hq2] at hcall hR3
            have HR3 := Lib.hid hR3
            clear hR3 hq2 HR2
            refine (hcall).mono ?_
            rintro e w_ ⟨rfl, hx⟩
            replace H := H.call hx
            clear hx
            clear hcall
            cases q2
            · have HR4 : Hid (R = if linQ ⟨true, zT, [], 0, ix⟩ as_ = true then .ok ⟨c.member, as_, ix⟩ else .error 16) := by
                unfold Hid
                rw [HR3.out]
                simp [H7.out]
              dsimp only
              have hr_ := H.rules; simp only [Rules, and_true] at hr_; have hd_ := H.dif; simp only [Dif, Neq, and_true] at hd_; obtain ⟨ho_, hz_⟩ := H.old0
              repeat ((fail_if_success (with_reducible (first | show Code.wp _ (Code.seq (Code.region 17 _ _) _) _ _ _ | show Code.wp _ (Code.seq (Code.seq (Code.region 17 _ _) _) _) _ _ _))); go_step)
              (try clear hr_ hd_ ho_ hz_)
              refine codeH (by (repeat (first | with_reducible exact H | with_reducible exact H0_ | with_reducible apply Hp.alloc | with_reducible apply Hp.allocMap | with_reducible apply Hp.drew | with_reducible apply Hp.drewN | with_reducible apply Hp.set)); (try any_goals (repeat (first | with_reducible exact Upd.head | with_reducible apply Upd.tail)))) ?_
              clear H; intro w13 H; (try simp only [size_drew_, size_drewN_, World.size_alloc, World.size_setCell, List.set_cons_zero, List.set_cons_succ] at H)
              refine oneB (m := c.member) (as_ := as_) (l := ix) HN.out HL.out HOK.out HLL.out HIM.out (H.arr (by (repeat (first | with_reducible exact Arr.nil | refine Arr.cons (by (repeat (first | with_reducible exact Pick.head | with_reducible apply Pick.tail))) ?_)) <;> exact Arr.of_subl (by (repeat (first | with_reducible exact Subl.refl _ | with_reducible apply Subl.drop))))) HR4.out
            · have HZ : Hid (R = .error 17) := by
                unfold Hid
                rw [HR3.out]
                simp
              have hr_ := H.rules; simp only [Rules, and_true] at hr_; have hd_ := H.dif; simp only [Dif, Neq, and_true] at hd_; obtain ⟨ho_, hz_⟩ := H.old0
              go_wp2_with ((with_reducible refine atStore (t := 68) ?_); go_must (refine wpList_storeH (t := 68) rfl rfl (by go_simp <;> first | rfl | exact ⟨rfl, rfl⟩) (by go_simp <;> first | rfl | exact ⟨rfl, rfl⟩) (by exact Hp.norm (by (repeat (first | with_reducible exact H | with_reducible exact H0_ | with_reducible apply Hp.alloc | with_reducible apply Hp.allocMap | with_reducible apply Hp.drew | with_reducible apply Hp.drewN | with_reducible apply Hp.set)); (try any_goals (repeat (first | with_reducible exact Upd.head | with_reducible apply Upd.tail)))) (by ((try simp only [size_drew_, size_drewN_, World.size_alloc, World.size_setCell, List.set_cons_zero, List.set_cons_succ, List.nil_append, List.cons_append]) <;> rfl))) (by (repeat (first | with_reducible exact Upd.head | with_reducible apply Upd.tail))) (by exact aggRule) (by rfl) (by simp [Value.oneCell']) ?_; clear H; intro w14 H; (try simp only [size_drew_, size_drewN_, World.size_alloc, World.size_setCell, List.set_cons_zero, List.set_cons_succ] at H); (try clear hr_ hd_ ho_ hz_); have hr_ := H.rules; simp only [Rules, and_true] at hr_; have hd_ := H.dif; simp only [Dif, Neq, and_true] at hd_; obtain ⟨ho_, hz_⟩ := H.old0))
              (try clear hr_ hd_ ho_ hz_)
              refine bodyPost_ret (v := .tuple #[.agg #[_, _, _], .int .i64 17]) (Res.two Tryd.results112 (H.resBox (g := g4) (by (repeat (first | with_reducible exact Pick.head | with_reducible apply Pick.tail))) aggRule rfl rfl) rfl) rfl ?_
              rw [HZ.out]
              exact ⟨_, _, _, _, _, _, _, rfl, H.ext, by decide⟩
          · have g7 : ((ix.length : Int) == (d.members[m].index.length : Int)) = false := by simpa using fun e => h7 (by omega)
            have g7' : ((ix.length : Int) != (d.members[m].index.length : Int)) = true := by simpa using fun e => h7 (by omega)
            have HZ : Hid (R = .error 17) := by
              unfold Hid
              rw [HR2.out]
              simp [h7]
            clear h7
            have hr_ := H.rules; simp only [Rules, and_true] at hr_; have hd_ := H.dif; simp only [Dif, Neq, and_true] at hd_; obtain ⟨ho_, hz_⟩ := H.old0
            go_wp2_with ((with_reducible refine atStore (t := 68) ?_); go_must (refine wpList_storeH (t := 68) rfl rfl (by go_simp <;> first | rfl | exact ⟨rfl, rfl⟩) (by go_simp <;> first | rfl | exact ⟨rfl, rfl⟩) (by exact Hp.norm (by (repeat (first | with_reducible exact H | with_reducible exact H0_ | with_reducible apply Hp.alloc | with_reducible apply Hp.allocMap | with_reducible apply Hp.drew | with_reducible apply Hp.drewN | with_reducible apply Hp.set)); (try any_goals (repeat (first | with_reducible exact Upd.head | with_reducible apply Upd.tail)))) (by ((try simp only [size_drew_, size_drewN_, World.size_alloc, World.size_setCell, List.set_cons_zero, List.set_cons_succ, List.nil_append, List.cons_append]) <;> rfl))) (by (repeat (first | with_reducible exact Upd.head | with_reducible apply Upd.tail))) (by exact aggRule) (by rfl) (by simp [Value.oneCell']) ?_; clear H; intro w14 H; (try simp only [size_drew_, size_drewN_, World.size_alloc, World.size_setCell, List.set_cons_zero, List.set_cons_succ] at H); (try clear hr_ hd_ ho_ hz_); have hr_ := H.rules; simp only [Rules, and_true] at hr_; have hd_ := H.dif; simp only [Dif, Neq, and_true] at hd_; obtain ⟨ho_, hz_⟩ := H.old0))
            (try clear hr_ hd_ ho_ hz_)
            refine bodyPost_ret (v := .tuple #[.agg #[_, _, _], .int .i64 17]) (Res.two Tryd.results112 (H.resBox (g := g4) (by (repeat (first | with_reducible exact Pick.head | with_reducible apply Pick.tail))) aggRule rfl rfl) rfl) rfl ?_
            rw [HZ.out]
            exact ⟨_, _, _, _, _, _, _, rfl, H.ext, by decide⟩
        · have gl : (d.members.length : Int) ≤ hd.a := by omega
          have HZ : Hid (R = .error 17) := by
            unfold Hid
            rw [HR.out]
            simp [endQ, hml]
          clear HR
          clear hk hm ha hml
          have hr_ := H.rules; simp only [Rules, and_true] at hr_; have hd_ := H.dif; simp only [Dif, Neq, and_true] at hd_; obtain ⟨ho_, hz_⟩ := H.old0
          go_wp2_with ((with_reducible refine atStore (t := 68) ?_); go_must (refine wpList_storeH (t := 68) rfl rfl (by go_simp <;> first | rfl | exact ⟨rfl, rfl⟩) (by go_simp <;> first | rfl | exact ⟨rfl, rfl⟩) (by exact Hp.norm (by (repeat (first | with_reducible exact H | with_reducible exact H0_ | with_reducible apply Hp.alloc | with_reducible apply Hp.allocMap | with_reducible apply Hp.drew | with_reducible apply Hp.drewN | with_reducible apply Hp.set)); (try any_goals (repeat (first | with_reducible exact Upd.head | with_reducible apply Upd.tail)))) (by ((try simp only [size_drew_, size_drewN_, World.size_alloc, World.size_setCell, List.set_cons_zero, List.set_cons_succ, List.nil_append, List.cons_append]) <;> rfl))) (by (repeat (first | with_reducible exact Upd.head | with_reducible apply Upd.tail))) (by exact aggRule) (by rfl) (by simp [Value.oneCell']) ?_; clear H; intro w14 H; (try simp only [size_drew_, size_drewN_, World.size_alloc, World.size_setCell, List.set_cons_zero, List.set_cons_succ] at H); (try clear hr_ hd_ ho_ hz_); have hr_ := H.rules; simp only [Rules, and_true] at hr_; have hd_ := H.dif; simp only [Dif, Neq, and_true] at hd_; obtain ⟨ho_, hz_⟩ := H.old0))
          (try clear hr_ hd_ ho_ hz_)
          refine bodyPost_ret (v := .tuple #[.agg #[_, _, _], .int .i64 17]) (Res.two Tryd.results112 (H.resBox (g := g4) (by (repeat (first | with_reducible exact Pick.head | with_reducible apply Pick.tail))) aggRule rfl rfl) rfl) rfl ?_
          rw [HZ.out]
          exact ⟨_, _, _, _, _, _, _, rfl, H.ext, by decide⟩
      · have g3 : hd.a < 0 := by omega
        have HZ : Hid (R = .error 17) := by
          unfold Hid
          rw [HR.out]
          simp [endQ, ha]
        clear HR
        clear hk hm ha
        have hr_ := H.rules; simp only [Rules, and_true] at hr_; have hd_ := H.dif; simp only [Dif, Neq, and_true] at hd_; obtain ⟨ho_, hz_⟩ := H.old0
        go_wp2_with ((with_reducible refine atStore (t := 68) ?_); go_must (refine wpList_storeH (t := 68) rfl rfl (by go_simp <;> first | rfl | exact ⟨rfl, rfl⟩) (by go_simp <;> first | rfl | exact ⟨rfl, rfl⟩) (by exact Hp.norm (by (repeat (first | with_reducible exact H | with_reducible exact H0_ | with_reducible apply Hp.alloc | with_reducible apply Hp.allocMap | with_reducible apply Hp.drew | with_reducible apply Hp.drewN | with_reducible apply Hp.set)); (try any_goals (repeat (first | with_reducible exact Upd.head | with_reducible apply Upd.tail)))) (by ((try simp only [size_drew_, size_drewN_, World.size_alloc, World.size_setCell, List.set_cons_zero, List.set_cons_succ, List.nil_append, List.cons_append]) <;> rfl))) (by (repeat (first | with_reducible exact Upd.head | with_reducible apply Upd.tail))) (by exact aggRule) (by rfl) (by simp [Value.oneCell']) ?_; clear H; intro w14 H; (try simp only [size_drew_, size_drewN_, World.size_alloc, World.size_setCell, List.set_cons_zero, List.set_cons_succ] at H); (try clear hr_ hd_ ho_ hz_); have hr_ := H.rules; simp only [Rules, and_true] at hr_; have hd_ := H.dif; simp only [Dif, Neq, and_true] at hd_; obtain ⟨ho_, hz_⟩ := H.old0))
        (try clear hr_ hd_ ho_ hz_)
        refine bodyPost_ret (v := .tuple #[.agg #[_, _, _], .int .i64 17]) (Res.two Tryd.results112 (H.resBox (g := g4) (by (repeat (first | with_reducible exact Pick.head | with_reducible apply Pick.tail))) aggRule rfl rfl) rfl) rfl ?_
        rw [HZ.out]
        exact ⟨_, _, _, _, _, _, _, rfl, H.ext, by decide⟩
    · have g2 : (hd.a == c.member) = false := by simpa using hm
      have g2' : (hd.a != c.member) = true := by simpa using hm
      have HZ : Hid (R = .error 17) := by
        unfold Hid
        rw [HR.out]
        simp [endQ, hm]
      clear HR
      clear hk hm
      have hr_ := H.rules; simp only [Rules, and_true] at hr_; have hd_ := H.dif; simp only [Dif, Neq, and_true] at hd_; obtain ⟨ho_, hz_⟩ := H.old0
      go_wp2_with ((with_reducible refine atStore (t := 68) ?_); go_must (refine wpList_storeH (t := 68) rfl rfl (by go_simp <;> first | rfl | exact ⟨rfl, rfl⟩) (by go_simp <;> first | rfl | exact ⟨rfl, rfl⟩) (by exact Hp.norm (by (repeat (first | with_reducible exact H | with_reducible exact H0_ | with_reducible apply Hp.alloc | with_reducible apply Hp.allocMap | with_reducible apply Hp.drew | with_reducible apply Hp.drewN | with_reducible apply Hp.set)); (try any_goals (repeat (first | with_reducible exact Upd.head | with_reducible apply Upd.tail)))) (by ((try simp only [size_drew_, size_drewN_, World.size_alloc, World.size_setCell, List.set_cons_zero, List.set_cons_succ, List.nil_append, List.cons_append]) <;> rfl))) (by (repeat (first | with_reducible exact Upd.head | with_reducible apply Upd.tail))) (by exact aggRule) (by rfl) (by simp [Value.oneCell']) ?_; clear H; intro w14 H; (try simp only [size_drew_, size_drewN_, World.size_alloc, World.size_setCell, List.set_cons_zero, List.set_cons_succ] at H); (try clear hr_ hd_ ho_ hz_); have hr_ := H.rules; simp only [Rules, and_true] at hr_; have hd_ := H.dif; simp only [Dif, Neq, and_true] at hd_; obtain ⟨ho_, hz_⟩ := H.old0))
      (try clear hr_ hd_ ho_ hz_)
      refine bodyPost_ret (v := .tuple #[.agg #[_, _, _], .int .i64 17]) (Res.two Tryd.results112 (H.resBox (g := g4) (by (repeat (first | with_reducible exact Pick.head | with_reducible apply Pick.tail))) aggRule rfl rfl) rfl) rfl ?_
      rw [HZ.out]
      exact ⟨_, _, _, _, _, _, _, rfl, H.ext, by decide⟩
  · have g1 : (hd.k == 11) = false := by simpa using hk
    have g1' : (hd.k != 11) = true := by simpa using hk
    have HZ : Hid (R = .error 17) := by
      unfold Hid
      rw [HR.out]
      simp [endQ, hk]
    clear HR
    clear hk
    have hr_ := H.rules; simp only [Rules, and_true] at hr_; have hd_ := H.dif; simp only [Dif, Neq, and_true] at hd_; obtain ⟨ho_, hz_⟩ := H.old0
    go_wp2_with ((with_reducible refine atStore (t := 68) ?_); go_must (refine wpList_storeH (t := 68) rfl rfl (by go_simp <;> first | rfl | exact ⟨rfl, rfl⟩) (by go_simp <;> first | rfl | exact ⟨rfl, rfl⟩) (by exact Hp.norm (by (repeat (first | with_reducible exact H | with_reducible exact H0_ | with_reducible apply Hp.alloc | with_reducible apply Hp.allocMap | with_reducible apply Hp.drew | with_reducible apply Hp.drewN | with_reducible apply Hp.set)); (try any_goals (repeat (first | with_reducible exact Upd.head | with_reducible apply Upd.tail)))) (by ((try simp only [size_drew_, size_drewN_, World.size_alloc, World.size_setCell, List.set_cons_zero, List.set_cons_succ, List.nil_append, List.cons_append]) <;> rfl))) (by (repeat (first | with_reducible exact Upd.head | with_reducible apply Upd.tail))) (by exact aggRule) (by rfl) (by simp [Value.oneCell']) ?_; clear H; intro w14 H; (try simp only [size_drew_, size_drewN_, World.size_alloc, World.size_setCell, List.set_cons_zero, List.set_cons_succ] at H); (try clear hr_ hd_ ho_ hz_); have hr_ := H.rules; simp only [Rules, and_true] at hr_; have hd_ := H.dif; simp only [Dif, Neq, and_true] at hd_; obtain ⟨ho_, hz_⟩ := H.old0))
    (try clear hr_ hd_ ho_ hz_)
    refine bodyPost_ret (v := .tuple #[.agg #[_, _, _], .int .i64 17]) (Res.two Tryd.results112 (H.resBox (g := g4) (by (repeat (first | with_reducible exact Pick.head | with_reducible apply Pick.tail))) aggRule rfl rfl) rfl) rfl ?_
    rw [HZ.out]
    exact ⟨_, _, _, _, _, _, _, rfl, H.ext, by decide⟩
end Go.Proofs.YtgbokmphbimihaaDoor
