/- Printed by a program of this session: what functions of the translation come to, each contract as it stands. No condition. -/
import Derived.Test.YtpkppeicceehcaaZDepthOfQuerySh
import Derived.Test.YtpkppeicceehcaaZDepthOfQueryPx0
import Derived.Test.YtpkppeicceehcaaZDepthOfQueryPlM
import Derived.Test.YtpkppeicceehcaaZDepthOfQueryPx8M
section
namespace Go.Proofs.Ytpkppeicceehcaa.Px
set_option maxHeartbeats 8000000
set_option maxRecDepth 100000
open Go.RowKit Go.Proofs.Ytpkppeicceehcaa.Ext Go.Proofs.YtpkppeicceehcaaW.PrintWords Go.Proofs.YtpkppeicceehcaaW.PrintLast Go.Proofs.YtpkppeicceehcaaW.PrintMore
attribute [local go_sem] max2_int min2_int max_two min_two max_three min_three max_four min_four   -- for this text's walks alone
set_option linter.unusedVariables false
set_option linter.unusedSimpArgs false

mutual
def laws_szTerm.f : Nat → Int → ByteArray → Int → Int → List ByteArray → List (S65) → List ByteArray → List (S68) → Int → Option (Int)
 | 0, _, _, _, _, _, _, _, _, _ => none
 | k + 1, a0_0, a0_1, a0_2, a0_3, l0_4, l0_5, l0_6, l0_7, a1 => if (wrap64 (a1 - (a0_1.size : Int))) < 0 then (some (-1)) else ((laws_szType.f k a0_3 l0_4 l0_5 (wrap64 (a1 - (a0_1.size : Int)))).bind fun t111 => (if t111 < 0 then (some (-1)) else ((laws_szStringS.f k l0_6 t111).bind fun t112 => (if t112 < 0 then (some (-1)) else ((laws_szTermS.f k l0_7 t112).bind fun t113 => (if t113 < 0 then (some (-1)) else (some t113)))))))
def laws_szTermS.l0 : Nat → List (S68) → Int → Int → Option (Int)
 | 0, _, _, _ => none
 | k + 1, x0, x1, x5 => if x5 < (x0.length : Int) then (if 0 ≤ x5 then ((laws_szTerm.f k ((rd_T68 x0 x5).f0) ((rd_T68 x0 x5).f1) ((rd_T68 x0 x5).f2) ((rd_T68 x0 x5).f3.f0) ((rd_T68 x0 x5).f3.f1) ((rd_T68 x0 x5).f3.f2) ((rd_T68 x0 x5).f4) ((rd_T68 x0 x5).f5) x1).bind fun t115 => (if t115 < 0 then (some (-1)) else (laws_szTermS.l0 k x0 t115 (wrap64 (x5 + 1))))) else (none)) else (some x1)
def laws_szTermS.f : Nat → List (S68) → Int → Option (Int)
 | 0, _, _ => none
 | k + 1, l0, a1 => if (wrap64 (a1 - (l0.length : Int))) < 0 then (some (-1)) else (laws_szTermS.l0 k l0 (wrap64 (a1 - (l0.length : Int))) 0)
end
abbrev laws_szTerm.T (k : Nat) : Prop := ∀ (a0_0 : Int) (a0_1 : ByteArray) (a0_2 : Int) (a0_3 : Int) (A0_4 : Option Addr) (c0_4 : Nat) (l0_4 : List ByteArray) (A0_5 : Option Addr) (c0_5 : Nat) (l0_5 : List (S65)) (A0_6 : Option Addr) (c0_6 : Nat) (l0_6 : List ByteArray) (A0_7 : Option Addr) (c0_7 : Nat) (l0_7 : List (S68)) (a1 : Int) (r : Int) (w : World) (hr0_4 : Kd.C Kd.string w A0_4 l0_4.length l0_4) (hc0_4 : l0_4.length ≤ c0_4) (hr0_5 : Kd.C k65 w A0_5 l0_5.length l0_5) (hc0_5 : l0_5.length ≤ c0_5) (hr0_6 : Kd.C Kd.string w A0_6 l0_6.length l0_6) (hc0_6 : l0_6.length ≤ c0_6) (hr0_7 : Kd.C k68 w A0_7 l0_7.length l0_7) (hc0_7 : l0_7.length ≤ c0_7) (h : laws_szTerm.f k a0_0 a0_1 a0_2 a0_3 l0_4 l0_5 l0_6 l0_7 a1 = some r),
  Calls Try.prog 37 #[.agg #[.int .i64 a0_0, .string a0_1, .int .i64 a0_2, .int .i64 a0_3, .slice A0_4 l0_4.length c0_4, .slice A0_5 l0_5.length c0_5, .slice A0_6 l0_6.length c0_6, .slice A0_7 l0_7.length c0_7], .int .i64 a1] w fun e w' => e = .returned (.int .i64 r) ∧ Below w.heap.size w w'
abbrev laws_szTermS.T (k : Nat) : Prop := ∀ (A0 : Option Addr) (c0 : Nat) (l0 : List (S68)) (a1 : Int) (r : Int) (w : World) (hr0 : Kd.C k68 w A0 l0.length l0) (hc0 : l0.length ≤ c0) (h : laws_szTermS.f k l0 a1 = some r),
  Calls Try.prog 52 #[.slice A0 l0.length c0, .int .i64 a1] w fun e w' => e = .returned (.int .i64 r) ∧ Below w.heap.size w w'
/-! ### laws_szTerm: function 37 -/
theorem laws_szTerm.step (k : Nat) (ih : ∀ m, m < k → laws_szTerm.T m) (ih_52 : ∀ m, m < k → laws_szTermS.T m) : laws_szTerm.T k := by
 intro a0_0 a0_1 a0_2 a0_3 A0_4 c0_4 l0_4 A0_5 c0_5 l0_5 A0_6 c0_6 l0_6 A0_7 c0_7 l0_7 a1 r w hr0_4 hc0_4 hr0_5 hc0_5 hr0_6 hc0_6 hr0_7 hc0_7 h
 cases k with
 | zero => exact absurd h (by simp [laws_szTerm.f])
 | succ k =>
 simp only [laws_szTerm.f] at h
 have hu68 := Try.underlying68
 have hu65 := Try.underlying65
 have HR0_4 := am hr0_4
 have HC0_4 := am hc0_4
 clear hr0_4 hc0_4
 have HR0_5 := am hr0_5
 have HC0_5 := am hc0_5
 clear hr0_5 hc0_5
 have HR0_6 := am hr0_6
 have HC0_6 := am hc0_6
 clear hr0_6 hc0_6
 have HR0_7 := am hr0_7
 have HC0_7 := am hc0_7
 clear hr0_7 hc0_7
 have HB := am (Below.refl w.heap.size w)
 have H : (if (wrap64 (a1 - (a0_1.size : Int))) < 0 then (some (-1)) else ((laws_szType.f k a0_3 l0_4 l0_5 (wrap64 (a1 - (a0_1.size : Int)))).bind fun t111 => (if t111 < 0 then (some (-1)) else ((laws_szStringS.f k l0_6 t111).bind fun t112 => (if t112 < 0 then (some (-1)) else ((laws_szTermS.f k l0_7 t112).bind fun t113 => (if t113 < 0 then (some (-1)) else (some t113)))))))) = some r := h
 clear h
 by_cases c3 : (wrap64 (a1 - (a0_1.size : Int))) < 0
 ·rw [if_pos c3] at H
  have c3b0 : decide ((wrap64 (a1 - (a0_1.size : Int))) < 0) = true := decide_eq_true c3
  clear c3
  obtain rfl := Option.some.inj H
  go_enter Try.func37, Try.ntmps37
  go_wp2_with (first | ((with_reducible refine gate_dst (N := 2) rfl ?_); refine box_event ?hg (N := 2) ?hd (cs := #[.int .i64 a0_0, .string a0_1, .int .i64 a0_2, .int .i64 a0_3, .slice A0_4 l0_4.length c0_4, .slice A0_5 l0_5.length c0_5, .slice A0_6 l0_6.length c0_6, .slice A0_7 l0_7.length c0_7]) (t := 68) ?hr ?_; (case hd => rfl); (case hg => rfl); (case hr => exact hrw); intro gb110 hg w4 hbox hb; have n0_ := am (below_step blw hb); have n1_ := am (hbox); have n2_ := am ((by rw [hg]; exact (below_size blw) : w.heap.size ≤ gb110)); have n3_ := n2_; clear HB; revert n0_ n1_ n2_ n3_; intro HB BK110 GW110 GE110; clear hb hbox hg; obtain ⟨hcz5_0, hcz5_1, hcz5_2, hcz5_3, hcz5_4, hcz5_5, hcz5_6, hcz5_7⟩ := cls8 BK110.out; obtain ⟨hfz5_0, hfz5_1, hfz5_2, hfz5_3, hfz5_4, hfz5_5, hfz5_6, hfz5_7⟩ := frz8 BK110.out))
  go_ret
  exact ⟨rfw, blw⟩
 rw [if_neg c3] at H
 have c3b0 : decide ((wrap64 (a1 - (a0_1.size : Int))) < 0) = false := decide_eq_false c3
 clear c3
 replace H := Option.bind_eq_some_iff.mp H
 obtain ⟨t111, A60, H⟩ := H
 replace H : (if t111 < 0 then (some (-1)) else ((laws_szStringS.f k l0_6 t111).bind fun t112 => (if t112 < 0 then (some (-1)) else ((laws_szTermS.f k l0_7 t112).bind fun t113 => (if t113 < 0 then (some (-1)) else (some t113)))))) = some r := H
 have A6 := am A60
 clear A60
 have HC7 := am H
 clear H
 go_enter Try.func37, Try.ntmps37
 go_upto_if 17 with (first | ((with_reducible refine gate_dst (N := 2) rfl ?_); refine box_event ?hg (N := 2) ?hd (cs := #[.int .i64 a0_0, .string a0_1, .int .i64 a0_2, .int .i64 a0_3, .slice A0_4 l0_4.length c0_4, .slice A0_5 l0_5.length c0_5, .slice A0_6 l0_6.length c0_6, .slice A0_7 l0_7.length c0_7]) (t := 68) ?hr ?_; (case hd => rfl); (case hg => rfl); (case hr => exact hrw); intro gb110 hg w8 hbox hb; have n0_ := am (below_step blw hb); have n1_ := am (hbox); have n2_ := am ((by rw [hg]; exact (below_size blw) : w.heap.size ≤ gb110)); have n3_ := n2_; clear HB; revert n0_ n1_ n2_ n3_; intro HB BK110 GW110 GE110; clear hb hbox hg; obtain ⟨hcz9_0, hcz9_1, hcz9_2, hcz9_3, hcz9_4, hcz9_5, hcz9_6, hcz9_7⟩ := cls8 BK110.out; obtain ⟨hfz9_0, hfz9_1, hfz9_2, hfz9_3, hfz9_4, hfz9_5, hfz9_6, hfz9_7⟩ := frz8 BK110.out) | ((with_reducible refine gate_callee (f := 50) rfl ?_); refine goesL_ (some 15) rfl rfl Try.func50 kr rfl #[.agg #[.int .i64 a0_3, .slice A0_4 l0_4.length c0_4, .slice A0_5 l0_5.length c0_5], .int .i64 (wrap64 (a1 - (a0_1.size : Int)))] rfl mpw ?_; (with_reducible refine (laws_szType.calls k a0_3 _ _ l0_4 _ _ l0_5 (wrap64 (a1 - (a0_1.size : Int))) t111 _ ?side1 ?side2 ?side3 ?side4 A6.out).mono ?_); (case side1 => have X_ := HR0_4; exact cbl); (case side2 => exact HC0_4.out); (case side3 => have X_ := HR0_5; exact cbl); (case side4 => exact HC0_5.out); rintro e w10 ⟨rfl, hb⟩; refine ⟨_, rfl, ?_⟩; have n0_ := am (blk_below (g := gb110) bkw hb); have n1_ := am (below_step blw hb); clear BK110; clear HB; revert n0_ n1_; intro BK110 HB; (try clear hb); (try clear hb2); (try clear hk); (try clear hi)))
 have H := HC7.out
 clear HC7
 by_cases c11 : t111 < 0
 ·rw [if_pos c11] at H
  have c11b0 : decide (t111 < 0) = true := decide_eq_true c11
  clear c11
  (first | rw [c11b0] | (simp only [i64_w, i32_w]; rw [c11b0]) | skip)
  obtain rfl := Option.some.inj H
  go_wp2
  go_ret
  exact ⟨rfw, blw⟩
 rw [if_neg c11] at H
 have c11b0 : decide (t111 < 0) = false := decide_eq_false c11
 clear c11
 (first | rw [c11b0] | (simp only [i64_w, i32_w]; rw [c11b0]) | skip)
 replace H := Option.bind_eq_some_iff.mp H
 obtain ⟨t112, A120, H⟩ := H
 replace H : (if t112 < 0 then (some (-1)) else ((laws_szTermS.f k l0_7 t112).bind fun t113 => (if t113 < 0 then (some (-1)) else (some t113)))) = some r := H
 have A12 := am A120
 clear A120
 have HC13 := am H
 clear H
 obtain ⟨hcz14_0, hcz14_1, hcz14_2, hcz14_3, hcz14_4, hcz14_5, hcz14_6, hcz14_7⟩ := cls8 BK110.out
 obtain ⟨hfz14_0, hfz14_1, hfz14_2, hfz14_3, hfz14_4, hfz14_5, hfz14_6, hfz14_7⟩ := frz8 BK110.out
 go_upto_if 23 with (first | ((with_reducible refine gate_callee (f := 51) rfl ?_); refine goesL_ (some 21) rfl rfl Try.func51 kr rfl #[.slice A0_6 l0_6.length c0_6, .int .i64 t111] rfl mpw ?_; (with_reducible refine (laws_szStringS.calls k _ _ l0_6 t111 t112 _ ?side1 ?side2 A12.out).mono ?_); (case side1 => have X_ := HR0_6; exact cbl); (case side2 => exact HC0_6.out); rintro e w' ⟨rfl, ⟨nd, rfl⟩⟩; refine ⟨_, rfl, ?_⟩))
 have H := HC13.out
 clear HC13
 by_cases c15 : t112 < 0
 ·rw [if_pos c15] at H
  have c15b0 : decide (t112 < 0) = true := decide_eq_true c15
  clear c15
  (first | rw [c15b0] | (simp only [i64_w, i32_w]; rw [c15b0]) | skip)
  obtain rfl := Option.some.inj H
  go_wp2
  go_ret
  exact ⟨rfw, blw⟩
 rw [if_neg c15] at H
 have c15b0 : decide (t112 < 0) = false := decide_eq_false c15
 clear c15
 (first | rw [c15b0] | (simp only [i64_w, i32_w]; rw [c15b0]) | skip)
 replace H := Option.bind_eq_some_iff.mp H
 obtain ⟨t113, A160, H⟩ := H
 replace H : (if t113 < 0 then (some (-1)) else (some t113)) = some r := H
 have A16 := am A160
 clear A160
 have HC17 := am H
 clear H
 obtain ⟨hcz18_0, hcz18_1, hcz18_2, hcz18_3, hcz18_4, hcz18_5, hcz18_6, hcz18_7⟩ := cls8 BK110.out
 obtain ⟨hfz18_0, hfz18_1, hfz18_2, hfz18_3, hfz18_4, hfz18_5, hfz18_6, hfz18_7⟩ := frz8 BK110.out
 go_upto_if 29 with (first | ((with_reducible refine gate_callee (f := 52) rfl ?_); refine goesL_ (some 27) rfl rfl Try.func52 kr rfl #[.slice A0_7 l0_7.length c0_7, .int .i64 t112] rfl mpw ?_; (with_reducible refine (ih_52 k (by omega) _ _ l0_7 t112 t113 _ ?side1 ?side2 A16.out).mono ?_); (case side1 => have X_ := HR0_7; exact cbl); (case side2 => exact HC0_7.out); rintro e w19 ⟨rfl, hb⟩; refine ⟨_, rfl, ?_⟩; have n0_ := am (blk_below (g := gb110) bkw hb); have n1_ := am (below_step blw hb); clear BK110; clear HB; revert n0_ n1_; intro BK110 HB; (try clear hb); (try clear hb2); (try clear hk); (try clear hi)))
 have H := HC17.out
 clear HC17
 by_cases c20 : t113 < 0
 ·rw [if_pos c20] at H
  have c20b0 : decide (t113 < 0) = true := decide_eq_true c20
  clear c20
  (first | rw [c20b0] | (simp only [i64_w, i32_w]; rw [c20b0]) | skip)
  obtain rfl := Option.some.inj H
  go_wp2
  go_ret
  exact ⟨rfw, blw⟩
 rw [if_neg c20] at H
 have c20b0 : decide (t113 < 0) = false := decide_eq_false c20
 clear c20
 (first | rw [c20b0] | (simp only [i64_w, i32_w]; rw [c20b0]) | skip)
 obtain rfl := Option.some.inj H
 go_wp2
 go_ret
 exact ⟨rfw, blw⟩

/-! ### laws_szTermS: function 52 -/
theorem laws_szTermS.step (k : Nat) (ih : ∀ m, m < k → laws_szTermS.T m) (ih_37 : ∀ m, m < k → laws_szTerm.T m) : laws_szTermS.T k := by
 intro A0 c0 l0 a1 r w hr0 hc0 h
 cases k with
 | zero => exact absurd h (by simp [laws_szTermS.f])
 | succ k =>
 simp only [laws_szTermS.f] at h
 have hu68 := Try.underlying68
 have HR0 := am hr0
 have HC0 := am hc0
 clear hr0 hc0
 have HB := am (Below.refl w.heap.size w)
 have H : (if (wrap64 (a1 - (l0.length : Int))) < 0 then (some (-1)) else (laws_szTermS.l0 k l0 (wrap64 (a1 - (l0.length : Int))) 0)) = some r := h
 clear h
 by_cases c3 : (wrap64 (a1 - (l0.length : Int))) < 0
 ·rw [if_pos c3] at H
  have c3b0 : decide ((wrap64 (a1 - (l0.length : Int))) < 0) = true := decide_eq_true c3
  clear c3
  obtain rfl := Option.some.inj H
  go_enter Try.func52, Try.ntmps52
  go_wp2
  go_ret
  exact ⟨rfw, blw⟩
 rw [if_neg c3] at H
 have c3b0 : decide ((wrap64 (a1 - (l0.length : Int))) < 0) = false := decide_eq_false c3
 clear c3
 have H' := am H
 clear H
 go_enter Try.func52, Try.ntmps52
 go_wp2
 go_loopg [1, 5] k (fun kq v1 v5 w' => ∃ (x1_1 : Int) (x5_1 : Int), v1 = .int .i64 x1_1 ∧ v5 = .int .i64 x5_1 ∧ Aside0 (laws_szTermS.l0 kq l0 x1_1 x5_1 = some r) ∧ Aside0 (kq ≤ k) ∧ Aside0 (Below w.heap.size w w'))
 case atStart => exact ⟨(wrap64 (a1 - (l0.length : Int))), (0), rfs, rfs, H', ⟨Nat.le_refl _⟩, ⟨blw⟩⟩
 case round =>
  clear H'
  (try clear p2); (try clear c3); (try clear c3b0)
  obtain ⟨x1_1, x5_1, rfl, rfl, HA, HK1, HB⟩ := hrel
  cases gk with
  | zero => exact absurd HA.out (by simp [laws_szTermS.l0])
  | succ k1 =>
   have H := HA.out
   clear HA
   simp only [laws_szTermS.l0] at H
   by_cases c4 : x5_1 < (l0.length : Int)
   case neg =>
    rw [if_neg c4] at H
    have c4b0 : decide (x5_1 < (l0.length : Int)) = false := decide_eq_false c4
    clear c4
    obtain rfl := Option.some.inj H
    go_wp2
    go_ret
    exact ⟨rfw, blw⟩
   rw [if_pos c4] at H
   have c4b0 : decide (x5_1 < (l0.length : Int)) = true := decide_eq_true c4
   clear c4
   by_cases c5 : 0 ≤ x5_1
   case neg =>
    rw [if_neg c5] at H
    exact absurd H (by simp)
   rw [if_pos c5] at H
   have c5b0 : decide (0 ≤ x5_1) = true := decide_eq_true c5
   clear c5
   replace H := Option.bind_eq_some_iff.mp H
   obtain ⟨t115, A60, H⟩ := H
   replace H : (if t115 < 0 then (some (-1)) else (laws_szTermS.l0 k1 l0 t115 (wrap64 (x5_1 + 1)))) = some r := H
   have A6 := am A60
   clear A60
   have HC7 := am H
   clear H
   have p114 : 0 ≤ (x5_1 : Int) := of_decide_eq_true asw
   have q114 : x5_1 < (l0.length : Int) := of_decide_eq_true asw
   obtain ⟨ad114, A114_4, c114_4, A114_5, c114_5, A114_6, c114_6, A114_7, c114_7, e114, hx114_0, hx114_1, hx114_2, hx114_3, hx114_4, hx114_5, hx114_6, hx114_7, hl114_4, hi114_4, hl114_5, hi114_5, hl114_6, hi114_6, hl114_7, hi114_7⟩ := at_T68 HR0.out x5_1 p114 q114
   cases e114
   replace hx114_0 := upw HB.out hx114_0
   replace hx114_1 := upw HB.out hx114_1
   replace hx114_2 := upw HB.out hx114_2
   replace hx114_3 := upw HB.out hx114_3
   replace hx114_4 := upw HB.out hx114_4
   replace hx114_5 := upw HB.out hx114_5
   replace hx114_6 := upw HB.out hx114_6
   replace hx114_7 := upw HB.out hx114_7
   have HR114_4 := am hi114_4
   have HC114_4 := am hl114_4
   clear hi114_4 hl114_4
   have HR114_5 := am hi114_5
   have HC114_5 := am hl114_5
   clear hi114_5 hl114_5
   have HR114_6 := am hi114_6
   have HC114_6 := am hl114_6
   clear hi114_6 hl114_6
   have HR114_7 := am hi114_7
   have HC114_7 := am hl114_7
   clear hi114_7 hl114_7
   replace p114 := eq_true p114
   replace q114 := eq_true q114
   go_upto_if 25 with (first | ((with_reducible refine gate_callee (f := 37) rfl ?_); refine goesL_ (some 23) rfl rfl Try.func37 kr rfl #[.agg #[.int .i64 ((rd_T68 l0 x5_1).f0), .string ((rd_T68 l0 x5_1).f1), .int .i64 ((rd_T68 l0 x5_1).f2), .int .i64 ((rd_T68 l0 x5_1).f3.f0), .slice A114_4 ((rd_T68 l0 x5_1).f3.f1).length c114_4, .slice A114_5 ((rd_T68 l0 x5_1).f3.f2).length c114_5, .slice A114_6 ((rd_T68 l0 x5_1).f4).length c114_6, .slice A114_7 ((rd_T68 l0 x5_1).f5).length c114_7], .int .i64 x1_1] rfl mpw ?_; (with_reducible refine (ih_37 k1 (by have := HK1.out; omega) ((rd_T68 l0 x5_1).f0) ((rd_T68 l0 x5_1).f1) ((rd_T68 l0 x5_1).f2) ((rd_T68 l0 x5_1).f3.f0) _ _ ((rd_T68 l0 x5_1).f3.f1) _ _ ((rd_T68 l0 x5_1).f3.f2) _ _ ((rd_T68 l0 x5_1).f4) _ _ ((rd_T68 l0 x5_1).f5) x1_1 t115 _ ?side1 ?side2 ?side3 ?side4 ?side5 ?side6 ?side7 ?side8 A6.out).mono ?_); (case side1 => have X_ := HR114_4; exact cbl); (case side2 => exact HC114_4.out); (case side3 => have X_ := HR114_5; exact cbl); (case side4 => exact HC114_5.out); (case side5 => have X_ := HR114_6; exact cbl); (case side6 => exact HC114_6.out); (case side7 => have X_ := HR114_7; exact cbl); (case side8 => exact HC114_7.out); rintro e w8 ⟨rfl, hb⟩; refine ⟨_, rfl, ?_⟩; have n0_ := am (below_step blw hb); clear HB; revert n0_; intro HB; (try clear hb); (try clear hb2); (try clear hk); (try clear hi)))
   have H := HC7.out
   clear HC7
   by_cases c9 : t115 < 0
   ·rw [if_pos c9] at H
    have c9b0 : decide (t115 < 0) = true := decide_eq_true c9
    clear c9
    (first | rw [c9b0] | (simp only [i64_w, i32_w]; rw [c9b0]) | skip)
    obtain rfl := Option.some.inj H
    go_wp2
    go_ret
    exact ⟨rfw, blw⟩
   rw [if_neg c9] at H
   have c9b0 : decide (t115 < 0) = false := decide_eq_false c9
   clear c9
   (first | rw [c9b0] | (simp only [i64_w, i32_w]; rw [c9b0]) | skip)
   have H' := am H
   clear H
   go_wp2
   go_roundg k1
   case measure => have := HK1.out; omega
   case rel => exact ⟨(t115), (wrap64 (x5_1 + 1)), rfs, rfs, H', ⟨by have := HK1.out; omega⟩, ⟨blw⟩⟩

theorem laws_szTerm.all (k : Nat) : (laws_szTerm.T k) ∧ (laws_szTermS.T k) := by
 induction k using Nat.strongRecOn with
 | _ k ih =>
 exact ⟨laws_szTerm.step k (fun m hm_ => (ih m hm_).1) (fun m hm_ => (ih m hm_).2), laws_szTermS.step k (fun m hm_ => (ih m hm_).2) (fun m hm_ => (ih m hm_).1)⟩

theorem laws_szTerm.calls (k : Nat) : ∀ (a0_0 : Int) (a0_1 : ByteArray) (a0_2 : Int) (a0_3 : Int) (A0_4 : Option Addr) (c0_4 : Nat) (l0_4 : List ByteArray) (A0_5 : Option Addr) (c0_5 : Nat) (l0_5 : List (S65)) (A0_6 : Option Addr) (c0_6 : Nat) (l0_6 : List ByteArray) (A0_7 : Option Addr) (c0_7 : Nat) (l0_7 : List (S68)) (a1 : Int) (r : Int) (w : World) (hr0_4 : Kd.C Kd.string w A0_4 l0_4.length l0_4) (hc0_4 : l0_4.length ≤ c0_4) (hr0_5 : Kd.C k65 w A0_5 l0_5.length l0_5) (hc0_5 : l0_5.length ≤ c0_5) (hr0_6 : Kd.C Kd.string w A0_6 l0_6.length l0_6) (hc0_6 : l0_6.length ≤ c0_6) (hr0_7 : Kd.C k68 w A0_7 l0_7.length l0_7) (hc0_7 : l0_7.length ≤ c0_7) (h : laws_szTerm.f k a0_0 a0_1 a0_2 a0_3 l0_4 l0_5 l0_6 l0_7 a1 = some r),
  Calls Try.prog 37 #[.agg #[.int .i64 a0_0, .string a0_1, .int .i64 a0_2, .int .i64 a0_3, .slice A0_4 l0_4.length c0_4, .slice A0_5 l0_5.length c0_5, .slice A0_6 l0_6.length c0_6, .slice A0_7 l0_7.length c0_7], .int .i64 a1] w fun e w' => e = .returned (.int .i64 r) ∧ Below w.heap.size w w' := (laws_szTerm.all k).1

end Go.Proofs.Ytpkppeicceehcaa.Px
end
section
namespace Go.Proofs.Ytpkppeicceehcaa.Px
set_option maxHeartbeats 8000000
set_option maxRecDepth 100000
open Go.RowKit Go.Proofs.Ytpkppeicceehcaa.Ext Go.Proofs.YtpkppeicceehcaaW.PrintWords Go.Proofs.YtpkppeicceehcaaW.PrintLast Go.Proofs.YtpkppeicceehcaaW.PrintMore
attribute [local go_sem] max2_int min2_int max_two min_two max_three min_three max_four min_four   -- for this text's walks alone
set_option linter.unusedVariables false
set_option linter.unusedSimpArgs false

mutual
def laws_toTerm.f : Nat → Int → ByteArray → Int → Int → List ByteArray → List (S65) → List ByteArray → List (S68) → Option (Int × ByteArray × Int × Int × List ByteArray × (List (S41)) × List ByteArray × (List (S44)))
 | 0, _, _, _, _, _, _, _, _ => none
 | k + 1, a0_0, a0_1, a0_2, a0_3, l0_4, l0_5, l0_6, l0_7 => (laws_toType.f k a0_3 l0_4 l0_5).bind fun bt170 => ((laws_toStringS.f k l0_6).bind fun t177 => ((laws_toTermS.f k l0_7).bind fun t180 => (some (a0_0, a0_1, a0_2, bt170.1, bt170.2.1, bt170.2.2, t177, t180))))
def laws_toTermS.l0 : Nat → List (S68) → List (S44) → Int → Option ((List (S44)))
 | 0, _, _, _ => none
 | k + 1, x0, x3, x4 => if x4 < (x0.length : Int) then (if 0 ≤ x4 then ((laws_toTerm.f k ((rd_T68 x0 x4).f0) ((rd_T68 x0 x4).f1) ((rd_T68 x0 x4).f2) ((rd_T68 x0 x4).f3.f0) ((rd_T68 x0 x4).f3.f1) ((rd_T68 x0 x4).f3.f2) ((rd_T68 x0 x4).f4) ((rd_T68 x0 x4).f5)).bind fun bt187 => (if x4 < (x3.length : Int) then (laws_toTermS.l0 k x0 (x3.set (x4 : Int).toNat (⟨bt187.1, bt187.2.1, bt187.2.2.1, (⟨bt187.2.2.2.1, bt187.2.2.2.2.1, bt187.2.2.2.2.2.1⟩ : S41), bt187.2.2.2.2.2.2.1, bt187.2.2.2.2.2.2.2⟩ : S44)) (wrap64 (x4 + 1))) else (none))) else (none)) else (some x3)
def laws_toTermS.f : Nat → List (S68) → Option ((List (S44)))
 | 0, _ => none
 | k + 1, l0 => if 0 ≤ (l0.length : Int) then (if ((l0.length : Int) : Int).toNat ≤ 2069668946401 then (laws_toTermS.l0 k l0 (List.replicate ((l0.length : Int) : Int).toNat z44) 0) else (none)) else (none)
end
abbrev laws_toTerm.T (k : Nat) : Prop := ∀ (a0_0 : Int) (a0_1 : ByteArray) (a0_2 : Int) (a0_3 : Int) (A0_4 : Option Addr) (c0_4 : Nat) (l0_4 : List ByteArray) (A0_5 : Option Addr) (c0_5 : Nat) (l0_5 : List (S65)) (A0_6 : Option Addr) (c0_6 : Nat) (l0_6 : List ByteArray) (A0_7 : Option Addr) (c0_7 : Nat) (l0_7 : List (S68)) (r1 : Int) (r2 : ByteArray) (r3 : Int) (r4 : Int) (r5 : List ByteArray) (r6 : List (S41)) (r7 : List ByteArray) (r8 : List (S44)) (w : World) (hr0_4 : Kd.C Kd.string w A0_4 l0_4.length l0_4) (hc0_4 : l0_4.length ≤ c0_4) (hr0_5 : Kd.C k65 w A0_5 l0_5.length l0_5) (hc0_5 : l0_5.length ≤ c0_5) (hr0_6 : Kd.C Kd.string w A0_6 l0_6.length l0_6) (hc0_6 : l0_6.length ≤ c0_6) (hr0_7 : Kd.C k68 w A0_7 l0_7.length l0_7) (hc0_7 : l0_7.length ≤ c0_7) (h : laws_toTerm.f k a0_0 a0_1 a0_2 a0_3 l0_4 l0_5 l0_6 l0_7 = some (r1, r2, r3, r4, r5, r6, r7, r8)),
  Calls Try.prog 40 #[.agg #[.int .i64 a0_0, .string a0_1, .int .i64 a0_2, .int .i64 a0_3, .slice A0_4 l0_4.length c0_4, .slice A0_5 l0_5.length c0_5, .slice A0_6 l0_6.length c0_6, .slice A0_7 l0_7.length c0_7]] w fun e w' => ∃ v4_ v5_ v6_ v7_ : Value, e = .returned (.agg #[.int .i64 r1, .string r2, .int .i64 r3, .int .i64 r4, v4_, v5_, v6_, v7_]) ∧ Kd.R Kd.string 9 w' w.heap.size (fun k_ => some k_ ≠ (v6_ : Value).ownBlock) v4_ r5 ∧ Kd.R k41 41 w' w.heap.size (fun k_ => some k_ ≠ (v4_ : Value).ownBlock ∧ some k_ ≠ (v6_ : Value).ownBlock) v5_ r6 ∧ Kd.R Kd.string 9 w' w.heap.size (fun k_ => some k_ ≠ (v4_ : Value).ownBlock) v6_ r7 ∧ Kd.R k44 44 w' w.heap.size (fun k_ => some k_ ≠ (v4_ : Value).ownBlock ∧ some k_ ≠ (v5_ : Value).ownBlock ∧ some k_ ≠ (v6_ : Value).ownBlock) v7_ r8 ∧ Below w.heap.size w w'
abbrev laws_toTermS.T (k : Nat) : Prop := ∀ (A0 : Option Addr) (c0 : Nat) (l0 : List (S68)) (r : List (S44)) (w : World) (hr0 : Kd.C k68 w A0 l0.length l0) (hc0 : l0.length ≤ c0) (h : laws_toTermS.f k l0 = some r),
  Calls Try.prog 57 #[.slice A0 l0.length c0] w fun e w' => ∃ v0_ : Value, e = .returned (v0_) ∧ Kd.R k44 44 w' w.heap.size (fun _ => True) v0_ r ∧ Below w.heap.size w w'
/-! ### laws_toTerm: function 40 -/
theorem laws_toTerm.step (k : Nat) (ih : ∀ m, m < k → laws_toTerm.T m) (ih_57 : ∀ m, m < k → laws_toTermS.T m) : laws_toTerm.T k := by
 intro a0_0 a0_1 a0_2 a0_3 A0_4 c0_4 l0_4 A0_5 c0_5 l0_5 A0_6 c0_6 l0_6 A0_7 c0_7 l0_7 r1 r2 r3 r4 r5 r6 r7 r8 w hr0_4 hc0_4 hr0_5 hc0_5 hr0_6 hc0_6 hr0_7 hc0_7 h
 cases k with
 | zero => exact absurd h (by simp [laws_toTerm.f])
 | succ k =>
 simp only [laws_toTerm.f] at h
 have hu68 := Try.underlying68
 have hu44 := Try.underlying44
 have hu65 := Try.underlying65
 have hu41 := Try.underlying41
 have HR0_4 := am hr0_4
 have HC0_4 := am hc0_4
 clear hr0_4 hc0_4
 have HR0_5 := am hr0_5
 have HC0_5 := am hc0_5
 clear hr0_5 hc0_5
 have HR0_6 := am hr0_6
 have HC0_6 := am hc0_6
 clear hr0_6 hc0_6
 have HR0_7 := am hr0_7
 have HC0_7 := am hc0_7
 clear hr0_7 hc0_7
 have HB := am (Below.refl w.heap.size w)
 have H : ((laws_toType.f k a0_3 l0_4 l0_5).bind fun bt170 => ((laws_toStringS.f k l0_6).bind fun t177 => ((laws_toTermS.f k l0_7).bind fun t180 => (some (a0_0, a0_1, a0_2, bt170.1, bt170.2.1, bt170.2.2, t177, t180))))) = some (r1, r2, r3, r4, r5, r6, r7, r8) := h
 clear h
 replace H := Option.bind_eq_some_iff.mp H
 obtain ⟨⟨t170, t171, t174⟩, A20, H⟩ := H
 replace H : ((laws_toStringS.f k l0_6).bind fun t177 => ((laws_toTermS.f k l0_7).bind fun t180 => (some (a0_0, a0_1, a0_2, t170, t171, t174, t177, t180)))) = some (r1, r2, r3, r4, r5, r6, r7, r8) := H
 have A2 := am A20
 clear A20
 replace H := Option.bind_eq_some_iff.mp H
 obtain ⟨t177, A30, H⟩ := H
 replace H : ((laws_toTermS.f k l0_7).bind fun t180 => (some (a0_0, a0_1, a0_2, t170, t171, t174, t177, t180))) = some (r1, r2, r3, r4, r5, r6, r7, r8) := H
 have A3 := am A30
 clear A30
 replace H := Option.bind_eq_some_iff.mp H
 obtain ⟨t180, A40, H⟩ := H
 replace H : (some (a0_0, a0_1, a0_2, t170, t171, t174, t177, t180)) = some (r1, r2, r3, r4, r5, r6, r7, r8) := H
 have A4 := am A40
 clear A40
 simp only [Option.some.injEq, Prod.mk.injEq] at H
 obtain ⟨rfl, rfl, rfl, rfl, rfl, rfl, rfl, rfl⟩ := H
 go_enter Try.func40, Try.ntmps40
 go_wp2_with (first | ((with_reducible refine gate_dst (N := 1) rfl ?_); refine box_event ?hg (N := 1) ?hd (cs := #[.int .i64 a0_0, .string a0_1, .int .i64 a0_2, .int .i64 a0_3, .slice A0_4 l0_4.length c0_4, .slice A0_5 l0_5.length c0_5, .slice A0_6 l0_6.length c0_6, .slice A0_7 l0_7.length c0_7]) (t := 68) ?hr ?_; (case hd => rfl); (case hg => rfl); (case hr => exact hrw); intro gb167 hg w5 hbox hb; have n0_ := am (below_step blw hb); have n1_ := am (hbox); have n2_ := am ((by rw [hg]; exact (below_size blw) : w.heap.size ≤ gb167)); have n3_ := n2_; clear HB; revert n0_ n1_ n2_ n3_; intro HB BK167 GW167 GE167; clear hb hbox hg) | ((with_reducible refine gate_dst (N := 2) rfl ?_); refine box_event ?hg (N := 2) ?hd (cs := #[.int .i64 0, .string (⟨#[]⟩ : ByteArray), .int .i64 0, .int .i64 0, .slice none 0 0, .slice none 0 0, .slice none 0 0, .slice none 0 0]) (t := 44) ?hr ?_; (case hd => rfl); (case hg => rfl); (case hr => exact hrw); intro gb168 hg w6 hbox hb; have n0_ := am (blk_below (g := gb167) bkw hb); have n1_ := am (below_step blw hb); have n2_ := am (hbox); have n3_ := am ((by rw [hg]; exact (below_size blw) : w.heap.size ≤ gb168)); have n4_ := n3_; have n5_ := am ((by rw [hg]; exact Nat.ne_of_lt (blk_lt (g := gb167) bkw) : gb167 ≠ gb168)); have n6_ := am ((by rw [hg]; exact Nat.ne_of_gt (blk_lt (g := gb167) bkw) : gb168 ≠ gb167)); clear BK167; clear HB; revert n0_ n1_ n2_ n3_ n4_ n5_ n6_; intro BK167 HB BK168 GW168 GE168 NB167_168 NB168_167; clear hb hbox hg) | ((with_reducible refine gate_dst (N := 3) rfl ?_); refine box_event ?hg (N := 3) ?hd (cs := #[.int .i64 0, .string (⟨#[]⟩ : ByteArray), .int .i64 0, .int .i64 0, .slice none 0 0, .slice none 0 0, .slice none 0 0, .slice none 0 0]) (t := 44) ?hr ?_; (case hd => rfl); (case hg => rfl); (case hr => exact hrw); intro gb169 hg w7 hbox hb; have n0_ := am (blk_below (g := gb167) bkw hb); have n1_ := am (blk_below (g := gb168) bkw hb); have n2_ := am (below_step blw hb); have n3_ := am (hbox); have n4_ := am ((by rw [hg]; exact (below_size blw) : w.heap.size ≤ gb169)); have n5_ := n4_; have n6_ := am ((by rw [hg]; exact Nat.ne_of_lt (blk_lt (g := gb167) bkw) : gb167 ≠ gb169)); have n7_ := am ((by rw [hg]; exact Nat.ne_of_gt (blk_lt (g := gb167) bkw) : gb169 ≠ gb167)); have n8_ := am ((by rw [hg]; exact Nat.ne_of_lt (blk_lt (g := gb168) bkw) : gb168 ≠ gb169)); have n9_ := am ((by rw [hg]; exact Nat.ne_of_gt (blk_lt (g := gb168) bkw) : gb169 ≠ gb168)); clear BK167; clear BK168; clear HB; revert n0_ n1_ n2_ n3_ n4_ n5_ n6_ n7_ n8_ n9_; intro BK167 BK168 HB BK169 GW169 GE169 NB167_169 NB169_167 NB168_169 NB169_168; clear hb hbox hg; have hnb8 := NB167_168.out; have hnc8 := NB168_167.out; have hnb9 := NB167_169.out; have hnc9 := NB169_167.out; obtain ⟨hcz10_0, hcz10_1, hcz10_2, hcz10_3, hcz10_4, hcz10_5, hcz10_6, hcz10_7⟩ := cls8 BK167.out; obtain ⟨hfz10_0, hfz10_1, hfz10_2, hfz10_3, hfz10_4, hfz10_5, hfz10_6, hfz10_7⟩ := frz8 BK167.out; have hnb11 := NB169_168.out; have hnc11 := NB168_169.out; obtain ⟨hcz12_0, hcz12_1, hcz12_2, hcz12_3, hcz12_4, hcz12_5, hcz12_6, hcz12_7⟩ := cls8 BK169.out; obtain ⟨hfz12_0, hfz12_1, hfz12_2, hfz12_3, hfz12_4, hfz12_5, hfz12_6, hfz12_7⟩ := frz8 BK169.out) | ((with_reducible refine gate_callee (f := 55) rfl ?_); refine goesL_ (some 15) rfl rfl Try.func55 kr rfl #[.agg #[.int .i64 a0_3, .slice A0_4 l0_4.length c0_4, .slice A0_5 l0_5.length c0_5]] rfl mpw ?_; (with_reducible refine (laws_toType.calls k a0_3 _ _ l0_4 _ _ l0_5 t170 t171 t174 _ ?side1 ?side2 ?side3 ?side4 A2.out).mono ?_); (case side1 => exact Kd.C_below HR0_4.out blw); (case side2 => exact HC0_4.out); (case side3 => exact Kd.C_below HR0_5.out blw); (case side4 => exact HC0_5.out); rintro e w13 ⟨v172, v175, rfl, ho0, ho1, hb⟩; refine ⟨_, rfl, ?_⟩; have n0_ := am (Kd.R_lower ho0 (below_size blw)); have n1_ := am (Kd.R_lower ho1 (below_size blw)); have n2_ := am (blk_below (g := gb167) (o := .cells #[.int .i64 a0_0, .string a0_1, .int .i64 a0_2, .int .i64 a0_3, .slice A0_4 l0_4.length c0_4, .slice A0_5 l0_5.length c0_5, .slice A0_6 l0_6.length c0_6, .slice A0_7 l0_7.length c0_7] 68 (0, 0)) (by (with_reducible repeat (first | refine blk_drewN ?_ _ | refine blk_drew ?_ | refine blk_alloc ?_ _)); refine blk_far ?_ NB167_169.out _; (with_reducible repeat (first | refine blk_drewN ?_ _ | refine blk_drew ?_ | refine blk_alloc ?_ _)); refine blk_far ?_ NB167_169.out _; (with_reducible repeat (first | refine blk_drewN ?_ _ | refine blk_drew ?_ | refine blk_alloc ?_ _)); refine blk_far ?_ NB167_169.out _; (with_reducible repeat (first | refine blk_drewN ?_ _ | refine blk_drew ?_ | refine blk_alloc ?_ _)); exact BK167.out) hb); have n3_ := am (blk_below (g := gb168) (o := .cells #[.int .i64 0, .string (⟨#[]⟩ : ByteArray), .int .i64 0, .int .i64 0, .slice none 0 0, .slice none 0 0, .slice none 0 0, .slice none 0 0] 44 (0, 0)) (by (with_reducible repeat (first | refine blk_drewN ?_ _ | refine blk_drew ?_ | refine blk_alloc ?_ _)); refine blk_far ?_ NB168_169.out _; (with_reducible repeat (first | refine blk_drewN ?_ _ | refine blk_drew ?_ | refine blk_alloc ?_ _)); refine blk_far ?_ NB168_169.out _; (with_reducible repeat (first | refine blk_drewN ?_ _ | refine blk_drew ?_ | refine blk_alloc ?_ _)); refine blk_far ?_ NB168_169.out _; (with_reducible repeat (first | refine blk_drewN ?_ _ | refine blk_drew ?_ | refine blk_alloc ?_ _)); exact BK168.out) hb); have n4_ := am (blk_below (g := gb169) (o := .cells #[.int .i64 a0_0, .string a0_1, .int .i64 a0_2, .int .i64 0, .slice none 0 0, .slice none 0 0, .slice none 0 0, .slice none 0 0] 44 (0, 0)) (by (with_reducible repeat (first | refine blk_drewN ?_ _ | refine blk_drew ?_ | refine blk_alloc ?_ _)); refine blk_put (cs := #[.int .i64 a0_0, .string a0_1, .int .i64 0, .int .i64 0, .slice none 0 0, .slice none 0 0, .slice none 0 0, .slice none 0 0]) ?_ 2 _ rfl; (with_reducible repeat (first | refine blk_drewN ?_ _ | refine blk_drew ?_ | refine blk_alloc ?_ _)); refine blk_put (cs := #[.int .i64 a0_0, .string (⟨#[]⟩ : ByteArray), .int .i64 0, .int .i64 0, .slice none 0 0, .slice none 0 0, .slice none 0 0, .slice none 0 0]) ?_ 1 _ rfl; (with_reducible repeat (first | refine blk_drewN ?_ _ | refine blk_drew ?_ | refine blk_alloc ?_ _)); refine blk_put (cs := #[.int .i64 0, .string (⟨#[]⟩ : ByteArray), .int .i64 0, .int .i64 0, .slice none 0 0, .slice none 0 0, .slice none 0 0, .slice none 0 0]) ?_ 0 _ rfl; (with_reducible repeat (first | refine blk_drewN ?_ _ | refine blk_drew ?_ | refine blk_alloc ?_ _)); exact BK169.out) hb); have n5_ := am (below_step blw hb); clear BK167; clear BK168; clear BK169; clear HB; revert n0_ n1_ n2_ n3_ n4_ n5_; intro HO173 HO176 BK167 BK168 BK169 HB; (try clear hb); (try clear hb2); (try clear hk); (try clear hi); (try clear ho0); (try clear ho1); obtain ⟨hcz14_0, hcz14_1, hcz14_2, hcz14_3, hcz14_4, hcz14_5, hcz14_6, hcz14_7⟩ := cls8 BK169.out; obtain ⟨hfz14_0, hfz14_1, hfz14_2, hfz14_3, hfz14_4, hfz14_5, hfz14_6, hfz14_7⟩ := frz8 BK169.out; obtain ⟨Ao15, co15, eo15⟩ := Kd.R_slice HO173.out; subst eo15; obtain ⟨Ao16, co16, eo16⟩ := Kd.R_slice HO176.out; subst eo16; obtain ⟨hcz17_0, hcz17_1, hcz17_2, hcz17_3, hcz17_4, hcz17_5, hcz17_6, hcz17_7⟩ := cls8 BK167.out; obtain ⟨hfz17_0, hfz17_1, hfz17_2, hfz17_3, hfz17_4, hfz17_5, hfz17_6, hfz17_7⟩ := frz8 BK167.out) | ((with_reducible refine gate_callee (f := 56) rfl ?_); refine goesL_ (some 19) rfl rfl Try.func56 kr rfl #[.slice A0_6 l0_6.length c0_6] rfl mpw ?_; (with_reducible refine (laws_toStringS.calls k _ _ l0_6 t177 _ ?side1 ?side2 A3.out).mono ?_); (case side1 => exact Kd.C_below HR0_6.out blw); (case side2 => exact HC0_6.out); rintro e w18 ⟨v178, rfl, ho0, hb⟩; refine ⟨_, rfl, ?_⟩; have n0_ := am (Kd.R_elder' (by (with_reducible repeat (first | apply Kd.R_alloc | apply Kd.R_drewN | apply Kd.R_drew)); exact (Kd.R_mono (Kd.R_far (p := ⟨gb169, 5, none⟩) (Kd.R_far (p := ⟨gb169, 4, none⟩) (Kd.R_far (p := ⟨gb169, 3, none⟩) (Kd.R_types HO173.out BK169.out (by decide)) (fun _ hk => hk.2) (.int .i64 t170)) (fun _ hk => hk.2) (.slice Ao15 t171.length co15)) (fun _ hk => hk.2) (.slice Ao16 t174.length co16)) (fun _ h_ => h_.1))) (Kd.R_base ho0) hb); have n1_ := am (Kd.R_elder' (by (with_reducible repeat (first | apply Kd.R_alloc | apply Kd.R_drewN | apply Kd.R_drew)); exact (Kd.R_mono (Kd.R_far (p := ⟨gb169, 5, none⟩) (Kd.R_far (p := ⟨gb169, 4, none⟩) (Kd.R_far (p := ⟨gb169, 3, none⟩) (Kd.R_types HO176.out BK169.out (by decide)) (fun _ hk => hk.2) (.int .i64 t170)) (fun _ hk => hk.2) (.slice Ao15 t171.length co15)) (fun _ hk => hk.2) (.slice Ao16 t174.length co16)) (fun _ h_ => h_.1))) (Kd.R_base ho0) hb); have n2_ := am (Kd.R_lower (Kd.R_new' ho0 (Kd.R_lt (by (with_reducible repeat (first | apply Kd.R_alloc | apply Kd.R_drewN | apply Kd.R_drew)); exact (Kd.R_mono (Kd.R_far (p := ⟨gb169, 5, none⟩) (Kd.R_far (p := ⟨gb169, 4, none⟩) (Kd.R_far (p := ⟨gb169, 3, none⟩) (Kd.R_types HO173.out BK169.out (by decide)) (fun _ hk => hk.2) (.int .i64 t170)) (fun _ hk => hk.2) (.slice Ao15 t171.length co15)) (fun _ hk => hk.2) (.slice Ao16 t174.length co16)) (fun _ h_ => h_.1))))) (below_size blw)); have n3_ := am (blk_below (g := gb167) (o := .cells #[.int .i64 a0_0, .string a0_1, .int .i64 a0_2, .int .i64 a0_3, .slice A0_4 l0_4.length c0_4, .slice A0_5 l0_5.length c0_5, .slice A0_6 l0_6.length c0_6, .slice A0_7 l0_7.length c0_7] 68 (0, 0)) (by (with_reducible repeat (first | refine blk_drewN ?_ _ | refine blk_drew ?_ | refine blk_alloc ?_ _)); refine blk_far ?_ NB167_169.out _; (with_reducible repeat (first | refine blk_drewN ?_ _ | refine blk_drew ?_ | refine blk_alloc ?_ _)); refine blk_far ?_ NB167_169.out _; (with_reducible repeat (first | refine blk_drewN ?_ _ | refine blk_drew ?_ | refine blk_alloc ?_ _)); refine blk_far ?_ NB167_169.out _; (with_reducible repeat (first | refine blk_drewN ?_ _ | refine blk_drew ?_ | refine blk_alloc ?_ _)); exact BK167.out) hb); have n4_ := am (blk_below (g := gb168) (o := .cells #[.int .i64 0, .string (⟨#[]⟩ : ByteArray), .int .i64 0, .int .i64 0, .slice none 0 0, .slice none 0 0, .slice none 0 0, .slice none 0 0] 44 (0, 0)) (by (with_reducible repeat (first | refine blk_drewN ?_ _ | refine blk_drew ?_ | refine blk_alloc ?_ _)); refine blk_far ?_ NB168_169.out _; (with_reducible repeat (first | refine blk_drewN ?_ _ | refine blk_drew ?_ | refine blk_alloc ?_ _)); refine blk_far ?_ NB168_169.out _; (with_reducible repeat (first | refine blk_drewN ?_ _ | refine blk_drew ?_ | refine blk_alloc ?_ _)); refine blk_far ?_ NB168_169.out _; (with_reducible repeat (first | refine blk_drewN ?_ _ | refine blk_drew ?_ | refine blk_alloc ?_ _)); exact BK168.out) hb); have n5_ := am (blk_below (g := gb169) (o := .cells #[.int .i64 a0_0, .string a0_1, .int .i64 a0_2, .int .i64 t170, .slice Ao15 t171.length co15, .slice Ao16 t174.length co16, .slice none 0 0, .slice none 0 0] 44 (0, 0)) (by (with_reducible repeat (first | refine blk_drewN ?_ _ | refine blk_drew ?_ | refine blk_alloc ?_ _)); refine blk_put (cs := #[.int .i64 a0_0, .string a0_1, .int .i64 a0_2, .int .i64 t170, .slice Ao15 t171.length co15, .slice none 0 0, .slice none 0 0, .slice none 0 0]) ?_ 5 _ rfl; (with_reducible repeat (first | refine blk_drewN ?_ _ | refine blk_drew ?_ | refine blk_alloc ?_ _)); refine blk_put (cs := #[.int .i64 a0_0, .string a0_1, .int .i64 a0_2, .int .i64 t170, .slice none 0 0, .slice none 0 0, .slice none 0 0, .slice none 0 0]) ?_ 4 _ rfl; (with_reducible repeat (first | refine blk_drewN ?_ _ | refine blk_drew ?_ | refine blk_alloc ?_ _)); refine blk_put (cs := #[.int .i64 a0_0, .string a0_1, .int .i64 a0_2, .int .i64 0, .slice none 0 0, .slice none 0 0, .slice none 0 0, .slice none 0 0]) ?_ 3 _ rfl; (with_reducible repeat (first | refine blk_drewN ?_ _ | refine blk_drew ?_ | refine blk_alloc ?_ _)); exact BK169.out) hb); have n6_ := am (below_step blw hb); clear HO173; clear HO176; clear BK167; clear BK168; clear BK169; clear HB; revert n0_ n1_ n2_ n3_ n4_ n5_ n6_; intro HO173 HO176 HO179 BK167 BK168 BK169 HB; (try clear hb); (try clear hb2); (try clear hk); (try clear hi); (try clear ho0); obtain ⟨Ao19, co19, eo19⟩ := Kd.R_slice HO179.out; subst eo19; obtain ⟨hcz20_0, hcz20_1, hcz20_2, hcz20_3, hcz20_4, hcz20_5, hcz20_6, hcz20_7⟩ := cls8 BK169.out; obtain ⟨hfz20_0, hfz20_1, hfz20_2, hfz20_3, hfz20_4, hfz20_5, hfz20_6, hfz20_7⟩ := frz8 BK169.out; obtain ⟨hcz21_0, hcz21_1, hcz21_2, hcz21_3, hcz21_4, hcz21_5, hcz21_6, hcz21_7⟩ := cls8 BK167.out; obtain ⟨hfz21_0, hfz21_1, hfz21_2, hfz21_3, hfz21_4, hfz21_5, hfz21_6, hfz21_7⟩ := frz8 BK167.out) | ((with_reducible refine gate_callee (f := 57) rfl ?_); refine goesL_ (some 23) rfl rfl Try.func57 kr rfl #[.slice A0_7 l0_7.length c0_7] rfl mpw ?_; (with_reducible refine (ih_57 k (by omega) _ _ l0_7 t180 _ ?side1 ?side2 A4.out).mono ?_); (case side1 => exact Kd.C_below HR0_7.out blw); (case side2 => exact HC0_7.out); rintro e w22 ⟨v181, rfl, ho0, hb⟩; refine ⟨_, rfl, ?_⟩; have n0_ := am (Kd.R_below (by (with_reducible repeat (first | apply Kd.R_alloc | apply Kd.R_drewN | apply Kd.R_drew)); exact (Kd.R_mono (Kd.R_far (p := ⟨gb169, 6, none⟩) (Kd.R_types HO173.out BK169.out (by decide)) (fun _ hk => hk.2) (.slice Ao19 t177.length co19)) (fun _ h_ => h_.1))) hb); have n1_ := am (Kd.R_below (by (with_reducible repeat (first | apply Kd.R_alloc | apply Kd.R_drewN | apply Kd.R_drew)); exact (Kd.R_mono (Kd.R_far (p := ⟨gb169, 6, none⟩) (Kd.R_types HO176.out BK169.out (by decide)) (fun _ hk => hk.2) (.slice Ao19 t177.length co19)) (fun _ h_ => h_.1))) hb); have n2_ := am (Kd.R_below (by (with_reducible repeat (first | apply Kd.R_alloc | apply Kd.R_drewN | apply Kd.R_drew)); exact (Kd.R_mono (Kd.R_far (p := ⟨gb169, 6, none⟩) (Kd.R_types HO179.out BK169.out (by decide)) (fun _ hk => hk.2) (.slice Ao19 t177.length co19)) (fun _ h_ => h_.1))) hb); have n3_ := am (Kd.R_lower (Kd.R_newB (Kd.R_newB (Kd.R_new' (Kd.R_new' (Kd.R_new' ho0 (Kd.R_lt (by (with_reducible repeat (first | apply Kd.R_alloc | apply Kd.R_drewN | apply Kd.R_drew)); exact (Kd.R_mono (Kd.R_far (p := ⟨gb169, 6, none⟩) (Kd.R_types HO173.out BK169.out (by decide)) (fun _ hk => hk.2) (.slice Ao19 t177.length co19)) (fun _ h_ => h_.1))))) (Kd.R_lt (by (with_reducible repeat (first | apply Kd.R_alloc | apply Kd.R_drewN | apply Kd.R_drew)); exact (Kd.R_mono (Kd.R_far (p := ⟨gb169, 6, none⟩) (Kd.R_types HO176.out BK169.out (by decide)) (fun _ hk => hk.2) (.slice Ao19 t177.length co19)) (fun _ h_ => h_.1))))) (Kd.R_lt (by (with_reducible repeat (first | apply Kd.R_alloc | apply Kd.R_drewN | apply Kd.R_drew)); exact (Kd.R_mono (Kd.R_far (p := ⟨gb169, 6, none⟩) (Kd.R_types HO179.out BK169.out (by decide)) (fun _ hk => hk.2) (.slice Ao19 t177.length co19)) (fun _ h_ => h_.1))))) (g := gb168) (o := .cells #[.int .i64 0, .string (⟨#[]⟩ : ByteArray), .int .i64 0, .int .i64 0, .slice none 0 0, .slice none 0 0, .slice none 0 0, .slice none 0 0] 44 (0, 0)) (by (with_reducible repeat (first | refine blk_drewN ?_ _ | refine blk_drew ?_ | refine blk_alloc ?_ _)); refine blk_far ?_ NB168_169.out _; (with_reducible repeat (first | refine blk_drewN ?_ _ | refine blk_drew ?_ | refine blk_alloc ?_ _)); exact BK168.out)) (g := gb169) (o := .cells #[.int .i64 a0_0, .string a0_1, .int .i64 a0_2, .int .i64 t170, .slice Ao15 t171.length co15, .slice Ao16 t174.length co16, .slice Ao19 t177.length co19, .slice none 0 0] 44 (0, 0)) (by (with_reducible repeat (first | refine blk_drewN ?_ _ | refine blk_drew ?_ | refine blk_alloc ?_ _)); refine blk_put (cs := #[.int .i64 a0_0, .string a0_1, .int .i64 a0_2, .int .i64 t170, .slice Ao15 t171.length co15, .slice Ao16 t174.length co16, .slice none 0 0, .slice none 0 0]) ?_ 6 _ rfl; (with_reducible repeat (first | refine blk_drewN ?_ _ | refine blk_drew ?_ | refine blk_alloc ?_ _)); exact BK169.out)) (below_size blw)); have n4_ := am (blk_below (g := gb167) (o := .cells #[.int .i64 a0_0, .string a0_1, .int .i64 a0_2, .int .i64 a0_3, .slice A0_4 l0_4.length c0_4, .slice A0_5 l0_5.length c0_5, .slice A0_6 l0_6.length c0_6, .slice A0_7 l0_7.length c0_7] 68 (0, 0)) (by (with_reducible repeat (first | refine blk_drewN ?_ _ | refine blk_drew ?_ | refine blk_alloc ?_ _)); refine blk_far ?_ NB167_169.out _; (with_reducible repeat (first | refine blk_drewN ?_ _ | refine blk_drew ?_ | refine blk_alloc ?_ _)); exact BK167.out) hb); have n5_ := am (blk_below (g := gb168) (o := .cells #[.int .i64 0, .string (⟨#[]⟩ : ByteArray), .int .i64 0, .int .i64 0, .slice none 0 0, .slice none 0 0, .slice none 0 0, .slice none 0 0] 44 (0, 0)) (by (with_reducible repeat (first | refine blk_drewN ?_ _ | refine blk_drew ?_ | refine blk_alloc ?_ _)); refine blk_far ?_ NB168_169.out _; (with_reducible repeat (first | refine blk_drewN ?_ _ | refine blk_drew ?_ | refine blk_alloc ?_ _)); exact BK168.out) hb); have n6_ := am (blk_below (g := gb169) (o := .cells #[.int .i64 a0_0, .string a0_1, .int .i64 a0_2, .int .i64 t170, .slice Ao15 t171.length co15, .slice Ao16 t174.length co16, .slice Ao19 t177.length co19, .slice none 0 0] 44 (0, 0)) (by (with_reducible repeat (first | refine blk_drewN ?_ _ | refine blk_drew ?_ | refine blk_alloc ?_ _)); refine blk_put (cs := #[.int .i64 a0_0, .string a0_1, .int .i64 a0_2, .int .i64 t170, .slice Ao15 t171.length co15, .slice Ao16 t174.length co16, .slice none 0 0, .slice none 0 0]) ?_ 6 _ rfl; (with_reducible repeat (first | refine blk_drewN ?_ _ | refine blk_drew ?_ | refine blk_alloc ?_ _)); exact BK169.out) hb); have n7_ := am (below_step blw hb); clear HO173; clear HO176; clear HO179; clear BK167; clear BK168; clear BK169; clear HB; revert n0_ n1_ n2_ n3_ n4_ n5_ n6_ n7_; intro HO173 HO176 HO179 HO182 BK167 BK168 BK169 HB; (try clear hb); (try clear hb2); (try clear hk); (try clear hi); (try clear ho0); obtain ⟨Ao23, co23, eo23⟩ := Kd.R_slice HO182.out; subst eo23; obtain ⟨hcz24_0, hcz24_1, hcz24_2, hcz24_3, hcz24_4, hcz24_5, hcz24_6, hcz24_7⟩ := cls8 BK169.out; obtain ⟨hfz24_0, hfz24_1, hfz24_2, hfz24_3, hfz24_4, hfz24_5, hfz24_6, hfz24_7⟩ := frz8 BK169.out; obtain ⟨hcz25_0, hcz25_1, hcz25_2, hcz25_3, hcz25_4, hcz25_5, hcz25_6, hcz25_7⟩ := cls8 BK168.out; obtain ⟨hfz25_0, hfz25_1, hfz25_2, hfz25_3, hfz25_4, hfz25_5, hfz25_6, hfz25_7⟩ := frz8 BK168.out))
 refine bodyPost_ret (results_cell_row rfl _ _ gb168 44 #[.int .i64 a0_0, .string a0_1, .int .i64 a0_2, .int .i64 t170, .slice Ao15 t171.length co15, .slice Ao16 t174.length co16, .slice Ao19 t177.length co19, .slice Ao23 t180.length co23] (0, 0) _ rfl (by apply blk_sum; (repeat (with_reducible first | apply blk_sett | apply blk_far (hp := NB168_169.out) | apply blk_drewN | apply blk_drew | apply blk_alloc)); exact BK168.out; rfl) Try.underlying44 rfl kr) rfl ?_
 exact ⟨_, _, _, _, rfw, by (with_reducible repeat (first | apply Kd.R_alloc | apply Kd.R_drewN | apply Kd.R_drew)); exact Kd.R_mono (fr8 (g := gb168) (Kd.R_far (p := ⟨gb169, 7, none⟩) (Kd.R_types (Kd.R_types HO173.out BK169.out (by decide)) BK168.out (by decide)) (fun _ hk => hk.1.2) (.slice Ao23 t180.length co23)) (fun _ hk => hk.2) 0) (fun _ hk => hk.1.1.2), by (with_reducible repeat (first | apply Kd.R_alloc | apply Kd.R_drewN | apply Kd.R_drew)); exact Kd.R_mono (fr8 (g := gb168) (Kd.R_far (p := ⟨gb169, 7, none⟩) (Kd.R_types (Kd.R_types HO176.out BK169.out (by decide)) BK168.out (by decide)) (fun _ hk => hk.1.2) (.slice Ao23 t180.length co23)) (fun _ hk => hk.2) 0) (fun _ hk => ⟨hk.1.1.1, hk.1.1.2⟩), by (with_reducible repeat (first | apply Kd.R_alloc | apply Kd.R_drewN | apply Kd.R_drew)); exact Kd.R_mono (fr8 (g := gb168) (Kd.R_far (p := ⟨gb169, 7, none⟩) (Kd.R_types (Kd.R_types HO179.out BK169.out (by decide)) BK168.out (by decide)) (fun _ hk => hk.1.2) (.slice Ao23 t180.length co23)) (fun _ hk => hk.2) 0) (fun _ hk => hk.1.1.2), by (with_reducible repeat (first | apply Kd.R_alloc | apply Kd.R_drewN | apply Kd.R_drew)); exact Kd.R_mono (fr8 (g := gb168) (Kd.R_far (p := ⟨gb169, 7, none⟩) (Kd.R_mono (Kd.R_mono HO182.out (fun k_ hk => (⟨hk, hk.2⟩ : _ ∧ k_ ≠ gb169))) (fun k_ hk => (⟨hk, hk.1.1.2⟩ : _ ∧ k_ ≠ gb168))) (fun _ hk => hk.1.2) (.slice Ao23 t180.length co23)) (fun _ hk => hk.2) 0) (fun _ hk => ⟨hk.1.1.1.1.1.1.2, ⟨hk.1.1.1.1.1.2, hk.1.1.1.1.2⟩⟩), blw⟩

/-! ### laws_toTermS: function 57 -/
theorem laws_toTermS.step (k : Nat) (ih : ∀ m, m < k → laws_toTermS.T m) (ih_40 : ∀ m, m < k → laws_toTerm.T m) : laws_toTermS.T k := by
 intro A0 c0 l0 r w hr0 hc0 h
 cases k with
 | zero => exact absurd h (by simp [laws_toTermS.f])
 | succ k =>
 simp only [laws_toTermS.f] at h
 have hu68 := Try.underlying68
 have hu44 := Try.underlying44
 have HR0 := am hr0
 have HC0 := am hc0
 clear hr0 hc0
 have HB := am (Below.refl w.heap.size w)
 have H : (if 0 ≤ (l0.length : Int) then (if ((l0.length : Int) : Int).toNat ≤ 2069668946401 then (laws_toTermS.l0 k l0 (List.replicate ((l0.length : Int) : Int).toNat z44) 0) else (none)) else (none)) = some r := h
 clear h
 by_cases c2 : 0 ≤ (l0.length : Int)
 case neg =>
  rw [if_neg c2] at H
  exact absurd H (by simp)
 rw [if_pos c2] at H
 have c2b0 := eq_true c2
 have c2b1 : decide (0 ≤ (l0.length : Int)) = true := decide_eq_true c2
 clear c2
 by_cases c3 : ((l0.length : Int) : Int).toNat ≤ 2069668946401
 case neg =>
  rw [if_neg c3] at H
  exact absurd H (by simp)
 rw [if_pos c3] at H
 have c3b0 := eq_true c3
 have c3b1 : decide (((l0.length : Int) : Int).toNat ≤ 2069668946401) = true := decide_eq_true c3
 clear c3
 obtain ⟨y183, hy183⟩ : ∃ y_ : List (S44), y_ = (List.replicate ((l0.length : Int) : Int).toNat z44) := ⟨_, rfl⟩
 replace H : (laws_toTermS.l0 k l0 y183 0) = some r := by first | (rw [hy183]; with_reducible exact H) | (have H2_ := (Option.bind_some _ _).symm.trans H; rw [hy183]; with_reducible exact H2_) | (have H2_ := (Option.bind_some _ _).symm.trans H; with_reducible exact H2_) | with_reducible exact H | (rw [hy183]; exact H) | exact H
 have Ny183 := am hy183
 clear hy183
 have H' := am H
 clear H
 go_enter Try.func57, Try.ntmps57
 go_wp2_with (first | ((with_reducible refine gate_dst (N := 7) rfl ?_); refine Kd.R_make k44 _ 44 rfl (N := 7) rfl 42 _ _ rfl (l0.length : Int) rfl rfl Try.underlying42 (.agg #[(.int .i64 0), (.string ⟨#[]⟩), (.int .i64 0), (.int .i64 0), (.slice none 0 0), (.slice none 0 0), (.slice none 0 0), (.slice none 0 0)]) 136 info44 rfl (by decide) (by omega) z44 (ok := fun _ => True) (okp := fun _ => True) (k44_mkM _ _ _ z44 (Kd.R_nil _ _ _ _ _) (Kd.R_nil _ _ _ _ _) (Kd.R_nil _ _ _ _ _) (Kd.R_nil _ _ _ _ _)) (fun _ hk => hk) trivial (of_decide_eq_true asw) (Nat.le_trans (Nat.mul_le_mul_right _ (of_decide_eq_true asw : (l0.length : Int).toNat ≤ 2069668946401)) (by omega)) (Below.refl _ _) (Nat.le_refl _) ?_; intro v184 w4 ho5 hb hg_ hnew_; clear hg_ hnew_; (first | rw [← Ny183.out] at ho5 | (simp only [Int.reduceToNat] at ho5; rw [← Ny183.out] at ho5)); have n0_ := am (Kd.R_lower ho5 (below_size blw)); have n1_ := am (below_step blw hb); clear HB; revert n0_ n1_; intro HO185 HB; clear hb ho5))
 go_loopg [4] k (fun kq v4 w' => ∃ (x3_1 : List (S44)) (x4_1 : Int), v4 = .int .i64 x4_1 ∧ Aside0 (laws_toTermS.l0 kq l0 x3_1 x4_1 = some r) ∧ Aside0 (kq ≤ k) ∧ Aside0 (Kd.R k44 44 w' w.heap.size (fun _ => True) v184 x3_1) ∧ Aside0 (Below w.heap.size w w'))
 case atStart => exact ⟨(y183), (0), rfs, H', ⟨Nat.le_refl _⟩, ⟨by (with_reducible repeat (first | apply Kd.R_alloc | apply Kd.R_drewN | apply Kd.R_drew)); exact HO185.out⟩, ⟨blw⟩⟩
 case round =>
  clear H'
  (try clear c2); (try clear c2b0); (try clear c2b1); (try clear p2); (try clear c3); (try clear c3b0); (try clear c3b1); (try clear c5)
  obtain ⟨x3_1, x4_1, rfl, HA, HK1, HO_3, HB⟩ := hrel
  cases gk with
  | zero => exact absurd HA.out (by simp [laws_toTermS.l0])
  | succ k1 =>
   have H := HA.out
   clear HA
   simp only [laws_toTermS.l0] at H
   by_cases c6 : x4_1 < (l0.length : Int)
   case neg =>
    rw [if_neg c6] at H
    have c6b0 : decide (x4_1 < (l0.length : Int)) = false := decide_eq_false c6
    clear c6
    obtain rfl := Option.some.inj H
    go_wp2
    go_ret
    exact ⟨_, rfw, by (with_reducible repeat (first | apply Kd.R_alloc | apply Kd.R_drewN | apply Kd.R_drew)); exact HO_3.out, blw⟩
   rw [if_pos c6] at H
   have c6b0 : decide (x4_1 < (l0.length : Int)) = true := decide_eq_true c6
   clear c6
   by_cases c7 : 0 ≤ x4_1
   case neg =>
    rw [if_neg c7] at H
    exact absurd H (by simp)
   rw [if_pos c7] at H
   have c7b0 : decide (0 ≤ x4_1) = true := decide_eq_true c7
   clear c7
   replace H := Option.bind_eq_some_iff.mp H
   obtain ⟨⟨t187, t188, t189, t190, t191, t194, t197, t200⟩, A80, H⟩ := H
   replace H : (if x4_1 < (x3_1.length : Int) then (laws_toTermS.l0 k1 l0 (x3_1.set (x4_1 : Int).toNat (⟨t187, t188, t189, (⟨t190, t191, t194⟩ : S41), t197, t200⟩ : S44)) (wrap64 (x4_1 + 1))) else (none)) = some r := H
   have A8 := am A80
   clear A80
   by_cases c9 : x4_1 < (x3_1.length : Int)
   case neg =>
    rw [if_neg c9] at H
    exact absurd H (by simp)
   rw [if_pos c9] at H
   have c9b0 : decide (x4_1 < (x3_1.length : Int)) = true := decide_eq_true c9
   clear c9
   obtain ⟨y203, hy203⟩ : ∃ y_ : List (S44), y_ = (x3_1.set (x4_1 : Int).toNat (⟨t187, t188, t189, (⟨t190, t191, t194⟩ : S41), t197, t200⟩ : S44)) := ⟨_, rfl⟩
   replace H : (laws_toTermS.l0 k1 l0 y203 (wrap64 (x4_1 + 1))) = some r := by first | (rw [hy203]; with_reducible exact H) | (have H2_ := (Option.bind_some _ _).symm.trans H; rw [hy203]; with_reducible exact H2_) | (have H2_ := (Option.bind_some _ _).symm.trans H; with_reducible exact H2_) | with_reducible exact H | (rw [hy203]; exact H) | exact H
   have Ny203 := am hy203
   clear hy203
   have H' := am H
   clear H
   have p186 : 0 ≤ (x4_1 : Int) := of_decide_eq_true asw
   have q186 : x4_1 < (l0.length : Int) := of_decide_eq_true asw
   obtain ⟨ad186, A186_4, c186_4, A186_5, c186_5, A186_6, c186_6, A186_7, c186_7, e186, hx186_0, hx186_1, hx186_2, hx186_3, hx186_4, hx186_5, hx186_6, hx186_7, hl186_4, hi186_4, hl186_5, hi186_5, hl186_6, hi186_6, hl186_7, hi186_7⟩ := at_T68 HR0.out x4_1 p186 q186
   cases e186
   replace hx186_0 := upw HB.out hx186_0
   replace hx186_1 := upw HB.out hx186_1
   replace hx186_2 := upw HB.out hx186_2
   replace hx186_3 := upw HB.out hx186_3
   replace hx186_4 := upw HB.out hx186_4
   replace hx186_5 := upw HB.out hx186_5
   replace hx186_6 := upw HB.out hx186_6
   replace hx186_7 := upw HB.out hx186_7
   have HR186_4 := am hi186_4
   have HC186_4 := am hl186_4
   clear hi186_4 hl186_4
   have HR186_5 := am hi186_5
   have HC186_5 := am hl186_5
   clear hi186_5 hl186_5
   have HR186_6 := am hi186_6
   have HC186_6 := am hl186_6
   clear hi186_6 hl186_6
   have HR186_7 := am hi186_7
   have HC186_7 := am hl186_7
   clear hi186_7 hl186_7
   replace p186 := eq_true p186
   replace q186 := eq_true q186
   go_wp2_with (first | ((with_reducible refine gate_callee (f := 40) rfl ?_); refine goesL_ (some 20) rfl rfl Try.func40 kr rfl #[.agg #[.int .i64 ((rd_T68 l0 x4_1).f0), .string ((rd_T68 l0 x4_1).f1), .int .i64 ((rd_T68 l0 x4_1).f2), .int .i64 ((rd_T68 l0 x4_1).f3.f0), .slice A186_4 ((rd_T68 l0 x4_1).f3.f1).length c186_4, .slice A186_5 ((rd_T68 l0 x4_1).f3.f2).length c186_5, .slice A186_6 ((rd_T68 l0 x4_1).f4).length c186_6, .slice A186_7 ((rd_T68 l0 x4_1).f5).length c186_7]] rfl mpw ?_; (with_reducible refine (ih_40 k1 (by have := HK1.out; omega) ((rd_T68 l0 x4_1).f0) ((rd_T68 l0 x4_1).f1) ((rd_T68 l0 x4_1).f2) ((rd_T68 l0 x4_1).f3.f0) _ _ ((rd_T68 l0 x4_1).f3.f1) _ _ ((rd_T68 l0 x4_1).f3.f2) _ _ ((rd_T68 l0 x4_1).f4) _ _ ((rd_T68 l0 x4_1).f5) t187 t188 t189 t190 t191 t194 t197 t200 _ ?side1 ?side2 ?side3 ?side4 ?side5 ?side6 ?side7 ?side8 A8.out).mono ?_); (case side1 => have X_ := HR186_4; exact cbl); (case side2 => exact HC186_4.out); (case side3 => have X_ := HR186_5; exact cbl); (case side4 => exact HC186_5.out); (case side5 => have X_ := HR186_6; exact cbl); (case side6 => exact HC186_6.out); (case side7 => have X_ := HR186_7; exact cbl); (case side8 => exact HC186_7.out); rintro e w11 ⟨v192, v195, v198, v201, rfl, ho0, ho1, ho2, ho3, hb⟩; refine ⟨_, rfl, ?_⟩; have n0_ := am (Kd.R_mono (Kd.R_told (Kd.R_told (Kd.R_told (Kd.R_told (Kd.R_old (by (with_reducible repeat (first | apply Kd.R_alloc | apply Kd.R_drewN | apply Kd.R_drew)); exact HO_3.out) hb) (Kd.R_base ho0)) (Kd.R_base ho1)) (Kd.R_base ho2)) (Kd.R_base ho3)) (fun _ h_ => h_.1)); have n1_ := am (Kd.R_lower ho0 (below_size blw)); have n2_ := am (Kd.R_lower ho1 (below_size blw)); have n3_ := am (Kd.R_lower ho2 (below_size blw)); have n4_ := am (Kd.R_lower (Kd.R_new' ho3 (Kd.R_lt (by (with_reducible repeat (first | apply Kd.R_alloc | apply Kd.R_drewN | apply Kd.R_drew)); exact HO_3.out))) (below_size blw)); have n5_ := am (below_step blw hb); clear HO_3; clear HB; revert n0_ n1_ n2_ n3_ n4_ n5_; intro HO_3 HO193 HO196 HO199 HO202 HB; (try clear hb); (try clear hb2); (try clear hk); (try clear hi); (try clear ho0); (try clear ho1); (try clear ho2); (try clear ho3); have p10 : 0 ≤ (x4_1 : Int) := of_decide_eq_true asw; have q10 : (x4_1 : Int) < ((x3_1.length : Int) : Int) := of_decide_eq_true asw; obtain ⟨go10, co10, eo10, gb10, gl10, cl10, HG10⟩ := Kd.R_form HO_3.out (by omega); (first | cases eo10 | (injection eo10 with ea_ en_ ec_; (first | subst ea_ | (injection ea_ with ea_; subst ea_)); subst ec_; clear en_)); have GB10 := am gb10; have GG10 := am HG10; clear gb10 gl10 HG10; obtain ⟨ce10, hcl10, hM10, hcc10, hfr10⟩ := Kd.R_elem HO_3.out z44 (x4_1 : Int) p10 q10; obtain ⟨ve10_4, ve10_5, ve10_6, ve10_7, rfl, ge10_4, ge10_5, ge10_6, ge10_7⟩ := k44_openM hM10; have hx10_0 : w11.cell? ⟨go10, (x4_1 : Int).toNat * 8, none⟩ = some (.int .i64 ((rd_T44 x3_1 x4_1).f0)) := hcc10 0 _ rfl; have hx10_1 : w11.cell? ⟨go10, (x4_1 : Int).toNat * 8 + 1, none⟩ = some (.string ((rd_T44 x3_1 x4_1).f1)) := hcc10 1 _ rfl; have hx10_2 : w11.cell? ⟨go10, (x4_1 : Int).toNat * 8 + 2, none⟩ = some (.int .i64 ((rd_T44 x3_1 x4_1).f2)) := hcc10 2 _ rfl; have hx10_3 : w11.cell? ⟨go10, (x4_1 : Int).toNat * 8 + 3, none⟩ = some (.int .i64 ((rd_T44 x3_1 x4_1).f3.f0)) := hcc10 3 _ rfl; have hx10_4 : w11.cell? ⟨go10, (x4_1 : Int).toNat * 8 + 4, none⟩ = some (ve10_4) := hcc10 4 _ rfl; have hx10_5 : w11.cell? ⟨go10, (x4_1 : Int).toNat * 8 + 5, none⟩ = some (ve10_5) := hcc10 5 _ rfl; have hx10_6 : w11.cell? ⟨go10, (x4_1 : Int).toNat * 8 + 6, none⟩ = some (ve10_6) := hcc10 6 _ rfl; have hx10_7 : w11.cell? ⟨go10, (x4_1 : Int).toNat * 8 + 7, none⟩ = some (ve10_7) := hcc10 7 _ rfl; have hf10_0 : w11.frozen? ⟨go10, (x4_1 : Int).toNat * 8, none⟩ = false := hfr10 0; have hf10_1 : w11.frozen? ⟨go10, (x4_1 : Int).toNat * 8 + 1, none⟩ = false := hfr10 1; have hf10_2 : w11.frozen? ⟨go10, (x4_1 : Int).toNat * 8 + 2, none⟩ = false := hfr10 2; have hf10_3 : w11.frozen? ⟨go10, (x4_1 : Int).toNat * 8 + 3, none⟩ = false := hfr10 3; have hf10_4 : w11.frozen? ⟨go10, (x4_1 : Int).toNat * 8 + 4, none⟩ = false := hfr10 4; have hf10_5 : w11.frozen? ⟨go10, (x4_1 : Int).toNat * 8 + 5, none⟩ = false := hfr10 5; have hf10_6 : w11.frozen? ⟨go10, (x4_1 : Int).toNat * 8 + 6, none⟩ = false := hfr10 6; have hf10_7 : w11.frozen? ⟨go10, (x4_1 : Int).toNat * 8 + 7, none⟩ = false := hfr10 7; clear hcl10 hcc10 hfr10 hM10; replace p10 := eq_true p10; replace q10 := eq_true q10; obtain ⟨Ao14, co14, eo14⟩ := Kd.R_slice HO193.out; subst eo14; obtain ⟨Ao15, co15, eo15⟩ := Kd.R_slice HO196.out; subst eo15; obtain ⟨Ao16, co16, eo16⟩ := Kd.R_slice HO199.out; subst eo16; obtain ⟨Ao17, co17, eo17⟩ := Kd.R_slice HO202.out; subst eo17; have n_ := am (Kd.R_mono (ok' := (fun k_ => some k_ ≠ (.slice Ao14 t191.length co14 : Value).ownBlock ∧ some k_ ≠ (.slice Ao15 t194.length co15 : Value).ownBlock ∧ some k_ ≠ (.slice Ao16 t197.length co16 : Value).ownBlock ∧ some k_ ≠ (.slice Ao17 t200.length co17 : Value).ownBlock)) HO_3.out (fun k_ hk => ⟨hk.1.1.1.2, ⟨hk.1.1.2, ⟨hk.1.2, hk.2⟩⟩⟩)); clear HO_3; have HO_3 := n_; clear n_; have HX12 := am (show Kd.R k44 44 w11 w.heap.size (fun _ => True) (.slice (some ⟨go10, 0, none⟩) x3_1.length co10) x3_1 from (by (with_reducible repeat (first | apply Kd.R_alloc | apply Kd.R_drewN | apply Kd.R_drew)); exact Kd.R_mono HO_3.out (fun _ hk => trivial))); obtain ⟨ce12, hcl12, hM12, hcc12, hfr12⟩ := Kd.R_elem HX12.out z44 (x4_1 : Int) (of_decide_eq_true asw) (by have h_ : (x4_1 : Int) < ((x3_1.length : Int) : Int) := of_decide_eq_true asw; first | exact h_ | (have e_ := (Kd.R_reads' HO_3.out).1; omega) | simpa using h_); obtain ⟨ve12_4, ve12_5, ve12_6, ve12_7, rfl, ge12_4, ge12_5, ge12_6, ge12_7⟩ := k44_openM hM12; have HP12 := Kd.R_seg HX12.out (x4_1 : Int) (of_decide_eq_true asw) (by have h_ : (x4_1 : Int) < ((x3_1.length : Int) : Int) := of_decide_eq_true asw; first | exact h_ | (have e_ := (Kd.R_reads' HO_3.out).1; omega) | simpa using h_) (seg := [.int .i64 t187, .string t188, .int .i64 t189, .int .i64 t190, .slice Ao14 t191.length co14, .slice Ao15 t194.length co15, .slice Ao16 t197.length co16, .slice Ao17 t200.length co17]) (j := 0) hcl12 hcc12 (show 8 ≤ 8 from by decide) (x' := (⟨t187, t188, t189, (⟨t190, t191, t194⟩ : S41), t197, t200⟩ : S44)) (k44_mkM _ _ _ (⟨t187, t188, t189, (⟨t190, t191, t194⟩ : S41), t197, t200⟩ : S44) (Kd.R_mono (Kd.R_apart' (HO193.out) (Kd.R_typed HO_3.out) (by decide)) (fun k_ hk => ⟨trivial, fun e_ => (hk.2) (by rw [e_]; rfl)⟩)) (Kd.R_mono (Kd.R_apart' (HO196.out) (Kd.R_typed HO_3.out) (by decide)) (fun k_ hk => ⟨trivial, fun e_ => (hk.2) (by rw [e_]; rfl)⟩)) (Kd.R_mono (Kd.R_apart' (HO199.out) (Kd.R_typed HO_3.out) (by decide)) (fun k_ hk => ⟨trivial, fun e_ => (hk.2) (by rw [e_]; rfl)⟩)) (Kd.R_mono (HO202.out) (fun k_ hk => ⟨trivial, fun e_ => (hk.2) (by rw [e_]; rfl)⟩))) (fun _ hk => hk); have hx12_0 := hcc12 0 _ rfl; (try simp only [show (k44).sz = 8 from rfl, Nat.mul_one, Nat.add_zero] at hx12_0); have hf12_0 := hfr12 0; (try simp only [show (k44).sz = 8 from rfl, Nat.mul_one, Nat.add_zero] at hf12_0); have hx12_1 := hcc12 1 _ rfl; (try simp only [show (k44).sz = 8 from rfl, Nat.mul_one, Nat.add_zero] at hx12_1); have hf12_1 := hfr12 1; (try simp only [show (k44).sz = 8 from rfl, Nat.mul_one, Nat.add_zero] at hf12_1); have hx12_2 := hcc12 2 _ rfl; (try simp only [show (k44).sz = 8 from rfl, Nat.mul_one, Nat.add_zero] at hx12_2); have hf12_2 := hfr12 2; (try simp only [show (k44).sz = 8 from rfl, Nat.mul_one, Nat.add_zero] at hf12_2); have hx12_3 := hcc12 3 _ rfl; (try simp only [show (k44).sz = 8 from rfl, Nat.mul_one, Nat.add_zero] at hx12_3); have hf12_3 := hfr12 3; (try simp only [show (k44).sz = 8 from rfl, Nat.mul_one, Nat.add_zero] at hf12_3); have hx12_4 := hcc12 4 _ rfl; (try simp only [show (k44).sz = 8 from rfl, Nat.mul_one, Nat.add_zero] at hx12_4); have hf12_4 := hfr12 4; (try simp only [show (k44).sz = 8 from rfl, Nat.mul_one, Nat.add_zero] at hf12_4); have hx12_5 := hcc12 5 _ rfl; (try simp only [show (k44).sz = 8 from rfl, Nat.mul_one, Nat.add_zero] at hx12_5); have hf12_5 := hfr12 5; (try simp only [show (k44).sz = 8 from rfl, Nat.mul_one, Nat.add_zero] at hf12_5); have hx12_6 := hcc12 6 _ rfl; (try simp only [show (k44).sz = 8 from rfl, Nat.mul_one, Nat.add_zero] at hx12_6); have hf12_6 := hfr12 6; (try simp only [show (k44).sz = 8 from rfl, Nat.mul_one, Nat.add_zero] at hf12_6); have hx12_7 := hcc12 7 _ rfl; (try simp only [show (k44).sz = 8 from rfl, Nat.mul_one, Nat.add_zero] at hx12_7); have hf12_7 := hfr12 7; (try simp only [show (k44).sz = 8 from rfl, Nat.mul_one, Nat.add_zero] at hf12_7); clear hcl12 hcc12 hfr12 hM12) | ((with_reducible refine gate_store (t := 44) (p := 21) rfl ?_); refine store_event (t := 44) (p := 21) (v := ?vo_w13) (w1 := ((((((((w11.setCell ⟨go10, (x4_1 : Int).toNat * 8, none⟩ (.int .i64 t187)).setCell ⟨go10, (x4_1 : Int).toNat * 8 + 1, none⟩ (.string t188)).setCell ⟨go10, (x4_1 : Int).toNat * 8 + 2, none⟩ (.int .i64 t189)).setCell ⟨go10, (x4_1 : Int).toNat * 8 + 3, none⟩ (.int .i64 t190)).setCell ⟨go10, (x4_1 : Int).toNat * 8 + 4, none⟩ (.slice Ao14 t191.length co14)).setCell ⟨go10, (x4_1 : Int).toNat * 8 + 5, none⟩ (.slice Ao15 t194.length co15)).setCell ⟨go10, (x4_1 : Int).toNat * 8 + 6, none⟩ (.slice Ao16 t197.length co16)).setCell ⟨go10, (x4_1 : Int).toNat * 8 + 7, none⟩ (.slice Ao17 t200.length co17))) ?hg ?ho ?hn ?hr ?_; (case ho => rfl); (case hg => rfl); (case hn => rfl); (case hr => exact hrw); intro w13 hw; have hg : w11.grownBy w13 (some go10) := (by rw [hw]; exact HP12.2); have hp_ : Kd.R k44 44 w13 w.heap.size (fun _ => True) (.slice (some ⟨go10, 0, none⟩) x3_1.length co10) y203 := (by rw [hw, Ny203.out]; exact HP12.1); clear HP12; have n0_ := am (hp_); have n1_ := am ((by rw [hw]; exact below_set (below_set (below_set (below_set (below_set (below_set (below_set (below_set (HB.out) GB10.out) GB10.out) GB10.out) GB10.out) GB10.out) GB10.out) GB10.out) GB10.out : Below w.heap.size w w13)); clear HO_3; clear HB; clear HO193; clear HO196; clear HO199; clear HO202; revert n0_ n1_; intro HO_3 HB; clear hg hw hp_))
   go_roundg k1
   case measure => have := HK1.out; omega
   case rel => exact ⟨(y203), (wrap64 (x4_1 + 1)), rfs, H', ⟨by have := HK1.out; omega⟩, ⟨by (with_reducible repeat (first | apply Kd.R_alloc | apply Kd.R_drewN | apply Kd.R_drew)); exact HO_3.out⟩, ⟨blw⟩⟩

theorem laws_toTerm.all (k : Nat) : (laws_toTerm.T k) ∧ (laws_toTermS.T k) := by
 induction k using Nat.strongRecOn with
 | _ k ih =>
 exact ⟨laws_toTerm.step k (fun m hm_ => (ih m hm_).1) (fun m hm_ => (ih m hm_).2), laws_toTermS.step k (fun m hm_ => (ih m hm_).2) (fun m hm_ => (ih m hm_).1)⟩

theorem laws_toTerm.calls (k : Nat) : ∀ (a0_0 : Int) (a0_1 : ByteArray) (a0_2 : Int) (a0_3 : Int) (A0_4 : Option Addr) (c0_4 : Nat) (l0_4 : List ByteArray) (A0_5 : Option Addr) (c0_5 : Nat) (l0_5 : List (S65)) (A0_6 : Option Addr) (c0_6 : Nat) (l0_6 : List ByteArray) (A0_7 : Option Addr) (c0_7 : Nat) (l0_7 : List (S68)) (r1 : Int) (r2 : ByteArray) (r3 : Int) (r4 : Int) (r5 : List ByteArray) (r6 : List (S41)) (r7 : List ByteArray) (r8 : List (S44)) (w : World) (hr0_4 : Kd.C Kd.string w A0_4 l0_4.length l0_4) (hc0_4 : l0_4.length ≤ c0_4) (hr0_5 : Kd.C k65 w A0_5 l0_5.length l0_5) (hc0_5 : l0_5.length ≤ c0_5) (hr0_6 : Kd.C Kd.string w A0_6 l0_6.length l0_6) (hc0_6 : l0_6.length ≤ c0_6) (hr0_7 : Kd.C k68 w A0_7 l0_7.length l0_7) (hc0_7 : l0_7.length ≤ c0_7) (h : laws_toTerm.f k a0_0 a0_1 a0_2 a0_3 l0_4 l0_5 l0_6 l0_7 = some (r1, r2, r3, r4, r5, r6, r7, r8)),
  Calls Try.prog 40 #[.agg #[.int .i64 a0_0, .string a0_1, .int .i64 a0_2, .int .i64 a0_3, .slice A0_4 l0_4.length c0_4, .slice A0_5 l0_5.length c0_5, .slice A0_6 l0_6.length c0_6, .slice A0_7 l0_7.length c0_7]] w fun e w' => ∃ v4_ v5_ v6_ v7_ : Value, e = .returned (.agg #[.int .i64 r1, .string r2, .int .i64 r3, .int .i64 r4, v4_, v5_, v6_, v7_]) ∧ Kd.R Kd.string 9 w' w.heap.size (fun k_ => some k_ ≠ (v6_ : Value).ownBlock) v4_ r5 ∧ Kd.R k41 41 w' w.heap.size (fun k_ => some k_ ≠ (v4_ : Value).ownBlock ∧ some k_ ≠ (v6_ : Value).ownBlock) v5_ r6 ∧ Kd.R Kd.string 9 w' w.heap.size (fun k_ => some k_ ≠ (v4_ : Value).ownBlock) v6_ r7 ∧ Kd.R k44 44 w' w.heap.size (fun k_ => some k_ ≠ (v4_ : Value).ownBlock ∧ some k_ ≠ (v5_ : Value).ownBlock ∧ some k_ ≠ (v6_ : Value).ownBlock) v7_ r8 ∧ Below w.heap.size w w' := (laws_toTerm.all k).1

end Go.Proofs.Ytpkppeicceehcaa.Px
end
section
namespace Go.Proofs.Ytpkppeicceehcaa.Px
open Go.RowKit Go.Proofs.YtpkppeicceehcaaW.PrintWords Go.Proofs.Ytpkppeicceehcaa.Pl
set_option linter.unusedVariables false
set_option linter.unusedSimpArgs false
mutual
def wtType : S65 → Nat
  | ⟨x0, x1, x2⟩ => wts x1 + (x2.length + wtTypeS x2)
def wtTypeS : List S65 → Nat
  | [] => 0
  | x :: r => wtType x + wtTypeS r
end
mutual
def cvType : S65 → S41
  | ⟨x0, x1, x2⟩ => ⟨x0, x1, (cvTypeS x2)⟩
def cvTypeS : List S65 → List S41
  | [] => []
  | x :: r => cvType x :: cvTypeS r
end
theorem wtTypeS_sum (xs : List S65) : wtTypeS xs = (xs.map wtType).sum := by
  induction xs with
  | nil => rfl
  | cons x r ih => simp [wtTypeS, ih]
theorem cvTypeS_map (xs : List S65) : cvTypeS xs = xs.map cvType := by
  induction xs with
  | nil => rfl
  | cons x r ih => simp [cvTypeS, ih]
theorem wtType_eq (x : S65) : wtType x = wts x.f1 + (x.f2.length + wtTypeS x.f2) := by cases x; simp only [wtType]
theorem cvType_eq (x : S65) : cvType x = ⟨x.f0, x.f1, (cvTypeS x.f2)⟩ := by cases x; simp only [cvType]
theorem indTypeL {P : S65 → Prop} (h : ∀ x, (∀ y ∈ x.f2, P y) → P x) : ∀ x, P x
  | ⟨x0, x1, x2⟩ => h _ (fun y hy => indTypeL h y)
termination_by x => SizeOf.sizeOf x
decreasing_by
  have := List.sizeOf_lt_of_mem hy
  simp at this ⊢
  omega
theorem indTypeI {P : S41 → Prop} (h : ∀ x, (∀ y ∈ x.f2, P y) → P x) : ∀ x, P x
  | ⟨x0, x1, x2⟩ => h _ (fun y hy => indTypeI h y)
termination_by x => SizeOf.sizeOf x
decreasing_by
  have := List.sizeOf_lt_of_mem hy
  simp at this ⊢
  omega
inductive SmType : S41 → Prop
  | mk {x : S41} : ((Lit.int .i64 x.f0).wf = true) → ((x.f1.length ≤ 1048576 ∧ ∀ y ∈ x.f1, y.size ≤ 1048576)) → x.f2.length ≤ 1048576 → (∀ y ∈ x.f2, SmType y) → SmType x
theorem SmType.p0 {x : S41} (h : SmType x) : (Lit.int .i64 x.f0).wf = true := by cases h; assumption
theorem SmType.p1 {x : S41} (h : SmType x) : (x.f1.length ≤ 1048576 ∧ ∀ y ∈ x.f1, y.size ≤ 1048576) := by cases h; assumption
theorem SmType.p2 {x : S41} (h : SmType x) : x.f2.length ≤ 1048576 ∧ ∀ y ∈ x.f2, SmType y := by cases h; constructor <;> assumption
theorem etaType (x : S41) : (⟨x.f0, x.f1, x.f2⟩ : S41) = x := by obtain ⟨_, _, _⟩ := x; rfl
theorem smType_of : ∀ x : S65, W65 x → wtType x ≤ 1048576 → SmType (cvType x) := by
  refine indTypeL fun x ih hw hw2 => ?_
  have hb := hw2
  rw [wtType_eq] at hb
  rw [cvType_eq]
  exact SmType.mk (hw.p0) (⟨by (try dsimp only); unfold wts at hb; omega, fun y hy => by (try dsimp only at hy); have := sum_le_of_mem ByteArray.size hy; unfold wts szs at hb; omega⟩) (by (try dsimp only); rw [cvTypeS_map, List.length_map]; omega) (fun z hz => by
      (try dsimp only at hz)
      rw [cvTypeS_map] at hz
      obtain ⟨y, hy, rfl⟩ := List.mem_map.1 hz
      exact ih y hy (hw.p2.2 y hy) (by have := sum_le_of_mem wtType hy; rw [← wtTypeS_sum] at this; omega))
theorem szTypeS_of (xs : List S65) (hx : xs.length ≤ maxLen) (h : ∀ y ∈ xs, ∀ left : Int, 0 ≤ left → left ≤ 1048576 → Ev (fun k => laws_szType.f k (y.f0) (y.f1) (y.f2) left) (cut (wtType y) left)) (left : Int) (h0 : 0 ≤ left) (hl : left ≤ 1048576) : Ev (fun k => laws_szTypeS.f k xs left) (cut (xs.length + wtTypeS xs) left) := by
  refine Ev.up ?_
  simp only [laws_szTypeS.f]
  have hs := cut_sub (n := xs.length) h0 hl hx
  by_cases hc : cut xs.length left < 0
  · exact Ev.pos (hs.1.2 hc) (Ev.const (cut_add' hc).symm)
  · refine Ev.neg (fun h => hc (hs.1.1 h)) ?_
    rw [hs.2 (by omega)]
    have hl2 := cut_le (n := xs.length) h0
    have hw := sz_loop xs.length (fun k i left => laws_szType.f k ((rd_T65 xs (i : Int)).f0) ((rd_T65 xs (i : Int)).f1) ((rd_T65 xs (i : Int)).f2) left) (fun k left i => laws_szTypeS.l0 k xs left (i : Int)) (fun i => wtType (xs.getD i z65)) (fun k left i hi => by
      simp only [laws_szTypeS.l0]
      rw [if_pos (by omega), if_pos (by omega), w1 hi hx]) (fun k left => by simp only [laws_szTypeS.l0]; rw [if_neg (by omega)]) (fun i left hi h0 hl => h _ (mem_getD xs z65 i hi) left h0 hl) xs.length 0 _ (by omega) (show 0 ≤ cut xs.length left by omega) (by omega)
    refine Ev.eq hw ?_
    rw [cut_add (by omega), sumF_list wtType z65 xs xs.length 0 (by omega), wtTypeS_sum]
    rfl
theorem szType_ev : ∀ x : S65, W65 x → ∀ left : Int, 0 ≤ left → left ≤ 1048576 → Ev (fun k => laws_szType.f k (x.f0) (x.f1) (x.f2) left) (cut (wtType x) left) := by
  refine indTypeL fun x ih hw left h0 hl => ?_
  refine Ev.up ?_
  simp only [laws_szType.f]
  rw [wtType_eq]
  have hb0 : (0 : Int) ≤ left ∧ left ≤ 1048576 := ⟨h0, hl⟩
  refine Ev.bind (szStringS_ev x.f1 hw.p1 _ hb0.1 hb0.2) ?_
  by_cases hc0 : cut (wts x.f1) left < 0
  · refine Ev.pos hc0 (Ev.const ?_)
    have hn : cut (wts x.f1) left < 0 := hc0
    have hn : cut (wts x.f1 + (x.f2.length + wtTypeS x.f2)) left < 0 := by rw [cut_add' hn]; omega
    have hv := cut_neg.1 hn; unfold cut; rw [if_neg hv]
  refine Ev.neg hc0 ?_
  have hb1 : (0 : Int) ≤ cut (wts x.f1) left ∧ cut (wts x.f1) left ≤ 1048576 := ⟨by omega, by have := cut_le (n := wts x.f1) h0; omega⟩
  refine Ev.bind (szTypeS_of x.f2 hw.p2.1 (fun y hy => ih y hy (hw.p2.2 y hy)) _ hb1.1 hb1.2) ?_
  by_cases hc1 : cut ((x.f2.length + wtTypeS x.f2)) (cut (wts x.f1) left) < 0
  · refine Ev.pos hc1 (Ev.const ?_)
    have hn : cut (wts x.f1 + (x.f2.length + wtTypeS x.f2)) left < 0 := by rw [← cut_add (by omega)]; exact hc1
    have hv := cut_neg.1 hn; unfold cut; rw [if_neg hv]
  refine Ev.neg hc1 ?_
  rw [cut_add (by omega)] at hc1 ⊢
  have hb2 : (0 : Int) ≤ cut (wts x.f1 + (x.f2.length + wtTypeS x.f2)) left ∧ cut (wts x.f1 + (x.f2.length + wtTypeS x.f2)) left ≤ 1048576 := ⟨by omega, by have := cut_le (n := wts x.f1 + (x.f2.length + wtTypeS x.f2)) h0; omega⟩
  exact Ev.const rfl
theorem toTypeS_of (xs : List S65) (hx : xs.length ≤ 1048576) (h : ∀ y ∈ xs, Ev (fun k => laws_toType.f k (y.f0) (y.f1) (y.f2)) ((cvType y).f0, (cvType y).f1, (cvType y).f2)) : Ev (fun k => laws_toTypeS.f k xs) (cvTypeS xs) := by
  refine Ev.up ?_
  simp only [laws_toTypeS.f]
  refine Ev.pos (by omega) (Ev.pos (by omega) ?_)
  have hw := to_loop xs.length (fun k i => (laws_toType.f k ((rd_T65 xs (i : Int)).f0) ((rd_T65 xs (i : Int)).f1) ((rd_T65 xs (i : Int)).f2)).map fun t => (⟨t.1, t.2.1, t.2.2⟩ : S41)) (fun k out i => laws_toTypeS.l0 k xs out (i : Int)) (fun i => cvType (xs.getD i z65)) (fun k out i hi hl => by
    simp only [laws_toTypeS.l0]
    rw [if_pos (by omega), if_pos (by omega)]
    rcases laws_toType.f k ((rd_T65 xs (i : Int)).f0) ((rd_T65 xs (i : Int)).f1) ((rd_T65 xs (i : Int)).f2) with _ | t
    · rfl
    · simp only [Option.map_some, Option.bind_some]
      rw [if_pos (by omega), w1' hi hx]
      rfl) (fun k out => by simp only [laws_toTypeS.l0]; rw [if_neg (by omega)]) (fun i hi => Ev.eq (Ev.map (fun t => (⟨t.1, t.2.1, t.2.2⟩ : S41)) (h _ (mem_getD xs z65 i hi))) (etaType _)) xs.length 0 (List.replicate ((xs.length : Int)).toNat z41) (by omega) (by simp)
  refine Ev.eq hw ?_
  rw [List.take_zero, List.nil_append, range_map_getElem cvType z65 xs, cvTypeS_map]
theorem toType_ev : ∀ x : S65, wtType x ≤ 1048576 → Ev (fun k => laws_toType.f k (x.f0) (x.f1) (x.f2)) ((cvType x).f0, (cvType x).f1, (cvType x).f2) := by
  refine indTypeL fun x ih hw2 => ?_
  refine Ev.up ?_
  simp only [laws_toType.f]
  have hb := hw2
  rw [wtType_eq] at hb
  refine Ev.bind (toStringS_ev x.f1 (by unfold wts at hb; omega)) ?_
  refine Ev.bind (toTypeS_of x.f2 (by omega) (fun y hy => ih y hy (by have := sum_le_of_mem wtType hy; rw [← wtTypeS_sum] at this; omega))) ?_
  exact Ev.const (by rw [cvType_eq])
theorem eqTypeS_of (xs : List S41) (hx : xs.length ≤ 1048576) (h : ∀ y ∈ xs, Ev (fun k => laws_eqType.f k (y.f0) (y.f1) (y.f2) (y.f0) (y.f1) (y.f2)) true) : Ev (fun k => laws_eqTypeS.f k xs xs) true := by
  refine Ev.up ?_
  simp only [laws_eqTypeS.f]
  refine Ev.pos (by simp) ?_
  exact eq_loop xs.length (fun k i => laws_eqType.f k ((rd_T41 xs (i : Int)).f0) ((rd_T41 xs (i : Int)).f1) ((rd_T41 xs (i : Int)).f2) ((rd_T41 xs (i : Int)).f0) ((rd_T41 xs (i : Int)).f1) ((rd_T41 xs (i : Int)).f2)) (fun k i => laws_eqTypeS.l0 k xs xs (i : Int)) (fun k i hi => by
    simp only [laws_eqTypeS.l0]
    rw [if_pos (by omega), if_pos (by omega), if_pos (by omega), w1' hi hx]) (fun k => by simp only [laws_eqTypeS.l0]; rw [if_neg (by omega)]) (fun i hi => h _ (mem_getD xs z41 i hi)) xs.length 0 (by omega)
theorem eqType_ev : ∀ x : S41, SmType x → Ev (fun k => laws_eqType.f k (x.f0) (x.f1) (x.f2) (x.f0) (x.f1) (x.f2)) true := by
  refine indTypeI fun x ih hs => ?_
  refine Ev.up ?_
  simp only [laws_eqType.f]
  refine Ev.pos (by simp) ?_
  refine Ev.bind (eqStringS_ev x.f1 hs.p1.1) (Ev.pos (by simp) ?_)
  refine Ev.bind (eqTypeS_of x.f2 hs.p2.1 (fun y hy => ih y hy (hs.p2.2 y hy))) (Ev.pos (by simp) ?_)
  exact Ev.now _
end Go.Proofs.Ytpkppeicceehcaa.Px
end
section
namespace Go.Proofs.Ytpkppeicceehcaa.Px
open Go.RowKit Go.Proofs.YtpkppeicceehcaaW.PrintWords Go.Proofs.Ytpkppeicceehcaa.Pl
set_option linter.unusedVariables false
set_option linter.unusedSimpArgs false
mutual
def wtTerm : S68 → Nat
  | ⟨x0, x1, x2, x3, x4, x5⟩ => x1.size + wtType x3 + wts x4 + (x5.length + wtTermS x5)
def wtTermS : List S68 → Nat
  | [] => 0
  | x :: r => wtTerm x + wtTermS r
end
mutual
def cvTerm : S68 → S44
  | ⟨x0, x1, x2, x3, x4, x5⟩ => ⟨x0, x1, x2, (cvType x3), x4, (cvTermS x5)⟩
def cvTermS : List S68 → List S44
  | [] => []
  | x :: r => cvTerm x :: cvTermS r
end
theorem wtTermS_sum (xs : List S68) : wtTermS xs = (xs.map wtTerm).sum := by
  induction xs with
  | nil => rfl
  | cons x r ih => simp [wtTermS, ih]
theorem cvTermS_map (xs : List S68) : cvTermS xs = xs.map cvTerm := by
  induction xs with
  | nil => rfl
  | cons x r ih => simp [cvTermS, ih]
theorem wtTerm_eq (x : S68) : wtTerm x = x.f1.size + wtType x.f3 + wts x.f4 + (x.f5.length + wtTermS x.f5) := by cases x; simp only [wtTerm]
theorem cvTerm_eq (x : S68) : cvTerm x = ⟨x.f0, x.f1, x.f2, (cvType x.f3), x.f4, (cvTermS x.f5)⟩ := by cases x; simp only [cvTerm]
theorem indTermL {P : S68 → Prop} (h : ∀ x, (∀ y ∈ x.f5, P y) → P x) : ∀ x, P x
  | ⟨x0, x1, x2, x3, x4, x5⟩ => h _ (fun y hy => indTermL h y)
termination_by x => SizeOf.sizeOf x
decreasing_by
  have := List.sizeOf_lt_of_mem hy
  simp at this ⊢
  omega
theorem indTermI {P : S44 → Prop} (h : ∀ x, (∀ y ∈ x.f5, P y) → P x) : ∀ x, P x
  | ⟨x0, x1, x2, x3, x4, x5⟩ => h _ (fun y hy => indTermI h y)
termination_by x => SizeOf.sizeOf x
decreasing_by
  have := List.sizeOf_lt_of_mem hy
  simp at this ⊢
  omega
inductive SmTerm : S44 → Prop
  | mk {x : S44} : ((Lit.int .i64 x.f0).wf = true) → (x.f1.size ≤ 1048576) → ((Lit.int .i64 x.f2).wf = true) → (SmType x.f3) → ((x.f4.length ≤ 1048576 ∧ ∀ y ∈ x.f4, y.size ≤ 1048576)) → x.f5.length ≤ 1048576 → (∀ y ∈ x.f5, SmTerm y) → SmTerm x
theorem SmTerm.p0 {x : S44} (h : SmTerm x) : (Lit.int .i64 x.f0).wf = true := by cases h; assumption
theorem SmTerm.p1 {x : S44} (h : SmTerm x) : x.f1.size ≤ 1048576 := by cases h; assumption
theorem SmTerm.p2 {x : S44} (h : SmTerm x) : (Lit.int .i64 x.f2).wf = true := by cases h; assumption
theorem SmTerm.p3 {x : S44} (h : SmTerm x) : SmType x.f3 := by cases h; assumption
theorem SmTerm.p4 {x : S44} (h : SmTerm x) : (x.f4.length ≤ 1048576 ∧ ∀ y ∈ x.f4, y.size ≤ 1048576) := by cases h; assumption
theorem SmTerm.p5 {x : S44} (h : SmTerm x) : x.f5.length ≤ 1048576 ∧ ∀ y ∈ x.f5, SmTerm y := by cases h; constructor <;> assumption
theorem etaTerm (x : S44) : (⟨x.f0, x.f1, x.f2, (⟨x.f3.f0, x.f3.f1, x.f3.f2⟩ : S41), x.f4, x.f5⟩ : S44) = x := by obtain ⟨_, _, _, ⟨_, _, _⟩, _, _⟩ := x; rfl
theorem smTerm_of : ∀ x : S68, W68 x → wtTerm x ≤ 1048576 → SmTerm (cvTerm x) := by
  refine indTermL fun x ih hw hw2 => ?_
  have hb := hw2
  rw [wtTerm_eq] at hb
  rw [cvTerm_eq]
  exact SmTerm.mk (hw.p0) (by (try dsimp only); omega) (hw.p2) (smType_of _ hw.p3 (by omega)) (⟨by (try dsimp only); unfold wts at hb; omega, fun y hy => by (try dsimp only at hy); have := sum_le_of_mem ByteArray.size hy; unfold wts szs at hb; omega⟩) (by (try dsimp only); rw [cvTermS_map, List.length_map]; omega) (fun z hz => by
      (try dsimp only at hz)
      rw [cvTermS_map] at hz
      obtain ⟨y, hy, rfl⟩ := List.mem_map.1 hz
      exact ih y hy (hw.p5.2 y hy) (by have := sum_le_of_mem wtTerm hy; rw [← wtTermS_sum] at this; omega))
theorem szTermS_of (xs : List S68) (hx : xs.length ≤ maxLen) (h : ∀ y ∈ xs, ∀ left : Int, 0 ≤ left → left ≤ 1048576 → Ev (fun k => laws_szTerm.f k (y.f0) (y.f1) (y.f2) (y.f3.f0) (y.f3.f1) (y.f3.f2) (y.f4) (y.f5) left) (cut (wtTerm y) left)) (left : Int) (h0 : 0 ≤ left) (hl : left ≤ 1048576) : Ev (fun k => laws_szTermS.f k xs left) (cut (xs.length + wtTermS xs) left) := by
  refine Ev.up ?_
  simp only [laws_szTermS.f]
  have hs := cut_sub (n := xs.length) h0 hl hx
  by_cases hc : cut xs.length left < 0
  · exact Ev.pos (hs.1.2 hc) (Ev.const (cut_add' hc).symm)
  · refine Ev.neg (fun h => hc (hs.1.1 h)) ?_
    rw [hs.2 (by omega)]
    have hl2 := cut_le (n := xs.length) h0
    have hw := sz_loop xs.length (fun k i left => laws_szTerm.f k ((rd_T68 xs (i : Int)).f0) ((rd_T68 xs (i : Int)).f1) ((rd_T68 xs (i : Int)).f2) ((rd_T68 xs (i : Int)).f3.f0) ((rd_T68 xs (i : Int)).f3.f1) ((rd_T68 xs (i : Int)).f3.f2) ((rd_T68 xs (i : Int)).f4) ((rd_T68 xs (i : Int)).f5) left) (fun k left i => laws_szTermS.l0 k xs left (i : Int)) (fun i => wtTerm (xs.getD i z68)) (fun k left i hi => by
      simp only [laws_szTermS.l0]
      rw [if_pos (by omega), if_pos (by omega), w1 hi hx]) (fun k left => by simp only [laws_szTermS.l0]; rw [if_neg (by omega)]) (fun i left hi h0 hl => h _ (mem_getD xs z68 i hi) left h0 hl) xs.length 0 _ (by omega) (show 0 ≤ cut xs.length left by omega) (by omega)
    refine Ev.eq hw ?_
    rw [cut_add (by omega), sumF_list wtTerm z68 xs xs.length 0 (by omega), wtTermS_sum]
    rfl
theorem szTerm_ev : ∀ x : S68, W68 x → ∀ left : Int, 0 ≤ left → left ≤ 1048576 → Ev (fun k => laws_szTerm.f k (x.f0) (x.f1) (x.f2) (x.f3.f0) (x.f3.f1) (x.f3.f2) (x.f4) (x.f5) left) (cut (wtTerm x) left) := by
  refine indTermL fun x ih hw left h0 hl => ?_
  refine Ev.up ?_
  simp only [laws_szTerm.f]
  rw [wtTerm_eq]
  have hb0 : (0 : Int) ≤ left ∧ left ≤ 1048576 := ⟨h0, hl⟩
  have hs0 := cut_sub (n := x.f1.size) hb0.1 hb0.2 (hw.p1)
  by_cases hc0 : cut (x.f1.size) left < 0
  · refine Ev.pos (hs0.1.2 hc0) (Ev.const ?_)
    have hn : cut (x.f1.size) left < 0 := hc0
    have hn : cut (x.f1.size + wtType x.f3) left < 0 := by rw [cut_add' hn]; omega
    have hn : cut (x.f1.size + wtType x.f3 + wts x.f4) left < 0 := by rw [cut_add' hn]; omega
    have hn : cut (x.f1.size + wtType x.f3 + wts x.f4 + (x.f5.length + wtTermS x.f5)) left < 0 := by rw [cut_add' hn]; omega
    have hv := cut_neg.1 hn; unfold cut; rw [if_neg hv]
  refine Ev.neg (fun h => hc0 (hs0.1.1 h)) ?_
  rw [hs0.2 (by omega)]
  have hb1 : (0 : Int) ≤ cut (x.f1.size) left ∧ cut (x.f1.size) left ≤ 1048576 := ⟨by omega, by have := cut_le (n := x.f1.size) h0; omega⟩
  refine Ev.bind (szType_ev x.f3 hw.p3 _ hb1.1 hb1.2) ?_
  by_cases hc1 : cut (wtType x.f3) (cut (x.f1.size) left) < 0
  · refine Ev.pos hc1 (Ev.const ?_)
    have hn : cut (x.f1.size + wtType x.f3) left < 0 := by rw [← cut_add (by omega)]; exact hc1
    have hn : cut (x.f1.size + wtType x.f3 + wts x.f4) left < 0 := by rw [cut_add' hn]; omega
    have hn : cut (x.f1.size + wtType x.f3 + wts x.f4 + (x.f5.length + wtTermS x.f5)) left < 0 := by rw [cut_add' hn]; omega
    have hv := cut_neg.1 hn; unfold cut; rw [if_neg hv]
  refine Ev.neg hc1 ?_
  rw [cut_add (by omega)] at hc1 ⊢
  have hb2 : (0 : Int) ≤ cut (x.f1.size + wtType x.f3) left ∧ cut (x.f1.size + wtType x.f3) left ≤ 1048576 := ⟨by omega, by have := cut_le (n := x.f1.size + wtType x.f3) h0; omega⟩
  refine Ev.bind (szStringS_ev x.f4 hw.p4 _ hb2.1 hb2.2) ?_
  by_cases hc2 : cut (wts x.f4) (cut (x.f1.size + wtType x.f3) left) < 0
  · refine Ev.pos hc2 (Ev.const ?_)
    have hn : cut (x.f1.size + wtType x.f3 + wts x.f4) left < 0 := by rw [← cut_add (by omega)]; exact hc2
    have hn : cut (x.f1.size + wtType x.f3 + wts x.f4 + (x.f5.length + wtTermS x.f5)) left < 0 := by rw [cut_add' hn]; omega
    have hv := cut_neg.1 hn; unfold cut; rw [if_neg hv]
  refine Ev.neg hc2 ?_
  rw [cut_add (by omega)] at hc2 ⊢
  have hb3 : (0 : Int) ≤ cut (x.f1.size + wtType x.f3 + wts x.f4) left ∧ cut (x.f1.size + wtType x.f3 + wts x.f4) left ≤ 1048576 := ⟨by omega, by have := cut_le (n := x.f1.size + wtType x.f3 + wts x.f4) h0; omega⟩
  refine Ev.bind (szTermS_of x.f5 hw.p5.1 (fun y hy => ih y hy (hw.p5.2 y hy)) _ hb3.1 hb3.2) ?_
  by_cases hc3 : cut ((x.f5.length + wtTermS x.f5)) (cut (x.f1.size + wtType x.f3 + wts x.f4) left) < 0
  · refine Ev.pos hc3 (Ev.const ?_)
    have hn : cut (x.f1.size + wtType x.f3 + wts x.f4 + (x.f5.length + wtTermS x.f5)) left < 0 := by rw [← cut_add (by omega)]; exact hc3
    have hv := cut_neg.1 hn; unfold cut; rw [if_neg hv]
  refine Ev.neg hc3 ?_
  rw [cut_add (by omega)] at hc3 ⊢
  have hb4 : (0 : Int) ≤ cut (x.f1.size + wtType x.f3 + wts x.f4 + (x.f5.length + wtTermS x.f5)) left ∧ cut (x.f1.size + wtType x.f3 + wts x.f4 + (x.f5.length + wtTermS x.f5)) left ≤ 1048576 := ⟨by omega, by have := cut_le (n := x.f1.size + wtType x.f3 + wts x.f4 + (x.f5.length + wtTermS x.f5)) h0; omega⟩
  exact Ev.const rfl
theorem toTermS_of (xs : List S68) (hx : xs.length ≤ 1048576) (h : ∀ y ∈ xs, Ev (fun k => laws_toTerm.f k (y.f0) (y.f1) (y.f2) (y.f3.f0) (y.f3.f1) (y.f3.f2) (y.f4) (y.f5)) ((cvTerm y).f0, (cvTerm y).f1, (cvTerm y).f2, (cvTerm y).f3.f0, (cvTerm y).f3.f1, (cvTerm y).f3.f2, (cvTerm y).f4, (cvTerm y).f5)) : Ev (fun k => laws_toTermS.f k xs) (cvTermS xs) := by
  refine Ev.up ?_
  simp only [laws_toTermS.f]
  refine Ev.pos (by omega) (Ev.pos (by omega) ?_)
  have hw := to_loop xs.length (fun k i => (laws_toTerm.f k ((rd_T68 xs (i : Int)).f0) ((rd_T68 xs (i : Int)).f1) ((rd_T68 xs (i : Int)).f2) ((rd_T68 xs (i : Int)).f3.f0) ((rd_T68 xs (i : Int)).f3.f1) ((rd_T68 xs (i : Int)).f3.f2) ((rd_T68 xs (i : Int)).f4) ((rd_T68 xs (i : Int)).f5)).map fun t => (⟨t.1, t.2.1, t.2.2.1, (⟨t.2.2.2.1, t.2.2.2.2.1, t.2.2.2.2.2.1⟩ : S41), t.2.2.2.2.2.2.1, t.2.2.2.2.2.2.2⟩ : S44)) (fun k out i => laws_toTermS.l0 k xs out (i : Int)) (fun i => cvTerm (xs.getD i z68)) (fun k out i hi hl => by
    simp only [laws_toTermS.l0]
    rw [if_pos (by omega), if_pos (by omega)]
    rcases laws_toTerm.f k ((rd_T68 xs (i : Int)).f0) ((rd_T68 xs (i : Int)).f1) ((rd_T68 xs (i : Int)).f2) ((rd_T68 xs (i : Int)).f3.f0) ((rd_T68 xs (i : Int)).f3.f1) ((rd_T68 xs (i : Int)).f3.f2) ((rd_T68 xs (i : Int)).f4) ((rd_T68 xs (i : Int)).f5) with _ | t
    · rfl
    · simp only [Option.map_some, Option.bind_some]
      rw [if_pos (by omega), w1' hi hx]
      rfl) (fun k out => by simp only [laws_toTermS.l0]; rw [if_neg (by omega)]) (fun i hi => Ev.eq (Ev.map (fun t => (⟨t.1, t.2.1, t.2.2.1, (⟨t.2.2.2.1, t.2.2.2.2.1, t.2.2.2.2.2.1⟩ : S41), t.2.2.2.2.2.2.1, t.2.2.2.2.2.2.2⟩ : S44)) (h _ (mem_getD xs z68 i hi))) (etaTerm _)) xs.length 0 (List.replicate ((xs.length : Int)).toNat z44) (by omega) (by simp)
  refine Ev.eq hw ?_
  rw [List.take_zero, List.nil_append, range_map_getElem cvTerm z68 xs, cvTermS_map]
theorem toTerm_ev : ∀ x : S68, wtTerm x ≤ 1048576 → Ev (fun k => laws_toTerm.f k (x.f0) (x.f1) (x.f2) (x.f3.f0) (x.f3.f1) (x.f3.f2) (x.f4) (x.f5)) ((cvTerm x).f0, (cvTerm x).f1, (cvTerm x).f2, (cvTerm x).f3.f0, (cvTerm x).f3.f1, (cvTerm x).f3.f2, (cvTerm x).f4, (cvTerm x).f5) := by
  refine indTermL fun x ih hw2 => ?_
  refine Ev.up ?_
  simp only [laws_toTerm.f]
  have hb := hw2
  rw [wtTerm_eq] at hb
  refine Ev.bind (toType_ev x.f3 (by omega)) ?_
  refine Ev.bind (toStringS_ev x.f4 (by unfold wts at hb; omega)) ?_
  refine Ev.bind (toTermS_of x.f5 (by omega) (fun y hy => ih y hy (by have := sum_le_of_mem wtTerm hy; rw [← wtTermS_sum] at this; omega))) ?_
  exact Ev.const (by rw [cvTerm_eq])
theorem eqTermS_of (xs : List S44) (hx : xs.length ≤ 1048576) (h : ∀ y ∈ xs, Ev (fun k => laws_eqTerm.f k (y.f0) (y.f1) (y.f2) (y.f3.f0) (y.f3.f1) (y.f3.f2) (y.f4) (y.f5) (y.f0) (y.f1) (y.f2) (y.f3.f0) (y.f3.f1) (y.f3.f2) (y.f4) (y.f5)) true) : Ev (fun k => laws_eqTermS.f k xs xs) true := by
  refine Ev.up ?_
  simp only [laws_eqTermS.f]
  refine Ev.pos (by simp) ?_
  exact eq_loop xs.length (fun k i => laws_eqTerm.f k ((rd_T44 xs (i : Int)).f0) ((rd_T44 xs (i : Int)).f1) ((rd_T44 xs (i : Int)).f2) ((rd_T44 xs (i : Int)).f3.f0) ((rd_T44 xs (i : Int)).f3.f1) ((rd_T44 xs (i : Int)).f3.f2) ((rd_T44 xs (i : Int)).f4) ((rd_T44 xs (i : Int)).f5) ((rd_T44 xs (i : Int)).f0) ((rd_T44 xs (i : Int)).f1) ((rd_T44 xs (i : Int)).f2) ((rd_T44 xs (i : Int)).f3.f0) ((rd_T44 xs (i : Int)).f3.f1) ((rd_T44 xs (i : Int)).f3.f2) ((rd_T44 xs (i : Int)).f4) ((rd_T44 xs (i : Int)).f5)) (fun k i => laws_eqTermS.l0 k xs xs (i : Int)) (fun k i hi => by
    simp only [laws_eqTermS.l0]
    rw [if_pos (by omega), if_pos (by omega), if_pos (by omega), w1' hi hx]) (fun k => by simp only [laws_eqTermS.l0]; rw [if_neg (by omega)]) (fun i hi => h _ (mem_getD xs z44 i hi)) xs.length 0 (by omega)
theorem eqTerm_ev : ∀ x : S44, SmTerm x → Ev (fun k => laws_eqTerm.f k (x.f0) (x.f1) (x.f2) (x.f3.f0) (x.f3.f1) (x.f3.f2) (x.f4) (x.f5) (x.f0) (x.f1) (x.f2) (x.f3.f0) (x.f3.f1) (x.f3.f2) (x.f4) (x.f5)) true := by
  refine indTermI fun x ih hs => ?_
  refine Ev.up ?_
  simp only [laws_eqTerm.f]
  refine Ev.pos (by simp) ?_
  refine Ev.pos (by simp) ?_
  refine Ev.pos (by simp) ?_
  refine Ev.bind (eqType_ev x.f3 hs.p3) (Ev.pos (by simp) ?_)
  refine Ev.bind (eqStringS_ev x.f4 hs.p4.1) (Ev.pos (by simp) ?_)
  refine Ev.bind (eqTermS_of x.f5 hs.p5.1 (fun y hy => ih y hy (hs.p5.2 y hy))) (Ev.pos (by simp) ?_)
  exact Ev.now _
end Go.Proofs.Ytpkppeicceehcaa.Px
end
