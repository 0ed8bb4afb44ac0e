/- Printed by a program of this session: what functions of the translation come to, each contract as it stands. No condition. -/
import Derived.Test.YtpckkjeapfdilaaDoorZSubstTermSh
import Derived.Test.YtpckkjeapfdilaaDoorZSubstTermPx0M
section
namespace Go.Proofs.YtpckkjeapfdilaaDoor.Px
set_option maxHeartbeats 8000000
set_option maxRecDepth 100000
open Go.RowKit Go.Proofs.YtpckkjeapfdilaaDoor.Ext Go.Proofs.YtpckkjeapfdilaaDoorW.PrintWords Go.Proofs.YtpckkjeapfdilaaDoorW.PrintLast Go.Proofs.YtpckkjeapfdilaaDoorW.PrintMore
attribute [local go_sem] max2_int min2_int max_two min_two max_three min_three max_four min_four   -- for this text's walks alone
set_option linter.unusedVariables false
set_option linter.unusedSimpArgs false

mutual
def laws_eqTerm.f : Nat → Int → ByteArray → Int → Int → List ByteArray → List (S32) → List ByteArray → List (S35) → Int → ByteArray → Int → Int → List ByteArray → List (S32) → List ByteArray → List (S35) → Option (Bool)
 | 0, _, _, _, _, _, _, _, _, _, _, _, _, _, _, _, _ => none
 | k + 1, a0_0, a0_1, a0_2, a0_3, l0_4, l0_5, l0_6, l0_7, a1_0, a1_1, a1_2, a1_3, l1_4, l1_5, l1_6, l1_7 => if a0_0 = a1_0 then (if a0_1.toList = a1_1.toList then (if a0_2 = a1_2 then ((laws_eqType.f k a0_3 l0_4 l0_5 a1_3 l1_4 l1_5).bind fun t550 => (if t550 = true then ((laws_eqStringS.f k l0_6 l1_6).bind fun t551 => (if t551 = true then ((laws_eqTermS.f k l0_7 l1_7).bind fun t552 => (if t552 = true then (some true) else (some false))) else (some false))) else (some false))) else (some false)) else (some false)) else (some false)
def laws_eqTermS.l0 : Nat → List (S35) → List (S35) → Int → Option (Bool)
 | 0, _, _, _ => none
 | k + 1, x0, x1, x5 => if x5 < (x0.length : Int) then (if 0 ≤ x5 then (if x5 < (x1.length : Int) then ((laws_eqTerm.f k ((rd_T35 x0 x5).f0) ((rd_T35 x0 x5).f1) ((rd_T35 x0 x5).f2) ((rd_T35 x0 x5).f3.f0) ((rd_T35 x0 x5).f3.f1) ((rd_T35 x0 x5).f3.f2) ((rd_T35 x0 x5).f4) ((rd_T35 x0 x5).f5) ((rd_T35 x1 x5).f0) ((rd_T35 x1 x5).f1) ((rd_T35 x1 x5).f2) ((rd_T35 x1 x5).f3.f0) ((rd_T35 x1 x5).f3.f1) ((rd_T35 x1 x5).f3.f2) ((rd_T35 x1 x5).f4) ((rd_T35 x1 x5).f5)).bind fun t555 => (if t555 = true then (laws_eqTermS.l0 k x0 x1 (wrap64 (x5 + 1))) else (some false))) else (none)) else (none)) else (some true)
def laws_eqTermS.f : Nat → List (S35) → List (S35) → Option (Bool)
 | 0, _, _ => none
 | k + 1, l0, l1 => if (l0.length : Int) = (l1.length : Int) then (laws_eqTermS.l0 k l0 l1 0) else (some false)
end
abbrev laws_eqTerm.T (k : Nat) : Prop := ∀ (a0_0 : Int) (a0_1 : ByteArray) (a0_2 : Int) (a0_3 : Int) (A0_4 : Option Addr) (c0_4 : Nat) (l0_4 : List ByteArray) (A0_5 : Option Addr) (c0_5 : Nat) (l0_5 : List (S32)) (A0_6 : Option Addr) (c0_6 : Nat) (l0_6 : List ByteArray) (A0_7 : Option Addr) (c0_7 : Nat) (l0_7 : List (S35)) (a1_0 : Int) (a1_1 : ByteArray) (a1_2 : Int) (a1_3 : Int) (A1_4 : Option Addr) (c1_4 : Nat) (l1_4 : List ByteArray) (A1_5 : Option Addr) (c1_5 : Nat) (l1_5 : List (S32)) (A1_6 : Option Addr) (c1_6 : Nat) (l1_6 : List ByteArray) (A1_7 : Option Addr) (c1_7 : Nat) (l1_7 : List (S35)) (r : Bool) (w : World) (hr0_4 : Kd.C Kd.string w A0_4 l0_4.length l0_4) (hc0_4 : l0_4.length ≤ c0_4) (hr0_5 : Kd.C k32 w A0_5 l0_5.length l0_5) (hc0_5 : l0_5.length ≤ c0_5) (hr0_6 : Kd.C Kd.string w A0_6 l0_6.length l0_6) (hc0_6 : l0_6.length ≤ c0_6) (hr0_7 : Kd.C k35 w A0_7 l0_7.length l0_7) (hc0_7 : l0_7.length ≤ c0_7) (hr1_4 : Kd.C Kd.string w A1_4 l1_4.length l1_4) (hc1_4 : l1_4.length ≤ c1_4) (hr1_5 : Kd.C k32 w A1_5 l1_5.length l1_5) (hc1_5 : l1_5.length ≤ c1_5) (hr1_6 : Kd.C Kd.string w A1_6 l1_6.length l1_6) (hc1_6 : l1_6.length ≤ c1_6) (hr1_7 : Kd.C k35 w A1_7 l1_7.length l1_7) (hc1_7 : l1_7.length ≤ c1_7) (h : laws_eqTerm.f k a0_0 a0_1 a0_2 a0_3 l0_4 l0_5 l0_6 l0_7 a1_0 a1_1 a1_2 a1_3 l1_4 l1_5 l1_6 l1_7 = some r),
  Calls Tryd.prog 8 #[.agg #[.int .i64 a0_0, .string a0_1, .int .i64 a0_2, .int .i64 a0_3, .slice A0_4 l0_4.length c0_4, .slice A0_5 l0_5.length c0_5, .slice A0_6 l0_6.length c0_6, .slice A0_7 l0_7.length c0_7], .agg #[.int .i64 a1_0, .string a1_1, .int .i64 a1_2, .int .i64 a1_3, .slice A1_4 l1_4.length c1_4, .slice A1_5 l1_5.length c1_5, .slice A1_6 l1_6.length c1_6, .slice A1_7 l1_7.length c1_7]] w fun e w' => e = .returned (.bool r) ∧ Below w.heap.size w w'
abbrev laws_eqTermS.T (k : Nat) : Prop := ∀ (A0 : Option Addr) (c0 : Nat) (l0 : List (S35)) (A1 : Option Addr) (c1 : Nat) (l1 : List (S35)) (r : Bool) (w : World) (hr0 : Kd.C k35 w A0 l0.length l0) (hc0 : l0.length ≤ c0) (hr1 : Kd.C k35 w A1 l1.length l1) (hc1 : l1.length ≤ c1) (h : laws_eqTermS.f k l0 l1 = some r),
  Calls Tryd.prog 34 #[.slice A0 l0.length c0, .slice A1 l1.length c1] w fun e w' => e = .returned (.bool r) ∧ Below w.heap.size w w'
theorem laws_eqTerm.step (k : Nat) (ih : ∀ m, m < k → laws_eqTerm.T m) (ih_34 : ∀ m, m < k → laws_eqTermS.T m) : laws_eqTerm.T k := by
 intro a0_0 a0_1 a0_2 a0_3 A0_4 c0_4 l0_4 A0_5 c0_5 l0_5 A0_6 c0_6 l0_6 A0_7 c0_7 l0_7 a1_0 a1_1 a1_2 a1_3 A1_4 c1_4 l1_4 A1_5 c1_5 l1_5 A1_6 c1_6 l1_6 A1_7 c1_7 l1_7 r w hr0_4 hc0_4 hr0_5 hc0_5 hr0_6 hc0_6 hr0_7 hc0_7 hr1_4 hc1_4 hr1_5 hc1_5 hr1_6 hc1_6 hr1_7 hc1_7 h
 cases k with
 | zero => exact absurd h (by simp [laws_eqTerm.f])
 | succ k =>
 simp only [laws_eqTerm.f] at h
 have hu35 := Tryd.underlying35
 have hu32 := Tryd.underlying32
 have HR0_4 := am hr0_4
 have HC0_4 := am hc0_4
 clear hr0_4 hc0_4
 have HR0_5 := am hr0_5
 have HC0_5 := am hc0_5
 clear hr0_5 hc0_5
 have HR0_6 := am hr0_6
 have HC0_6 := am hc0_6
 clear hr0_6 hc0_6
 have HR0_7 := am hr0_7
 have HC0_7 := am hc0_7
 clear hr0_7 hc0_7
 have HR1_4 := am hr1_4
 have HC1_4 := am hc1_4
 clear hr1_4 hc1_4
 have HR1_5 := am hr1_5
 have HC1_5 := am hc1_5
 clear hr1_5 hc1_5
 have HR1_6 := am hr1_6
 have HC1_6 := am hc1_6
 clear hr1_6 hc1_6
 have HR1_7 := am hr1_7
 have HC1_7 := am hc1_7
 clear hr1_7 hc1_7
 have HB := am (Below.refl w.heap.size w)
 have H : (if a0_0 = a1_0 then (if a0_1.toList = a1_1.toList then (if a0_2 = a1_2 then ((laws_eqType.f k a0_3 l0_4 l0_5 a1_3 l1_4 l1_5).bind fun t550 => (if t550 = true then ((laws_eqStringS.f k l0_6 l1_6).bind fun t551 => (if t551 = true then ((laws_eqTermS.f k l0_7 l1_7).bind fun t552 => (if t552 = true then (some true) else (some false))) else (some false))) else (some false))) else (some false)) else (some false)) else (some false)) = some r := h
 clear h
 have HC3 := am H
 clear H
 go_enter Tryd.func8, Tryd.ntmps8
 go_upto_if 9 with (first | ((with_reducible refine gate_dst (N := 2) rfl ?_); refine box_event ?hg (N := 2) ?hd (cs := #[.int .i64 a0_0, .string a0_1, .int .i64 a0_2, .int .i64 a0_3, .slice A0_4 l0_4.length c0_4, .slice A0_5 l0_5.length c0_5, .slice A0_6 l0_6.length c0_6, .slice A0_7 l0_7.length c0_7]) (t := 35) ?hr ?_; (case hd => rfl); (case hg => rfl); (case hr => exact hrw); intro gb548 hg w4 hbox hb; have n0_ := am (below_step blw hb); have n1_ := am (hbox); have n2_ := am ((by rw [hg]; exact (below_size blw) : w.heap.size ≤ gb548)); have n3_ := n2_; clear HB; revert n0_ n1_ n2_ n3_; intro HB BK548 GW548 GE548; clear hb hbox hg) | ((with_reducible refine gate_dst (N := 3) rfl ?_); refine box_event ?hg (N := 3) ?hd (cs := #[.int .i64 a1_0, .string a1_1, .int .i64 a1_2, .int .i64 a1_3, .slice A1_4 l1_4.length c1_4, .slice A1_5 l1_5.length c1_5, .slice A1_6 l1_6.length c1_6, .slice A1_7 l1_7.length c1_7]) (t := 35) ?hr ?_; (case hd => rfl); (case hg => rfl); (case hr => exact hrw); intro gb549 hg w5 hbox hb; have n0_ := am (blk_below (g := gb548) bkw hb); have n1_ := am (below_step blw hb); have n2_ := am (hbox); have n3_ := am ((by rw [hg]; exact (below_size blw) : w.heap.size ≤ gb549)); have n4_ := n3_; have n5_ := am ((by rw [hg]; exact Nat.ne_of_lt (blk_lt (g := gb548) bkw) : gb548 ≠ gb549)); have n6_ := am ((by rw [hg]; exact Nat.ne_of_gt (blk_lt (g := gb548) bkw) : gb549 ≠ gb548)); clear BK548; clear HB; revert n0_ n1_ n2_ n3_ n4_ n5_ n6_; intro BK548 HB BK549 GW549 GE549 NB548_549 NB549_548; clear hb hbox hg; have hnb6 := NB548_549.out; have hnc6 := NB549_548.out; obtain ⟨hcz7_0, hcz7_1, hcz7_2, hcz7_3, hcz7_4, hcz7_5, hcz7_6, hcz7_7⟩ := cls8 BK548.out; obtain ⟨hfz7_0, hfz7_1, hfz7_2, hfz7_3, hfz7_4, hfz7_5, hfz7_6, hfz7_7⟩ := frz8 BK548.out; obtain ⟨hcz8_0, hcz8_1, hcz8_2, hcz8_3, hcz8_4, hcz8_5, hcz8_6, hcz8_7⟩ := cls8 BK549.out; obtain ⟨hfz8_0, hfz8_1, hfz8_2, hfz8_3, hfz8_4, hfz8_5, hfz8_6, hfz8_7⟩ := frz8 BK549.out))
 (try clear hcz7_0 hcz7_1 hcz7_2 hcz7_3 hcz7_4 hcz7_5 hcz7_6 hcz7_7); (try clear hcz8_0 hcz8_1 hcz8_2 hcz8_3 hcz8_4 hcz8_5 hcz8_6 hcz8_7); (try clear hfz7_0 hfz7_1 hfz7_2 hfz7_3 hfz7_4 hfz7_5 hfz7_6 hfz7_7); (try clear hfz8_0 hfz8_1 hfz8_2 hfz8_3 hfz8_4 hfz8_5 hfz8_6 hfz8_7)
 have H := HC3.out
 clear HC3
 by_cases c9 : a0_0 = a1_0
 case neg =>
  rw [if_neg c9] at H
  have c9b0 : (a0_0 == a1_0) = false := beq_eq_false_iff_ne.mpr c9
  have c9b1 : (a0_0 != a1_0) = true := bne_iff_ne.mpr c9
  (first | rw [c9b0] | (simp only [i64_w, i32_w]; rw [c9b0]) | (rw [c9b1]; (try simp only [Bool.not_true, Bool.not_false])) | skip)
  obtain rfl := Option.some.inj H
  go_wp2
  go_ret
  exact ⟨rfw, blw⟩
 rw [if_pos c9] at H
 have c9b0 : (a0_0 == a1_0) = true := beq_iff_eq.mpr c9
 have c9b1 : (a0_0 != a1_0) = false := bne_eq_false_iff_eq.mpr c9
 clear c9
 (first | rw [c9b0] | (simp only [i64_w, i32_w]; rw [c9b0]) | (rw [c9b1]; (try simp only [Bool.not_true, Bool.not_false])) | skip)
 by_cases c10 : a0_1.toList = a1_1.toList
 case neg =>
  rw [if_neg c10] at H
  have c10b0 : (a0_1.toList == a1_1.toList) = false := beq_eq_false_iff_ne.mpr c10
  have c10b1 : (a0_1.toList != a1_1.toList) = true := bne_iff_ne.mpr c10
  obtain rfl := Option.some.inj H
  have hnb36 := NB548_549.out
  have hnc36 := NB549_548.out
  obtain ⟨hcz37_0, hcz37_1, hcz37_2, hcz37_3, hcz37_4, hcz37_5, hcz37_6, hcz37_7⟩ := cls8 BK548.out
  obtain ⟨hfz37_0, hfz37_1, hfz37_2, hfz37_3, hfz37_4, hfz37_5, hfz37_6, hfz37_7⟩ := frz8 BK548.out
  obtain ⟨hcz38_0, hcz38_1, hcz38_2, hcz38_3, hcz38_4, hcz38_5, hcz38_6, hcz38_7⟩ := cls8 BK549.out
  obtain ⟨hfz38_0, hfz38_1, hfz38_2, hfz38_3, hfz38_4, hfz38_5, hfz38_6, hfz38_7⟩ := frz8 BK549.out
  go_wp2
  go_ret
  exact ⟨rfw, blw⟩
 rw [if_pos c10] at H
 have c10b0 : (a0_1.toList == a1_1.toList) = true := beq_iff_eq.mpr c10
 have c10b1 : (a0_1.toList != a1_1.toList) = false := bne_eq_false_iff_eq.mpr c10
 clear c10
 have HC11 := am H
 clear H
 have hnb12 := NB548_549.out
 have hnc12 := NB549_548.out
 obtain ⟨hcz13_0, hcz13_1, hcz13_2, hcz13_3, hcz13_4, hcz13_5, hcz13_6, hcz13_7⟩ := cls8 BK548.out
 obtain ⟨hfz13_0, hfz13_1, hfz13_2, hfz13_3, hfz13_4, hfz13_5, hfz13_6, hfz13_7⟩ := frz8 BK548.out
 obtain ⟨hcz14_0, hcz14_1, hcz14_2, hcz14_3, hcz14_4, hcz14_5, hcz14_6, hcz14_7⟩ := cls8 BK549.out
 obtain ⟨hfz14_0, hfz14_1, hfz14_2, hfz14_3, hfz14_4, hfz14_5, hfz14_6, hfz14_7⟩ := frz8 BK549.out
 go_upto_if 19 with (fail)
 have H := HC11.out
 clear HC11
 by_cases c15 : a0_2 = a1_2
 case neg =>
  rw [if_neg c15] at H
  have c15b0 : (a0_2 == a1_2) = false := beq_eq_false_iff_ne.mpr c15
  have c15b1 : (a0_2 != a1_2) = true := bne_iff_ne.mpr c15
  (first | rw [c15b0] | (simp only [i64_w, i32_w]; rw [c15b0]) | (rw [c15b1]; (try simp only [Bool.not_true, Bool.not_false])) | skip)
  obtain rfl := Option.some.inj H
  go_wp2
  go_ret
  exact ⟨rfw, blw⟩
 rw [if_pos c15] at H
 have c15b0 : (a0_2 == a1_2) = true := beq_iff_eq.mpr c15
 have c15b1 : (a0_2 != a1_2) = false := bne_eq_false_iff_eq.mpr c15
 clear c15
 (first | rw [c15b0] | (simp only [i64_w, i32_w]; rw [c15b0]) | (rw [c15b1]; (try simp only [Bool.not_true, Bool.not_false])) | skip)
 replace H := Option.bind_eq_some_iff.mp H
 obtain ⟨t550, A160, H⟩ := H
 replace H : (if t550 = true then ((laws_eqStringS.f k l0_6 l1_6).bind fun t551 => (if t551 = true then ((laws_eqTermS.f k l0_7 l1_7).bind fun t552 => (if t552 = true then (some true) else (some false))) else (some false))) else (some false)) = some r := H
 have A16 := am A160
 clear A160
 have HC17 := am H
 clear H
 have hnb18 := NB548_549.out
 have hnc18 := NB549_548.out
 obtain ⟨hcz19_0, hcz19_1, hcz19_2, hcz19_3, hcz19_4, hcz19_5, hcz19_6, hcz19_7⟩ := cls8 BK548.out
 obtain ⟨hfz19_0, hfz19_1, hfz19_2, hfz19_3, hfz19_4, hfz19_5, hfz19_6, hfz19_7⟩ := frz8 BK548.out
 obtain ⟨hcz20_0, hcz20_1, hcz20_2, hcz20_3, hcz20_4, hcz20_5, hcz20_6, hcz20_7⟩ := cls8 BK549.out
 obtain ⟨hfz20_0, hfz20_1, hfz20_2, hfz20_3, hfz20_4, hfz20_5, hfz20_6, hfz20_7⟩ := frz8 BK549.out
 go_upto_if 25 with (first | ((with_reducible refine gate_callee (f := 32) rfl ?_); refine goesL_ (some 24) rfl rfl Tryd.func32 kr rfl #[.agg #[.int .i64 a0_3, .slice A0_4 l0_4.length c0_4, .slice A0_5 l0_5.length c0_5], .agg #[.int .i64 a1_3, .slice A1_4 l1_4.length c1_4, .slice A1_5 l1_5.length c1_5]] rfl mpw ?_; (with_reducible refine (laws_eqType.calls k a0_3 _ _ l0_4 _ _ l0_5 a1_3 _ _ l1_4 _ _ l1_5 t550 _ ?side1 ?side2 ?side3 ?side4 ?side5 ?side6 ?side7 ?side8 A16.out).mono ?_); (case side1 => have X_ := HR0_4; exact cbl); (case side2 => exact HC0_4.out); (case side3 => have X_ := HR0_5; exact cbl); (case side4 => exact HC0_5.out); (case side5 => have X_ := HR1_4; exact cbl); (case side6 => exact HC1_4.out); (case side7 => have X_ := HR1_5; exact cbl); (case side8 => exact HC1_5.out); rintro e w21 ⟨rfl, hb⟩; refine ⟨_, rfl, ?_⟩; have n0_ := am (blk_below (g := gb548) bkw hb); have n1_ := am (blk_below (g := gb549) bkw hb); have n2_ := am (below_step blw hb); clear BK548; clear BK549; clear HB; revert n0_ n1_ n2_; intro BK548 BK549 HB; (try clear hb); (try clear hb2); (try clear hk); (try clear hi)))
 have H := HC17.out
 clear HC17
 by_cases c22 : t550 = true
 case neg =>
  replace c22 := Bool.eq_false_iff.mpr c22
  subst c22
  have H1 : (some false) = some r := by rw [if_neg (show ¬ (false = true) by decide)] at H; exact H
  clear H
  have H := H1
  clear H1
  obtain rfl := Option.some.inj H
  go_wp2
  go_ret
  exact ⟨rfw, blw⟩
 subst c22
 have H1 : ((laws_eqStringS.f k l0_6 l1_6).bind fun t551 => (if t551 = true then ((laws_eqTermS.f k l0_7 l1_7).bind fun t552 => (if t552 = true then (some true) else (some false))) else (some false))) = some r := by rw [if_pos rfl] at H; exact H
 clear H
 have H := H1
 clear H1
 replace H := Option.bind_eq_some_iff.mp H
 obtain ⟨t551, A230, H⟩ := H
 replace H : (if t551 = true then ((laws_eqTermS.f k l0_7 l1_7).bind fun t552 => (if t552 = true then (some true) else (some false))) else (some false)) = some r := H
 have A23 := am A230
 clear A230
 have HC24 := am H
 clear H
 have hnb25 := NB548_549.out
 have hnc25 := NB549_548.out
 obtain ⟨hcz26_0, hcz26_1, hcz26_2, hcz26_3, hcz26_4, hcz26_5, hcz26_6, hcz26_7⟩ := cls8 BK548.out
 obtain ⟨hfz26_0, hfz26_1, hfz26_2, hfz26_3, hfz26_4, hfz26_5, hfz26_6, hfz26_7⟩ := frz8 BK548.out
 obtain ⟨hcz27_0, hcz27_1, hcz27_2, hcz27_3, hcz27_4, hcz27_5, hcz27_6, hcz27_7⟩ := cls8 BK549.out
 obtain ⟨hfz27_0, hfz27_1, hfz27_2, hfz27_3, hfz27_4, hfz27_5, hfz27_6, hfz27_7⟩ := frz8 BK549.out
 go_upto_if 31 with (first | ((with_reducible refine gate_callee (f := 33) rfl ?_); refine goesL_ (some 30) rfl rfl Tryd.func33 kr rfl #[.slice A0_6 l0_6.length c0_6, .slice A1_6 l1_6.length c1_6] rfl mpw ?_; (with_reducible refine (laws_eqStringS.calls k _ _ l0_6 _ _ l1_6 t551 _ ?side1 ?side2 ?side3 ?side4 A23.out).mono ?_); (case side1 => have X_ := HR0_6; exact cbl); (case side2 => exact HC0_6.out); (case side3 => have X_ := HR1_6; exact cbl); (case side4 => exact HC1_6.out); rintro e w' ⟨rfl, ⟨nd, rfl⟩⟩; refine ⟨_, rfl, ?_⟩))
 have H := HC24.out
 clear HC24
 by_cases c28 : t551 = true
 case neg =>
  replace c28 := Bool.eq_false_iff.mpr c28
  subst c28
  have H1 : (some false) = some r := by rw [if_neg (show ¬ (false = true) by decide)] at H; exact H
  clear H
  have H := H1
  clear H1
  obtain rfl := Option.some.inj H
  go_wp2
  go_ret
  exact ⟨rfw, blw⟩
 subst c28
 have H1 : ((laws_eqTermS.f k l0_7 l1_7).bind fun t552 => (if t552 = true then (some true) else (some false))) = some r := by rw [if_pos rfl] at H; exact H
 clear H
 have H := H1
 clear H1
 replace H := Option.bind_eq_some_iff.mp H
 obtain ⟨t552, A290, H⟩ := H
 replace H : (if t552 = true then (some true) else (some false)) = some r := H
 have A29 := am A290
 clear A290
 have HC30 := am H
 clear H
 have hnb31 := NB548_549.out
 have hnc31 := NB549_548.out
 obtain ⟨hcz32_0, hcz32_1, hcz32_2, hcz32_3, hcz32_4, hcz32_5, hcz32_6, hcz32_7⟩ := cls8 BK548.out
 obtain ⟨hfz32_0, hfz32_1, hfz32_2, hfz32_3, hfz32_4, hfz32_5, hfz32_6, hfz32_7⟩ := frz8 BK548.out
 obtain ⟨hcz33_0, hcz33_1, hcz33_2, hcz33_3, hcz33_4, hcz33_5, hcz33_6, hcz33_7⟩ := cls8 BK549.out
 obtain ⟨hfz33_0, hfz33_1, hfz33_2, hfz33_3, hfz33_4, hfz33_5, hfz33_6, hfz33_7⟩ := frz8 BK549.out
 go_upto_if 37 with (first | ((with_reducible refine gate_callee (f := 34) rfl ?_); refine goesL_ (some 36) rfl rfl Tryd.func34 kr rfl #[.slice A0_7 l0_7.length c0_7, .slice A1_7 l1_7.length c1_7] rfl mpw ?_; (with_reducible refine (ih_34 k (by omega) _ _ l0_7 _ _ l1_7 t552 _ ?side1 ?side2 ?side3 ?side4 A29.out).mono ?_); (case side1 => have X_ := HR0_7; exact cbl); (case side2 => exact HC0_7.out); (case side3 => have X_ := HR1_7; exact cbl); (case side4 => exact HC1_7.out); rintro e w34 ⟨rfl, hb⟩; refine ⟨_, rfl, ?_⟩; have n0_ := am (blk_below (g := gb548) bkw hb); have n1_ := am (blk_below (g := gb549) bkw hb); have n2_ := am (below_step blw hb); clear BK548; clear BK549; clear HB; revert n0_ n1_ n2_; intro BK548 BK549 HB; (try clear hb); (try clear hb2); (try clear hk); (try clear hi)))
 have H := HC30.out
 clear HC30
 by_cases c35 : t552 = true
 ·subst c35
  have H1 : (some true) = some r := by rw [if_pos rfl] at H; exact H
  clear H
  have H := H1
  clear H1
  obtain rfl := Option.some.inj H
  go_wp2
  go_ret
  exact ⟨rfw, blw⟩
 replace c35 := Bool.eq_false_iff.mpr c35
 subst c35
 have H1 : (some false) = some r := by rw [if_neg (show ¬ (false = true) by decide)] at H; exact H
 clear H
 have H := H1
 clear H1
 obtain rfl := Option.some.inj H
 go_wp2
 go_ret
 exact ⟨rfw, blw⟩

def laws_eqTermS.T6 : Bool × List (List Nat × List Nat) := (true, [([], []), ([], []), ([0, 1], [0, 1]), ([2], [2]), ([], []), ([], []), ([4, 5], [4, 5]), ([6], [6]), ([3, 7], [3, 7]), ([8], [8])])
def laws_eqTermS.B6 : List Nat := [0, 0, 3, 7, 0, 0, 48, 112, 255, 511]
theorem laws_eqTermS.tab6 : rtab .any (opsOf Tryd.f34 6) = laws_eqTermS.T6 := by kernel_rfl
theorem laws_eqTermS.bits6 : waitsOk laws_eqTermS.T6.2 laws_eqTermS.B6 = true := by kernel_rfl
theorem laws_eqTermS.step (k : Nat) (ih : ∀ m, m < k → laws_eqTermS.T m) (ih_8 : ∀ m, m < k → laws_eqTerm.T m) : laws_eqTermS.T k := by
 intro A0 c0 l0 A1 c1 l1 r w hr0 hc0 hr1 hc1 h
 cases k with
 | zero => exact absurd h (by simp [laws_eqTermS.f])
 | succ k =>
 simp only [laws_eqTermS.f] at h
 have hu35 := Tryd.underlying35
 have HR0 := am hr0
 have HC0 := am hc0
 clear hr0 hc0
 have HR1 := am hr1
 have HC1 := am hc1
 clear hr1 hc1
 have HB := am (Below.refl w.heap.size w)
 have H : (if (l0.length : Int) = (l1.length : Int) then (laws_eqTermS.l0 k l0 l1 0) else (some false)) = some r := h
 clear h
 by_cases c3 : (l0.length : Int) = (l1.length : Int)
 case neg =>
  rw [if_neg c3] at H
  have c3b0 : ((l0.length : Int) == (l1.length : Int)) = false := beq_eq_false_iff_ne.mpr c3
  have c3b1 : ((l0.length : Int) != (l1.length : Int)) = true := bne_iff_ne.mpr c3
  have c3b2 : (l0.length == l1.length) = false := by first | simpa using c3 | (simp at c3 ⊢; omega)
  obtain rfl := Option.some.inj H
  go_enter Tryd.func34, Tryd.ntmps34
  go_wp2
  go_ret
  exact ⟨rfw, blw⟩
 rw [if_pos c3] at H
 have c3b0 : ((l0.length : Int) == (l1.length : Int)) = true := beq_iff_eq.mpr c3
 have c3b1 : ((l0.length : Int) != (l1.length : Int)) = false := bne_eq_false_iff_eq.mpr c3
 have c3b2 : (l0.length == l1.length) = true := by first | simpa using c3 | (simp at c3 ⊢; omega)
 clear c3
 have H' := am H
 clear H
 go_enter Tryd.func34, Tryd.ntmps34
 go_wp2
 go_loopg [5] k (fun kq v5 w' => ∃ (x5_1 : Int), v5 = .int .i64 x5_1 ∧ Aside0 (laws_eqTermS.l0 kq l0 l1 x5_1 = some r) ∧ Aside0 (kq ≤ k) ∧ Aside0 (Below w.heap.size w w'))
 case atStart => exact ⟨(0), rfs, H', ⟨Nat.le_refl _⟩, ⟨blw⟩⟩
 case round =>
  clear H'
  (try clear c1); (try clear p2); (try clear c3); (try clear c3b0); (try clear c3b1); (try clear c3b2)
  obtain ⟨x5_1, rfl, HA, HK1, HB⟩ := hrel
  cases gk with
  | zero => exact absurd HA.out (by simp [laws_eqTermS.l0])
  | succ k1 =>
   have H := HA.out
   clear HA
   simp only [laws_eqTermS.l0] at H
   by_cases c4 : x5_1 < (l0.length : Int)
   case neg =>
    rw [if_neg c4] at H
    have c4b0 : decide (x5_1 < (l0.length : Int)) = false := decide_eq_false c4
    clear c4
    obtain rfl := Option.some.inj H
    go_wp2
    go_ret
    exact ⟨rfw, blw⟩
   rw [if_pos c4] at H
   have c4b0 : decide (x5_1 < (l0.length : Int)) = true := decide_eq_true c4
   clear c4
   by_cases c5 : 0 ≤ x5_1
   case neg =>
    rw [if_neg c5] at H
    exact absurd H (by simp)
   rw [if_pos c5] at H
   have c5b0 : decide (0 ≤ x5_1) = true := decide_eq_true c5
   clear c5
   by_cases c6 : x5_1 < (l1.length : Int)
   case neg =>
    rw [if_neg c6] at H
    exact absurd H (by simp)
   rw [if_pos c6] at H
   have c6b0 : decide (x5_1 < (l1.length : Int)) = true := decide_eq_true c6
   clear c6
   replace H := Option.bind_eq_some_iff.mp H
   obtain ⟨t555, A70, H⟩ := H
   replace H : (if t555 = true then (laws_eqTermS.l0 k1 l0 l1 (wrap64 (x5_1 + 1))) else (some false)) = some r := H
   have A7 := am A70
   clear A70
   have HC8 := am H
   clear H
   try go_wp2
   have n0_ := am (below_drew1 HB.out)
   clear HB
   revert n0_
   intro HB
   have p553 : 0 ≤ (x5_1 : Int) := of_decide_eq_true asw
   have q553 : x5_1 < (l0.length : Int) := of_decide_eq_true asw
   obtain ⟨ad553, A553_4, c553_4, A553_5, c553_5, A553_6, c553_6, A553_7, c553_7, e553, hx553_0, hx553_1, hx553_2, hx553_3, hx553_4, hx553_5, hx553_6, hx553_7, hl553_4, hi553_4, hl553_5, hi553_5, hl553_6, hi553_6, hl553_7, hi553_7⟩ := at_T35 HR0.out x5_1 p553 q553
   have hw553_7 := hx553_7
   have hw553_6 := hx553_6
   have hw553_5 := hx553_5
   have hw553_4 := hx553_4
   have hw553_3 := hx553_3
   have hw553_2 := hx553_2
   have hw553_1 := hx553_1
   have hw553_0 := hx553_0
   cases e553
   replace hx553_0 := upw HB.out hx553_0
   replace hx553_1 := upw HB.out hx553_1
   replace hx553_2 := upw HB.out hx553_2
   replace hx553_3 := upw HB.out hx553_3
   replace hx553_4 := upw HB.out hx553_4
   replace hx553_5 := upw HB.out hx553_5
   replace hx553_6 := upw HB.out hx553_6
   replace hx553_7 := upw HB.out hx553_7
   have HR553_4 := am hi553_4
   have HC553_4 := am hl553_4
   clear hi553_4 hl553_4
   have HR553_5 := am hi553_5
   have HC553_5 := am hl553_5
   clear hi553_5 hl553_5
   have HR553_6 := am hi553_6
   have HC553_6 := am hl553_6
   clear hi553_6 hl553_6
   have HR553_7 := am hi553_7
   have HC553_7 := am hl553_7
   clear hi553_7 hl553_7
   replace p553 := eq_true p553
   replace q553 := eq_true q553
   have p554 : 0 ≤ (x5_1 : Int) := of_decide_eq_true asw
   have q554 : x5_1 < (l1.length : Int) := of_decide_eq_true asw
   obtain ⟨ad554, A554_4, c554_4, A554_5, c554_5, A554_6, c554_6, A554_7, c554_7, e554, hx554_0, hx554_1, hx554_2, hx554_3, hx554_4, hx554_5, hx554_6, hx554_7, hl554_4, hi554_4, hl554_5, hi554_5, hl554_6, hi554_6, hl554_7, hi554_7⟩ := at_T35 HR1.out x5_1 p554 q554
   have hw554_7 := hx554_7
   have hw554_6 := hx554_6
   have hw554_5 := hx554_5
   have hw554_4 := hx554_4
   have hw554_3 := hx554_3
   have hw554_2 := hx554_2
   have hw554_1 := hx554_1
   have hw554_0 := hx554_0
   cases e554
   replace hx554_0 := upw HB.out hx554_0
   replace hx554_1 := upw HB.out hx554_1
   replace hx554_2 := upw HB.out hx554_2
   replace hx554_3 := upw HB.out hx554_3
   replace hx554_4 := upw HB.out hx554_4
   replace hx554_5 := upw HB.out hx554_5
   replace hx554_6 := upw HB.out hx554_6
   replace hx554_7 := upw HB.out hx554_7
   have HR554_4 := am hi554_4
   have HC554_4 := am hl554_4
   clear hi554_4 hl554_4
   have HR554_5 := am hi554_5
   have HC554_5 := am hl554_5
   clear hi554_5 hl554_5
   have HR554_6 := am hi554_6
   have HC554_6 := am hl554_6
   clear hi554_6 hl554_6
   have HR554_7 := am hi554_7
   have HC554_7 := am hl554_7
   clear hi554_7 hl554_7
   replace p554 := eq_true p554
   replace q554 := eq_true q554
   refine start_ (n := 10) (S := fun w' => w'.cell? (ad553.add ((x5_1).toNat * 8)) = some (.int .i64 ((rd_T35 l0 x5_1).f0)) ∧ w'.cell? ⟨(ad553.add ((x5_1).toNat * 8)).block, (ad553.add ((x5_1).toNat * 8)).off + 1, none⟩ = some (.string ((rd_T35 l0 x5_1).f1)) ∧ w'.cell? ⟨(ad553.add ((x5_1).toNat * 8)).block, (ad553.add ((x5_1).toNat * 8)).off + 2, none⟩ = some (.int .i64 ((rd_T35 l0 x5_1).f2)) ∧ w'.cell? ⟨(ad553.add ((x5_1).toNat * 8)).block, (ad553.add ((x5_1).toNat * 8)).off + 3, none⟩ = some (.int .i64 ((rd_T35 l0 x5_1).f3.f0)) ∧ w'.cell? ⟨(ad553.add ((x5_1).toNat * 8)).block, (ad553.add ((x5_1).toNat * 8)).off + 4, none⟩ = some (.slice A553_4 ((rd_T35 l0 x5_1).f3.f1).length c553_4) ∧ w'.cell? ⟨(ad553.add ((x5_1).toNat * 8)).block, (ad553.add ((x5_1).toNat * 8)).off + 5, none⟩ = some (.slice A553_5 ((rd_T35 l0 x5_1).f3.f2).length c553_5) ∧ w'.cell? ⟨(ad553.add ((x5_1).toNat * 8)).block, (ad553.add ((x5_1).toNat * 8)).off + 6, none⟩ = some (.slice A553_6 ((rd_T35 l0 x5_1).f4).length c553_6) ∧ w'.cell? ⟨(ad553.add ((x5_1).toNat * 8)).block, (ad553.add ((x5_1).toNat * 8)).off + 7, none⟩ = some (.slice A553_7 ((rd_T35 l0 x5_1).f5).length c553_7) ∧ w'.cell? (ad554.add ((x5_1).toNat * 8)) = some (.int .i64 ((rd_T35 l1 x5_1).f0)) ∧ w'.cell? ⟨(ad554.add ((x5_1).toNat * 8)).block, (ad554.add ((x5_1).toNat * 8)).off + 1, none⟩ = some (.string ((rd_T35 l1 x5_1).f1)) ∧ w'.cell? ⟨(ad554.add ((x5_1).toNat * 8)).block, (ad554.add ((x5_1).toNat * 8)).off + 2, none⟩ = some (.int .i64 ((rd_T35 l1 x5_1).f2)) ∧ w'.cell? ⟨(ad554.add ((x5_1).toNat * 8)).block, (ad554.add ((x5_1).toNat * 8)).off + 3, none⟩ = some (.int .i64 ((rd_T35 l1 x5_1).f3.f0)) ∧ w'.cell? ⟨(ad554.add ((x5_1).toNat * 8)).block, (ad554.add ((x5_1).toNat * 8)).off + 4, none⟩ = some (.slice A554_4 ((rd_T35 l1 x5_1).f3.f1).length c554_4) ∧ w'.cell? ⟨(ad554.add ((x5_1).toNat * 8)).block, (ad554.add ((x5_1).toNat * 8)).off + 5, none⟩ = some (.slice A554_5 ((rd_T35 l1 x5_1).f3.f2).length c554_5) ∧ w'.cell? ⟨(ad554.add ((x5_1).toNat * 8)).block, (ad554.add ((x5_1).toNat * 8)).off + 6, none⟩ = some (.slice A554_6 ((rd_T35 l1 x5_1).f4).length c554_6) ∧ w'.cell? ⟨(ad554.add ((x5_1).toNat * 8)).block, (ad554.add ((x5_1).toNat * 8)).off + 7, none⟩ = some (.slice A554_7 ((rd_T35 l1 x5_1).f5).length c554_7)) (ds := []) #[false,false,false,false,false,false,false,false,false,false] kr rfl rfl ⟨((upw HB.out hw553_0 : _)), ((upw HB.out hw553_1 : _)), ((upw HB.out hw553_2 : _)), ((upw HB.out hw553_3 : _)), ((upw HB.out hw553_4 : _)), ((upw HB.out hw553_5 : _)), ((upw HB.out hw553_6 : _)), ((upw HB.out hw553_7 : _)), ((upw HB.out hw554_0 : _)), ((upw HB.out hw554_1 : _)), ((upw HB.out hw554_2 : _)), ((upw HB.out hw554_3 : _)), ((upw HB.out hw554_4 : _)), ((upw HB.out hw554_5 : _)), ((upw HB.out hw554_6 : _)), ((upw HB.out hw554_7 : _))⟩ (fun hHeld => ?_); refine with_tabW laws_eqTermS.tab6 laws_eqTermS.bits6 (fun HT_ HW_ => ?_)
   generalize wr.drew = w9 at HB HR553_4 HR553_5 HR553_6 HR553_7 HR554_4 HR554_5 HR554_6 HR554_7 hx553_0 hx553_1 hx553_2 hx553_3 hx553_4 hx553_5 hx553_6 hx553_7 hx554_0 hx554_1 hx554_2 hx554_3 hx554_4 hx554_5 hx554_6 hx554_7 hHeld ⊢
   refine pure_ (i := 0) (N := some 17) (v := ?_) (a' := ?_) (bm 10 1) rfl rfl (any_of HT_.out kr) qi (Or.inl ⟨by rfl, ?_⟩) ?_ ?_
   rotate_left
   ·intro w'
    go_simp
    with_reducible rfl
   rotate_left
   ·simp only [sx]
    rfl
   refine pure_ (i := 1) (N := some 18) (v := ?_) (a' := ?_) (bm 10 3) rfl rfl (any_of HT_.out kr) qi (Or.inl ⟨by rfl, ?_⟩) ?_ ?_
   rotate_left
   ·intro w'
    go_simp
    with_reducible rfl
   rotate_left
   ·simp only [sx]
    rfl
   refine pure_ (i := 2) (N := some 19) (v := ?_) (a' := ?_) (bm 10 7) rfl rfl (any_of HT_.out kr) qi (Or.inl ⟨by rfl, ?_⟩) ?_ ?_
   rotate_left
   ·intro w'
    go_simp
    with_reducible rfl
   rotate_left
   ·simp only [sx]
    rfl
   refine pure_ (i := 4) (N := some 21) (v := ?_) (a' := ?_) (bm 10 23) rfl rfl (any_of HT_.out kr) qi (Or.inl ⟨by rfl, ?_⟩) ?_ ?_
   rotate_left
   ·intro w'
    go_simp
    with_reducible rfl
   rotate_left
   ·simp only [sx]
    rfl
   refine pure_ (i := 5) (N := some 22) (v := ?_) (a' := ?_) (bm 10 55) rfl rfl (any_of HT_.out kr) qi (Or.inl ⟨by rfl, ?_⟩) ?_ ?_
   rotate_left
   ·intro w'
    go_simp
    with_reducible rfl
   rotate_left
   ·simp only [sx]
    rfl
   refine pure_ (i := 6) (N := some 23) (v := ?_) (a' := ?_) (bm 10 119) rfl rfl (any_of HT_.out kr) qi (Or.inl ⟨by rfl, ?_⟩) ?_ ?_
   rotate_left
   ·intro w'
    go_simp
    with_reducible rfl
   rotate_left
   ·simp only [sx]
    rfl
   refine take_ (i := 3) (N := some 20) (v := ?_) (a' := ?_) (bm 10 127) rfl rfl (take_ofW HT_.out HW_.out kr) qi (Or.inl ⟨by rfl, ?_⟩) hHeld ?_ ?_
   rotate_left
   ·rintro w' ⟨s0, s1, s2, s3, s4, s5, s6, s7, s8, s9, s10, s11, s12, s13, s14, s15⟩
    go_simp
    with_reducible rfl
   rotate_left
   ·simp only [sx]
    rfl
   refine take_ (i := 7) (N := some 24) (v := ?_) (a' := ?_) (bm 10 255) rfl rfl (take_ofW HT_.out HW_.out kr) qi (Or.inl ⟨by rfl, ?_⟩) hHeld ?_ ?_
   rotate_left
   ·rintro w' ⟨s0, s1, s2, s3, s4, s5, s6, s7, s8, s9, s10, s11, s12, s13, s14, s15⟩
    go_simp
    with_reducible rfl
   rotate_left
   ·simp only [sx]
    rfl
   refine one_ (i := 8) (N := some 25) (bm 10 511) rfl rfl (one_of HT_.out kr) (by decide) (fun K hK => ?_)
   refine goes_ Tryd.func8 kr rfl #[.agg #[.int .i64 ((rd_T35 l0 x5_1).f0), .string ((rd_T35 l0 x5_1).f1), .int .i64 ((rd_T35 l0 x5_1).f2), .int .i64 ((rd_T35 l0 x5_1).f3.f0), .slice A553_4 ((rd_T35 l0 x5_1).f3.f1).length c553_4, .slice A553_5 ((rd_T35 l0 x5_1).f3.f2).length c553_5, .slice A553_6 ((rd_T35 l0 x5_1).f4).length c553_6, .slice A553_7 ((rd_T35 l0 x5_1).f5).length c553_7], .agg #[.int .i64 ((rd_T35 l1 x5_1).f0), .string ((rd_T35 l1 x5_1).f1), .int .i64 ((rd_T35 l1 x5_1).f2), .int .i64 ((rd_T35 l1 x5_1).f3.f0), .slice A554_4 ((rd_T35 l1 x5_1).f3.f1).length c554_4, .slice A554_5 ((rd_T35 l1 x5_1).f3.f2).length c554_5, .slice A554_6 ((rd_T35 l1 x5_1).f4).length c554_6, .slice A554_7 ((rd_T35 l1 x5_1).f5).length c554_7]] (by rfl) rfl rfl mpw ?_
   with_reducible refine (ih_8 k1 (by have := HK1.out; omega) ((rd_T35 l0 x5_1).f0) ((rd_T35 l0 x5_1).f1) ((rd_T35 l0 x5_1).f2) ((rd_T35 l0 x5_1).f3.f0) _ _ ((rd_T35 l0 x5_1).f3.f1) _ _ ((rd_T35 l0 x5_1).f3.f2) _ _ ((rd_T35 l0 x5_1).f4) _ _ ((rd_T35 l0 x5_1).f5) ((rd_T35 l1 x5_1).f0) ((rd_T35 l1 x5_1).f1) ((rd_T35 l1 x5_1).f2) ((rd_T35 l1 x5_1).f3.f0) _ _ ((rd_T35 l1 x5_1).f3.f1) _ _ ((rd_T35 l1 x5_1).f3.f2) _ _ ((rd_T35 l1 x5_1).f4) _ _ ((rd_T35 l1 x5_1).f5) t555 _ ?side1 ?side2 ?side3 ?side4 ?side5 ?side6 ?side7 ?side8 ?side9 ?side10 ?side11 ?side12 ?side13 ?side14 ?side15 ?side16 A7.out).mono ?_
   (case side1 => have X_ := HR553_4; exact cbl)
   (case side2 => exact HC553_4.out)
   (case side3 => have X_ := HR553_5; exact cbl)
   (case side4 => exact HC553_5.out)
   (case side5 => have X_ := HR553_6; exact cbl)
   (case side6 => exact HC553_6.out)
   (case side7 => have X_ := HR553_7; exact cbl)
   (case side8 => exact HC553_7.out)
   (case side9 => have X_ := HR554_4; exact cbl)
   (case side10 => exact HC554_4.out)
   (case side11 => have X_ := HR554_5; exact cbl)
   (case side12 => exact HC554_5.out)
   (case side13 => have X_ := HR554_6; exact cbl)
   (case side14 => exact HC554_6.out)
   (case side15 => have X_ := HR554_7; exact cbl)
   (case side16 => exact HC554_7.out)
   rintro e w10 ⟨rfl, hb⟩
   refine ⟨_, rfl, ?_⟩
   have n0_ := am (below_step blw hb)
   clear HB
   revert n0_
   intro HB
   (try clear hb)
   (try clear hb2)
   (try clear hk)
   (try clear hi)
   refine hK.out _ _ ⟨((upw HB.out hw553_0 : _)), ((upw HB.out hw553_1 : _)), ((upw HB.out hw553_2 : _)), ((upw HB.out hw553_3 : _)), ((upw HB.out hw553_4 : _)), ((upw HB.out hw553_5 : _)), ((upw HB.out hw553_6 : _)), ((upw HB.out hw553_7 : _)), ((upw HB.out hw554_0 : _)), ((upw HB.out hw554_1 : _)), ((upw HB.out hw554_2 : _)), ((upw HB.out hw554_3 : _)), ((upw HB.out hw554_4 : _)), ((upw HB.out hw554_5 : _)), ((upw HB.out hw554_6 : _)), ((upw HB.out hw554_7 : _))⟩ (fun hHeld => ?_)
   clear hK K
   refine norm_ (a' := ?_) ?_ ?_
   rotate_left
   ·show Act.put _ (some 25) _ = _
    simp only [sx]
    rfl
   refine pure_ (i := 9) (N := some 26) (v := ?_) (a' := ?_) (bm 10 1023) rfl rfl (any_of HT_.out kr) qi (Or.inl ⟨by rfl, ?_⟩) ?_ ?_
   rotate_left
   ·intro w'
    go_simp
    with_reducible rfl
   rotate_left
   ·simp only [sx]
    rfl
   refine done_ (done_of HT_.out kr) ?_
   go_upto_if 26 with (fail)
   have H := HC8.out
   clear HC8
   by_cases c11 : t555 = true
   case neg =>
    replace c11 := Bool.eq_false_iff.mpr c11
    subst c11
    have H1 : (some false) = some r := by rw [if_neg (show ¬ (false = true) by decide)] at H; exact H
    clear H
    have H := H1
    clear H1
    obtain rfl := Option.some.inj H
    go_wp2
    go_ret
    exact ⟨rfw, blw⟩
   subst c11
   have H1 : (laws_eqTermS.l0 k1 l0 l1 (wrap64 (x5_1 + 1))) = some r := by rw [if_pos rfl] at H; exact H
   clear H
   have H := H1
   clear H1
   have H' := am H
   clear H
   go_wp2
   go_roundg k1
   case measure => have := HK1.out; omega
   case rel => exact ⟨(wrap64 (x5_1 + 1)), rfs, H', ⟨by have := HK1.out; omega⟩, ⟨blw⟩⟩

theorem laws_eqTerm.all (k : Nat) : (laws_eqTerm.T k) ∧ (laws_eqTermS.T k) := by
 induction k using Nat.strongRecOn with
 | _ k ih =>
 exact ⟨laws_eqTerm.step k (fun m hm_ => (ih m hm_).1) (fun m hm_ => (ih m hm_).2), laws_eqTermS.step k (fun m hm_ => (ih m hm_).2) (fun m hm_ => (ih m hm_).1)⟩

theorem laws_eqTerm.calls (k : Nat) : ∀ (a0_0 : Int) (a0_1 : ByteArray) (a0_2 : Int) (a0_3 : Int) (A0_4 : Option Addr) (c0_4 : Nat) (l0_4 : List ByteArray) (A0_5 : Option Addr) (c0_5 : Nat) (l0_5 : List (S32)) (A0_6 : Option Addr) (c0_6 : Nat) (l0_6 : List ByteArray) (A0_7 : Option Addr) (c0_7 : Nat) (l0_7 : List (S35)) (a1_0 : Int) (a1_1 : ByteArray) (a1_2 : Int) (a1_3 : Int) (A1_4 : Option Addr) (c1_4 : Nat) (l1_4 : List ByteArray) (A1_5 : Option Addr) (c1_5 : Nat) (l1_5 : List (S32)) (A1_6 : Option Addr) (c1_6 : Nat) (l1_6 : List ByteArray) (A1_7 : Option Addr) (c1_7 : Nat) (l1_7 : List (S35)) (r : Bool) (w : World) (hr0_4 : Kd.C Kd.string w A0_4 l0_4.length l0_4) (hc0_4 : l0_4.length ≤ c0_4) (hr0_5 : Kd.C k32 w A0_5 l0_5.length l0_5) (hc0_5 : l0_5.length ≤ c0_5) (hr0_6 : Kd.C Kd.string w A0_6 l0_6.length l0_6) (hc0_6 : l0_6.length ≤ c0_6) (hr0_7 : Kd.C k35 w A0_7 l0_7.length l0_7) (hc0_7 : l0_7.length ≤ c0_7) (hr1_4 : Kd.C Kd.string w A1_4 l1_4.length l1_4) (hc1_4 : l1_4.length ≤ c1_4) (hr1_5 : Kd.C k32 w A1_5 l1_5.length l1_5) (hc1_5 : l1_5.length ≤ c1_5) (hr1_6 : Kd.C Kd.string w A1_6 l1_6.length l1_6) (hc1_6 : l1_6.length ≤ c1_6) (hr1_7 : Kd.C k35 w A1_7 l1_7.length l1_7) (hc1_7 : l1_7.length ≤ c1_7) (h : laws_eqTerm.f k a0_0 a0_1 a0_2 a0_3 l0_4 l0_5 l0_6 l0_7 a1_0 a1_1 a1_2 a1_3 l1_4 l1_5 l1_6 l1_7 = some r),
  Calls Tryd.prog 8 #[.agg #[.int .i64 a0_0, .string a0_1, .int .i64 a0_2, .int .i64 a0_3, .slice A0_4 l0_4.length c0_4, .slice A0_5 l0_5.length c0_5, .slice A0_6 l0_6.length c0_6, .slice A0_7 l0_7.length c0_7], .agg #[.int .i64 a1_0, .string a1_1, .int .i64 a1_2, .int .i64 a1_3, .slice A1_4 l1_4.length c1_4, .slice A1_5 l1_5.length c1_5, .slice A1_6 l1_6.length c1_6, .slice A1_7 l1_7.length c1_7]] w fun e w' => e = .returned (.bool r) ∧ Below w.heap.size w w' := (laws_eqTerm.all k).1

end Go.Proofs.YtpckkjeapfdilaaDoor.Px
end
section
namespace Go.Proofs.YtpckkjeapfdilaaDoor.Px
set_option maxHeartbeats 8000000
set_option maxRecDepth 100000
open Go.RowKit Go.Proofs.YtpckkjeapfdilaaDoor.Ext Go.Proofs.YtpckkjeapfdilaaDoorW.PrintWords Go.Proofs.YtpckkjeapfdilaaDoorW.PrintLast Go.Proofs.YtpckkjeapfdilaaDoorW.PrintMore
attribute [local go_sem] max2_int min2_int max_two min_two max_three min_three max_four min_four   -- for this text's walks alone
set_option linter.unusedVariables false
set_option linter.unusedSimpArgs false

def laws_markText.l0 : Nat → Int → ByteArray → Option (ByteArray)
 | 0, _, _ => none
 | k + 1, x0, x3 => if x0 > 0 then ((some (([(wrap64 (48 + (Int.tmod x0 10))) % 256] : List Int) : List Int)).bind fun y556 => (if (strOfNums y556).size + x3.size ≤ 9223372036854775807 then (laws_markText.l0 k (wrap64 (Int.tdiv x0 10)) ((strOfNums y556) ++ x3)) else (none))) else (if 1 + x3.size ≤ 9223372036854775807 then (some ((⟨#[109]⟩ : ByteArray) ++ x3)) else (none))
def laws_markText.f (k : Nat) (a0 : Int) : Option (ByteArray) := if a0 ≤ 0 then (some (⟨#[109, 48]⟩ : ByteArray)) else (laws_markText.l0 k a0 (⟨#[]⟩ : ByteArray))
theorem laws_markText.calls (k : Nat) (a0 : Int) (r : ByteArray) (w : World) (h : laws_markText.f k a0 = some r) :
  Calls Tryd.prog 51 #[.int .i64 a0] w fun e w' => e = .returned (.string r) ∧ Below w.heap.size w w' := by
 have HB := am (Below.refl w.heap.size w)
 have H : (if a0 ≤ 0 then (some (⟨#[109, 48]⟩ : ByteArray)) else (laws_markText.l0 k a0 (⟨#[]⟩ : ByteArray))) = some r := h
 clear h
 by_cases c2 : a0 ≤ 0
 ·rw [if_pos c2] at H
  have c2b0 : decide (a0 ≤ 0) = true := decide_eq_true c2
  clear c2
  obtain rfl := Option.some.inj H
  go_enter Tryd.func51, Tryd.ntmps51
  go_wp2
  go_ret
  exact ⟨rfw, blw⟩
 rw [if_neg c2] at H
 have c2b0 : decide (a0 ≤ 0) = false := decide_eq_false c2
 clear c2
 have H' := am H
 clear H
 go_enter Tryd.func51, Tryd.ntmps51
 go_wp2
 go_loopg [0, 3] k (fun kq v0 v3 w' => ∃ (x0_1 : Int) (x3_1 : ByteArray), v0 = .int .i64 x0_1 ∧ v3 = .string x3_1 ∧ Aside0 (laws_markText.l0 kq x0_1 x3_1 = some r) ∧ Aside0 (kq ≤ k) ∧ Aside0 (Below w.heap.size w w'))
 case atStart => exact ⟨(a0), ((⟨#[]⟩ : ByteArray)), rfs, rfs, H', ⟨Nat.le_refl _⟩, ⟨blw⟩⟩
 case round =>
  clear H'
  (try clear c2); (try clear c2b0); (try clear p2)
  obtain ⟨x0_1, x3_1, rfl, rfl, HA, HK1, HB⟩ := hrel
  cases gk with
  | zero => exact absurd HA.out (by simp [laws_markText.l0])
  | succ k1 =>
   have H := HA.out
   clear HA
   simp only [laws_markText.l0] at H
   by_cases c3 : x0_1 > 0
   case neg =>
    rw [if_neg c3] at H
    have c3b0 : decide (0 < x0_1) = false := decide_eq_false c3
    clear c3
    by_cases c8 : 1 + x3_1.size ≤ 9223372036854775807
    case neg =>
     rw [if_neg c8] at H
     exact absurd H (by simp)
    rw [if_pos c8] at H
    have c8b0 := eq_true c8
    have c8b1 : decide (1 + x3_1.size ≤ 9223372036854775807) = true := decide_eq_true c8
    try have c8b2 : (9223372036854775807 < 1 + x3_1.size) = False := eq_false (Nat.not_lt.2 c8)
    obtain rfl := Option.some.inj H
    go_wp2
    go_ret
    exact ⟨rfw, blw⟩
   rw [if_pos c3] at H
   have c3b0 : decide (0 < x0_1) = true := decide_eq_true c3
   clear c3
   obtain ⟨y556, hy556⟩ : ∃ y_ : List Int, y_ = (([(wrap64 (48 + (Int.tmod x0_1 10))) % 256] : List Int)) := ⟨_, rfl⟩
   replace H : (if (strOfNums y556).size + x3_1.size ≤ 9223372036854775807 then (laws_markText.l0 k1 (wrap64 (Int.tdiv x0_1 10)) ((strOfNums y556) ++ x3_1)) else (none)) = some r := by first | (rw [hy556]; with_reducible exact H) | (have H2_ := (Option.bind_some _ _).symm.trans H; rw [hy556]; with_reducible exact H2_) | (have H2_ := (Option.bind_some _ _).symm.trans H; with_reducible exact H2_) | with_reducible exact H | (rw [hy556]; exact H) | exact H
   have Ny556 := am hy556
   clear hy556
   by_cases c4 : (strOfNums y556).size + x3_1.size ≤ 9223372036854775807
   case neg =>
    rw [if_neg c4] at H
    exact absurd H (by simp)
   rw [if_pos c4] at H
   have c4b0 := eq_true c4
   have c4b1 : decide ((strOfNums y556).size + x3_1.size ≤ 9223372036854775807) = true := decide_eq_true c4
   try have c4b2 : (9223372036854775807 < (strOfNums y556).size + x3_1.size) = False := eq_false (Nat.not_lt.2 c4)
   have H' := am H
   clear H
   go_wp2_with (first | ((with_reducible refine gate_dst (N := 12) rfl ?_); refine Kd.R_lit (Kd.int .u8) _ 5 ?hg (N := 12) ?hd (xs := ([(wrap64 (48 + (Int.tmod x0_1 10))) % 256] : List Int)) (inner := [.int .u8 ((wrap64 (48 + (Int.tmod x0_1 10))) % 256)]) (ok := fun _ => True) (okp := fun _ => True) ?hr ?hp (fun _ hk => hk) trivial (Below.refl _ _) (Nat.le_refl _) (by simp) ?_; (case hd => rfl); (case hg => rfl); (case hr => exact hrw); (case hp => exact (Reps.one (show Kd.M (Kd.int .u8) _ _ _ ((wrap64 (48 + (Int.tmod x0_1 10))) % 256) [.int .u8 ((wrap64 (48 + (Int.tmod x0_1 10))) % 256)] from rfl) (Reps.none _ _))); intro v557 w5 ho6 hb hg_ hnew_; clear hg_ hnew_; (first | rw [← Ny556.out] at ho6 | (simp only [Int.reduceToNat] at ho6; rw [← Ny556.out] at ho6)); have n0_ := am (Kd.R_lower ho6 (below_size blw)); have n1_ := am (below_step blw hb); clear HB; revert n0_ n1_; intro HO558 HB; clear hb ho6; have hcv7 := own_string (P := Tryd.prog) Tryd.underlying71 Tryd.underlying5 Tryd.underlying9 (Kd.own_of_R HO558.out)))
   go_roundg k1
   case measure => have := HK1.out; omega
   case rel => exact ⟨(wrap64 (Int.tdiv x0_1 10)), ((strOfNums y556) ++ x3_1), rfs, rfs, H', ⟨by have := HK1.out; omega⟩, ⟨blw⟩⟩

def laws_markStringS.l0 : Nat → List ByteArray → Int → Int → Option (Int × List ByteArray)
 | 0, _, _, _ => none
 | k + 1, x0, x1, x5 => if x5 < (x0.length : Int) then ((laws_markText.f k x1).bind fun t559 => (if 0 ≤ x5 then (laws_markStringS.l0 k (x0.set (x5 : Int).toNat t559) (wrap64 (x1 + 1)) (wrap64 (x5 + 1))) else (none))) else (some (x1, x0))
def laws_markStringS.f (k : Nat) (l0 : List ByteArray) (a1 : Int) : Option (Int × List ByteArray) := laws_markStringS.l0 k l0 a1 0
theorem laws_markStringS.calls (k : Nat) (P0_ : Nat → Prop) (u9000_ : Value) (l0 : List ByteArray) (a1 : Int) (r1 : Int) (r2 : List ByteArray) (w0 w : World) (hB : Below w0.heap.size w0 w) (ho0 : Kd.R Kd.string 9 w w0.heap.size P0_ u9000_ l0) (h : laws_markStringS.f k l0 a1 = some (r1, r2)) :
  Calls Tryd.prog 36 #[u9000_, .int .i64 a1] w fun e w' => e = .returned (.int .i64 r1) ∧ Kd.R Kd.string 9 w' w0.heap.size (fun k_ => (P0_ k_ ∨ w.heap.size ≤ k_)) u9000_ r2 ∧ Below w0.heap.size w0 w' ∧ Kept w w' (fun k_ => P0_ k_) := by
 have HO0 := am (show Kd.R Kd.string 9 w w0.heap.size (fun k_ => (P0_ k_ ∨ w.heap.size ≤ k_)) u9000_ l0 from Kd.R_mono ho0 (fun k_ hk => (.inl hk)))
 have HK := am (Kept.refl w (fun k_ => P0_ k_))
 have HW0 := am hB.size
 have HB := am hB
 clear hB
 have H : (laws_markStringS.l0 k l0 a1 0) = some (r1, r2) := h
 clear h
 have H' := am H
 clear H
 go_enter Tryd.func36, Tryd.ntmps36
 go_wp2
 go_loopg [1, 5] k (fun kq v1 v5 w' => ∃ (x0_1 : List ByteArray) (x1_1 : Int) (x5_1 : Int), v1 = .int .i64 x1_1 ∧ v5 = .int .i64 x5_1 ∧ Aside0 (laws_markStringS.l0 kq x0_1 x1_1 x5_1 = some (r1, r2)) ∧ Aside0 (kq ≤ k) ∧ Aside0 (Kd.R Kd.string 9 w' w0.heap.size (fun k_ => (P0_ k_ ∨ w.heap.size ≤ k_)) u9000_ x0_1) ∧ Aside0 (Kept w w' (fun k_ => P0_ k_)) ∧ Aside0 (Below w0.heap.size w0 w'))
 case atStart => exact ⟨(l0), (a1), (0), rfs, rfs, H', ⟨Nat.le_refl _⟩, ⟨by (with_reducible repeat (first | apply Kd.R_alloc | apply Kd.R_drewN | apply Kd.R_drew)); exact HO0.out⟩, ⟨by repeat (first | (with_reducible first | exact HK.out | apply Kept.alloc | apply Kept.drewN | apply Kept.drew) | exact HK.out)⟩, ⟨blw⟩⟩
 case round =>
  clear H'
  try clear p2
  obtain ⟨x0_1, x1_1, x5_1, rfl, rfl, HA, HK1, HO_0, HK, HB⟩ := hrel
  cases gk with
  | zero => exact absurd HA.out (by simp [laws_markStringS.l0])
  | succ k1 =>
   have H := HA.out
   clear HA
   simp only [laws_markStringS.l0] at H
   by_cases c3 : x5_1 < (x0_1.length : Int)
   case neg =>
    rw [if_neg c3] at H
    have c3b0 : decide (x5_1 < (x0_1.length : Int)) = false := decide_eq_false c3
    clear c3
    simp only [Option.some.injEq, Prod.mk.injEq] at H
    obtain ⟨rfl, rfl⟩ := H
    obtain ⟨Ao11, co11, eo11⟩ := Kd.R_slice HO_0.out
    subst eo11
    go_wp2
    go_ret
    exact ⟨rfw, by (with_reducible repeat (first | apply Kd.R_alloc | apply Kd.R_drewN | apply Kd.R_drew)); exact HO_0.out, blw, by repeat (first | (with_reducible first | exact HK.out | apply Kept.alloc | apply Kept.drewN | apply Kept.drew) | exact HK.out)⟩
   rw [if_pos c3] at H
   have c3b0 : decide (x5_1 < (x0_1.length : Int)) = true := decide_eq_true c3
   clear c3
   replace H := Option.bind_eq_some_iff.mp H
   obtain ⟨t559, A40, H⟩ := H
   replace H : (if 0 ≤ x5_1 then (laws_markStringS.l0 k1 (x0_1.set (x5_1 : Int).toNat t559) (wrap64 (x1_1 + 1)) (wrap64 (x5_1 + 1))) else (none)) = some (r1, r2) := H
   have A4 := am A40
   clear A40
   by_cases c5 : 0 ≤ x5_1
   case neg =>
    rw [if_neg c5] at H
    exact absurd H (by simp)
   rw [if_pos c5] at H
   have c5b0 : decide (0 ≤ x5_1) = true := decide_eq_true c5
   clear c5
   obtain ⟨y560, hy560⟩ : ∃ y_ : List ByteArray, y_ = (x0_1.set (x5_1 : Int).toNat t559) := ⟨_, rfl⟩
   replace H : (laws_markStringS.l0 k1 y560 (wrap64 (x1_1 + 1)) (wrap64 (x5_1 + 1))) = some (r1, r2) := by first | (rw [hy560]; with_reducible exact H) | (have H2_ := (Option.bind_some _ _).symm.trans H; rw [hy560]; with_reducible exact H2_) | (have H2_ := (Option.bind_some _ _).symm.trans H; with_reducible exact H2_) | with_reducible exact H | (rw [hy560]; exact H) | exact H
   have Ny560 := am hy560
   clear hy560
   have H' := am H
   clear H
   obtain ⟨Ao7, co7, eo7⟩ := Kd.R_slice HO_0.out
   subst eo7
   go_wp2_with (first | ((with_reducible refine gate_callee (f := 51) rfl ?_); refine goesL_ (some 15) rfl rfl Tryd.func51 kr rfl #[.int .i64 x1_1] rfl mpw ?_; (with_reducible refine (laws_markText.calls k1 x1_1 t559 _ A4.out).mono ?_); rintro e w8 ⟨rfl, hb⟩; refine ⟨_, rfl, ?_⟩; have n0_ := am (Kd.R_below (by (with_reducible repeat (first | apply Kd.R_alloc | apply Kd.R_drewN | apply Kd.R_drew)); exact HO_0.out) hb); have n1_ := am (Kept.below (S := (fun k_ => P0_ k_)) (by repeat (first | (with_reducible first | exact HK.out | apply Kept.alloc | apply Kept.drewN | apply Kept.drew) | exact HK.out)) hb); have n2_ := am (below_step blw hb); clear HO_0; clear HK; clear HB; revert n0_ n1_ n2_; intro HO_0 HK HB; (try clear hb); (try clear hb2); (try clear hk); (try clear hi); have p6 : 0 ≤ (x5_1 : Int) := of_decide_eq_true asw; have q6 : (x5_1 : Int) < ((x0_1.length : Int) : Int) := of_decide_eq_true asw; obtain ⟨go6, co6, eo6, gb6, gl6, cl6, HG6⟩ := Kd.R_form HO_0.out (by omega); (first | cases eo6 | (injection eo6 with ea_ en_ ec_; (first | subst ea_ | (injection ea_ with ea_; subst ea_)); subst ec_; clear en_)); have GB6 := am gb6; have GG6 := am HG6; clear gb6 gl6 HG6; have HMgo6 := am (show (P0_ go6 ∨ w.heap.size ≤ go6) from (HO_0.out.1 _ rfl)); obtain ⟨hx6_0, hf6_0⟩ := Kd.R_celln (⟨#[]⟩ : ByteArray) HO_0.out (x5_1 : Int) p6 q6; replace p6 := eq_true p6; replace q6 := eq_true q6; obtain ⟨hy9_, hz9_⟩ := Kd.R_celln (⟨#[]⟩ : ByteArray) HO_0.out (x5_1 : Int) (of_decide_eq_true asw) (of_decide_eq_true asw); have HP9 := Kd.R_putg HO_0.out (x5_1 : Int) t559) | ((with_reducible refine gate_store (t := 9) (p := 16) rfl ?_); refine store_event (t := 9) (p := 16) (v := ?vo_w10) (w1 := (w8.setCell ⟨go6, (x5_1 : Int).toNat, none⟩ (.string t559))) ?hg ?ho ?hn ?hr ?_; (case ho => rfl); (case hg => rfl); (case hn => rfl); (case hr => exact hrw); intro w10 hw; have hg : w8.grownBy w10 (some go6) := (by rw [hw]; exact HP9.2); have hp_ : Kd.R Kd.string 9 w10 w0.heap.size (fun k_ => (P0_ k_ ∨ w.heap.size ≤ k_)) (.slice (some ⟨go6, 0, none⟩) x0_1.length co7) y560 := (by rw [hw, Ny560.out]; exact HP9.1); clear HP9; have n0_ := am (hp_); have n1_ := am ((by rw [hw]; exact below_set (HB.out) GB6.out : Below w0.heap.size w0 w10)); have n2_ := am (Kept.of_grown (S := (fun k_ => P0_ k_)) hg (by repeat (first | (with_reducible first | exact HK.out | apply Kept.alloc | apply Kept.drewN | apply Kept.drew) | exact HK.out)) (fun k_ e_ => (HO_0.out.1 k_ e_))); clear HO_0; clear HB; clear HK; revert n0_ n1_ n2_; intro HO_0 HB HK; clear hg hw hp_))
   go_roundg k1
   case measure => have := HK1.out; omega
   case rel => exact ⟨(y560), (wrap64 (x1_1 + 1)), (wrap64 (x5_1 + 1)), rfs, rfs, H', ⟨by have := HK1.out; omega⟩, ⟨by (with_reducible repeat (first | apply Kd.R_alloc | apply Kd.R_drewN | apply Kd.R_drew)); exact HO_0.out⟩, ⟨by repeat (first | (with_reducible first | exact HK.out | apply Kept.alloc | apply Kept.drewN | apply Kept.drew) | exact HK.out)⟩, ⟨blw⟩⟩





def laws_heldStringS.l0 : Nat → List ByteArray → Int → Int → Option (Int)
 | 0, _, _, _ => none
 | k + 1, x0, x1, x5 => if x5 < (x0.length : Int) then (if 0 ≤ x5 then ((laws_markText.f k x1).bind fun t566 => (if (rdOf ByteArray.empty x0 x5).toList = t566.toList then (laws_heldStringS.l0 k x0 (wrap64 (x1 + 1)) (wrap64 (x5 + 1))) else (some (-1)))) else (none)) else (some x1)
def laws_heldStringS.f (k : Nat) (l0 : List ByteArray) (a1 : Int) : Option (Int) := laws_heldStringS.l0 k l0 a1 0
theorem laws_heldStringS.calls (k : Nat) (A0 : Option Addr) (c0 : Nat) (l0 : List ByteArray) (a1 : Int) (r : Int) (w : World) (hr0 : Kd.C Kd.string w A0 l0.length l0) (hc0 : l0.length ≤ c0) (h : laws_heldStringS.f k l0 a1 = some r) :
  Calls Tryd.prog 39 #[.slice A0 l0.length c0, .int .i64 a1] w fun e w' => e = .returned (.int .i64 r) ∧ Below w.heap.size w w' := by
 have HR0 := am hr0
 have HC0 := am hc0
 clear hr0 hc0
 have HB := am (Below.refl w.heap.size w)
 have H : (laws_heldStringS.l0 k l0 a1 0) = some r := h
 clear h
 have H' := am H
 clear H
 go_enter Tryd.func39, Tryd.ntmps39
 go_wp2
 go_loopg [1, 5] k (fun kq v1 v5 w' => ∃ (x1_1 : Int) (x5_1 : Int), v1 = .int .i64 x1_1 ∧ v5 = .int .i64 x5_1 ∧ Aside0 (laws_heldStringS.l0 kq l0 x1_1 x5_1 = some r) ∧ Aside0 (kq ≤ k) ∧ Aside0 (Below w.heap.size w w'))
 case atStart => exact ⟨(a1), (0), rfs, rfs, H', ⟨Nat.le_refl _⟩, ⟨blw⟩⟩
 case round =>
  clear H'
  try clear p2
  obtain ⟨x1_1, x5_1, rfl, rfl, HA, HK1, HB⟩ := hrel
  cases gk with
  | zero => exact absurd HA.out (by simp [laws_heldStringS.l0])
  | succ k1 =>
   have H := HA.out
   clear HA
   simp only [laws_heldStringS.l0] at H
   by_cases c3 : x5_1 < (l0.length : Int)
   case neg =>
    rw [if_neg c3] at H
    have c3b0 : decide (x5_1 < (l0.length : Int)) = false := decide_eq_false c3
    clear c3
    obtain rfl := Option.some.inj H
    go_wp2
    go_ret
    exact ⟨rfw, blw⟩
   rw [if_pos c3] at H
   have c3b0 : decide (x5_1 < (l0.length : Int)) = true := decide_eq_true c3
   clear c3
   by_cases c4 : 0 ≤ x5_1
   case neg =>
    rw [if_neg c4] at H
    exact absurd H (by simp)
   rw [if_pos c4] at H
   have c4b0 : decide (0 ≤ x5_1) = true := decide_eq_true c4
   clear c4
   replace H := Option.bind_eq_some_iff.mp H
   obtain ⟨t566, A50, H⟩ := H
   replace H : (if (rdOf ByteArray.empty l0 x5_1).toList = t566.toList then (laws_heldStringS.l0 k1 l0 (wrap64 (x1_1 + 1)) (wrap64 (x5_1 + 1))) else (some (-1))) = some r := H
   have A5 := am A50
   clear A50
   have HC6 := am H
   clear H
   try go_wp2
   have n0_ := am (below_drew1 HB.out)
   clear HB
   revert n0_
   intro HB
   have p565 : 0 ≤ (x5_1 : Int) := of_decide_eq_true asw
   have q565 : x5_1 < (l0.length : Int) := of_decide_eq_true asw
   obtain ⟨ad565, e565, hx565_0⟩ := Kd.at_string HR0.out x5_1 p565 q565
   have hw565_0 := hx565_0
   cases e565
   replace hx565_0 := upw HB.out hx565_0
   replace p565 := eq_true p565
   replace q565 := eq_true q565
   refine start_ (n := 7) (S := fun w' => w'.cell? (ad565.add (x5_1).toNat) = some (.string (rdOf ByteArray.empty l0 x5_1))) (ds := []) #[false,false,false,false,false,false,false] kr rfl rfl (((upw HB.out hw565_0 : _))) (fun hHeld => ?_)
   generalize wr.drew = w7 at HB hx565_0 hHeld ⊢
   refine pure_ (i := 0) (N := some 12) (v := ?_) (a' := ?_) (bm 7 1) rfl rfl kr qi (Or.inl ⟨by rfl, ?_⟩) ?_ ?_
   rotate_left
   ·intro w'
    go_simp
    with_reducible rfl
   rotate_left
   ·simp only [sx]
    rfl
   refine pure_ (i := 1) (N := some 13) (v := ?_) (a' := ?_) (bm 7 3) rfl rfl kr qi (Or.inl ⟨by rfl, ?_⟩) ?_ ?_
   rotate_left
   ·intro w'
    go_simp
    with_reducible rfl
   rotate_left
   ·simp only [sx]
    rfl
   refine pure_ (i := 2) (N := some 14) (v := ?_) (a' := ?_) (bm 7 7) rfl rfl kr qi (Or.inl ⟨by rfl, ?_⟩) ?_ ?_
   rotate_left
   ·intro w'
    go_simp
    with_reducible rfl
   rotate_left
   ·simp only [sx]
    rfl
   refine pure_ (i := 4) (N := some 16) (v := ?_) (a' := ?_) (bm 7 23) rfl rfl kr qi (Or.inl ⟨by rfl, ?_⟩) ?_ ?_
   rotate_left
   ·intro w'
    go_simp
    with_reducible rfl
   rotate_left
   ·simp only [sx]
    rfl
   refine take_ (i := 3) (N := some 15) (v := ?_) (a' := ?_) (bm 7 31) rfl rfl kr qi (Or.inl ⟨by rfl, ?_⟩) hHeld ?_ ?_
   rotate_left
   ·intro w' s0
    go_simp
    with_reducible rfl
   rotate_left
   ·simp only [sx]
    rfl
   refine one_ (i := 5) (N := some 17) (bm 7 63) rfl rfl kr (by decide) (fun K hK => ?_)
   refine goes_ Tryd.func51 kr rfl #[.int .i64 x1_1] (by rfl) rfl rfl mpw ?_
   with_reducible refine (laws_markText.calls k1 x1_1 t566 _ A5.out).mono ?_
   rintro e w8 ⟨rfl, hb⟩
   refine ⟨_, rfl, ?_⟩
   have n0_ := am (below_step blw hb)
   clear HB
   revert n0_
   intro HB
   (try clear hb)
   (try clear hb2)
   (try clear hk)
   (try clear hi)
   refine hK.out _ _ (((upw HB.out hw565_0 : _))) (fun hHeld => ?_)
   clear hK K
   refine norm_ (a' := ?_) ?_ ?_
   rotate_left
   ·show Act.put _ (some 17) _ = _
    simp only [sx]
    rfl
   refine pure_ (i := 6) (N := some 18) (v := ?_) (a' := ?_) (bm 7 127) rfl rfl kr qi (Or.inl ⟨by rfl, ?_⟩) ?_ ?_
   rotate_left
   ·intro w'
    go_simp
    with_reducible rfl
   rotate_left
   ·simp only [sx]
    rfl
   refine done_ kr ?_
   go_upto_if 18 with (fail)
   have H := HC6.out
   clear HC6
   by_cases c9 : (rdOf ByteArray.empty l0 x5_1).toList = t566.toList
   case neg =>
    rw [if_neg c9] at H
    have c9b0 : ((rdOf ByteArray.empty l0 x5_1).toList == t566.toList) = false := beq_eq_false_iff_ne.mpr c9
    have c9b1 : ((rdOf ByteArray.empty l0 x5_1).toList != t566.toList) = true := bne_iff_ne.mpr c9
    (first | rw [c9b0] | (simp only [i64_w, i32_w]; rw [c9b0]) | (rw [c9b1]; (try simp only [Bool.not_true, Bool.not_false])) | skip)
    obtain rfl := Option.some.inj H
    go_wp2
    go_ret
    exact ⟨rfw, blw⟩
   rw [if_pos c9] at H
   have c9b0 : ((rdOf ByteArray.empty l0 x5_1).toList == t566.toList) = true := beq_iff_eq.mpr c9
   have c9b1 : ((rdOf ByteArray.empty l0 x5_1).toList != t566.toList) = false := bne_eq_false_iff_eq.mpr c9
   clear c9
   (first | rw [c9b0] | (simp only [i64_w, i32_w]; rw [c9b0]) | (rw [c9b1]; (try simp only [Bool.not_true, Bool.not_false])) | skip)
   have H' := am H
   clear H
   go_wp2
   go_roundg k1
   case measure => have := HK1.out; omega
   case rel => exact ⟨(wrap64 (x1_1 + 1)), (wrap64 (x5_1 + 1)), rfs, rfs, H', ⟨by have := HK1.out; omega⟩, ⟨blw⟩⟩

mutual
def laws_heldTypeS.l0 : Nat → List (S32) → Int → Int → Option (Int)
 | 0, _, _, _ => none
 | k + 1, x0, x1, x5 => if x5 < (x0.length : Int) then (if 0 ≤ x5 then (if ((rd_T32 x0 x5).f0) = x1 then ((laws_heldStringS.f k ((rd_T32 x0 x5).f1) (wrap64 (x1 + 1))).bind fun t569 => (if t569 < 0 then (some (-1)) else ((laws_heldTypeS.f k ((rd_T32 x0 x5).f2) t569).bind fun t571 => (if t571 < 0 then (some (-1)) else (laws_heldTypeS.l0 k x0 t571 (wrap64 (x5 + 1))))))) else (some (-1))) else (none)) else (some x1)
def laws_heldTypeS.f : Nat → List (S32) → Int → Option (Int)
 | 0, _, _ => none
 | k + 1, l0, a1 => laws_heldTypeS.l0 k l0 a1 0
end
theorem laws_heldTypeS.calls (k : Nat) : ∀ (A0 : Option Addr) (c0 : Nat) (l0 : List (S32)) (a1 : Int) (r : Int) (w : World) (hr0 : Kd.C k32 w A0 l0.length l0) (hc0 : l0.length ≤ c0) (h : laws_heldTypeS.f k l0 a1 = some r),
  Calls Tryd.prog 52 #[.slice A0 l0.length c0, .int .i64 a1] w fun e w' => e = .returned (.int .i64 r) ∧ Below w.heap.size w w' := by
 induction k using Nat.strongRecOn with
 | _ k ih =>
 intro A0 c0 l0 a1 r w hr0 hc0 h
 cases k with
 | zero => exact absurd h (by simp [laws_heldTypeS.f])
 | succ k =>
 simp only [laws_heldTypeS.f] at h
 have HR0 := am hr0
 have HC0 := am hc0
 clear hr0 hc0
 have HB := am (Below.refl w.heap.size w)
 have H : (laws_heldTypeS.l0 k l0 a1 0) = some r := h
 clear h
 have H' := am H
 clear H
 go_enter Tryd.func52, Tryd.ntmps52
 go_wp2
 go_loopg [1, 5] k (fun kq v1 v5 w' => ∃ (x1_1 : Int) (x5_1 : Int), v1 = .int .i64 x1_1 ∧ v5 = .int .i64 x5_1 ∧ Aside0 (laws_heldTypeS.l0 kq l0 x1_1 x5_1 = some r) ∧ Aside0 (kq ≤ k) ∧ Aside0 (Below w.heap.size w w'))
 case atStart => exact ⟨(a1), (0), rfs, rfs, H', ⟨Nat.le_refl _⟩, ⟨blw⟩⟩
 case round =>
  clear H'
  try clear p2
  obtain ⟨x1_1, x5_1, rfl, rfl, HA, HK1, HB⟩ := hrel
  cases gk with
  | zero => exact absurd HA.out (by simp [laws_heldTypeS.l0])
  | succ k1 =>
   have H := HA.out
   clear HA
   simp only [laws_heldTypeS.l0] at H
   by_cases c3 : x5_1 < (l0.length : Int)
   case neg =>
    rw [if_neg c3] at H
    have c3b0 : decide (x5_1 < (l0.length : Int)) = false := decide_eq_false c3
    clear c3
    obtain rfl := Option.some.inj H
    go_wp2
    go_ret
    exact ⟨rfw, blw⟩
   rw [if_pos c3] at H
   have c3b0 : decide (x5_1 < (l0.length : Int)) = true := decide_eq_true c3
   clear c3
   by_cases c4 : 0 ≤ x5_1
   case neg =>
    rw [if_neg c4] at H
    exact absurd H (by simp)
   rw [if_pos c4] at H
   have c4b0 : decide (0 ≤ x5_1) = true := decide_eq_true c4
   clear c4
   by_cases c5 : ((rd_T32 l0 x5_1).f0) = x1_1
   case neg =>
    rw [if_neg c5] at H
    have c5b0 : (((rd_T32 l0 x5_1).f0) == x1_1) = false := beq_eq_false_iff_ne.mpr c5
    have c5b1 : (((rd_T32 l0 x5_1).f0) != x1_1) = true := bne_iff_ne.mpr c5
    obtain rfl := Option.some.inj H
    have p567 : 0 ≤ (x5_1 : Int) := of_decide_eq_true asw
    have q567 : x5_1 < (l0.length : Int) := of_decide_eq_true asw
    obtain ⟨ad567, A567_1, c567_1, A567_2, c567_2, e567, hx567_0, hx567_1, hx567_2, hl567_1, hi567_1, hl567_2, hi567_2⟩ := at_T32 HR0.out x5_1 p567 q567
    cases e567
    replace hx567_0 := upw HB.out hx567_0
    replace hx567_1 := upw HB.out hx567_1
    replace hx567_2 := upw HB.out hx567_2
    have HR567_1 := am hi567_1
    have HC567_1 := am hl567_1
    clear hi567_1 hl567_1
    have HR567_2 := am hi567_2
    have HC567_2 := am hl567_2
    clear hi567_2 hl567_2
    replace p567 := eq_true p567
    replace q567 := eq_true q567
    go_wp2
    go_ret
    exact ⟨rfw, blw⟩
   rw [if_pos c5] at H
   have c5b0 : (((rd_T32 l0 x5_1).f0) == x1_1) = true := beq_iff_eq.mpr c5
   have c5b1 : (((rd_T32 l0 x5_1).f0) != x1_1) = false := bne_eq_false_iff_eq.mpr c5
   clear c5
   replace H := Option.bind_eq_some_iff.mp H
   obtain ⟨t569, A60, H⟩ := H
   replace H : (if t569 < 0 then (some (-1)) else ((laws_heldTypeS.f k1 ((rd_T32 l0 x5_1).f2) t569).bind fun t571 => (if t571 < 0 then (some (-1)) else (laws_heldTypeS.l0 k1 l0 t571 (wrap64 (x5_1 + 1)))))) = some r := H
   have A6 := am A60
   clear A60
   have HC7 := am H
   clear H
   have p567 : 0 ≤ (x5_1 : Int) := of_decide_eq_true asw
   have q567 : x5_1 < (l0.length : Int) := of_decide_eq_true asw
   obtain ⟨ad567, A567_1, c567_1, A567_2, c567_2, e567, hx567_0, hx567_1, hx567_2, hl567_1, hi567_1, hl567_2, hi567_2⟩ := at_T32 HR0.out x5_1 p567 q567
   cases e567
   replace hx567_0 := upw HB.out hx567_0
   replace hx567_1 := upw HB.out hx567_1
   replace hx567_2 := upw HB.out hx567_2
   have HR567_1 := am hi567_1
   have HC567_1 := am hl567_1
   clear hi567_1 hl567_1
   have HR567_2 := am hi567_2
   have HC567_2 := am hl567_2
   clear hi567_2 hl567_2
   replace p567 := eq_true p567
   replace q567 := eq_true q567
   have p568 : 0 ≤ (x5_1 : Int) := of_decide_eq_true asw
   have q568 : x5_1 < (l0.length : Int) := of_decide_eq_true asw
   obtain ⟨ad568, A568_1, c568_1, A568_2, c568_2, e568, hx568_0, hx568_1, hx568_2, hl568_1, hi568_1, hl568_2, hi568_2⟩ := at_T32 HR0.out x5_1 p568 q568
   obtain rfl : ad567 = ad568 := (by injection e568)
   replace hx568_0 := upw HB.out hx568_0
   replace hx568_1 := upw HB.out hx568_1
   replace hx568_2 := upw HB.out hx568_2
   have HR568_1 := am hi568_1
   have HC568_1 := am hl568_1
   clear hi568_1 hl568_1
   have HR568_2 := am hi568_2
   have HC568_2 := am hl568_2
   clear hi568_2 hl568_2
   replace p568 := eq_true p568
   replace q568 := eq_true q568
   have ea_ := Option.some.inj (hx567_1.symm.trans hx568_1)
   injection ea_ with ea_ en_ ec_
   subst ea_
   subst ec_
   clear en_
   have ea_ := Option.some.inj (hx567_2.symm.trans hx568_2)
   injection ea_ with ea_ en_ ec_
   subst ea_
   subst ec_
   clear en_
   go_upto_if 29 with (first | ((with_reducible refine gate_callee (f := 39) rfl ?_); refine goesL_ (some 27) rfl rfl Tryd.func39 kr rfl #[.slice A567_1 ((rd_T32 l0 x5_1).f1).length c567_1, .int .i64 (wrap64 (x1_1 + 1))] rfl mpw ?_; (with_reducible refine (laws_heldStringS.calls k1 _ _ ((rd_T32 l0 x5_1).f1) (wrap64 (x1_1 + 1)) t569 _ ?side1 ?side2 A6.out).mono ?_); (case side1 => have X_ := HR568_1; exact cbl); (case side2 => exact HC568_1.out); rintro e w8 ⟨rfl, hb⟩; refine ⟨_, rfl, ?_⟩; have n0_ := am (below_step blw hb); clear HB; revert n0_; intro HB; (try clear hb); (try clear hb2); (try clear hk); (try clear hi)))
   have H := HC7.out
   clear HC7
   by_cases c9 : t569 < 0
   ·rw [if_pos c9] at H
    have c9b0 : decide (t569 < 0) = true := decide_eq_true c9
    clear c9
    (first | rw [c9b0] | (simp only [i64_w, i32_w]; rw [c9b0]) | skip)
    obtain rfl := Option.some.inj H
    go_wp2
    go_ret
    exact ⟨rfw, blw⟩
   rw [if_neg c9] at H
   have c9b0 : decide (t569 < 0) = false := decide_eq_false c9
   clear c9
   (first | rw [c9b0] | (simp only [i64_w, i32_w]; rw [c9b0]) | skip)
   replace H := Option.bind_eq_some_iff.mp H
   obtain ⟨t571, A100, H⟩ := H
   replace H : (if t571 < 0 then (some (-1)) else (laws_heldTypeS.l0 k1 l0 t571 (wrap64 (x5_1 + 1)))) = some r := H
   have A10 := am A100
   clear A100
   have HC11 := am H
   clear H
   have p570 : 0 ≤ (x5_1 : Int) := of_decide_eq_true asw
   have q570 : x5_1 < (l0.length : Int) := of_decide_eq_true asw
   obtain ⟨ad570, A570_1, c570_1, A570_2, c570_2, e570, hx570_0, hx570_1, hx570_2, hl570_1, hi570_1, hl570_2, hi570_2⟩ := at_T32 HR0.out x5_1 p570 q570
   obtain rfl : ad567 = ad570 := (by injection e570)
   replace hx570_0 := upw HB.out hx570_0
   replace hx570_1 := upw HB.out hx570_1
   replace hx570_2 := upw HB.out hx570_2
   have HR570_1 := am hi570_1
   have HC570_1 := am hl570_1
   clear hi570_1 hl570_1
   have HR570_2 := am hi570_2
   have HC570_2 := am hl570_2
   clear hi570_2 hl570_2
   replace p570 := eq_true p570
   replace q570 := eq_true q570
   go_upto_if 38 with (first | ((with_reducible refine gate_callee (f := 52) rfl ?_); refine goesL_ (some 36) rfl rfl Tryd.func52 kr rfl #[.slice A570_2 ((rd_T32 l0 x5_1).f2).length c570_2, .int .i64 t569] rfl mpw ?_; (with_reducible refine (ih k1 (by have := HK1.out; omega) _ _ ((rd_T32 l0 x5_1).f2) t569 t571 _ ?side1 ?side2 A10.out).mono ?_); (case side1 => have X_ := HR570_2; exact cbl); (case side2 => exact HC570_2.out); rintro e w12 ⟨rfl, hb⟩; refine ⟨_, rfl, ?_⟩; have n0_ := am (below_step blw hb); clear HB; revert n0_; intro HB; (try clear hb); (try clear hb2); (try clear hk); (try clear hi)))
   have H := HC11.out
   clear HC11
   by_cases c13 : t571 < 0
   ·rw [if_pos c13] at H
    have c13b0 : decide (t571 < 0) = true := decide_eq_true c13
    clear c13
    (first | rw [c13b0] | (simp only [i64_w, i32_w]; rw [c13b0]) | skip)
    obtain rfl := Option.some.inj H
    go_wp2
    go_ret
    exact ⟨rfw, blw⟩
   rw [if_neg c13] at H
   have c13b0 : decide (t571 < 0) = false := decide_eq_false c13
   clear c13
   (first | rw [c13b0] | (simp only [i64_w, i32_w]; rw [c13b0]) | skip)
   have H' := am H
   clear H
   go_wp2
   go_roundg k1
   case measure => have := HK1.out; omega
   case rel => exact ⟨(t571), (wrap64 (x5_1 + 1)), rfs, rfs, H', ⟨by have := HK1.out; omega⟩, ⟨blw⟩⟩

end Go.Proofs.YtpckkjeapfdilaaDoor.Px
end
section
namespace Go.Proofs.YtpckkjeapfdilaaDoor.Px
open Go.RowKit Go.Proofs.YtpckkjeapfdilaaDoor.Ext Go.Proofs.YtpckkjeapfdilaaDoorW.PrintWords Go.Proofs.YtpckkjeapfdilaaDoorW.PrintLast Go.Proofs.YtpckkjeapfdilaaDoorW.PrintMore
attribute [local go_sem] max2_int min2_int max_two min_two max_three min_three max_four min_four   -- for this text's walks alone
set_option linter.unusedVariables false
set_option linter.unusedSimpArgs false

def laws_heldType.f (k : Nat) (a0_0 : Int) (l0_1 : List ByteArray) (l0_2 : List (S32)) (a1 : Int) : Option (Int) := (laws_heldStringS.f k l0_1 a1).bind fun t573 => (if t573 < 0 then (some (-1)) else ((laws_heldTypeS.f k l0_2 t573).bind fun t574 => (if t574 < 0 then (some (-1)) else (some t574))))
set_option maxHeartbeats 8000000 in
set_option maxRecDepth 100000 in
theorem laws_heldType.calls (k : Nat) (a0_0 : Int) (A0_1 : Option Addr) (c0_1 : Nat) (l0_1 : List ByteArray) (A0_2 : Option Addr) (c0_2 : Nat) (l0_2 : List (S32)) (a1 : Int) (r : Int) (w : World) (hr0_1 : Kd.C Kd.string w A0_1 l0_1.length l0_1) (hc0_1 : l0_1.length ≤ c0_1) (hr0_2 : Kd.C k32 w A0_2 l0_2.length l0_2) (hc0_2 : l0_2.length ≤ c0_2) (h : laws_heldType.f k a0_0 l0_1 l0_2 a1 = some r) :
  Calls Tryd.prog 38 #[.agg #[.int .i64 a0_0, .slice A0_1 l0_1.length c0_1, .slice A0_2 l0_2.length c0_2], .int .i64 a1] w fun e w' => e = .returned (.int .i64 r) ∧ Below w.heap.size w w' := by
 have hu32 := Tryd.underlying32
 have HR0_1 := am hr0_1
 have HC0_1 := am hc0_1
 clear hr0_1 hc0_1
 have HR0_2 := am hr0_2
 have HC0_2 := am hc0_2
 clear hr0_2 hc0_2
 have HB := am (Below.refl w.heap.size w)
 have H : ((laws_heldStringS.f k l0_1 a1).bind fun t573 => (if t573 < 0 then (some (-1)) else ((laws_heldTypeS.f k l0_2 t573).bind fun t574 => (if t574 < 0 then (some (-1)) else (some t574))))) = some r := h
 clear h
 replace H := Option.bind_eq_some_iff.mp H
 obtain ⟨t573, A30, H⟩ := H
 replace H : (if t573 < 0 then (some (-1)) else ((laws_heldTypeS.f k l0_2 t573).bind fun t574 => (if t574 < 0 then (some (-1)) else (some t574)))) = some r := H
 have A3 := am A30
 clear A30
 have HC4 := am H
 clear H
 go_enter Tryd.func38, Tryd.ntmps38
 go_upto_if 10 with (first | ((with_reducible refine gate_dst (N := 2) rfl ?_); refine box_event ?hg (N := 2) ?hd (cs := #[.int .i64 a0_0, .slice A0_1 l0_1.length c0_1, .slice A0_2 l0_2.length c0_2]) (t := 32) ?hr ?_; (case hd => rfl); (case hg => rfl); (case hr => exact hrw); intro gb572 hg w5 hbox hb; have n0_ := am (below_step blw hb); have n1_ := am (hbox); have n2_ := am ((by rw [hg]; exact (below_size blw) : w.heap.size ≤ gb572)); have n3_ := n2_; clear HB; revert n0_ n1_ n2_ n3_; intro HB BK572 GW572 GE572; clear hb hbox hg; obtain ⟨hcz6_0, hcz6_1, hcz6_2⟩ := cls3 BK572.out; obtain ⟨hfz6_0, hfz6_1, hfz6_2⟩ := frz3 BK572.out) | ((with_reducible refine gate_callee (f := 39) rfl ?_); refine goesL_ (some 8) rfl rfl Tryd.func39 kr rfl #[.slice A0_1 l0_1.length c0_1, .int .i64 a1] rfl mpw ?_; (with_reducible refine (laws_heldStringS.calls k _ _ l0_1 a1 t573 _ ?side1 ?side2 A3.out).mono ?_); (case side1 => have X_ := HR0_1; exact cbl); (case side2 => exact HC0_1.out); rintro e w7 ⟨rfl, hb⟩; refine ⟨_, rfl, ?_⟩; have n0_ := am (blk_below (g := gb572) bkw hb); have n1_ := am (below_step blw hb); clear BK572; clear HB; revert n0_ n1_; intro BK572 HB; (try clear hb); (try clear hb2); (try clear hk); (try clear hi)))
 have H := HC4.out
 clear HC4
 by_cases c8 : t573 < 0
 ·rw [if_pos c8] at H
  have c8b0 : decide (t573 < 0) = true := decide_eq_true c8
  clear c8
  (first | rw [c8b0] | (simp only [i64_w, i32_w]; rw [c8b0]) | skip)
  obtain rfl := Option.some.inj H
  go_wp2
  go_ret
  exact ⟨rfw, blw⟩
 rw [if_neg c8] at H
 have c8b0 : decide (t573 < 0) = false := decide_eq_false c8
 clear c8
 (first | rw [c8b0] | (simp only [i64_w, i32_w]; rw [c8b0]) | skip)
 replace H := Option.bind_eq_some_iff.mp H
 obtain ⟨t574, A90, H⟩ := H
 replace H : (if t574 < 0 then (some (-1)) else (some t574)) = some r := H
 have A9 := am A90
 clear A90
 have HC10 := am H
 clear H
 obtain ⟨hcz11_0, hcz11_1, hcz11_2⟩ := cls3 BK572.out
 obtain ⟨hfz11_0, hfz11_1, hfz11_2⟩ := frz3 BK572.out
 go_upto_if 16 with (first | ((with_reducible refine gate_callee (f := 52) rfl ?_); refine goesL_ (some 14) rfl rfl Tryd.func52 kr rfl #[.slice A0_2 l0_2.length c0_2, .int .i64 t573] rfl mpw ?_; (with_reducible refine (laws_heldTypeS.calls k _ _ l0_2 t573 t574 _ ?side1 ?side2 A9.out).mono ?_); (case side1 => have X_ := HR0_2; exact cbl); (case side2 => exact HC0_2.out); rintro e w12 ⟨rfl, hb⟩; refine ⟨_, rfl, ?_⟩; have n0_ := am (blk_below (g := gb572) bkw hb); have n1_ := am (below_step blw hb); clear BK572; clear HB; revert n0_ n1_; intro BK572 HB; (try clear hb); (try clear hb2); (try clear hk); (try clear hi)))
 have H := HC10.out
 clear HC10
 by_cases c13 : t574 < 0
 ·rw [if_pos c13] at H
  have c13b0 : decide (t574 < 0) = true := decide_eq_true c13
  clear c13
  (first | rw [c13b0] | (simp only [i64_w, i32_w]; rw [c13b0]) | skip)
  obtain rfl := Option.some.inj H
  go_wp2
  go_ret
  exact ⟨rfw, blw⟩
 rw [if_neg c13] at H
 have c13b0 : decide (t574 < 0) = false := decide_eq_false c13
 clear c13
 (first | rw [c13b0] | (simp only [i64_w, i32_w]; rw [c13b0]) | skip)
 obtain rfl := Option.some.inj H
 go_wp2
 go_ret
 exact ⟨rfw, blw⟩

end Go.Proofs.YtpckkjeapfdilaaDoor.Px
end
