/- Printed by a program of this session: what functions of the translation come to, each contract as it stands. No condition. -/
import Derived.Test.YtfbecaplnigmaaaZIsDBSh
import Derived.Test.YtfbecaplnigmaaaZIsDBPx0M
import Derived.Test.YtfbecaplnigmaaaZIsDBPx18
import Derived.Test.YtfbecaplnigmaaaZIsDBPx19
namespace Go.Proofs.Ytfbecaplnigmaaa.Px
set_option maxHeartbeats 8000000
set_option maxRecDepth 100000
open Go.RowKit Go.Proofs.Ytfbecaplnigmaaa.Ext Go.Proofs.YtfbecaplnigmaaaW.PrintWords Go.Proofs.YtfbecaplnigmaaaW.PrintLast Go.Proofs.YtfbecaplnigmaaaW.PrintMore
attribute [local go_sem] max2_int min2_int max_two min_two max_three min_three max_four min_four   -- for this text's walks alone
set_option linter.unusedVariables false
set_option linter.unusedSimpArgs false

/-! ### impl_HasType: function 21 -/
def impl_HasType.f (k : Nat) (a0_0 : Int) (a0_1 : Int) (l0_2 : List ByteArray) (l0_3 : List (S56)) (a1_0 : Int) (l1_1 : List ByteArray) (l1_2 : List (S51)) : Option (Bool) := (impl_IsData.f k a1_0 l1_1 l1_2).bind fun t362 => (if t362 = true then ((impl_SizeOfValue.f k a0_0 a0_1 l0_2 l0_3).bind fun t363 => (if t363 ≤ 2000 then ((impl_fits.f k a0_0 a0_1 l0_2 l0_3 a1_0 l1_1 l1_2).bind fun t364 => (some t364)) else (some false))) else (some false))
theorem impl_HasType.calls (k : Nat) (a0_0 : Int) (a0_1 : Int) (A0_2 : Option Addr) (c0_2 : Nat) (l0_2 : List ByteArray) (A0_3 : Option Addr) (c0_3 : Nat) (l0_3 : List (S56)) (a1_0 : Int) (A1_1 : Option Addr) (c1_1 : Nat) (l1_1 : List ByteArray) (A1_2 : Option Addr) (c1_2 : Nat) (l1_2 : List (S51)) (r : Bool) (w : World) (hr0_2 : Kd.C Kd.string w A0_2 l0_2.length l0_2) (hc0_2 : l0_2.length ≤ c0_2) (hr0_3 : Kd.C k56 w A0_3 l0_3.length l0_3) (hc0_3 : l0_3.length ≤ c0_3) (hr1_1 : Kd.C Kd.string w A1_1 l1_1.length l1_1) (hc1_1 : l1_1.length ≤ c1_1) (hr1_2 : Kd.C k51 w A1_2 l1_2.length l1_2) (hc1_2 : l1_2.length ≤ c1_2) (h : impl_HasType.f k a0_0 a0_1 l0_2 l0_3 a1_0 l1_1 l1_2 = some r) :
  Calls Try.prog 21 #[.agg #[.int .i64 a0_0, .int .i64 a0_1, .slice A0_2 l0_2.length c0_2, .slice A0_3 l0_3.length c0_3], .agg #[.int .i64 a1_0, .slice A1_1 l1_1.length c1_1, .slice A1_2 l1_2.length c1_2]] w fun e w' => e = .returned (.bool r) ∧ Below w.heap.size w w' := by
 have hu56 := Try.underlying56
 have hu51 := Try.underlying51
 have HR0_2 := Aside0.mk hr0_2
 have HC0_2 := Aside0.mk hc0_2
 clear hr0_2 hc0_2
 have HR0_3 := Aside0.mk hr0_3
 have HC0_3 := Aside0.mk hc0_3
 clear hr0_3 hc0_3
 have HR1_1 := Aside0.mk hr1_1
 have HC1_1 := Aside0.mk hc1_1
 clear hr1_1 hc1_1
 have HR1_2 := Aside0.mk hr1_2
 have HC1_2 := Aside0.mk hc1_2
 clear hr1_2 hc1_2
 have HB := Aside0.mk (Below.refl w.heap.size w)
 have H : ((impl_IsData.f k a1_0 l1_1 l1_2).bind fun t362 => (if t362 = true then ((impl_SizeOfValue.f k a0_0 a0_1 l0_2 l0_3).bind fun t363 => (if t363 ≤ 2000 then ((impl_fits.f k a0_0 a0_1 l0_2 l0_3 a1_0 l1_1 l1_2).bind fun t364 => (some t364)) else (some false))) else (some false))) = some r := h
 clear h
 replace H := Option.bind_eq_some_iff.mp H
 obtain ⟨t362, A30, H⟩ := H
 replace H : (if t362 = true then ((impl_SizeOfValue.f k a0_0 a0_1 l0_2 l0_3).bind fun t363 => (if t363 ≤ 2000 then ((impl_fits.f k a0_0 a0_1 l0_2 l0_3 a1_0 l1_1 l1_2).bind fun t364 => (some t364)) else (some false))) else (some false)) = some r := H
 have A3 := Aside0.mk A30
 clear A30
 by_cases c4 : t362 = true
 case neg =>
  replace c4 := Bool.eq_false_iff.mpr c4
  subst c4
  have H1 : (some false) = some r := by rw [if_neg (show ¬ (false = true) by decide)] at H; exact H
  clear H
  have H := H1
  clear H1
  obtain rfl := Option.some.inj H
  go_enter Try.func21, Try.ntmps21
  go_wp2_with (first | ((with_reducible refine gate_dst (N := 2) rfl ?_); refine box_event ?hg (N := 2) ?hd (cs := #[.int .i64 a0_0, .int .i64 a0_1, .slice A0_2 l0_2.length c0_2, .slice A0_3 l0_3.length c0_3]) (t := 56) ?hr ?_; (case hd => rfl); (case hg => rfl); (case hr => exact hrw); intro gb360 hg w23 hbox hb; have n0_ := Aside0.mk (below_step blw hb); have n1_ := Aside0.mk (hbox); have n2_ := Aside0.mk ((by rw [hg]; exact (below_size blw) : w.heap.size ≤ gb360)); have n3_ := n2_; clear HB; revert n0_ n1_ n2_ n3_; intro HB BK360 GW360 GE360; clear hb hbox hg) | ((with_reducible refine gate_dst (N := 3) rfl ?_); refine box_event ?hg (N := 3) ?hd (cs := #[.int .i64 a1_0, .slice A1_1 l1_1.length c1_1, .slice A1_2 l1_2.length c1_2]) (t := 51) ?hr ?_; (case hd => rfl); (case hg => rfl); (case hr => exact hrw); intro gb361 hg w24 hbox hb; have n0_ := Aside0.mk (blk_below (g := gb360) (o := .cells #[.int .i64 a0_0, .int .i64 a0_1, .slice A0_2 l0_2.length c0_2, .slice A0_3 l0_3.length c0_3] 56 (0, 0)) bkw hb); have n1_ := Aside0.mk (below_step blw hb); have n2_ := Aside0.mk (hbox); have n3_ := Aside0.mk ((by rw [hg]; exact (below_size blw) : w.heap.size ≤ gb361)); have n4_ := n3_; have n5_ := Aside0.mk ((by rw [hg]; exact Nat.ne_of_lt (blk_lt (g := gb360) (o := .cells #[.int .i64 a0_0, .int .i64 a0_1, .slice A0_2 l0_2.length c0_2, .slice A0_3 l0_3.length c0_3] 56 (0, 0)) bkw) : gb360 ≠ gb361)); have n6_ := Aside0.mk ((by rw [hg]; exact Nat.ne_of_gt (blk_lt (g := gb360) (o := .cells #[.int .i64 a0_0, .int .i64 a0_1, .slice A0_2 l0_2.length c0_2, .slice A0_3 l0_3.length c0_3] 56 (0, 0)) bkw) : gb361 ≠ gb360)); clear BK360; clear HB; revert n0_ n1_ n2_ n3_ n4_ n5_ n6_; intro BK360 HB BK361 GW361 GE361 NB360_361 NB361_360; clear hb hbox hg; have hnb25 := NB361_360.out; have hnc25 := NB360_361.out; obtain ⟨hcz26_0, hcz26_1, hcz26_2⟩ := cls3 BK361.out; obtain ⟨hfz26_0, hfz26_1, hfz26_2⟩ := frz3 BK361.out) | ((with_reducible refine gate_callee (f := 37) rfl ?_); refine goesL_ (some 6) rfl rfl Try.func37 kr rfl #[.agg #[.int .i64 a1_0, .slice A1_1 l1_1.length c1_1, .slice A1_2 l1_2.length c1_2]] rfl mpw ?_; (with_reducible refine (impl_IsData.calls k a1_0 _ _ l1_1 _ _ l1_2 false _ ?side1 ?side2 ?side3 ?side4 A3.out).mono ?_); (case side1 => have X_ := HR1_1; exact cbl); (case side2 => exact HC1_1.out); (case side3 => have X_ := HR1_2; exact cbl); (case side4 => exact HC1_2.out); rintro e w27 ⟨rfl, hb⟩; refine ⟨_, rfl, ?_⟩; have n0_ := Aside0.mk (blk_below (g := gb360) (o := .cells #[.int .i64 a0_0, .int .i64 a0_1, .slice A0_2 l0_2.length c0_2, .slice A0_3 l0_3.length c0_3] 56 (0, 0)) bkw hb); have n1_ := Aside0.mk (blk_below (g := gb361) (o := .cells #[.int .i64 a1_0, .slice A1_1 l1_1.length c1_1, .slice A1_2 l1_2.length c1_2] 51 (0, 0)) bkw hb); have n2_ := Aside0.mk (below_step blw hb); clear BK360; clear BK361; clear HB; revert n0_ n1_ n2_; intro BK360 BK361 HB; (try clear hb); (try clear hb2); (try clear hk); (try clear hi)))
  go_ret
  exact ⟨rfw, blw⟩
 subst c4
 have H1 : ((impl_SizeOfValue.f k a0_0 a0_1 l0_2 l0_3).bind fun t363 => (if t363 ≤ 2000 then ((impl_fits.f k a0_0 a0_1 l0_2 l0_3 a1_0 l1_1 l1_2).bind fun t364 => (some t364)) else (some false))) = some r := by rw [if_pos rfl] at H; exact H
 clear H
 have H := H1
 clear H1
 replace H := Option.bind_eq_some_iff.mp H
 obtain ⟨t363, A50, H⟩ := H
 replace H : (if t363 ≤ 2000 then ((impl_fits.f k a0_0 a0_1 l0_2 l0_3 a1_0 l1_1 l1_2).bind fun t364 => (some t364)) else (some false)) = some r := H
 have A5 := Aside0.mk A50
 clear A50
 by_cases c6 : t363 ≤ 2000
 case neg =>
  rw [if_neg c6] at H
  have c6b0 : decide (t363 ≤ 2000) = false := decide_eq_false c6
  clear c6
  obtain rfl := Option.some.inj H
  go_enter Try.func21, Try.ntmps21
  go_wp2_with (first | ((with_reducible refine gate_dst (N := 2) rfl ?_); refine box_event ?hg (N := 2) ?hd (cs := #[.int .i64 a0_0, .int .i64 a0_1, .slice A0_2 l0_2.length c0_2, .slice A0_3 l0_3.length c0_3]) (t := 56) ?hr ?_; (case hd => rfl); (case hg => rfl); (case hr => exact hrw); intro gb360 hg w16 hbox hb; have n0_ := Aside0.mk (below_step blw hb); have n1_ := Aside0.mk (hbox); have n2_ := Aside0.mk ((by rw [hg]; exact (below_size blw) : w.heap.size ≤ gb360)); have n3_ := n2_; clear HB; revert n0_ n1_ n2_ n3_; intro HB BK360 GW360 GE360; clear hb hbox hg) | ((with_reducible refine gate_dst (N := 3) rfl ?_); refine box_event ?hg (N := 3) ?hd (cs := #[.int .i64 a1_0, .slice A1_1 l1_1.length c1_1, .slice A1_2 l1_2.length c1_2]) (t := 51) ?hr ?_; (case hd => rfl); (case hg => rfl); (case hr => exact hrw); intro gb361 hg w17 hbox hb; have n0_ := Aside0.mk (blk_below (g := gb360) (o := .cells #[.int .i64 a0_0, .int .i64 a0_1, .slice A0_2 l0_2.length c0_2, .slice A0_3 l0_3.length c0_3] 56 (0, 0)) bkw hb); have n1_ := Aside0.mk (below_step blw hb); have n2_ := Aside0.mk (hbox); have n3_ := Aside0.mk ((by rw [hg]; exact (below_size blw) : w.heap.size ≤ gb361)); have n4_ := n3_; have n5_ := Aside0.mk ((by rw [hg]; exact Nat.ne_of_lt (blk_lt (g := gb360) (o := .cells #[.int .i64 a0_0, .int .i64 a0_1, .slice A0_2 l0_2.length c0_2, .slice A0_3 l0_3.length c0_3] 56 (0, 0)) bkw) : gb360 ≠ gb361)); have n6_ := Aside0.mk ((by rw [hg]; exact Nat.ne_of_gt (blk_lt (g := gb360) (o := .cells #[.int .i64 a0_0, .int .i64 a0_1, .slice A0_2 l0_2.length c0_2, .slice A0_3 l0_3.length c0_3] 56 (0, 0)) bkw) : gb361 ≠ gb360)); clear BK360; clear HB; revert n0_ n1_ n2_ n3_ n4_ n5_ n6_; intro BK360 HB BK361 GW361 GE361 NB360_361 NB361_360; clear hb hbox hg; have hnb18 := NB361_360.out; have hnc18 := NB360_361.out; obtain ⟨hcz19_0, hcz19_1, hcz19_2⟩ := cls3 BK361.out; obtain ⟨hfz19_0, hfz19_1, hfz19_2⟩ := frz3 BK361.out) | ((with_reducible refine gate_callee (f := 37) rfl ?_); refine goesL_ (some 6) rfl rfl Try.func37 kr rfl #[.agg #[.int .i64 a1_0, .slice A1_1 l1_1.length c1_1, .slice A1_2 l1_2.length c1_2]] rfl mpw ?_; (with_reducible refine (impl_IsData.calls k a1_0 _ _ l1_1 _ _ l1_2 true _ ?side1 ?side2 ?side3 ?side4 A3.out).mono ?_); (case side1 => have X_ := HR1_1; exact cbl); (case side2 => exact HC1_1.out); (case side3 => have X_ := HR1_2; exact cbl); (case side4 => exact HC1_2.out); rintro e w20 ⟨rfl, hb⟩; refine ⟨_, rfl, ?_⟩; have n0_ := Aside0.mk (blk_below (g := gb360) (o := .cells #[.int .i64 a0_0, .int .i64 a0_1, .slice A0_2 l0_2.length c0_2, .slice A0_3 l0_3.length c0_3] 56 (0, 0)) bkw hb); have n1_ := Aside0.mk (blk_below (g := gb361) (o := .cells #[.int .i64 a1_0, .slice A1_1 l1_1.length c1_1, .slice A1_2 l1_2.length c1_2] 51 (0, 0)) bkw hb); have n2_ := Aside0.mk (below_step blw hb); clear BK360; clear BK361; clear HB; revert n0_ n1_ n2_; intro BK360 BK361 HB; (try clear hb); (try clear hb2); (try clear hk); (try clear hi); obtain ⟨hcz21_0, hcz21_1, hcz21_2, hcz21_3⟩ := cls4 BK360.out; obtain ⟨hfz21_0, hfz21_1, hfz21_2, hfz21_3⟩ := frz4 BK360.out) | (go_at_call 38; (with_reducible refine (impl_SizeOfValue.calls k a0_0 a0_1 _ _ l0_2 _ _ l0_3 t363 _ ?side1 ?side2 ?side3 ?side4 A5.out).mono ?_); (case side1 => have X_ := HR0_2; exact cbl); (case side2 => exact HC0_2.out); (case side3 => have X_ := HR0_3; exact cbl); (case side4 => exact HC0_3.out); rintro e w22 ⟨rfl, hb⟩; have n0_ := Aside0.mk (blk_below (g := gb360) (o := .cells #[.int .i64 a0_0, .int .i64 a0_1, .slice A0_2 l0_2.length c0_2, .slice A0_3 l0_3.length c0_3] 56 (0, 0)) bkw hb); have n1_ := Aside0.mk (blk_below (g := gb361) (o := .cells #[.int .i64 a1_0, .slice A1_1 l1_1.length c1_1, .slice A1_2 l1_2.length c1_2] 51 (0, 0)) bkw hb); have n2_ := Aside0.mk (below_step blw hb); clear BK360; clear BK361; clear HB; revert n0_ n1_ n2_; intro BK360 BK361 HB; (try clear hb); (try clear hb2); (try clear hk); (try clear hi)))
  go_ret
  exact ⟨rfw, blw⟩
 rw [if_pos c6] at H
 have c6b0 : decide (t363 ≤ 2000) = true := decide_eq_true c6
 clear c6
 replace H := Option.bind_eq_some_iff.mp H
 obtain ⟨t364, A70, H⟩ := H
 replace H : (some t364) = some r := H
 have A7 := Aside0.mk A70
 clear A70
 obtain rfl := Option.some.inj H
 go_enter Try.func21, Try.ntmps21
 go_wp2_with (first | ((with_reducible refine gate_dst (N := 2) rfl ?_); refine box_event ?hg (N := 2) ?hd (cs := #[.int .i64 a0_0, .int .i64 a0_1, .slice A0_2 l0_2.length c0_2, .slice A0_3 l0_3.length c0_3]) (t := 56) ?hr ?_; (case hd => rfl); (case hg => rfl); (case hr => exact hrw); intro gb360 hg w8 hbox hb; have n0_ := Aside0.mk (below_step blw hb); have n1_ := Aside0.mk (hbox); have n2_ := Aside0.mk ((by rw [hg]; exact (below_size blw) : w.heap.size ≤ gb360)); have n3_ := n2_; clear HB; revert n0_ n1_ n2_ n3_; intro HB BK360 GW360 GE360; clear hb hbox hg) | ((with_reducible refine gate_dst (N := 3) rfl ?_); refine box_event ?hg (N := 3) ?hd (cs := #[.int .i64 a1_0, .slice A1_1 l1_1.length c1_1, .slice A1_2 l1_2.length c1_2]) (t := 51) ?hr ?_; (case hd => rfl); (case hg => rfl); (case hr => exact hrw); intro gb361 hg w9 hbox hb; have n0_ := Aside0.mk (blk_below (g := gb360) (o := .cells #[.int .i64 a0_0, .int .i64 a0_1, .slice A0_2 l0_2.length c0_2, .slice A0_3 l0_3.length c0_3] 56 (0, 0)) bkw hb); have n1_ := Aside0.mk (below_step blw hb); have n2_ := Aside0.mk (hbox); have n3_ := Aside0.mk ((by rw [hg]; exact (below_size blw) : w.heap.size ≤ gb361)); have n4_ := n3_; have n5_ := Aside0.mk ((by rw [hg]; exact Nat.ne_of_lt (blk_lt (g := gb360) (o := .cells #[.int .i64 a0_0, .int .i64 a0_1, .slice A0_2 l0_2.length c0_2, .slice A0_3 l0_3.length c0_3] 56 (0, 0)) bkw) : gb360 ≠ gb361)); have n6_ := Aside0.mk ((by rw [hg]; exact Nat.ne_of_gt (blk_lt (g := gb360) (o := .cells #[.int .i64 a0_0, .int .i64 a0_1, .slice A0_2 l0_2.length c0_2, .slice A0_3 l0_3.length c0_3] 56 (0, 0)) bkw) : gb361 ≠ gb360)); clear BK360; clear HB; revert n0_ n1_ n2_ n3_ n4_ n5_ n6_; intro BK360 HB BK361 GW361 GE361 NB360_361 NB361_360; clear hb hbox hg; have hnb10 := NB361_360.out; have hnc10 := NB360_361.out; obtain ⟨hcz11_0, hcz11_1, hcz11_2⟩ := cls3 BK361.out; obtain ⟨hfz11_0, hfz11_1, hfz11_2⟩ := frz3 BK361.out) | ((with_reducible refine gate_callee (f := 37) rfl ?_); refine goesL_ (some 6) rfl rfl Try.func37 kr rfl #[.agg #[.int .i64 a1_0, .slice A1_1 l1_1.length c1_1, .slice A1_2 l1_2.length c1_2]] rfl mpw ?_; (with_reducible refine (impl_IsData.calls k a1_0 _ _ l1_1 _ _ l1_2 true _ ?side1 ?side2 ?side3 ?side4 A3.out).mono ?_); (case side1 => have X_ := HR1_1; exact cbl); (case side2 => exact HC1_1.out); (case side3 => have X_ := HR1_2; exact cbl); (case side4 => exact HC1_2.out); rintro e w12 ⟨rfl, hb⟩; refine ⟨_, rfl, ?_⟩; have n0_ := Aside0.mk (blk_below (g := gb360) (o := .cells #[.int .i64 a0_0, .int .i64 a0_1, .slice A0_2 l0_2.length c0_2, .slice A0_3 l0_3.length c0_3] 56 (0, 0)) bkw hb); have n1_ := Aside0.mk (blk_below (g := gb361) (o := .cells #[.int .i64 a1_0, .slice A1_1 l1_1.length c1_1, .slice A1_2 l1_2.length c1_2] 51 (0, 0)) bkw hb); have n2_ := Aside0.mk (below_step blw hb); clear BK360; clear BK361; clear HB; revert n0_ n1_ n2_; intro BK360 BK361 HB; (try clear hb); (try clear hb2); (try clear hk); (try clear hi); obtain ⟨hcz13_0, hcz13_1, hcz13_2, hcz13_3⟩ := cls4 BK360.out; obtain ⟨hfz13_0, hfz13_1, hfz13_2, hfz13_3⟩ := frz4 BK360.out) | (go_at_call 38; (with_reducible refine (impl_SizeOfValue.calls k a0_0 a0_1 _ _ l0_2 _ _ l0_3 t363 _ ?side1 ?side2 ?side3 ?side4 A5.out).mono ?_); (case side1 => have X_ := HR0_2; exact cbl); (case side2 => exact HC0_2.out); (case side3 => have X_ := HR0_3; exact cbl); (case side4 => exact HC0_3.out); rintro e w14 ⟨rfl, hb⟩; have n0_ := Aside0.mk (blk_below (g := gb360) (o := .cells #[.int .i64 a0_0, .int .i64 a0_1, .slice A0_2 l0_2.length c0_2, .slice A0_3 l0_3.length c0_3] 56 (0, 0)) bkw hb); have n1_ := Aside0.mk (blk_below (g := gb361) (o := .cells #[.int .i64 a1_0, .slice A1_1 l1_1.length c1_1, .slice A1_2 l1_2.length c1_2] 51 (0, 0)) bkw hb); have n2_ := Aside0.mk (below_step blw hb); clear BK360; clear BK361; clear HB; revert n0_ n1_ n2_; intro BK360 BK361 HB; (try clear hb); (try clear hb2); (try clear hk); (try clear hi)) | (go_at_call 39; (with_reducible refine (impl_fits.calls k ⟨gb360, 0, none⟩ a0_0 a0_1 A0_2 c0_2 l0_2 A0_3 c0_3 l0_3 ⟨gb361, 0, none⟩ a1_0 A1_1 c1_1 l1_1 A1_2 c1_2 l1_2 t364 _ ?side1 ?side2 ?side3 ?side4 ?side5 ?side6 ?side7 ?side8 ?side9 ?side10 A7.out).mono ?_); (case side1 => exact Cells_blk bkw); (case side2 => have X_ := HR0_2; exact cbl); (case side3 => exact HC0_2.out); (case side4 => have X_ := HR0_3; exact cbl); (case side5 => exact HC0_3.out); (case side6 => exact Cells_blk bkw); (case side7 => have X_ := HR1_1; exact cbl); (case side8 => exact HC1_1.out); (case side9 => have X_ := HR1_2; exact cbl); (case side10 => exact HC1_2.out); rintro e w15 ⟨rfl, hb⟩; have n0_ := Aside0.mk (blk_below (g := gb360) (o := .cells #[.int .i64 a0_0, .int .i64 a0_1, .slice A0_2 l0_2.length c0_2, .slice A0_3 l0_3.length c0_3] 56 (0, 0)) bkw hb); have n1_ := Aside0.mk (blk_below (g := gb361) (o := .cells #[.int .i64 a1_0, .slice A1_1 l1_1.length c1_1, .slice A1_2 l1_2.length c1_2] 51 (0, 0)) bkw hb); have n2_ := Aside0.mk (below_step blw hb); clear BK360; clear BK361; clear HB; revert n0_ n1_ n2_; intro BK360 BK361 HB; (try clear hb); (try clear hb2); (try clear hk); (try clear hi)))
 go_ret
 exact ⟨rfw, blw⟩

/-! ### impl_IsDB_1: function 20 -/
def impl_IsDB_1.f (k : Nat) (a0_0 : Int) (a0_1 : Int) (l0_2 : List ByteArray) (l0_3 : List (S56)) (a1_0 : ByteArray) (a1_1 : Int) (l1_2 : List ByteArray) (l1_3 : List (S51)) : Option (Bool) := (impl_HasType.f k a0_0 a0_1 l0_2 l0_3 a1_1 l1_2 l1_3).bind fun t366 => (some (!t366))
def impl_IsDB_1.T1 : Bool × List (List Nat × List Nat) := (true, [([], []), ([], []), ([1], [1]), ([2], [2]), ([3], [3]), ([0, 4], [0, 4]), ([5], [5]), ([6, 5, 0, 1, 2, 3, 4, 5, 6], [6])])
def impl_IsDB_1.B1 : List Nat := [0, 0, 2, 6, 14, 31, 63, 127]
theorem impl_IsDB_1.tab1 : rtab .any (opsOf Try.f20 1) = impl_IsDB_1.T1 := by kernel_rfl
theorem impl_IsDB_1.bits1 : waitsOk impl_IsDB_1.T1.2 impl_IsDB_1.B1 = true := by kernel_rfl
theorem impl_IsDB_1.calls (k : Nat) (a0_0 : Int) (a0_1 : Int) (A0_2 : Option Addr) (c0_2 : Nat) (l0_2 : List ByteArray) (A0_3 : Option Addr) (c0_3 : Nat) (l0_3 : List (S56)) (av1 : Addr) (ad1 : Addr) (a1_0 : ByteArray) (a1_1 : Int) (A1_2 : Option Addr) (c1_2 : Nat) (l1_2 : List ByteArray) (A1_3 : Option Addr) (c1_3 : Nat) (l1_3 : List (S51)) (r : Bool) (w : World) (hr0_2 : Kd.C Kd.string w A0_2 l0_2.length l0_2) (hc0_2 : l0_2.length ≤ c0_2) (hr0_3 : Kd.C k56 w A0_3 l0_3.length l0_3) (hc0_3 : l0_3.length ≤ c0_3) (hp1 : Cells w ad1 [.string a1_0, .int .i64 a1_1, .slice A1_2 l1_2.length c1_2, .slice A1_3 l1_3.length c1_3]) (hq1 : Cells w av1 [.pointer (some ad1)]) (hr1_2 : Kd.C Kd.string w A1_2 l1_2.length l1_2) (hc1_2 : l1_2.length ≤ c1_2) (hr1_3 : Kd.C k51 w A1_3 l1_3.length l1_3) (hc1_3 : l1_3.length ≤ c1_3) (h : impl_IsDB_1.f k a0_0 a0_1 l0_2 l0_3 a1_0 a1_1 l1_2 l1_3 = some r) :
  Calls Try.prog 20 #[.agg #[.int .i64 a0_0, .int .i64 a0_1, .slice A0_2 l0_2.length c0_2, .slice A0_3 l0_3.length c0_3], .pointer (some av1)] w fun e w' => e = .returned (.bool r) ∧ Below w.heap.size w w' := by
 have hu56 := Try.underlying56
 have hu51 := Try.underlying51
 have HR0_2 := Aside0.mk hr0_2
 have HC0_2 := Aside0.mk hc0_2
 clear hr0_2 hc0_2
 have HR0_3 := Aside0.mk hr0_3
 have HC0_3 := Aside0.mk hc0_3
 clear hr0_3 hc0_3
 have HP1 := Aside0.mk hp1
 clear hp1
 have HQ1 := Aside0.mk hq1
 clear hq1
 have HR1_2 := Aside0.mk hr1_2
 have HC1_2 := Aside0.mk hc1_2
 clear hr1_2 hc1_2
 have HR1_3 := Aside0.mk hr1_3
 have HC1_3 := Aside0.mk hc1_3
 clear hr1_3 hc1_3
 have HB := Aside0.mk (Below.refl w.heap.size w)
 have H : ((impl_HasType.f k a0_0 a0_1 l0_2 l0_3 a1_1 l1_2 l1_3).bind fun t366 => (some (!t366))) = some r := h
 clear h
 replace H := Option.bind_eq_some_iff.mp H
 obtain ⟨t366, A30, H⟩ := H
 replace H : (some (!t366)) = some r := H
 have A3 := Aside0.mk A30
 clear A30
 obtain rfl := Option.some.inj H
 go_enter Try.func20, Try.ntmps20
 try go_wp2_with (first | ((with_reducible refine gate_dst (N := 2) rfl ?_); refine box_event ?hg (N := 2) ?hd (cs := #[.int .i64 a0_0, .int .i64 a0_1, .slice A0_2 l0_2.length c0_2, .slice A0_3 l0_3.length c0_3]) (t := 56) ?hr ?_; (case hd => rfl); (case hg => rfl); (case hr => exact hrw); intro gb365 hg w4 hbox hb; have n0_ := Aside0.mk (below_step blw hb); have n1_ := Aside0.mk (hbox); have n2_ := Aside0.mk ((by rw [hg]; exact (below_size blw) : w.heap.size ≤ gb365)); have n3_ := n2_; clear HB; revert n0_ n1_ n2_ n3_; intro HB BK365 GW365 GE365; clear hb hbox hg))
 have n0_ := Aside0.mk (blk_drew BK365.out)
 have n1_ := Aside0.mk (below_drew1 HB.out)
 clear BK365
 clear HB
 revert n0_ n1_
 intro BK365 HB
 refine start_ (n := 8) (S := fun w' => w'.cell? ⟨gb365, 0, none⟩ = some (.int .i64 a0_0) ∧ w'.cell? ⟨gb365, 1, none⟩ = some (.int .i64 a0_1) ∧ w'.cell? ⟨gb365, 2, none⟩ = some (.slice A0_2 l0_2.length c0_2) ∧ w'.cell? ⟨gb365, 3, none⟩ = some (.slice A0_3 l0_3.length c0_3) ∧ w'.cell? av1 = some (.pointer (some ad1)) ∧ w'.cell? ad1 = some (.string a1_0) ∧ w'.cell? ⟨ad1.block, ad1.off + 1, none⟩ = some (.int .i64 a1_1) ∧ w'.cell? ⟨ad1.block, ad1.off + 2, none⟩ = some (.slice A1_2 l1_2.length c1_2) ∧ w'.cell? ⟨ad1.block, ad1.off + 3, none⟩ = some (.slice A1_3 l1_3.length c1_3)) (ds := []) #[false,false,false,false,false,false,false,false] kr rfl rfl ⟨(blk_cell BK365.out 0).trans rfl, (blk_cell BK365.out 1).trans rfl, (blk_cell BK365.out 2).trans rfl, (blk_cell BK365.out 3).trans rfl, (by first | exact pw_cell_below HB.out (HQ1.out.1) | exact HQ1.out.1), (by first | exact pw_cell_below HB.out (HP1.out.1) | exact HP1.out.1), (by first | exact pw_cell_below HB.out (HP1.out.2.1) | exact HP1.out.2.1), (by first | exact pw_cell_below HB.out (HP1.out.2.2.1) | exact HP1.out.2.2.1), (by first | exact pw_cell_below HB.out (HP1.out.2.2.2.1) | exact HP1.out.2.2.2.1)⟩ (fun hHeld => ?_); refine with_tabW impl_IsDB_1.tab1 impl_IsDB_1.bits1 (fun HT_ HW_ => ?_)
 generalize w4.drew = w5 at BK365 HB hHeld ⊢
 refine take_ (i := 0) (N := some 4) (v := ?_) (a' := ?_) (bm 8 1) rfl rfl (take_ofW HT_.out HW_.out kr) qi (Or.inl ⟨by rfl, ?_⟩) hHeld ?_ ?_
 rotate_left
 ·rintro w' ⟨s0, s1, s2, s3, s4, s5, s6, s7, s8⟩
  go_simp
  with_reducible rfl
 rotate_left
 ·simp only [sx]
  rfl
 refine take_ (i := 1) (N := some 5) (v := ?_) (a' := ?_) (bm 8 3) rfl rfl (take_ofW HT_.out HW_.out kr) qi (Or.inl ⟨by rfl, ?_⟩) hHeld ?_ ?_
 rotate_left
 ·rintro w' ⟨s0, s1, s2, s3, s4, s5, s6, s7, s8⟩
  go_simp
  with_reducible rfl
 rotate_left
 ·simp only [sx]
  rfl
 refine pure_ (i := 2) (N := some 6) (v := ?_) (a' := ?_) (bm 8 7) rfl rfl (any_of HT_.out kr) qi (Or.inl ⟨by rfl, ?_⟩) ?_ ?_
 rotate_left
 ·intro w'
  go_simp
  with_reducible rfl
 rotate_left
 ·simp only [sx]
  rfl
 refine pure_ (i := 3) (N := some 7) (v := ?_) (a' := ?_) (bm 8 15) rfl rfl (any_of HT_.out kr) qi (Or.inl ⟨by rfl, ?_⟩) ?_ ?_
 rotate_left
 ·intro w'
  go_simp
  with_reducible rfl
 rotate_left
 ·simp only [sx]
  rfl
 refine take_ (i := 4) (N := some 8) (v := ?_) (a' := ?_) (bm 8 31) rfl rfl (take_ofW HT_.out HW_.out kr) qi (Or.inl ⟨by rfl, ?_⟩) hHeld ?_ ?_
 rotate_left
 ·rintro w' ⟨s0, s1, s2, s3, s4, s5, s6, s7, s8⟩
  go_simp
  with_reducible rfl
 rotate_left
 ·simp only [sx]
  rfl
 refine one_ (i := 5) (N := some 9) (bm 8 63) rfl rfl (one_of HT_.out kr) (by decide) (fun K hK => ?_)
 refine goes_ Try.func21 kr rfl #[.agg #[.int .i64 a0_0, .int .i64 a0_1, .slice A0_2 l0_2.length c0_2, .slice A0_3 l0_3.length c0_3], .agg #[.int .i64 a1_1, .slice A1_2 l1_2.length c1_2, .slice A1_3 l1_3.length c1_3]] (by rfl) rfl rfl mpw ?_
 with_reducible refine (impl_HasType.calls k a0_0 a0_1 _ _ l0_2 _ _ l0_3 a1_1 _ _ l1_2 _ _ l1_3 t366 _ ?side1 ?side2 ?side3 ?side4 ?side5 ?side6 ?side7 ?side8 A3.out).mono ?_
 (case side1 => have X_ := HR0_2; exact cbl)
 (case side2 => exact HC0_2.out)
 (case side3 => have X_ := HR0_3; exact cbl)
 (case side4 => exact HC0_3.out)
 (case side5 => have X_ := HR1_2; exact cbl)
 (case side6 => exact HC1_2.out)
 (case side7 => have X_ := HR1_3; exact cbl)
 (case side8 => exact HC1_3.out)
 rintro e w6 ⟨rfl, hb⟩
 refine ⟨_, rfl, ?_⟩
 have n0_ := Aside0.mk (blk_below (g := gb365) (o := .cells #[.int .i64 a0_0, .int .i64 a0_1, .slice A0_2 l0_2.length c0_2, .slice A0_3 l0_3.length c0_3] 56 (0, 0)) bkw hb)
 have n1_ := Aside0.mk (below_step blw hb)
 clear BK365
 clear HB
 revert n0_ n1_
 intro BK365 HB
 (try clear hb)
 (try clear hb2)
 (try clear hk)
 (try clear hi)
 refine hK.out _ _ ⟨(blk_cell BK365.out 0).trans rfl, (blk_cell BK365.out 1).trans rfl, (blk_cell BK365.out 2).trans rfl, (blk_cell BK365.out 3).trans rfl, (by first | exact pw_cell_below HB.out (HQ1.out.1) | exact HQ1.out.1), (by first | exact pw_cell_below HB.out (HP1.out.1) | exact HP1.out.1), (by first | exact pw_cell_below HB.out (HP1.out.2.1) | exact HP1.out.2.1), (by first | exact pw_cell_below HB.out (HP1.out.2.2.1) | exact HP1.out.2.2.1), (by first | exact pw_cell_below HB.out (HP1.out.2.2.2.1) | exact HP1.out.2.2.2.1)⟩ (fun hHeld => ?_)
 clear hK K
 refine norm_ (a' := ?_) ?_ ?_
 rotate_left
 ·show Act.put _ (some 9) _ = _
  simp only [sx]
  rfl
 refine pure_ (i := 6) (N := some 10) (v := ?_) (a' := ?_) (bm 8 127) rfl rfl (any_of HT_.out kr) qi (Or.inl ⟨by rfl, ?_⟩) ?_ ?_
 rotate_left
 ·intro w'
  go_simp
  with_reducible rfl
 rotate_left
 ·simp only [sx]
  rfl
 refine pure_ (i := 7) (N := some 3) (v := ?_) (a' := ?_) (bm 8 255) rfl rfl (any_of HT_.out kr) qi (Or.inl ⟨by rfl, ?_⟩) ?_ ?_
 rotate_left
 ·intro w'
  go_simp
  with_reducible rfl
 rotate_left
 ·simp only [sx]
  rfl
 refine done_ (done_of HT_.out kr) ?_
 try go_wp2
 go_ret
 exact ⟨rfw, blw⟩

/-! ### slices_IndexFunc_Value_of_IsDB_1: function 107 -/
def slices_IndexFunc_Value_of_IsDB_1.l0 : Nat → List (S56) → Int → Int → ByteArray → Int → List ByteArray → List (S51) → Option (Int)
 | 0, _, _, _, _, _, _, _ => none
 | k + 1, x0, x7, x8, x720, x721, x722, x723 => if x8 < x7 then (if 0 ≤ x8 then (if x8 < (x0.length : Int) then ((impl_IsDB_1.f k ((rd_T56 x0 x8).f0) ((rd_T56 x0 x8).f1) ((rd_T56 x0 x8).f2) ((rd_T56 x0 x8).f3) x720 x721 x722 x723).bind fun t368 => (if t368 = true then (some x8) else (slices_IndexFunc_Value_of_IsDB_1.l0 k x0 x7 (wrap64 (x8 + 1)) x720 x721 x722 x723))) else (none)) else (none)) else (some (-1))
def slices_IndexFunc_Value_of_IsDB_1.f (k : Nat) (l0 : List (S56)) (a1_0 : ByteArray) (a1_1 : Int) (l1_2 : List ByteArray) (l1_3 : List (S51)) : Option (Int) := slices_IndexFunc_Value_of_IsDB_1.l0 k l0 (l0.length : Int) 0 a1_0 a1_1 l1_2 l1_3
theorem slices_IndexFunc_Value_of_IsDB_1.calls (k : Nat) (A0 : Option Addr) (c0 : Nat) (l0 : List (S56)) (av1 : Addr) (ad1 : Addr) (a1_0 : ByteArray) (a1_1 : Int) (A1_2 : Option Addr) (c1_2 : Nat) (l1_2 : List ByteArray) (A1_3 : Option Addr) (c1_3 : Nat) (l1_3 : List (S51)) (r : Int) (w : World) (hr0 : Kd.C k56 w A0 l0.length l0) (hc0 : l0.length ≤ c0) (hp1 : Cells w ad1 [.string a1_0, .int .i64 a1_1, .slice A1_2 l1_2.length c1_2, .slice A1_3 l1_3.length c1_3]) (hq1 : Cells w av1 [.pointer (some ad1)]) (hr1_2 : Kd.C Kd.string w A1_2 l1_2.length l1_2) (hc1_2 : l1_2.length ≤ c1_2) (hr1_3 : Kd.C k51 w A1_3 l1_3.length l1_3) (hc1_3 : l1_3.length ≤ c1_3) (h : slices_IndexFunc_Value_of_IsDB_1.f k l0 a1_0 a1_1 l1_2 l1_3 = some r) :
  Calls Try.prog 36 #[.slice A0 l0.length c0, .func (.func 20) #[] #[.pointer (some av1)]] w fun e w' => e = .returned (.int .i64 r) ∧ Below w.heap.size w w' := by
 have hu56 := Try.underlying56
 have HR0 := Aside0.mk hr0
 have HC0 := Aside0.mk hc0
 clear hr0 hc0
 have HP1 := Aside0.mk hp1
 clear hp1
 have HQ1 := Aside0.mk hq1
 clear hq1
 have HR1_2 := Aside0.mk hr1_2
 have HC1_2 := Aside0.mk hc1_2
 clear hr1_2 hc1_2
 have HR1_3 := Aside0.mk hr1_3
 have HC1_3 := Aside0.mk hc1_3
 clear hr1_3 hc1_3
 have HB := Aside0.mk (Below.refl w.heap.size w)
 have H : (slices_IndexFunc_Value_of_IsDB_1.l0 k l0 (l0.length : Int) 0 a1_0 a1_1 l1_2 l1_3) = some r := h
 clear h
 have H' := Aside0.mk H
 clear H
 go_enter Try.func36, Try.ntmps36
 go_wp2
 go_loopg [8] k (fun kq v8 w' => ∃ (x8_1 : Int), v8 = .int .i64 x8_1 ∧ Aside0 (slices_IndexFunc_Value_of_IsDB_1.l0 kq l0 (l0.length : Int) x8_1 a1_0 a1_1 l1_2 l1_3 = some r) ∧ Aside0 (kq ≤ k) ∧ Aside0 (Below w.heap.size w w'))
 case atStart => exact ⟨(0), rfs, H', ⟨Nat.le_refl _⟩, ⟨blw⟩⟩
 case round =>
  clear H'
  (try clear c1); (try clear p1); (try clear q1); (try clear p2)
  obtain ⟨x8_1, rfl, HA, HK1, HB⟩ := hrel
  cases gk with
  | zero => exact absurd HA.out (by simp [slices_IndexFunc_Value_of_IsDB_1.l0])
  | succ k1 =>
   have H := HA.out
   clear HA
   simp only [slices_IndexFunc_Value_of_IsDB_1.l0] at H
   by_cases c3 : x8_1 < (l0.length : Int)
   case neg =>
    rw [if_neg c3] at H
    have c3b0 : decide (x8_1 < (l0.length : Int)) = false := decide_eq_false c3
    clear c3
    obtain rfl := Option.some.inj H
    go_wp2
    go_ret
    exact ⟨rfw, blw⟩
   rw [if_pos c3] at H
   have c3b0 : decide (x8_1 < (l0.length : Int)) = true := decide_eq_true c3
   clear c3
   by_cases c4 : 0 ≤ x8_1
   case neg =>
    rw [if_neg c4] at H
    exact absurd H (by simp)
   rw [if_pos c4] at H
   have c4b0 : decide (0 ≤ x8_1) = true := decide_eq_true c4
   clear c4
   by_cases c5 : x8_1 < (l0.length : Int)
   case neg =>
    rw [if_neg c5] at H
    exact absurd H (by simp)
   rw [if_pos c5] at H
   have c5b0 : decide (x8_1 < (l0.length : Int)) = true := decide_eq_true c5
   clear c5
   replace H := Option.bind_eq_some_iff.mp H
   obtain ⟨t368, A60, H⟩ := H
   replace H : (if t368 = true then (some x8_1) else (slices_IndexFunc_Value_of_IsDB_1.l0 k1 l0 (l0.length : Int) (wrap64 (x8_1 + 1)) a1_0 a1_1 l1_2 l1_3)) = some r := H
   have A6 := Aside0.mk A60
   clear A60
   have HC7 := Aside0.mk H
   clear H
   have p367 : 0 ≤ (x8_1 : Int) := of_decide_eq_true asw
   have q367 : x8_1 < (l0.length : Int) := of_decide_eq_true asw
   obtain ⟨ad367, A367_2, c367_2, A367_3, c367_3, e367, hx367_0, hx367_1, hx367_2, hx367_3, hl367_2, hi367_2, hl367_3, hi367_3⟩ := at_T56 HR0.out x8_1 p367 q367
   cases e367
   replace hx367_0 := upw HB.out hx367_0
   replace hx367_1 := upw HB.out hx367_1
   replace hx367_2 := upw HB.out hx367_2
   replace hx367_3 := upw HB.out hx367_3
   have HR367_2 := Aside0.mk hi367_2
   have HC367_2 := Aside0.mk hl367_2
   clear hi367_2 hl367_2
   have HR367_3 := Aside0.mk hi367_3
   have HC367_3 := Aside0.mk hl367_3
   clear hi367_3 hl367_3
   replace p367 := eq_true p367
   replace q367 := eq_true q367
   go_upto_if 16 with (first | ((with_reducible refine gate_calleev (t := 11) rfl ?_); refine goesV1_ 11 (some 16) rfl rfl rfl Try.func20 kr rfl #[.agg #[.int .i64 ((rd_T56 l0 x8_1).f0), .int .i64 ((rd_T56 l0 x8_1).f1), .slice A367_2 ((rd_T56 l0 x8_1).f2).length c367_2, .slice A367_3 ((rd_T56 l0 x8_1).f3).length c367_3], .pointer (some av1)] rfl mpw ?_; (with_reducible refine (impl_IsDB_1.calls k1 ((rd_T56 l0 x8_1).f0) ((rd_T56 l0 x8_1).f1) _ _ ((rd_T56 l0 x8_1).f2) _ _ ((rd_T56 l0 x8_1).f3) av1 ad1 a1_0 a1_1 A1_2 c1_2 l1_2 A1_3 c1_3 l1_3 t368 _ ?side1 ?side2 ?side3 ?side4 ?side5 ?side6 ?side7 ?side8 ?side9 ?side10 A6.out).mono ?_); (case side1 => have X_ := HR367_2; exact cbl); (case side2 => exact HC367_2.out); (case side3 => have X_ := HR367_3; exact cbl); (case side4 => exact HC367_3.out); (case side5 => repeat (first | exact (Cells_below HP1.out HB.out) | (with_reducible refine Cells_alloc ?_ _) | (with_reducible refine Cells_drewN ?_ _) | (with_reducible refine Cells_drew ?_))); (case side6 => repeat (first | exact (Cells_below HQ1.out HB.out) | (with_reducible refine Cells_alloc ?_ _) | (with_reducible refine Cells_drewN ?_ _) | (with_reducible refine Cells_drew ?_))); (case side7 => have X_ := HR1_2; exact cbl); (case side8 => exact HC1_2.out); (case side9 => have X_ := HR1_3; exact cbl); (case side10 => exact HC1_3.out); rintro e w8 ⟨rfl, hb⟩; refine ⟨_, rfl, ?_⟩; have n0_ := Aside0.mk (below_step blw hb); clear HB; revert n0_; intro HB; (try clear hb); (try clear hb2); (try clear hk); (try clear hi)))
   have H := HC7.out
   clear HC7
   by_cases c9 : t368 = true
   ·subst c9
    have H1 : (some x8_1) = some r := by rw [if_pos rfl] at H; exact H
    clear H
    have H := H1
    clear H1
    obtain rfl := Option.some.inj H
    go_wp2
    go_ret
    exact ⟨rfw, blw⟩
   replace c9 := Bool.eq_false_iff.mpr c9
   subst c9
   have H1 : (slices_IndexFunc_Value_of_IsDB_1.l0 k1 l0 (l0.length : Int) (wrap64 (x8_1 + 1)) a1_0 a1_1 l1_2 l1_3) = some r := by rw [if_neg (show ¬ (false = true) by decide)] at H; exact H
   clear H
   have H := H1
   clear H1
   have H' := Aside0.mk H
   clear H
   go_wp2
   go_roundg k1
   case measure => have := HK1.out; omega
   case rel => exact ⟨(wrap64 (x8_1 + 1)), rfs, H', ⟨by have := HK1.out; omega⟩, ⟨blw⟩⟩

/-! ### slices_ContainsFunc_Value_of_IsDB_1: function 100 -/
def slices_ContainsFunc_Value_of_IsDB_1.f (k : Nat) (l0 : List (S56)) (a1_0 : ByteArray) (a1_1 : Int) (l1_2 : List ByteArray) (l1_3 : List (S51)) : Option (Bool) := (slices_IndexFunc_Value_of_IsDB_1.f k l0 a1_0 a1_1 l1_2 l1_3).bind fun t369 => (some (decide (t369 ≥ 0)))
theorem slices_ContainsFunc_Value_of_IsDB_1.calls (k : Nat) (A0 : Option Addr) (c0 : Nat) (l0 : List (S56)) (av1 : Addr) (ad1 : Addr) (a1_0 : ByteArray) (a1_1 : Int) (A1_2 : Option Addr) (c1_2 : Nat) (l1_2 : List ByteArray) (A1_3 : Option Addr) (c1_3 : Nat) (l1_3 : List (S51)) (r : Bool) (w : World) (hr0 : Kd.C k56 w A0 l0.length l0) (hc0 : l0.length ≤ c0) (hp1 : Cells w ad1 [.string a1_0, .int .i64 a1_1, .slice A1_2 l1_2.length c1_2, .slice A1_3 l1_3.length c1_3]) (hq1 : Cells w av1 [.pointer (some ad1)]) (hr1_2 : Kd.C Kd.string w A1_2 l1_2.length l1_2) (hc1_2 : l1_2.length ≤ c1_2) (hr1_3 : Kd.C k51 w A1_3 l1_3.length l1_3) (hc1_3 : l1_3.length ≤ c1_3) (h : slices_ContainsFunc_Value_of_IsDB_1.f k l0 a1_0 a1_1 l1_2 l1_3 = some r) :
  Calls Try.prog 19 #[.slice A0 l0.length c0, .func (.func 20) #[] #[.pointer (some av1)]] w fun e w' => e = .returned (.bool r) ∧ Below w.heap.size w w' := by
 have HR0 := Aside0.mk hr0
 have HC0 := Aside0.mk hc0
 clear hr0 hc0
 have HP1 := Aside0.mk hp1
 clear hp1
 have HQ1 := Aside0.mk hq1
 clear hq1
 have HR1_2 := Aside0.mk hr1_2
 have HC1_2 := Aside0.mk hc1_2
 clear hr1_2 hc1_2
 have HR1_3 := Aside0.mk hr1_3
 have HC1_3 := Aside0.mk hc1_3
 clear hr1_3 hc1_3
 have HB := Aside0.mk (Below.refl w.heap.size w)
 have H : ((slices_IndexFunc_Value_of_IsDB_1.f k l0 a1_0 a1_1 l1_2 l1_3).bind fun t369 => (some (decide (t369 ≥ 0)))) = some r := h
 clear h
 replace H := Option.bind_eq_some_iff.mp H
 obtain ⟨t369, A30, H⟩ := H
 replace H : (some (decide (t369 ≥ 0))) = some r := H
 have A3 := Aside0.mk A30
 clear A30
 obtain rfl := Option.some.inj H
 go_enter Try.func19, Try.ntmps19
 go_wp2_with (first | ((with_reducible refine gate_callee (f := 36) rfl ?_); refine goesL_ (some 7) rfl rfl Try.func36 kr rfl #[.slice A0 l0.length c0, .func (.func 20) #[] #[.pointer (some av1)]] rfl mpw ?_; (with_reducible refine (slices_IndexFunc_Value_of_IsDB_1.calls k _ _ l0 av1 ad1 a1_0 a1_1 A1_2 c1_2 l1_2 A1_3 c1_3 l1_3 t369 _ ?side1 ?side2 ?side3 ?side4 ?side5 ?side6 ?side7 ?side8 A3.out).mono ?_); (case side1 => have X_ := HR0; exact cbx); (case side2 => exact HC0.out); (case side3 => have X_ := HP1; exact clx); (case side4 => have X_ := HQ1; exact clx); (case side5 => have X_ := HR1_2; exact cbx); (case side6 => exact HC1_2.out); (case side7 => have X_ := HR1_3; exact cbx); (case side8 => exact HC1_3.out); rintro e w4 ⟨rfl, hb⟩; refine ⟨_, rfl, ?_⟩; have n0_ := Aside0.mk (below_step blw hb); clear HB; revert n0_; intro HB; (try clear hb); (try clear hb2); (try clear hk); (try clear hi)))
 go_ret
 exact ⟨rfw, blw⟩

end Go.Proofs.Ytfbecaplnigmaaa.Px
