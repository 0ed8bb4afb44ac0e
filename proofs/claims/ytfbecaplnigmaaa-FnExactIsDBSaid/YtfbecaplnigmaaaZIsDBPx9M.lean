/- Printed by a program of this session: what functions of the translation come to, each contract as it stands. No condition. -/
import Derived.Test.YtfbecaplnigmaaaZIsDBSh
import Derived.Test.YtfbecaplnigmaaaZIsDBPx0M
import Derived.Test.YtfbecaplnigmaaaZIsDBPx6M
import Derived.Test.YtfbecaplnigmaaaZIsDBPx8
section
namespace Go.Proofs.Ytfbecaplnigmaaa.Px
open Go.RowKit Go.Proofs.Ytfbecaplnigmaaa.Ext Go.Proofs.YtfbecaplnigmaaaW.PrintWords Go.Proofs.YtfbecaplnigmaaaW.PrintLast Go.Proofs.YtfbecaplnigmaaaW.PrintMore
attribute [local go_sem] max2_int min2_int max_two min_two max_three min_three max_four min_four   -- for this text's walks alone
set_option linter.unusedVariables false
set_option linter.unusedSimpArgs false

/-! ### spec_HasType: function 15 -/
def spec_HasType.f (k : Nat) (a0_0 : Int) (a0_1 : Int) (l0_2 : List ByteArray) (l0_3 : List (S56)) (a1_0 : Int) (l1_1 : List ByteArray) (l1_2 : List (S51)) : Option (Bool) := (spec_IsData.f k a1_0 l1_1 l1_2).bind fun t190 => (if t190 = true then ((spec_l5Left.f k a0_0 a0_1 l0_2 l0_3 2000).bind fun t191 => (if t191 ≥ 0 then ((spec_l5Has.f k a0_0 a0_1 l0_2 l0_3 a1_0 l1_1 l1_2).bind fun t192 => (some t192)) else (some false))) else (some false))
set_option maxHeartbeats 8000000 in
set_option maxRecDepth 100000 in
theorem spec_HasType.calls (k : Nat) (a0_0 : Int) (a0_1 : Int) (A0_2 : Option Addr) (c0_2 : Nat) (l0_2 : List ByteArray) (A0_3 : Option Addr) (c0_3 : Nat) (l0_3 : List (S56)) (a1_0 : Int) (A1_1 : Option Addr) (c1_1 : Nat) (l1_1 : List ByteArray) (A1_2 : Option Addr) (c1_2 : Nat) (l1_2 : List (S51)) (r : Bool) (w : World) (hr0_2 : Kd.C Kd.string w A0_2 l0_2.length l0_2) (hc0_2 : l0_2.length ≤ c0_2) (hr0_3 : Kd.C k56 w A0_3 l0_3.length l0_3) (hc0_3 : l0_3.length ≤ c0_3) (hr1_1 : Kd.C Kd.string w A1_1 l1_1.length l1_1) (hc1_1 : l1_1.length ≤ c1_1) (hr1_2 : Kd.C k51 w A1_2 l1_2.length l1_2) (hc1_2 : l1_2.length ≤ c1_2) (h : spec_HasType.f k a0_0 a0_1 l0_2 l0_3 a1_0 l1_1 l1_2 = some r) :
  Calls Try.prog 15 #[.agg #[.int .i64 a0_0, .int .i64 a0_1, .slice A0_2 l0_2.length c0_2, .slice A0_3 l0_3.length c0_3], .agg #[.int .i64 a1_0, .slice A1_1 l1_1.length c1_1, .slice A1_2 l1_2.length c1_2]] w fun e w' => e = .returned (.bool r) ∧ Below w.heap.size w w' := by
 have hu56 := Try.underlying56
 have hu51 := Try.underlying51
 have HR0_2 := Aside0.mk hr0_2
 have HC0_2 := Aside0.mk hc0_2
 clear hr0_2 hc0_2
 have HR0_3 := Aside0.mk hr0_3
 have HC0_3 := Aside0.mk hc0_3
 clear hr0_3 hc0_3
 have HR1_1 := Aside0.mk hr1_1
 have HC1_1 := Aside0.mk hc1_1
 clear hr1_1 hc1_1
 have HR1_2 := Aside0.mk hr1_2
 have HC1_2 := Aside0.mk hc1_2
 clear hr1_2 hc1_2
 have HB := Aside0.mk (Below.refl w.heap.size w)
 have H : ((spec_IsData.f k a1_0 l1_1 l1_2).bind fun t190 => (if t190 = true then ((spec_l5Left.f k a0_0 a0_1 l0_2 l0_3 2000).bind fun t191 => (if t191 ≥ 0 then ((spec_l5Has.f k a0_0 a0_1 l0_2 l0_3 a1_0 l1_1 l1_2).bind fun t192 => (some t192)) else (some false))) else (some false))) = some r := h
 clear h
 replace H := Option.bind_eq_some_iff.mp H
 obtain ⟨t190, A30, H⟩ := H
 replace H : (if t190 = true then ((spec_l5Left.f k a0_0 a0_1 l0_2 l0_3 2000).bind fun t191 => (if t191 ≥ 0 then ((spec_l5Has.f k a0_0 a0_1 l0_2 l0_3 a1_0 l1_1 l1_2).bind fun t192 => (some t192)) else (some false))) else (some false)) = some r := H
 have A3 := Aside0.mk A30
 clear A30
 by_cases c4 : t190 = true
 case neg =>
  replace c4 := Bool.eq_false_iff.mpr c4
  subst c4
  have H1 : (some false) = some r := by rw [if_neg (show ¬ (false = true) by decide)] at H; exact H
  clear H
  have H := H1
  clear H1
  obtain rfl := Option.some.inj H
  go_enter Try.func15, Try.ntmps15
  go_wp2_with (first | ((with_reducible refine gate_dst (N := 2) rfl ?_); refine box_event ?hg (N := 2) ?hd (cs := #[.int .i64 a0_0, .int .i64 a0_1, .slice A0_2 l0_2.length c0_2, .slice A0_3 l0_3.length c0_3]) (t := 56) ?hr ?_; (case hd => rfl); (case hg => rfl); (case hr => exact hrw); intro gb188 hg w25 hbox hb; have n0_ := Aside0.mk (below_step blw hb); have n1_ := Aside0.mk (hbox); have n2_ := Aside0.mk ((by rw [hg]; exact (below_size blw) : w.heap.size ≤ gb188)); have n3_ := n2_; clear HB; revert n0_ n1_ n2_ n3_; intro HB BK188 GW188 GE188; clear hb hbox hg) | ((with_reducible refine gate_dst (N := 3) rfl ?_); refine box_event ?hg (N := 3) ?hd (cs := #[.int .i64 a1_0, .slice A1_1 l1_1.length c1_1, .slice A1_2 l1_2.length c1_2]) (t := 51) ?hr ?_; (case hd => rfl); (case hg => rfl); (case hr => exact hrw); intro gb189 hg w26 hbox hb; have n0_ := Aside0.mk (blk_below (g := gb188) (o := .cells #[.int .i64 a0_0, .int .i64 a0_1, .slice A0_2 l0_2.length c0_2, .slice A0_3 l0_3.length c0_3] 56 (0, 0)) bkw hb); have n1_ := Aside0.mk (below_step blw hb); have n2_ := Aside0.mk (hbox); have n3_ := Aside0.mk ((by rw [hg]; exact (below_size blw) : w.heap.size ≤ gb189)); have n4_ := n3_; have n5_ := Aside0.mk ((by rw [hg]; exact Nat.ne_of_lt (blk_lt (g := gb188) (o := .cells #[.int .i64 a0_0, .int .i64 a0_1, .slice A0_2 l0_2.length c0_2, .slice A0_3 l0_3.length c0_3] 56 (0, 0)) bkw) : gb188 ≠ gb189)); have n6_ := Aside0.mk ((by rw [hg]; exact Nat.ne_of_gt (blk_lt (g := gb188) (o := .cells #[.int .i64 a0_0, .int .i64 a0_1, .slice A0_2 l0_2.length c0_2, .slice A0_3 l0_3.length c0_3] 56 (0, 0)) bkw) : gb189 ≠ gb188)); clear BK188; clear HB; revert n0_ n1_ n2_ n3_ n4_ n5_ n6_; intro BK188 HB BK189 GW189 GE189 NB188_189 NB189_188; clear hb hbox hg; have hnb27 := NB189_188.out; have hnc27 := NB188_189.out; obtain ⟨hcz28_0, hcz28_1, hcz28_2⟩ := cls3 BK189.out; obtain ⟨hfz28_0, hfz28_1, hfz28_2⟩ := frz3 BK189.out) | ((with_reducible refine gate_callee (f := 29) rfl ?_); refine goesL_ (some 6) rfl rfl Try.func29 kr rfl #[.agg #[.int .i64 a1_0, .slice A1_1 l1_1.length c1_1, .slice A1_2 l1_2.length c1_2]] rfl mpw ?_; (with_reducible refine (spec_IsData.calls k a1_0 _ _ l1_1 _ _ l1_2 false _ ?side1 ?side2 ?side3 ?side4 A3.out).mono ?_); (case side1 => have X_ := HR1_1; exact cbl); (case side2 => exact HC1_1.out); (case side3 => have X_ := HR1_2; exact cbl); (case side4 => exact HC1_2.out); rintro e w29 ⟨rfl, hb⟩; refine ⟨_, rfl, ?_⟩; have n0_ := Aside0.mk (blk_below (g := gb188) (o := .cells #[.int .i64 a0_0, .int .i64 a0_1, .slice A0_2 l0_2.length c0_2, .slice A0_3 l0_3.length c0_3] 56 (0, 0)) bkw hb); have n1_ := Aside0.mk (blk_below (g := gb189) (o := .cells #[.int .i64 a1_0, .slice A1_1 l1_1.length c1_1, .slice A1_2 l1_2.length c1_2] 51 (0, 0)) bkw hb); have n2_ := Aside0.mk (below_step blw hb); clear BK188; clear BK189; clear HB; revert n0_ n1_ n2_; intro BK188 BK189 HB; (try clear hb); (try clear hb2); (try clear hk); (try clear hi)))
  go_ret
  exact ⟨rfw, blw⟩
 subst c4
 have H1 : ((spec_l5Left.f k a0_0 a0_1 l0_2 l0_3 2000).bind fun t191 => (if t191 ≥ 0 then ((spec_l5Has.f k a0_0 a0_1 l0_2 l0_3 a1_0 l1_1 l1_2).bind fun t192 => (some t192)) else (some false))) = some r := by rw [if_pos rfl] at H; exact H
 clear H
 have H := H1
 clear H1
 replace H := Option.bind_eq_some_iff.mp H
 obtain ⟨t191, A50, H⟩ := H
 replace H : (if t191 ≥ 0 then ((spec_l5Has.f k a0_0 a0_1 l0_2 l0_3 a1_0 l1_1 l1_2).bind fun t192 => (some t192)) else (some false)) = some r := H
 have A5 := Aside0.mk A50
 clear A50
 by_cases c6 : t191 ≥ 0
 case neg =>
  rw [if_neg c6] at H
  have c6b0 : decide (0 ≤ t191) = false := decide_eq_false c6
  clear c6
  obtain rfl := Option.some.inj H
  go_enter Try.func15, Try.ntmps15
  go_wp2_with (first | ((with_reducible refine gate_dst (N := 2) rfl ?_); refine box_event ?hg (N := 2) ?hd (cs := #[.int .i64 a0_0, .int .i64 a0_1, .slice A0_2 l0_2.length c0_2, .slice A0_3 l0_3.length c0_3]) (t := 56) ?hr ?_; (case hd => rfl); (case hg => rfl); (case hr => exact hrw); intro gb188 hg w18 hbox hb; have n0_ := Aside0.mk (below_step blw hb); have n1_ := Aside0.mk (hbox); have n2_ := Aside0.mk ((by rw [hg]; exact (below_size blw) : w.heap.size ≤ gb188)); have n3_ := n2_; clear HB; revert n0_ n1_ n2_ n3_; intro HB BK188 GW188 GE188; clear hb hbox hg) | ((with_reducible refine gate_dst (N := 3) rfl ?_); refine box_event ?hg (N := 3) ?hd (cs := #[.int .i64 a1_0, .slice A1_1 l1_1.length c1_1, .slice A1_2 l1_2.length c1_2]) (t := 51) ?hr ?_; (case hd => rfl); (case hg => rfl); (case hr => exact hrw); intro gb189 hg w19 hbox hb; have n0_ := Aside0.mk (blk_below (g := gb188) (o := .cells #[.int .i64 a0_0, .int .i64 a0_1, .slice A0_2 l0_2.length c0_2, .slice A0_3 l0_3.length c0_3] 56 (0, 0)) bkw hb); have n1_ := Aside0.mk (below_step blw hb); have n2_ := Aside0.mk (hbox); have n3_ := Aside0.mk ((by rw [hg]; exact (below_size blw) : w.heap.size ≤ gb189)); have n4_ := n3_; have n5_ := Aside0.mk ((by rw [hg]; exact Nat.ne_of_lt (blk_lt (g := gb188) (o := .cells #[.int .i64 a0_0, .int .i64 a0_1, .slice A0_2 l0_2.length c0_2, .slice A0_3 l0_3.length c0_3] 56 (0, 0)) bkw) : gb188 ≠ gb189)); have n6_ := Aside0.mk ((by rw [hg]; exact Nat.ne_of_gt (blk_lt (g := gb188) (o := .cells #[.int .i64 a0_0, .int .i64 a0_1, .slice A0_2 l0_2.length c0_2, .slice A0_3 l0_3.length c0_3] 56 (0, 0)) bkw) : gb189 ≠ gb188)); clear BK188; clear HB; revert n0_ n1_ n2_ n3_ n4_ n5_ n6_; intro BK188 HB BK189 GW189 GE189 NB188_189 NB189_188; clear hb hbox hg; have hnb20 := NB189_188.out; have hnc20 := NB188_189.out; obtain ⟨hcz21_0, hcz21_1, hcz21_2⟩ := cls3 BK189.out; obtain ⟨hfz21_0, hfz21_1, hfz21_2⟩ := frz3 BK189.out) | ((with_reducible refine gate_callee (f := 29) rfl ?_); refine goesL_ (some 6) rfl rfl Try.func29 kr rfl #[.agg #[.int .i64 a1_0, .slice A1_1 l1_1.length c1_1, .slice A1_2 l1_2.length c1_2]] rfl mpw ?_; (with_reducible refine (spec_IsData.calls k a1_0 _ _ l1_1 _ _ l1_2 true _ ?side1 ?side2 ?side3 ?side4 A3.out).mono ?_); (case side1 => have X_ := HR1_1; exact cbl); (case side2 => exact HC1_1.out); (case side3 => have X_ := HR1_2; exact cbl); (case side4 => exact HC1_2.out); rintro e w22 ⟨rfl, hb⟩; refine ⟨_, rfl, ?_⟩; have n0_ := Aside0.mk (blk_below (g := gb188) (o := .cells #[.int .i64 a0_0, .int .i64 a0_1, .slice A0_2 l0_2.length c0_2, .slice A0_3 l0_3.length c0_3] 56 (0, 0)) bkw hb); have n1_ := Aside0.mk (blk_below (g := gb189) (o := .cells #[.int .i64 a1_0, .slice A1_1 l1_1.length c1_1, .slice A1_2 l1_2.length c1_2] 51 (0, 0)) bkw hb); have n2_ := Aside0.mk (below_step blw hb); clear BK188; clear BK189; clear HB; revert n0_ n1_ n2_; intro BK188 BK189 HB; (try clear hb); (try clear hb2); (try clear hk); (try clear hi); obtain ⟨hcz23_0, hcz23_1, hcz23_2, hcz23_3⟩ := cls4 BK188.out; obtain ⟨hfz23_0, hfz23_1, hfz23_2, hfz23_3⟩ := frz4 BK188.out) | (go_at_call 30; (with_reducible refine (spec_l5Left.calls k a0_0 a0_1 _ _ l0_2 _ _ l0_3 2000 t191 _ ?side1 ?side2 ?side3 ?side4 A5.out).mono ?_); (case side1 => have X_ := HR0_2; exact cbl); (case side2 => exact HC0_2.out); (case side3 => have X_ := HR0_3; exact cbl); (case side4 => exact HC0_3.out); rintro e w24 ⟨rfl, hb⟩; have n0_ := Aside0.mk (blk_below (g := gb188) (o := .cells #[.int .i64 a0_0, .int .i64 a0_1, .slice A0_2 l0_2.length c0_2, .slice A0_3 l0_3.length c0_3] 56 (0, 0)) bkw hb); have n1_ := Aside0.mk (blk_below (g := gb189) (o := .cells #[.int .i64 a1_0, .slice A1_1 l1_1.length c1_1, .slice A1_2 l1_2.length c1_2] 51 (0, 0)) bkw hb); have n2_ := Aside0.mk (below_step blw hb); clear BK188; clear BK189; clear HB; revert n0_ n1_ n2_; intro BK188 BK189 HB; (try clear hb); (try clear hb2); (try clear hk); (try clear hi)))
  go_ret
  exact ⟨rfw, blw⟩
 rw [if_pos c6] at H
 have c6b0 : decide (0 ≤ t191) = true := decide_eq_true c6
 clear c6
 replace H := Option.bind_eq_some_iff.mp H
 obtain ⟨t192, A70, H⟩ := H
 replace H : (some t192) = some r := H
 have A7 := Aside0.mk A70
 clear A70
 obtain rfl := Option.some.inj H
 go_enter Try.func15, Try.ntmps15
 go_wp2_with (first | ((with_reducible refine gate_dst (N := 2) rfl ?_); refine box_event ?hg (N := 2) ?hd (cs := #[.int .i64 a0_0, .int .i64 a0_1, .slice A0_2 l0_2.length c0_2, .slice A0_3 l0_3.length c0_3]) (t := 56) ?hr ?_; (case hd => rfl); (case hg => rfl); (case hr => exact hrw); intro gb188 hg w8 hbox hb; have n0_ := Aside0.mk (below_step blw hb); have n1_ := Aside0.mk (hbox); have n2_ := Aside0.mk ((by rw [hg]; exact (below_size blw) : w.heap.size ≤ gb188)); have n3_ := n2_; clear HB; revert n0_ n1_ n2_ n3_; intro HB BK188 GW188 GE188; clear hb hbox hg) | ((with_reducible refine gate_dst (N := 3) rfl ?_); refine box_event ?hg (N := 3) ?hd (cs := #[.int .i64 a1_0, .slice A1_1 l1_1.length c1_1, .slice A1_2 l1_2.length c1_2]) (t := 51) ?hr ?_; (case hd => rfl); (case hg => rfl); (case hr => exact hrw); intro gb189 hg w9 hbox hb; have n0_ := Aside0.mk (blk_below (g := gb188) (o := .cells #[.int .i64 a0_0, .int .i64 a0_1, .slice A0_2 l0_2.length c0_2, .slice A0_3 l0_3.length c0_3] 56 (0, 0)) bkw hb); have n1_ := Aside0.mk (below_step blw hb); have n2_ := Aside0.mk (hbox); have n3_ := Aside0.mk ((by rw [hg]; exact (below_size blw) : w.heap.size ≤ gb189)); have n4_ := n3_; have n5_ := Aside0.mk ((by rw [hg]; exact Nat.ne_of_lt (blk_lt (g := gb188) (o := .cells #[.int .i64 a0_0, .int .i64 a0_1, .slice A0_2 l0_2.length c0_2, .slice A0_3 l0_3.length c0_3] 56 (0, 0)) bkw) : gb188 ≠ gb189)); have n6_ := Aside0.mk ((by rw [hg]; exact Nat.ne_of_gt (blk_lt (g := gb188) (o := .cells #[.int .i64 a0_0, .int .i64 a0_1, .slice A0_2 l0_2.length c0_2, .slice A0_3 l0_3.length c0_3] 56 (0, 0)) bkw) : gb189 ≠ gb188)); clear BK188; clear HB; revert n0_ n1_ n2_ n3_ n4_ n5_ n6_; intro BK188 HB BK189 GW189 GE189 NB188_189 NB189_188; clear hb hbox hg; have hnb10 := NB189_188.out; have hnc10 := NB188_189.out; obtain ⟨hcz11_0, hcz11_1, hcz11_2⟩ := cls3 BK189.out; obtain ⟨hfz11_0, hfz11_1, hfz11_2⟩ := frz3 BK189.out) | ((with_reducible refine gate_callee (f := 29) rfl ?_); refine goesL_ (some 6) rfl rfl Try.func29 kr rfl #[.agg #[.int .i64 a1_0, .slice A1_1 l1_1.length c1_1, .slice A1_2 l1_2.length c1_2]] rfl mpw ?_; (with_reducible refine (spec_IsData.calls k a1_0 _ _ l1_1 _ _ l1_2 true _ ?side1 ?side2 ?side3 ?side4 A3.out).mono ?_); (case side1 => have X_ := HR1_1; exact cbl); (case side2 => exact HC1_1.out); (case side3 => have X_ := HR1_2; exact cbl); (case side4 => exact HC1_2.out); rintro e w12 ⟨rfl, hb⟩; refine ⟨_, rfl, ?_⟩; have n0_ := Aside0.mk (blk_below (g := gb188) (o := .cells #[.int .i64 a0_0, .int .i64 a0_1, .slice A0_2 l0_2.length c0_2, .slice A0_3 l0_3.length c0_3] 56 (0, 0)) bkw hb); have n1_ := Aside0.mk (blk_below (g := gb189) (o := .cells #[.int .i64 a1_0, .slice A1_1 l1_1.length c1_1, .slice A1_2 l1_2.length c1_2] 51 (0, 0)) bkw hb); have n2_ := Aside0.mk (below_step blw hb); clear BK188; clear BK189; clear HB; revert n0_ n1_ n2_; intro BK188 BK189 HB; (try clear hb); (try clear hb2); (try clear hk); (try clear hi); obtain ⟨hcz13_0, hcz13_1, hcz13_2, hcz13_3⟩ := cls4 BK188.out; obtain ⟨hfz13_0, hfz13_1, hfz13_2, hfz13_3⟩ := frz4 BK188.out) | (go_at_call 30; (with_reducible refine (spec_l5Left.calls k a0_0 a0_1 _ _ l0_2 _ _ l0_3 2000 t191 _ ?side1 ?side2 ?side3 ?side4 A5.out).mono ?_); (case side1 => have X_ := HR0_2; exact cbl); (case side2 => exact HC0_2.out); (case side3 => have X_ := HR0_3; exact cbl); (case side4 => exact HC0_3.out); rintro e w14 ⟨rfl, hb⟩; have n0_ := Aside0.mk (blk_below (g := gb188) (o := .cells #[.int .i64 a0_0, .int .i64 a0_1, .slice A0_2 l0_2.length c0_2, .slice A0_3 l0_3.length c0_3] 56 (0, 0)) bkw hb); have n1_ := Aside0.mk (blk_below (g := gb189) (o := .cells #[.int .i64 a1_0, .slice A1_1 l1_1.length c1_1, .slice A1_2 l1_2.length c1_2] 51 (0, 0)) bkw hb); have n2_ := Aside0.mk (below_step blw hb); clear BK188; clear BK189; clear HB; revert n0_ n1_ n2_; intro BK188 BK189 HB; (try clear hb); (try clear hb2); (try clear hk); (try clear hi); obtain ⟨hcz15_0, hcz15_1, hcz15_2, hcz15_3⟩ := cls4 BK188.out; obtain ⟨hfz15_0, hfz15_1, hfz15_2, hfz15_3⟩ := frz4 BK188.out; obtain ⟨hcz16_0, hcz16_1, hcz16_2⟩ := cls3 BK189.out; obtain ⟨hfz16_0, hfz16_1, hfz16_2⟩ := frz3 BK189.out) | (go_at_call 31; (with_reducible refine (spec_l5Has.calls k a0_0 a0_1 _ _ l0_2 _ _ l0_3 a1_0 _ _ l1_1 _ _ l1_2 t192 _ ?side1 ?side2 ?side3 ?side4 ?side5 ?side6 ?side7 ?side8 A7.out).mono ?_); (case side1 => have X_ := HR0_2; exact cbl); (case side2 => exact HC0_2.out); (case side3 => have X_ := HR0_3; exact cbl); (case side4 => exact HC0_3.out); (case side5 => have X_ := HR1_1; exact cbl); (case side6 => exact HC1_1.out); (case side7 => have X_ := HR1_2; exact cbl); (case side8 => exact HC1_2.out); rintro e w17 ⟨rfl, hb⟩; have n0_ := Aside0.mk (blk_below (g := gb188) (o := .cells #[.int .i64 a0_0, .int .i64 a0_1, .slice A0_2 l0_2.length c0_2, .slice A0_3 l0_3.length c0_3] 56 (0, 0)) bkw hb); have n1_ := Aside0.mk (blk_below (g := gb189) (o := .cells #[.int .i64 a1_0, .slice A1_1 l1_1.length c1_1, .slice A1_2 l1_2.length c1_2] 51 (0, 0)) bkw hb); have n2_ := Aside0.mk (below_step blw hb); clear BK188; clear BK189; clear HB; revert n0_ n1_ n2_; intro BK188 BK189 HB; (try clear hb); (try clear hb2); (try clear hk); (try clear hi)))
 go_ret
 exact ⟨rfw, blw⟩

end Go.Proofs.Ytfbecaplnigmaaa.Px
end
section
namespace Go.Proofs.Ytfbecaplnigmaaa.Px
open Go.RowKit Go.Proofs.Ytfbecaplnigmaaa.Ext Go.Proofs.YtfbecaplnigmaaaW.PrintWords Go.Proofs.YtfbecaplnigmaaaW.PrintLast Go.Proofs.YtfbecaplnigmaaaW.PrintMore
attribute [local go_sem] max2_int min2_int max_two min_two max_three min_three max_four min_four   -- for this text's walks alone
set_option linter.unusedVariables false
set_option linter.unusedSimpArgs false

/-! ### spec_IsDB: function 6 -/
mutual
def spec_IsDB.j0 : Nat → Bool → List (S53) → List (S47) → Option (Bool)
 | 0, _, _, _ => none
 | k + 1, x19, x194000, x195000 => if x19 = true then (some false) else (spec_IsDB.l0 k 0 x194000 x195000)
def spec_IsDB.l0 : Nat → Int → List (S53) → List (S47) → Option (Bool)
 | 0, _, _, _ => none
 | k + 1, x5, x194000, x195000 => if x5 < (x194000.length : Int) then (if 0 ≤ x5 then (if x5 < (x195000.length : Int) then (if ((rd_T47 x195000 x5).f0).toList = ((rd_T53 x194000 x5).f0).toList then (spec_IsDB.j2 k x5 ((rd_T47 x195000 x5).f1) (decide ((((rd_T47 x195000 x5).f1).length : Int) > 8)) x194000 x195000) else (spec_IsDB.j2 k x5 ((rd_T47 x195000 x5).f1) true x194000 x195000)) else (none)) else (none)) else (some true)
def spec_IsDB.j2 : Nat → Int → List (S56) → Bool → List (S53) → List (S47) → Option (Bool)
 | 0, _, _, _, _, _ => none
 | k + 1, x5, x6, x50, x194000, x195000 => if x50 = true then (some false) else (spec_IsDB.l1 k x5 x6 0 x194000 x195000)
def spec_IsDB.l1 : Nat → Int → List (S56) → Int → List (S53) → List (S47) → Option (Bool)
 | 0, _, _, _, _, _ => none
 | k + 1, x5, x6, x7, x194000, x195000 => if x7 < (x6.length : Int) then (if 0 ≤ x7 then (if 0 ≤ x5 then (if x5 < (x194000.length : Int) then ((spec_HasType.f k ((rd_T56 x6 x7).f0) ((rd_T56 x6 x7).f1) ((rd_T56 x6 x7).f2) ((rd_T56 x6 x7).f3) ((rd_T53 x194000 x5).f1.f0) ((rd_T53 x194000 x5).f1.f1) ((rd_T53 x194000 x5).f1.f2)).bind fun t201 => (if t201 = true then (spec_IsDB.l1 k x5 x6 (wrap64 (x7 + 1)) x194000 x195000) else (some false))) else (none)) else (none)) else (none)) else (spec_IsDB.l0 k (wrap64 (x5 + 1)) x194000 x195000)
end
def spec_IsDB.f (k : Nat) (l0_0 : List (S53)) (l1_0 : List (S47)) : Option (Bool) := (spec_IsSchema.f k l0_0).bind fun t195 => (if t195 = true then (spec_IsDB.j0 k ((l0_0.length : Int) != (l1_0.length : Int)) l0_0 l1_0) else (spec_IsDB.j0 k true l0_0 l1_0))
def spec_IsDB.T7 : Bool × List (List Nat × List Nat) := (true, [([], []), ([0], [0]), ([], []), ([1, 2], [1, 2]), ([3], [3]), ([4], [4]), ([], []), ([6], [6]), ([], []), ([7, 8], [7, 8]), ([9], [9]), ([10], [10]), ([5, 11], [5, 11]), ([12], [12]), ([13], [13]), ([14, 13], [13, 14]), ([15, 13], [13, 15]), ([13, 16], [13, 16])])
def spec_IsDB.B7 : List Nat := [0, 1, 0, 7, 15, 31, 0, 64, 0, 448, 960, 1984, 4095, 8191, 16383, 32767, 65535, 131071]
theorem spec_IsDB.tab7 : rtab .any (opsOf Try.f6 7) = spec_IsDB.T7 := by kernel_rfl
theorem spec_IsDB.bits7 : waitsOk spec_IsDB.T7.2 spec_IsDB.B7 = true := by kernel_rfl
def spec_IsDB.T12 : Bool × List (List Nat × List Nat) := (true, [([], []), ([], []), ([0, 1], [0, 1]), ([2], [2]), ([], []), ([4], [4]), ([], []), ([5, 6], [5, 6]), ([7], [7]), ([8], [8]), ([3, 9], [3, 9]), ([10], [10])])
def spec_IsDB.B12 : List Nat := [0, 0, 3, 7, 0, 16, 0, 112, 240, 496, 1023, 2047]
theorem spec_IsDB.tab12 : rtab .any (opsOf Try.f6 12) = spec_IsDB.T12 := by kernel_rfl
theorem spec_IsDB.bits12 : waitsOk spec_IsDB.T12.2 spec_IsDB.B12 = true := by kernel_rfl
set_option maxHeartbeats 8000000 in
set_option maxRecDepth 100000 in
theorem spec_IsDB.calls (k : Nat) (A0_0 : Option Addr) (c0_0 : Nat) (l0_0 : List (S53)) (A1_0 : Option Addr) (c1_0 : Nat) (l1_0 : List (S47)) (r : Bool) (w : World) (hr0_0 : Kd.C k53 w A0_0 l0_0.length l0_0) (hc0_0 : l0_0.length ≤ c0_0) (hr1_0 : Kd.C k47 w A1_0 l1_0.length l1_0) (hc1_0 : l1_0.length ≤ c1_0) (h : spec_IsDB.f k l0_0 l1_0 = some r) :
  Calls Try.prog 6 #[.agg #[.slice A0_0 l0_0.length c0_0], .agg #[.slice A1_0 l1_0.length c1_0]] w fun e w' => e = .returned (.bool r) ∧ Below w.heap.size w w' := by
 have hu33 := Try.underlying33
 have hu37 := Try.underlying37
 have hu56 := Try.underlying56
 have hu51 := Try.underlying51
 have HR0_0 := Aside0.mk hr0_0
 have HC0_0 := Aside0.mk hc0_0
 clear hr0_0 hc0_0
 have HR1_0 := Aside0.mk hr1_0
 have HC1_0 := Aside0.mk hc1_0
 clear hr1_0 hc1_0
 have HB := Aside0.mk (Below.refl w.heap.size w)
 have H : ((spec_IsSchema.f k l0_0).bind fun t195 => (if t195 = true then (spec_IsDB.j0 k ((l0_0.length : Int) != (l1_0.length : Int)) l0_0 l1_0) else (spec_IsDB.j0 k true l0_0 l1_0))) = some r := h
 clear h
 have HC3 := Aside0.mk H
 clear H
 go_enter Try.func6, Try.ntmps6
 go_upto_region 1 with (first | ((with_reducible refine gate_dst (N := 2) rfl ?_); (try (refine gate_guard (by rfl) ?_; dsimp only)); refine box_event ?hg (N := 2) ?hd (cs := #[.slice A0_0 l0_0.length c0_0]) (t := 33) ?hr ?_; (case hd => rfl); (case hg => rfl); (case hr => exact hrw); intro gb193 hg w4 hbox hb; have n0_ := Aside0.mk (below_step blw hb); have n1_ := Aside0.mk (hbox); have n2_ := Aside0.mk ((by rw [hg]; exact (below_size blw) : w.heap.size ≤ gb193)); have n3_ := n2_; clear HB; revert n0_ n1_ n2_ n3_; intro HB BK193 GW193 GE193; clear hb hbox hg) | ((with_reducible refine gate_dst (N := 3) rfl ?_); (try (refine gate_guard (by rfl) ?_; dsimp only)); refine box_event ?hg (N := 3) ?hd (cs := #[.slice A1_0 l1_0.length c1_0]) (t := 37) ?hr ?_; (case hd => rfl); (case hg => rfl); (case hr => exact hrw); intro gb194 hg w5 hbox hb; have n0_ := Aside0.mk (blk_below (g := gb193) (o := .cells #[.slice A0_0 l0_0.length c0_0] 33 (0, 0)) bkw hb); have n1_ := Aside0.mk (below_step blw hb); have n2_ := Aside0.mk (hbox); have n3_ := Aside0.mk ((by rw [hg]; exact (below_size blw) : w.heap.size ≤ gb194)); have n4_ := n3_; have n5_ := Aside0.mk ((by rw [hg]; exact Nat.ne_of_lt (blk_lt (g := gb193) (o := .cells #[.slice A0_0 l0_0.length c0_0] 33 (0, 0)) bkw) : gb193 ≠ gb194)); have n6_ := Aside0.mk ((by rw [hg]; exact Nat.ne_of_gt (blk_lt (g := gb193) (o := .cells #[.slice A0_0 l0_0.length c0_0] 33 (0, 0)) bkw) : gb194 ≠ gb193)); clear BK193; clear HB; revert n0_ n1_ n2_ n3_ n4_ n5_ n6_; intro BK193 HB BK194 GW194 GE194 NB193_194 NB194_193; clear hb hbox hg))
 (try simp only [Act.put, List.setIfInBounds_toArray, List.set_cons_zero, List.set_cons_succ])
 go_cut [19] (fun v19 wc => ∃ (kq : Nat) (x19_2 : Bool), v19 = .bool x19_2 ∧ Aside0 (spec_IsDB.j0 kq x19_2 l0_0 l1_0 = some r) ∧ Aside0 (kq ≤ k) ∧ Aside0 (wc.heap[gb193]? = some (.cells #[(.slice A0_0 l0_0.length c0_0)] 33 (0, 0))) ∧ Aside0 (wc.heap[gb194]? = some (.cells #[(.slice A1_0 l1_0.length c1_0)] 37 (0, 0))) ∧ Aside0 (Below w.heap.size w wc))
 case first =>
  have H := HC3.out
  clear HC3
  replace H := Option.bind_eq_some_iff.mp H
  obtain ⟨t195, A60, H⟩ := H
  replace H : (if t195 = true then (spec_IsDB.j0 k ((l0_0.length : Int) != (l1_0.length : Int)) l0_0 l1_0) else (spec_IsDB.j0 k true l0_0 l1_0)) = some r := H
  have A6 := Aside0.mk A60
  clear A60
  by_cases c7 : t195 = true
  case neg =>
   replace c7 := Bool.eq_false_iff.mpr c7
   subst c7
   have H1 : (spec_IsDB.j0 k true l0_0 l1_0) = some r := by rw [if_neg (show ¬ (false = true) by decide)] at H; exact H
   clear H
   have H := H1
   clear H1
   have H' := Aside0.mk H
   clear H
   have hnb13 := NB193_194.out
   have hnc13 := NB194_193.out
   have hcz14_0 : w5.cell? ⟨gb193, 0, none⟩ = some (.slice A0_0 l0_0.length c0_0) := (blk_cell BK193.out 0).trans rfl
   have hfz14_0 := blk_frozen BK193.out 0
   go_wp2_with (first | ((with_reducible refine gate_callee (f := 14) rfl ?_); refine goesL_ (some 9) rfl rfl Try.func14 kr rfl #[.agg #[.slice A0_0 l0_0.length c0_0]] rfl mpw ?_; (with_reducible refine (spec_IsSchema.calls k _ _ l0_0 false _ ?side1 ?side2 A6.out).mono ?_); (case side1 => have X_ := HR0_0; exact cbl); (case side2 => exact HC0_0.out); rintro e w15 ⟨rfl, hb⟩; refine ⟨_, rfl, ?_⟩; have n0_ := Aside0.mk (blk_below (g := gb193) (o := .cells #[.slice A0_0 l0_0.length c0_0] 33 (0, 0)) bkw hb); have n1_ := Aside0.mk (blk_below (g := gb194) (o := .cells #[.slice A1_0 l1_0.length c1_0] 37 (0, 0)) bkw hb); have n2_ := Aside0.mk (below_step blw hb); clear BK193; clear BK194; clear HB; revert n0_ n1_ n2_; intro BK193 BK194 HB; (try clear hb); (try clear hb2); (try clear hk); (try clear hi)))
   go_meet
   case rel => exact ⟨_, (true), rfs, H', ⟨by first | omega | exact Nat.le_refl _⟩, ⟨bkw⟩, ⟨bkw⟩, ⟨blw⟩⟩
  subst c7
  have H1 : (spec_IsDB.j0 k ((l0_0.length : Int) != (l1_0.length : Int)) l0_0 l1_0) = some r := by rw [if_pos rfl] at H; exact H
  clear H
  have H := H1
  clear H1
  have H' := Aside0.mk H
  clear H
  have hnb8 := NB193_194.out
  have hnc8 := NB194_193.out
  have hcz9_0 : w5.cell? ⟨gb193, 0, none⟩ = some (.slice A0_0 l0_0.length c0_0) := (blk_cell BK193.out 0).trans rfl
  have hfz9_0 := blk_frozen BK193.out 0
  go_wp2_with (first | ((with_reducible refine gate_callee (f := 14) rfl ?_); refine goesL_ (some 9) rfl rfl Try.func14 kr rfl #[.agg #[.slice A0_0 l0_0.length c0_0]] rfl mpw ?_; (with_reducible refine (spec_IsSchema.calls k _ _ l0_0 true _ ?side1 ?side2 A6.out).mono ?_); (case side1 => have X_ := HR0_0; exact cbl); (case side2 => exact HC0_0.out); rintro e w10 ⟨rfl, hb⟩; refine ⟨_, rfl, ?_⟩; have n0_ := Aside0.mk (blk_below (g := gb193) (o := .cells #[.slice A0_0 l0_0.length c0_0] 33 (0, 0)) bkw hb); have n1_ := Aside0.mk (blk_below (g := gb194) (o := .cells #[.slice A1_0 l1_0.length c1_0] 37 (0, 0)) bkw hb); have n2_ := Aside0.mk (below_step blw hb); clear BK193; clear BK194; clear HB; revert n0_ n1_ n2_; intro BK193 BK194 HB; (try clear hb); (try clear hb2); (try clear hk); (try clear hi); have hcz11_0 : w10.cell? ⟨gb193, 0, none⟩ = some (.slice A0_0 l0_0.length c0_0) := (blk_cell BK193.out 0).trans rfl; have hfz11_0 := blk_frozen BK193.out 0; have hcz12_0 : w10.cell? ⟨gb194, 0, none⟩ = some (.slice A1_0 l1_0.length c1_0) := (blk_cell BK194.out 0).trans rfl; have hfz12_0 := blk_frozen BK194.out 0))
  go_meet
  case rel => exact ⟨_, (((l0_0.length : Int) != (l1_0.length : Int))), rfs, H', ⟨by first | omega | exact Nat.le_refl _⟩, ⟨bkw⟩, ⟨bkw⟩, ⟨blw⟩⟩
 case rest =>
  clear HC3
  (try clear c1); (try clear p2); (try clear c6); (try clear c7); (try clear c8); (try clear c13); (try clear c14); (try clear hcz11_0); (try clear hcz12_0); (try clear hcz14_0); (try clear hcz9_0); (try clear hfz11_0); (try clear hfz12_0); (try clear hfz14_0); (try clear hfz9_0)
  obtain ⟨kq, x19_2, rfl, HA, HJ2, BK193, BK194, HB⟩ := hcut
  cases kq with
  | zero => exact absurd HA.out (by simp [spec_IsDB.j0])
  | succ kj2 =>
   have H := HA.out
   clear HA
   simp only [spec_IsDB.j0] at H
   by_cases c16 : x19_2 = true
   ·subst c16
    have H1 : (some false) = some r := by rw [if_pos rfl] at H; exact H
    clear H
    have H := H1
    clear H1
    obtain rfl := Option.some.inj H
    go_wp2
    go_ret
    exact ⟨rfw, blw⟩
   replace c16 := Bool.eq_false_iff.mpr c16
   subst c16
   have H1 : (spec_IsDB.l0 kj2 0 l0_0 l1_0) = some r := by rw [if_neg (show ¬ (false = true) by decide)] at H; exact H
   clear H
   have H := H1
   clear H1
   have H' := Aside0.mk H
   clear H
   go_wp2
   go_loopg [5] kj2 (fun kq v5 w' => ∃ (x5_2 : Int), v5 = .int .i64 x5_2 ∧ Aside0 (spec_IsDB.l0 kq x5_2 l0_0 l1_0 = some r) ∧ Aside0 (kq ≤ kj2) ∧ Aside0 (w'.heap[gb193]? = some (.cells #[(.slice A0_0 l0_0.length c0_0)] 33 (0, 0))) ∧ Aside0 (w'.heap[gb194]? = some (.cells #[(.slice A1_0 l1_0.length c1_0)] 37 (0, 0))) ∧ Aside0 (Below w.heap.size w w'))
   case atStart => exact ⟨(0), rfs, H', ⟨Nat.le_refl _⟩, ⟨bkw⟩, ⟨bkw⟩, ⟨blw⟩⟩
   case round =>
    clear H'
    (try clear c1); (try clear p2); (try clear c6); (try clear c7); (try clear c8); (try clear c13); (try clear c14); (try clear c16); (try clear hcz11_0); (try clear hcz12_0); (try clear hcz14_0); (try clear hcz9_0); (try clear hfz11_0); (try clear hfz12_0); (try clear hfz14_0); (try clear hfz9_0); (try clear p2)
    obtain ⟨x5_2, rfl, HA, HK2, BK193, BK194, HB⟩ := hrel
    cases gk with
    | zero => exact absurd HA.out (by simp [spec_IsDB.l0])
    | succ k2 =>
     have H := HA.out
     clear HA
     simp only [spec_IsDB.l0] at H
     by_cases c17 : x5_2 < (l0_0.length : Int)
     case neg =>
      rw [if_neg c17] at H
      have c17b0 : decide (x5_2 < (l0_0.length : Int)) = false := decide_eq_false c17
      clear c17
      obtain rfl := Option.some.inj H
      have hnb37 := NB193_194.out
      have hnc37 := NB194_193.out
      have hcz38_0 : wr.cell? ⟨gb193, 0, none⟩ = some (.slice A0_0 l0_0.length c0_0) := (blk_cell BK193.out 0).trans rfl
      have hfz38_0 := blk_frozen BK193.out 0
      go_wp2
      go_ret
      exact ⟨rfw, blw⟩
     rw [if_pos c17] at H
     have c17b0 : decide (x5_2 < (l0_0.length : Int)) = true := decide_eq_true c17
     clear c17
     by_cases c18 : 0 ≤ x5_2
     case neg =>
      rw [if_neg c18] at H
      exact absurd H (by simp)
     rw [if_pos c18] at H
     have c18b0 : decide (0 ≤ x5_2) = true := decide_eq_true c18
     clear c18
     by_cases c19 : x5_2 < (l1_0.length : Int)
     case neg =>
      rw [if_neg c19] at H
      exact absurd H (by simp)
     rw [if_pos c19] at H
     have c19b0 : decide (x5_2 < (l1_0.length : Int)) = true := decide_eq_true c19
     clear c19
     have HC20 := Aside0.mk H
     clear H
     have hnb21 := NB193_194.out
     have hnc21 := NB194_193.out
     have hcz22_0 : wr.cell? ⟨gb193, 0, none⟩ = some (.slice A0_0 l0_0.length c0_0) := (blk_cell BK193.out 0).trans rfl
     have hfz22_0 := blk_frozen BK193.out 0
     have hcz23_0 : wr.cell? ⟨gb194, 0, none⟩ = some (.slice A1_0 l1_0.length c1_0) := (blk_cell BK194.out 0).trans rfl
     have hfz23_0 := blk_frozen BK194.out 0
     have p196 : 0 ≤ (x5_2 : Int) := of_decide_eq_true asw
     have q196 : x5_2 < (l1_0.length : Int) := of_decide_eq_true asw
     obtain ⟨ad196, A196_1, c196_1, e196, hx196_0, hx196_1, hl196_1, hi196_1⟩ := at_T47 HR1_0.out x5_2 p196 q196
     cases e196
     replace hx196_0 := upw HB.out hx196_0
     replace hx196_1 := upw HB.out hx196_1
     have HR196_1 := Aside0.mk hi196_1
     have HC196_1 := Aside0.mk hl196_1
     clear hi196_1 hl196_1
     replace p196 := eq_true p196
     replace q196 := eq_true q196
     go_upto_region 7 with (fail)
     go_cut [50] (fun v50 wc => ∃ (kq : Nat) (x50_19 : Bool), v50 = .bool x50_19 ∧ Aside0 (spec_IsDB.j2 kq x5_2 ((rd_T47 l1_0 x5_2).f1) x50_19 l0_0 l1_0 = some r) ∧ Aside0 (kq ≤ k2) ∧ Aside0 (wc.heap[gb193]? = some (.cells #[(.slice A0_0 l0_0.length c0_0)] 33 (0, 0))) ∧ Aside0 (wc.heap[gb194]? = some (.cells #[(.slice (some ad196) l1_0.length c1_0)] 37 (0, 0))) ∧ Aside0 (Below w.heap.size w wc))
     case first =>
      have H := HC20.out
      clear HC20
      by_cases c24 : ((rd_T47 l1_0 x5_2).f0).toList = ((rd_T53 l0_0 x5_2).f0).toList
      case neg =>
       rw [if_neg c24] at H
       have c24b0 : (((rd_T47 l1_0 x5_2).f0).toList == ((rd_T53 l0_0 x5_2).f0).toList) = false := beq_eq_false_iff_ne.mpr c24
       have c24b1 : (((rd_T47 l1_0 x5_2).f0).toList != ((rd_T53 l0_0 x5_2).f0).toList) = true := bne_iff_ne.mpr c24
       (first | rw [c24b0] | (simp only [i64_w, i32_w]; rw [c24b0]) | (rw [c24b1]; (try simp only [Bool.not_true, Bool.not_false])) | skip)
       have H' := Aside0.mk H
       clear H
       try go_wp2
       have n0_ := Aside0.mk (blk_drew BK193.out)
       have n1_ := Aside0.mk (blk_drew BK194.out)
       have n2_ := Aside0.mk (below_drew1 HB.out)
       clear BK193
       clear BK194
       clear HB
       revert n0_ n1_ n2_
       intro BK193 BK194 HB
       have p197 : 0 ≤ (x5_2 : Int) := of_decide_eq_true asw
       have q197 : x5_2 < (l1_0.length : Int) := of_decide_eq_true asw
       obtain ⟨ad197, A197_1, c197_1, e197, hx197_0, hx197_1, hl197_1, hi197_1⟩ := at_T47 HR1_0.out x5_2 p197 q197
       have hw197_1 := hx197_1
       have hw197_0 := hx197_0
       obtain rfl : ad196 = ad197 := (by injection e197)
       replace hx197_0 := upw HB.out hx197_0
       replace hx197_1 := upw HB.out hx197_1
       have HR197_1 := Aside0.mk hi197_1
       have HC197_1 := Aside0.mk hl197_1
       clear hi197_1 hl197_1
       replace p197 := eq_true p197
       replace q197 := eq_true q197
       have p198 : 0 ≤ (x5_2 : Int) := of_decide_eq_true asw
       have q198 : x5_2 < (l0_0.length : Int) := of_decide_eq_true asw
       obtain ⟨ad198, A198_2, c198_2, A198_3, c198_3, e198, hx198_0, hx198_1, hx198_2, hx198_3, hl198_2, hi198_2, hl198_3, hi198_3⟩ := at_T53 HR0_0.out x5_2 p198 q198
       have hw198_3 := hx198_3
       have hw198_2 := hx198_2
       have hw198_1 := hx198_1
       have hw198_0 := hx198_0
       cases e198
       replace hx198_0 := upw HB.out hx198_0
       replace hx198_1 := upw HB.out hx198_1
       replace hx198_2 := upw HB.out hx198_2
       replace hx198_3 := upw HB.out hx198_3
       have HR198_2 := Aside0.mk hi198_2
       have HC198_2 := Aside0.mk hl198_2
       clear hi198_2 hl198_2
       have HR198_3 := Aside0.mk hi198_3
       have HC198_3 := Aside0.mk hl198_3
       clear hi198_3 hl198_3
       replace p198 := eq_true p198
       replace q198 := eq_true q198
       refine start_ (n := 18) (S := fun w' => w'.cell? ⟨gb194, 0, none⟩ = some (.slice (some ad196) l1_0.length c1_0) ∧ w'.cell? ⟨gb193, 0, none⟩ = some (.slice (some ad198) l0_0.length c0_0) ∧ w'.cell? (ad196.add ((x5_2).toNat * 2)) = some (.string ((rd_T47 l1_0 x5_2).f0)) ∧ w'.cell? ⟨(ad196.add ((x5_2).toNat * 2)).block, (ad196.add ((x5_2).toNat * 2)).off + 1, none⟩ = some (.slice A197_1 ((rd_T47 l1_0 x5_2).f1).length c197_1) ∧ w'.cell? (ad198.add ((x5_2).toNat * 4)) = some (.string ((rd_T53 l0_0 x5_2).f0)) ∧ w'.cell? ⟨(ad198.add ((x5_2).toNat * 4)).block, (ad198.add ((x5_2).toNat * 4)).off + 1, none⟩ = some (.int .i64 ((rd_T53 l0_0 x5_2).f1.f0)) ∧ w'.cell? ⟨(ad198.add ((x5_2).toNat * 4)).block, (ad198.add ((x5_2).toNat * 4)).off + 2, none⟩ = some (.slice A198_2 ((rd_T53 l0_0 x5_2).f1.f1).length c198_2) ∧ w'.cell? ⟨(ad198.add ((x5_2).toNat * 4)).block, (ad198.add ((x5_2).toNat * 4)).off + 3, none⟩ = some (.slice A198_3 ((rd_T53 l0_0 x5_2).f1.f2).length c198_3)) (ds := []) #[false,false,false,false,false,false,false,false,false,false,false,false,false,false,false,false,false,false] kr rfl rfl ⟨(blk_cell BK194.out 0).trans rfl, (blk_cell BK193.out 0).trans rfl, ((HB.out.cell (World.block_lt_of_cell? w _ hw197_0)).trans hw197_0), ((HB.out.cell (World.block_lt_of_cell? w _ hw197_1)).trans hw197_1), ((HB.out.cell (World.block_lt_of_cell? w _ hw198_0)).trans hw198_0), ((HB.out.cell (World.block_lt_of_cell? w _ hw198_1)).trans hw198_1), ((HB.out.cell (World.block_lt_of_cell? w _ hw198_2)).trans hw198_2), ((HB.out.cell (World.block_lt_of_cell? w _ hw198_3)).trans hw198_3)⟩ (fun hHeld => ?_); refine with_tabW spec_IsDB.tab7 spec_IsDB.bits7 (fun HT_ HW_ => ?_)
       generalize wr.drew = w26 at BK193 BK194 HB HR197_1 HR198_2 HR198_3 hx197_0 hx197_1 hx198_0 hx198_1 hx198_2 hx198_3 hHeld ⊢
       refine pure_ (i := 0) (N := some 33) (v := ?_) (a' := ?_) (bm 18 1) rfl rfl (any_of HT_.out kr) qi (Or.inl ⟨by rfl, ?_⟩) ?_ ?_
       rotate_left
       ·intro w'
        go_simp
        with_reducible rfl
       rotate_left
       ·simp only [sx]
        rfl
       refine pure_ (i := 2) (N := some 35) (v := ?_) (a' := ?_) (bm 18 5) rfl rfl (any_of HT_.out kr) qi (Or.inl ⟨by rfl, ?_⟩) ?_ ?_
       rotate_left
       ·intro w'
        go_simp
        with_reducible rfl
       rotate_left
       ·simp only [sx]
        rfl
       refine pure_ (i := 6) (N := some 39) (v := ?_) (a' := ?_) (bm 18 69) rfl rfl (any_of HT_.out kr) qi (Or.inl ⟨by rfl, ?_⟩) ?_ ?_
       rotate_left
       ·intro w'
        go_simp
        with_reducible rfl
       rotate_left
       ·simp only [sx]
        rfl
       refine pure_ (i := 8) (N := some 41) (v := ?_) (a' := ?_) (bm 18 325) rfl rfl (any_of HT_.out kr) qi (Or.inl ⟨by rfl, ?_⟩) ?_ ?_
       rotate_left
       ·intro w'
        go_simp
        with_reducible rfl
       rotate_left
       ·simp only [sx]
        rfl
       refine take_ (i := 1) (N := some 34) (v := ?_) (a' := ?_) (bm 18 327) rfl rfl (take_ofW HT_.out HW_.out kr) qi (Or.inl ⟨by rfl, ?_⟩) hHeld ?_ ?_
       rotate_left
       ·rintro w' ⟨s0, s1, s2, s3, s4, s5, s6, s7⟩
        go_simp
        with_reducible rfl
       rotate_left
       ·simp only [sx]
        rfl
       refine pure_ (i := 3) (N := some 36) (v := ?_) (a' := ?_) (bm 18 335) rfl rfl (any_of HT_.out kr) qi (Or.inl ⟨by rfl, ?_⟩) ?_ ?_
       rotate_left
       ·intro w'
        go_simp
        with_reducible rfl
       rotate_left
       ·simp only [sx]
        rfl
       refine pure_ (i := 4) (N := some 37) (v := ?_) (a' := ?_) (bm 18 351) rfl rfl (any_of HT_.out kr) qi (Or.inl ⟨by rfl, ?_⟩) ?_ ?_
       rotate_left
       ·intro w'
        go_simp
        with_reducible rfl
       rotate_left
       ·simp only [sx]
        rfl
       refine take_ (i := 5) (N := some 38) (v := ?_) (a' := ?_) (bm 18 383) rfl rfl (take_ofW HT_.out HW_.out kr) qi (Or.inl ⟨by rfl, ?_⟩) hHeld ?_ ?_
       rotate_left
       ·rintro w' ⟨s0, s1, s2, s3, s4, s5, s6, s7⟩
        go_simp
        with_reducible rfl
       rotate_left
       ·simp only [sx]
        rfl
       refine take_ (i := 7) (N := some 40) (v := ?_) (a' := ?_) (bm 18 511) rfl rfl (take_ofW HT_.out HW_.out kr) qi (Or.inl ⟨by rfl, ?_⟩) hHeld ?_ ?_
       rotate_left
       ·rintro w' ⟨s0, s1, s2, s3, s4, s5, s6, s7⟩
        go_simp
        with_reducible rfl
       rotate_left
       ·simp only [sx]
        rfl
       refine pure_ (i := 9) (N := some 42) (v := ?_) (a' := ?_) (bm 18 1023) rfl rfl (any_of HT_.out kr) qi (Or.inl ⟨by rfl, ?_⟩) ?_ ?_
       rotate_left
       ·intro w'
        go_simp
        with_reducible rfl
       rotate_left
       ·simp only [sx]
        rfl
       refine pure_ (i := 10) (N := some 43) (v := ?_) (a' := ?_) (bm 18 2047) rfl rfl (any_of HT_.out kr) qi (Or.inl ⟨by rfl, ?_⟩) ?_ ?_
       rotate_left
       ·intro w'
        go_simp
        with_reducible rfl
       rotate_left
       ·simp only [sx]
        rfl
       refine take_ (i := 11) (N := some 44) (v := ?_) (a' := ?_) (bm 18 4095) rfl rfl (take_ofW HT_.out HW_.out kr) qi (Or.inl ⟨by rfl, ?_⟩) hHeld ?_ ?_
       rotate_left
       ·rintro w' ⟨s0, s1, s2, s3, s4, s5, s6, s7⟩
        go_simp
        with_reducible rfl
       rotate_left
       ·simp only [sx]
        rfl
       refine pure_ (i := 12) (N := some 45) (v := ?_) (a' := ?_) (bm 18 8191) rfl rfl (any_of HT_.out kr) qi (Or.inl ⟨by rfl, ?_⟩) ?_ ?_
       rotate_left
       ·intro w'
        go_simp
        with_reducible rfl
       rotate_left
       ·simp only [sx]
        rfl
       refine pure_ (i := 13) (N := some 46) (v := ?_) (a' := ?_) (bm 18 16383) rfl rfl (any_of HT_.out kr) qi (Or.inl ⟨by rfl, ?_⟩) ?_ ?_
       rotate_left
       ·intro w'
        go_simp
        with_reducible rfl
       rotate_left
       ·simp only [sx]
        rfl
       refine pure_ (i := 14) (N := some 47) (v := undef) (a' := ?_) (bm 18 32767) rfl rfl (any_of HT_.out kr) qi (Or.inr ⟨by rfl, rfl⟩) ?_ ?_
       rotate_left
       ·simp only [sx]
        rfl
       refine pure_ (i := 15) (N := some 48) (v := undef) (a' := ?_) (bm 18 65535) rfl rfl (any_of HT_.out kr) qi (Or.inr ⟨by rfl, rfl⟩) ?_ ?_
       rotate_left
       ·simp only [sx]
        rfl
       refine pure_ (i := 16) (N := some 49) (v := undef) (a' := ?_) (bm 18 131071) rfl rfl (any_of HT_.out kr) qi (Or.inr ⟨by rfl, rfl⟩) ?_ ?_
       rotate_left
       ·simp only [sx]
        rfl
       refine pure_ (i := 17) (N := some 50) (v := ?_) (a' := ?_) (bm 18 262143) rfl rfl (any_of HT_.out kr) qi (Or.inl ⟨by rfl, ?_⟩) ?_ ?_
       rotate_left
       ·intro w'
        go_simp
        with_reducible rfl
       rotate_left
       ·simp only [sx]
        rfl
       refine done_ (done_of HT_.out kr) ?_
       try go_wp2
       go_meet
       case rel => exact ⟨_, (true), rfs, H', ⟨by have := HJ2.out; have := HK2.out; first | omega | exact Nat.le_refl _⟩, ⟨bkw⟩, ⟨bkw⟩, ⟨blw⟩⟩
      rw [if_pos c24] at H
      have c24b0 : (((rd_T47 l1_0 x5_2).f0).toList == ((rd_T53 l0_0 x5_2).f0).toList) = true := beq_iff_eq.mpr c24
      have c24b1 : (((rd_T47 l1_0 x5_2).f0).toList != ((rd_T53 l0_0 x5_2).f0).toList) = false := bne_eq_false_iff_eq.mpr c24
      clear c24
      (first | rw [c24b0] | (simp only [i64_w, i32_w]; rw [c24b0]) | (rw [c24b1]; (try simp only [Bool.not_true, Bool.not_false])) | skip)
      have H' := Aside0.mk H
      clear H
      try go_wp2
      have n0_ := Aside0.mk (blk_drew BK193.out)
      have n1_ := Aside0.mk (blk_drew BK194.out)
      have n2_ := Aside0.mk (below_drew1 HB.out)
      clear BK193
      clear BK194
      clear HB
      revert n0_ n1_ n2_
      intro BK193 BK194 HB
      have p197 : 0 ≤ (x5_2 : Int) := of_decide_eq_true asw
      have q197 : x5_2 < (l1_0.length : Int) := of_decide_eq_true asw
      obtain ⟨ad197, A197_1, c197_1, e197, hx197_0, hx197_1, hl197_1, hi197_1⟩ := at_T47 HR1_0.out x5_2 p197 q197
      have hw197_1 := hx197_1
      have hw197_0 := hx197_0
      obtain rfl : ad196 = ad197 := (by injection e197)
      replace hx197_0 := upw HB.out hx197_0
      replace hx197_1 := upw HB.out hx197_1
      have HR197_1 := Aside0.mk hi197_1
      have HC197_1 := Aside0.mk hl197_1
      clear hi197_1 hl197_1
      replace p197 := eq_true p197
      replace q197 := eq_true q197
      have p198 : 0 ≤ (x5_2 : Int) := of_decide_eq_true asw
      have q198 : x5_2 < (l0_0.length : Int) := of_decide_eq_true asw
      obtain ⟨ad198, A198_2, c198_2, A198_3, c198_3, e198, hx198_0, hx198_1, hx198_2, hx198_3, hl198_2, hi198_2, hl198_3, hi198_3⟩ := at_T53 HR0_0.out x5_2 p198 q198
      have hw198_3 := hx198_3
      have hw198_2 := hx198_2
      have hw198_1 := hx198_1
      have hw198_0 := hx198_0
      cases e198
      replace hx198_0 := upw HB.out hx198_0
      replace hx198_1 := upw HB.out hx198_1
      replace hx198_2 := upw HB.out hx198_2
      replace hx198_3 := upw HB.out hx198_3
      have HR198_2 := Aside0.mk hi198_2
      have HC198_2 := Aside0.mk hl198_2
      clear hi198_2 hl198_2
      have HR198_3 := Aside0.mk hi198_3
      have HC198_3 := Aside0.mk hl198_3
      clear hi198_3 hl198_3
      replace p198 := eq_true p198
      replace q198 := eq_true q198
      refine start_ (n := 18) (S := fun w' => w'.cell? ⟨gb194, 0, none⟩ = some (.slice (some ad196) l1_0.length c1_0) ∧ w'.cell? ⟨gb193, 0, none⟩ = some (.slice (some ad198) l0_0.length c0_0) ∧ w'.cell? (ad196.add ((x5_2).toNat * 2)) = some (.string ((rd_T47 l1_0 x5_2).f0)) ∧ w'.cell? ⟨(ad196.add ((x5_2).toNat * 2)).block, (ad196.add ((x5_2).toNat * 2)).off + 1, none⟩ = some (.slice A197_1 ((rd_T47 l1_0 x5_2).f1).length c197_1) ∧ w'.cell? (ad198.add ((x5_2).toNat * 4)) = some (.string ((rd_T53 l0_0 x5_2).f0)) ∧ w'.cell? ⟨(ad198.add ((x5_2).toNat * 4)).block, (ad198.add ((x5_2).toNat * 4)).off + 1, none⟩ = some (.int .i64 ((rd_T53 l0_0 x5_2).f1.f0)) ∧ w'.cell? ⟨(ad198.add ((x5_2).toNat * 4)).block, (ad198.add ((x5_2).toNat * 4)).off + 2, none⟩ = some (.slice A198_2 ((rd_T53 l0_0 x5_2).f1.f1).length c198_2) ∧ w'.cell? ⟨(ad198.add ((x5_2).toNat * 4)).block, (ad198.add ((x5_2).toNat * 4)).off + 3, none⟩ = some (.slice A198_3 ((rd_T53 l0_0 x5_2).f1.f2).length c198_3)) (ds := []) #[false,false,false,false,false,false,false,false,false,false,false,false,false,false,false,false,false,false] kr rfl rfl ⟨(blk_cell BK194.out 0).trans rfl, (blk_cell BK193.out 0).trans rfl, ((HB.out.cell (World.block_lt_of_cell? w _ hw197_0)).trans hw197_0), ((HB.out.cell (World.block_lt_of_cell? w _ hw197_1)).trans hw197_1), ((HB.out.cell (World.block_lt_of_cell? w _ hw198_0)).trans hw198_0), ((HB.out.cell (World.block_lt_of_cell? w _ hw198_1)).trans hw198_1), ((HB.out.cell (World.block_lt_of_cell? w _ hw198_2)).trans hw198_2), ((HB.out.cell (World.block_lt_of_cell? w _ hw198_3)).trans hw198_3)⟩ (fun hHeld => ?_); refine with_tabW spec_IsDB.tab7 spec_IsDB.bits7 (fun HT_ HW_ => ?_)
      generalize wr.drew = w25 at BK193 BK194 HB HR197_1 HR198_2 HR198_3 hx197_0 hx197_1 hx198_0 hx198_1 hx198_2 hx198_3 hHeld ⊢
      refine pure_ (i := 0) (N := some 33) (v := ?_) (a' := ?_) (bm 18 1) rfl rfl (any_of HT_.out kr) qi (Or.inl ⟨by rfl, ?_⟩) ?_ ?_
      rotate_left
      ·intro w'
       go_simp
       with_reducible rfl
      rotate_left
      ·simp only [sx]
       rfl
      refine pure_ (i := 2) (N := some 35) (v := ?_) (a' := ?_) (bm 18 5) rfl rfl (any_of HT_.out kr) qi (Or.inl ⟨by rfl, ?_⟩) ?_ ?_
      rotate_left
      ·intro w'
       go_simp
       with_reducible rfl
      rotate_left
      ·simp only [sx]
       rfl
      refine pure_ (i := 6) (N := some 39) (v := ?_) (a' := ?_) (bm 18 69) rfl rfl (any_of HT_.out kr) qi (Or.inl ⟨by rfl, ?_⟩) ?_ ?_
      rotate_left
      ·intro w'
       go_simp
       with_reducible rfl
      rotate_left
      ·simp only [sx]
       rfl
      refine pure_ (i := 8) (N := some 41) (v := ?_) (a' := ?_) (bm 18 325) rfl rfl (any_of HT_.out kr) qi (Or.inl ⟨by rfl, ?_⟩) ?_ ?_
      rotate_left
      ·intro w'
       go_simp
       with_reducible rfl
      rotate_left
      ·simp only [sx]
       rfl
      refine take_ (i := 1) (N := some 34) (v := ?_) (a' := ?_) (bm 18 327) rfl rfl (take_ofW HT_.out HW_.out kr) qi (Or.inl ⟨by rfl, ?_⟩) hHeld ?_ ?_
      rotate_left
      ·rintro w' ⟨s0, s1, s2, s3, s4, s5, s6, s7⟩
       go_simp
       with_reducible rfl
      rotate_left
      ·simp only [sx]
       rfl
      refine pure_ (i := 3) (N := some 36) (v := ?_) (a' := ?_) (bm 18 335) rfl rfl (any_of HT_.out kr) qi (Or.inl ⟨by rfl, ?_⟩) ?_ ?_
      rotate_left
      ·intro w'
       go_simp
       with_reducible rfl
      rotate_left
      ·simp only [sx]
       rfl
      refine pure_ (i := 4) (N := some 37) (v := ?_) (a' := ?_) (bm 18 351) rfl rfl (any_of HT_.out kr) qi (Or.inl ⟨by rfl, ?_⟩) ?_ ?_
      rotate_left
      ·intro w'
       go_simp
       with_reducible rfl
      rotate_left
      ·simp only [sx]
       rfl
      refine take_ (i := 5) (N := some 38) (v := ?_) (a' := ?_) (bm 18 383) rfl rfl (take_ofW HT_.out HW_.out kr) qi (Or.inl ⟨by rfl, ?_⟩) hHeld ?_ ?_
      rotate_left
      ·rintro w' ⟨s0, s1, s2, s3, s4, s5, s6, s7⟩
       go_simp
       with_reducible rfl
      rotate_left
      ·simp only [sx]
       rfl
      refine take_ (i := 7) (N := some 40) (v := ?_) (a' := ?_) (bm 18 511) rfl rfl (take_ofW HT_.out HW_.out kr) qi (Or.inl ⟨by rfl, ?_⟩) hHeld ?_ ?_
      rotate_left
      ·rintro w' ⟨s0, s1, s2, s3, s4, s5, s6, s7⟩
       go_simp
       with_reducible rfl
      rotate_left
      ·simp only [sx]
       rfl
      refine pure_ (i := 9) (N := some 42) (v := ?_) (a' := ?_) (bm 18 1023) rfl rfl (any_of HT_.out kr) qi (Or.inl ⟨by rfl, ?_⟩) ?_ ?_
      rotate_left
      ·intro w'
       go_simp
       with_reducible rfl
      rotate_left
      ·simp only [sx]
       rfl
      refine pure_ (i := 10) (N := some 43) (v := ?_) (a' := ?_) (bm 18 2047) rfl rfl (any_of HT_.out kr) qi (Or.inl ⟨by rfl, ?_⟩) ?_ ?_
      rotate_left
      ·intro w'
       go_simp
       with_reducible rfl
      rotate_left
      ·simp only [sx]
       rfl
      refine take_ (i := 11) (N := some 44) (v := ?_) (a' := ?_) (bm 18 4095) rfl rfl (take_ofW HT_.out HW_.out kr) qi (Or.inl ⟨by rfl, ?_⟩) hHeld ?_ ?_
      rotate_left
      ·rintro w' ⟨s0, s1, s2, s3, s4, s5, s6, s7⟩
       go_simp
       with_reducible rfl
      rotate_left
      ·simp only [sx]
       rfl
      refine pure_ (i := 12) (N := some 45) (v := ?_) (a' := ?_) (bm 18 8191) rfl rfl (any_of HT_.out kr) qi (Or.inl ⟨by rfl, ?_⟩) ?_ ?_
      rotate_left
      ·intro w'
       go_simp
       with_reducible rfl
      rotate_left
      ·simp only [sx]
       rfl
      refine pure_ (i := 13) (N := some 46) (v := ?_) (a' := ?_) (bm 18 16383) rfl rfl (any_of HT_.out kr) qi (Or.inl ⟨by rfl, ?_⟩) ?_ ?_
      rotate_left
      ·intro w'
       go_simp
       with_reducible rfl
      rotate_left
      ·simp only [sx]
       rfl
      refine pure_ (i := 14) (N := some 47) (v := ?_) (a' := ?_) (bm 18 32767) rfl rfl (any_of HT_.out kr) qi (Or.inl ⟨by rfl, ?_⟩) ?_ ?_
      rotate_left
      ·intro w'
       go_simp
       with_reducible rfl
      rotate_left
      ·simp only [sx]
       rfl
      refine pure_ (i := 15) (N := some 48) (v := ?_) (a' := ?_) (bm 18 65535) rfl rfl (any_of HT_.out kr) qi (Or.inl ⟨by rfl, ?_⟩) ?_ ?_
      rotate_left
      ·intro w'
       go_simp
       with_reducible rfl
      rotate_left
      ·simp only [sx]
       rfl
      refine pure_ (i := 16) (N := some 49) (v := ?_) (a' := ?_) (bm 18 131071) rfl rfl (any_of HT_.out kr) qi (Or.inl ⟨by rfl, ?_⟩) ?_ ?_
      rotate_left
      ·intro w'
       go_simp
       with_reducible rfl
      rotate_left
      ·simp only [sx]
       rfl
      refine pure_ (i := 17) (N := some 50) (v := ?_) (a' := ?_) (bm 18 262143) rfl rfl (any_of HT_.out kr) qi (Or.inl ⟨by rfl, ?_⟩) ?_ ?_
      rotate_left
      ·intro w'
       go_simp
       with_reducible rfl
      rotate_left
      ·simp only [sx]
       rfl
      refine done_ (done_of HT_.out kr) ?_
      try go_wp2
      go_meet
      case rel => exact ⟨_, (decide ((((rd_T47 l1_0 x5_2).f1).length : Int) > 8)), rfs, H', ⟨by have := HJ2.out; have := HK2.out; first | omega | exact Nat.le_refl _⟩, ⟨bkw⟩, ⟨bkw⟩, ⟨blw⟩⟩
     case rest =>
      clear HC20
      (try clear c1); (try clear p1); (try clear q1); (try clear hx1); (try clear c2); (try clear p2); (try clear c6); (try clear c7); (try clear c8); (try clear c13); (try clear c14); (try clear c16); (try clear c17); (try clear c17b0); (try clear c18); (try clear c18b0); (try clear c19); (try clear c19b0); (try clear p19); (try clear q19); (try clear hx19); (try clear c21); (try clear c24); (try clear c24b0); (try clear c24b1); (try clear hcz11_0); (try clear hcz12_0); (try clear hcz14_0); (try clear hcz22_0); (try clear hcz23_0); (try clear hcz9_0); (try clear hfz11_0); (try clear hfz12_0); (try clear hfz14_0); (try clear hfz22_0); (try clear hfz23_0); (try clear hfz9_0); (try clear hx196_0); (try clear hx196_1); (try clear hx197_0); (try clear hx197_1); (try clear hx198_0); (try clear hx198_1); (try clear hx198_2); (try clear hx198_3); (try clear p196); (try clear p197); (try clear p198); (try clear p2); (try clear q196); (try clear q197); (try clear q198)
      obtain ⟨kq, x50_19, rfl, HA, HJ19, BK193, BK194, HB⟩ := hcut
      cases kq with
      | zero => exact absurd HA.out (by simp [spec_IsDB.j2])
      | succ kj19 =>
       have H := HA.out
       clear HA
       simp only [spec_IsDB.j2] at H
       by_cases c27 : x50_19 = true
       ·subst c27
        have H1 : (some false) = some r := by rw [if_pos rfl] at H; exact H
        clear H
        have H := H1
        clear H1
        obtain rfl := Option.some.inj H
        go_wp2
        go_ret
        exact ⟨rfw, blw⟩
       replace c27 := Bool.eq_false_iff.mpr c27
       subst c27
       have H1 : (spec_IsDB.l1 kj19 x5_2 ((rd_T47 l1_0 x5_2).f1) 0 l0_0 l1_0) = some r := by rw [if_neg (show ¬ (false = true) by decide)] at H; exact H
       clear H
       have H := H1
       clear H1
       have H' := Aside0.mk H
       clear H
       go_wp2
       go_loopg [7] kj19 (fun kq v7 w' => ∃ (x7_4 : Int), v7 = .int .i64 x7_4 ∧ Aside0 (spec_IsDB.l1 kq x5_2 ((rd_T47 l1_0 x5_2).f1) x7_4 l0_0 l1_0 = some r) ∧ Aside0 (kq ≤ kj19) ∧ Aside0 (w'.heap[gb193]? = some (.cells #[(.slice A0_0 l0_0.length c0_0)] 33 (0, 0))) ∧ Aside0 (w'.heap[gb194]? = some (.cells #[(.slice (some ad196) l1_0.length c1_0)] 37 (0, 0))) ∧ Aside0 (Below w.heap.size w w'))
       case atStart => exact ⟨(0), rfs, H', ⟨Nat.le_refl _⟩, ⟨bkw⟩, ⟨bkw⟩, ⟨blw⟩⟩
       case round =>
        clear H'
        (try clear c1); (try clear p1); (try clear q1); (try clear hx1); (try clear c2); (try clear p2); (try clear c6); (try clear c7); (try clear c8); (try clear c13); (try clear c14); (try clear c16); (try clear c17); (try clear c17b0); (try clear c18); (try clear c18b0); (try clear c19); (try clear c19b0); (try clear p19); (try clear q19); (try clear hx19); (try clear c21); (try clear c24); (try clear c24b0); (try clear c24b1); (try clear c27); (try clear hcz11_0); (try clear hcz12_0); (try clear hcz14_0); (try clear hcz22_0); (try clear hcz23_0); (try clear hcz9_0); (try clear hfz11_0); (try clear hfz12_0); (try clear hfz14_0); (try clear hfz22_0); (try clear hfz23_0); (try clear hfz9_0); (try clear hx196_0); (try clear hx196_1); (try clear hx197_0); (try clear hx197_1); (try clear hx198_0); (try clear hx198_1); (try clear hx198_2); (try clear hx198_3); (try clear p1); (try clear p19); (try clear p196); (try clear p197); (try clear p198); (try clear p2); (try clear q1); (try clear q19); (try clear q196); (try clear q197); (try clear q198)
        obtain ⟨x7_4, rfl, HA, HK4, BK193, BK194, HB⟩ := hrel
        cases gk with
        | zero => exact absurd HA.out (by simp [spec_IsDB.l1])
        | succ k4 =>
         have H := HA.out
         clear HA
         simp only [spec_IsDB.l1] at H
         by_cases c28 : x7_4 < (((rd_T47 l1_0 x5_2).f1).length : Int)
         case neg =>
          rw [if_neg c28] at H
          have c28b0 : decide (x7_4 < (((rd_T47 l1_0 x5_2).f1).length : Int)) = false := decide_eq_false c28
          clear c28
          have H' := Aside0.mk H
          clear H
          go_wp2
          go_roundg k4
          case measure => have := HJ2.out; have := HK2.out; have := HJ19.out; have := HK4.out; omega
          case rel => exact ⟨(wrap64 (x5_2 + 1)), rfs, H', ⟨by have := HJ2.out; have := HK2.out; have := HJ19.out; have := HK4.out; omega⟩, ⟨bkw⟩, ⟨bkw⟩, ⟨blw⟩⟩
         rw [if_pos c28] at H
         have c28b0 : decide (x7_4 < (((rd_T47 l1_0 x5_2).f1).length : Int)) = true := decide_eq_true c28
         clear c28
         by_cases c29 : 0 ≤ x7_4
         case neg =>
          rw [if_neg c29] at H
          exact absurd H (by simp)
         rw [if_pos c29] at H
         have c29b0 : decide (0 ≤ x7_4) = true := decide_eq_true c29
         clear c29
         by_cases c30 : 0 ≤ x5_2
         case neg =>
          rw [if_neg c30] at H
          exact absurd H (by simp)
         rw [if_pos c30] at H
         have c30b0 : decide (0 ≤ x5_2) = true := decide_eq_true c30
         clear c30
         by_cases c31 : x5_2 < (l0_0.length : Int)
         case neg =>
          rw [if_neg c31] at H
          exact absurd H (by simp)
         rw [if_pos c31] at H
         have c31b0 : decide (x5_2 < (l0_0.length : Int)) = true := decide_eq_true c31
         clear c31
         replace H := Option.bind_eq_some_iff.mp H
         obtain ⟨t201, A320, H⟩ := H
         replace H : (if t201 = true then (spec_IsDB.l1 k4 x5_2 ((rd_T47 l1_0 x5_2).f1) (wrap64 (x7_4 + 1)) l0_0 l1_0) else (some false)) = some r := H
         have A32 := Aside0.mk A320
         clear A320
         have HC33 := Aside0.mk H
         clear H
         try go_wp2
         have n0_ := Aside0.mk (blk_drew BK193.out)
         have n1_ := Aside0.mk (blk_drew BK194.out)
         have n2_ := Aside0.mk (below_drew1 HB.out)
         clear BK193
         clear BK194
         clear HB
         revert n0_ n1_ n2_
         intro BK193 BK194 HB
         have p199 : 0 ≤ (x7_4 : Int) := of_decide_eq_true asw
         have q199 : x7_4 < (((rd_T47 l1_0 x5_2).f1).length : Int) := of_decide_eq_true asw
         obtain ⟨ad199, A199_2, c199_2, A199_3, c199_3, e199, hx199_0, hx199_1, hx199_2, hx199_3, hl199_2, hi199_2, hl199_3, hi199_3⟩ := at_T56 HR196_1.out x7_4 p199 q199
         have hw199_3 := hx199_3
         have hw199_2 := hx199_2
         have hw199_1 := hx199_1
         have hw199_0 := hx199_0
         cases e199
         replace hx199_0 := upw HB.out hx199_0
         replace hx199_1 := upw HB.out hx199_1
         replace hx199_2 := upw HB.out hx199_2
         replace hx199_3 := upw HB.out hx199_3
         have HR199_2 := Aside0.mk hi199_2
         have HC199_2 := Aside0.mk hl199_2
         clear hi199_2 hl199_2
         have HR199_3 := Aside0.mk hi199_3
         have HC199_3 := Aside0.mk hl199_3
         clear hi199_3 hl199_3
         replace p199 := eq_true p199
         replace q199 := eq_true q199
         have p200 : 0 ≤ (x5_2 : Int) := of_decide_eq_true asw
         have q200 : x5_2 < (l0_0.length : Int) := of_decide_eq_true asw
         obtain ⟨ad200, A200_2, c200_2, A200_3, c200_3, e200, hx200_0, hx200_1, hx200_2, hx200_3, hl200_2, hi200_2, hl200_3, hi200_3⟩ := at_T53 HR0_0.out x5_2 p200 q200
         have hw200_3 := hx200_3
         have hw200_2 := hx200_2
         have hw200_1 := hx200_1
         have hw200_0 := hx200_0
         cases e200
         replace hx200_0 := upw HB.out hx200_0
         replace hx200_1 := upw HB.out hx200_1
         replace hx200_2 := upw HB.out hx200_2
         replace hx200_3 := upw HB.out hx200_3
         have HR200_2 := Aside0.mk hi200_2
         have HC200_2 := Aside0.mk hl200_2
         clear hi200_2 hl200_2
         have HR200_3 := Aside0.mk hi200_3
         have HC200_3 := Aside0.mk hl200_3
         clear hi200_3 hl200_3
         replace p200 := eq_true p200
         replace q200 := eq_true q200
         refine start_ (n := 12) (S := fun w' => w'.cell? ⟨gb193, 0, none⟩ = some (.slice (some ad200) l0_0.length c0_0) ∧ w'.cell? (ad199.add ((x7_4).toNat * 4)) = some (.int .i64 ((rd_T56 ((rd_T47 l1_0 x5_2).f1) x7_4).f0)) ∧ w'.cell? ⟨(ad199.add ((x7_4).toNat * 4)).block, (ad199.add ((x7_4).toNat * 4)).off + 1, none⟩ = some (.int .i64 ((rd_T56 ((rd_T47 l1_0 x5_2).f1) x7_4).f1)) ∧ w'.cell? ⟨(ad199.add ((x7_4).toNat * 4)).block, (ad199.add ((x7_4).toNat * 4)).off + 2, none⟩ = some (.slice A199_2 ((rd_T56 ((rd_T47 l1_0 x5_2).f1) x7_4).f2).length c199_2) ∧ w'.cell? ⟨(ad199.add ((x7_4).toNat * 4)).block, (ad199.add ((x7_4).toNat * 4)).off + 3, none⟩ = some (.slice A199_3 ((rd_T56 ((rd_T47 l1_0 x5_2).f1) x7_4).f3).length c199_3) ∧ w'.cell? (ad200.add ((x5_2).toNat * 4)) = some (.string ((rd_T53 l0_0 x5_2).f0)) ∧ w'.cell? ⟨(ad200.add ((x5_2).toNat * 4)).block, (ad200.add ((x5_2).toNat * 4)).off + 1, none⟩ = some (.int .i64 ((rd_T53 l0_0 x5_2).f1.f0)) ∧ w'.cell? ⟨(ad200.add ((x5_2).toNat * 4)).block, (ad200.add ((x5_2).toNat * 4)).off + 2, none⟩ = some (.slice A200_2 ((rd_T53 l0_0 x5_2).f1.f1).length c200_2) ∧ w'.cell? ⟨(ad200.add ((x5_2).toNat * 4)).block, (ad200.add ((x5_2).toNat * 4)).off + 3, none⟩ = some (.slice A200_3 ((rd_T53 l0_0 x5_2).f1.f2).length c200_3)) (ds := []) #[false,false,false,false,false,false,false,false,false,false,false,false] kr rfl rfl ⟨(blk_cell BK193.out 0).trans rfl, ((HB.out.cell (World.block_lt_of_cell? w _ hw199_0)).trans hw199_0), ((HB.out.cell (World.block_lt_of_cell? w _ hw199_1)).trans hw199_1), ((HB.out.cell (World.block_lt_of_cell? w _ hw199_2)).trans hw199_2), ((HB.out.cell (World.block_lt_of_cell? w _ hw199_3)).trans hw199_3), ((HB.out.cell (World.block_lt_of_cell? w _ hw200_0)).trans hw200_0), ((HB.out.cell (World.block_lt_of_cell? w _ hw200_1)).trans hw200_1), ((HB.out.cell (World.block_lt_of_cell? w _ hw200_2)).trans hw200_2), ((HB.out.cell (World.block_lt_of_cell? w _ hw200_3)).trans hw200_3)⟩ (fun hHeld => ?_); refine with_tabW spec_IsDB.tab12 spec_IsDB.bits12 (fun HT_ HW_ => ?_)
         generalize wr.drew = w34 at BK193 BK194 HB HR199_2 HR199_3 HR200_2 HR200_3 hx199_0 hx199_1 hx199_2 hx199_3 hx200_0 hx200_1 hx200_2 hx200_3 hHeld ⊢
         refine pure_ (i := 0) (N := some 57) (v := ?_) (a' := ?_) (bm 12 1) rfl rfl (any_of HT_.out kr) qi (Or.inl ⟨by rfl, ?_⟩) ?_ ?_
         rotate_left
         ·intro w'
          go_simp
          with_reducible rfl
         rotate_left
         ·simp only [sx]
          rfl
         refine pure_ (i := 1) (N := some 58) (v := ?_) (a' := ?_) (bm 12 3) rfl rfl (any_of HT_.out kr) qi (Or.inl ⟨by rfl, ?_⟩) ?_ ?_
         rotate_left
         ·intro w'
          go_simp
          with_reducible rfl
         rotate_left
         ·simp only [sx]
          rfl
         refine pure_ (i := 2) (N := some 59) (v := ?_) (a' := ?_) (bm 12 7) rfl rfl (any_of HT_.out kr) qi (Or.inl ⟨by rfl, ?_⟩) ?_ ?_
         rotate_left
         ·intro w'
          go_simp
          with_reducible rfl
         rotate_left
         ·simp only [sx]
          rfl
         refine pure_ (i := 4) (N := some 61) (v := ?_) (a' := ?_) (bm 12 23) rfl rfl (any_of HT_.out kr) qi (Or.inl ⟨by rfl, ?_⟩) ?_ ?_
         rotate_left
         ·intro w'
          go_simp
          with_reducible rfl
         rotate_left
         ·simp only [sx]
          rfl
         refine pure_ (i := 6) (N := some 63) (v := ?_) (a' := ?_) (bm 12 87) rfl rfl (any_of HT_.out kr) qi (Or.inl ⟨by rfl, ?_⟩) ?_ ?_
         rotate_left
         ·intro w'
          go_simp
          with_reducible rfl
         rotate_left
         ·simp only [sx]
          rfl
         refine take_ (i := 3) (N := some 60) (v := ?_) (a' := ?_) (bm 12 95) rfl rfl (take_ofW HT_.out HW_.out kr) qi (Or.inl ⟨by rfl, ?_⟩) hHeld ?_ ?_
         rotate_left
         ·rintro w' ⟨s0, s1, s2, s3, s4, s5, s6, s7, s8⟩
          go_simp
          with_reducible rfl
         rotate_left
         ·simp only [sx]
          rfl
         refine take_ (i := 5) (N := some 62) (v := ?_) (a' := ?_) (bm 12 127) rfl rfl (take_ofW HT_.out HW_.out kr) qi (Or.inl ⟨by rfl, ?_⟩) hHeld ?_ ?_
         rotate_left
         ·rintro w' ⟨s0, s1, s2, s3, s4, s5, s6, s7, s8⟩
          go_simp
          with_reducible rfl
         rotate_left
         ·simp only [sx]
          rfl
         refine pure_ (i := 7) (N := some 64) (v := ?_) (a' := ?_) (bm 12 255) rfl rfl (any_of HT_.out kr) qi (Or.inl ⟨by rfl, ?_⟩) ?_ ?_
         rotate_left
         ·intro w'
          go_simp
          with_reducible rfl
         rotate_left
         ·simp only [sx]
          rfl
         refine pure_ (i := 8) (N := some 65) (v := ?_) (a' := ?_) (bm 12 511) rfl rfl (any_of HT_.out kr) qi (Or.inl ⟨by rfl, ?_⟩) ?_ ?_
         rotate_left
         ·intro w'
          go_simp
          with_reducible rfl
         rotate_left
         ·simp only [sx]
          rfl
         refine take_ (i := 9) (N := some 66) (v := ?_) (a' := ?_) (bm 12 1023) rfl rfl (take_ofW HT_.out HW_.out kr) qi (Or.inl ⟨by rfl, ?_⟩) hHeld ?_ ?_
         rotate_left
         ·rintro w' ⟨s0, s1, s2, s3, s4, s5, s6, s7, s8⟩
          go_simp
          with_reducible rfl
         rotate_left
         ·simp only [sx]
          rfl
         refine one_ (i := 10) (N := some 67) (bm 12 2047) rfl rfl (one_of HT_.out kr) (by decide) (fun K hK => ?_)
         refine goes_ Try.func15 kr rfl #[.agg #[.int .i64 ((rd_T56 ((rd_T47 l1_0 x5_2).f1) x7_4).f0), .int .i64 ((rd_T56 ((rd_T47 l1_0 x5_2).f1) x7_4).f1), .slice A199_2 ((rd_T56 ((rd_T47 l1_0 x5_2).f1) x7_4).f2).length c199_2, .slice A199_3 ((rd_T56 ((rd_T47 l1_0 x5_2).f1) x7_4).f3).length c199_3], .agg #[.int .i64 ((rd_T53 l0_0 x5_2).f1.f0), .slice A200_2 ((rd_T53 l0_0 x5_2).f1.f1).length c200_2, .slice A200_3 ((rd_T53 l0_0 x5_2).f1.f2).length c200_3]] (by rfl) rfl rfl mpw ?_
         with_reducible refine (spec_HasType.calls k4 ((rd_T56 ((rd_T47 l1_0 x5_2).f1) x7_4).f0) ((rd_T56 ((rd_T47 l1_0 x5_2).f1) x7_4).f1) _ _ ((rd_T56 ((rd_T47 l1_0 x5_2).f1) x7_4).f2) _ _ ((rd_T56 ((rd_T47 l1_0 x5_2).f1) x7_4).f3) ((rd_T53 l0_0 x5_2).f1.f0) _ _ ((rd_T53 l0_0 x5_2).f1.f1) _ _ ((rd_T53 l0_0 x5_2).f1.f2) t201 _ ?side1 ?side2 ?side3 ?side4 ?side5 ?side6 ?side7 ?side8 A32.out).mono ?_
         (case side1 => have X_ := HR199_2; exact cbl)
         (case side2 => exact HC199_2.out)
         (case side3 => have X_ := HR199_3; exact cbl)
         (case side4 => exact HC199_3.out)
         (case side5 => have X_ := HR200_2; exact cbl)
         (case side6 => exact HC200_2.out)
         (case side7 => have X_ := HR200_3; exact cbl)
         (case side8 => exact HC200_3.out)
         rintro e w35 ⟨rfl, hb⟩
         refine ⟨_, rfl, ?_⟩
         have n0_ := Aside0.mk (blk_below (g := gb193) (o := .cells #[.slice (some ad200) l0_0.length c0_0] 33 (0, 0)) bkw hb)
         have n1_ := Aside0.mk (blk_below (g := gb194) (o := .cells #[.slice (some ad196) l1_0.length c1_0] 37 (0, 0)) bkw hb)
         have n2_ := Aside0.mk (below_step blw hb)
         clear BK193
         clear BK194
         clear HB
         revert n0_ n1_ n2_
         intro BK193 BK194 HB
         (try clear hb)
         (try clear hb2)
         (try clear hk)
         (try clear hi)
         refine hK.out _ _ ⟨(blk_cell BK193.out 0).trans rfl, ((HB.out.cell (World.block_lt_of_cell? w _ hw199_0)).trans hw199_0), ((HB.out.cell (World.block_lt_of_cell? w _ hw199_1)).trans hw199_1), ((HB.out.cell (World.block_lt_of_cell? w _ hw199_2)).trans hw199_2), ((HB.out.cell (World.block_lt_of_cell? w _ hw199_3)).trans hw199_3), ((HB.out.cell (World.block_lt_of_cell? w _ hw200_0)).trans hw200_0), ((HB.out.cell (World.block_lt_of_cell? w _ hw200_1)).trans hw200_1), ((HB.out.cell (World.block_lt_of_cell? w _ hw200_2)).trans hw200_2), ((HB.out.cell (World.block_lt_of_cell? w _ hw200_3)).trans hw200_3)⟩ (fun hHeld => ?_)
         clear hK K
         refine norm_ (a' := ?_) ?_ ?_
         rotate_left
         ·show Act.put _ (some 67) _ = _
          simp only [sx]
          rfl
         refine pure_ (i := 11) (N := some 68) (v := ?_) (a' := ?_) (bm 12 4095) rfl rfl (any_of HT_.out kr) qi (Or.inl ⟨by rfl, ?_⟩) ?_ ?_
         rotate_left
         ·intro w'
          go_simp
          with_reducible rfl
         rotate_left
         ·simp only [sx]
          rfl
         refine done_ (done_of HT_.out kr) ?_
         go_upto_if 68 with (fail)
         have H := HC33.out
         clear HC33
         by_cases c36 : t201 = true
         case neg =>
          replace c36 := Bool.eq_false_iff.mpr c36
          subst c36
          have H1 : (some false) = some r := by rw [if_neg (show ¬ (false = true) by decide)] at H; exact H
          clear H
          have H := H1
          clear H1
          obtain rfl := Option.some.inj H
          go_wp2
          go_ret
          exact ⟨rfw, blw⟩
         subst c36
         have H1 : (spec_IsDB.l1 k4 x5_2 ((rd_T47 l1_0 x5_2).f1) (wrap64 (x7_4 + 1)) l0_0 l1_0) = some r := by rw [if_pos rfl] at H; exact H
         clear H
         have H := H1
         clear H1
         have H' := Aside0.mk H
         clear H
         go_wp2
         go_roundg k4
         case measure => have := HJ2.out; have := HK2.out; have := HJ19.out; have := HK4.out; omega
         case rel => exact ⟨(wrap64 (x7_4 + 1)), rfs, H', ⟨by have := HJ2.out; have := HK2.out; have := HJ19.out; have := HK4.out; omega⟩, ⟨bkw⟩, ⟨bkw⟩, ⟨blw⟩⟩

end Go.Proofs.Ytfbecaplnigmaaa.Px
end
