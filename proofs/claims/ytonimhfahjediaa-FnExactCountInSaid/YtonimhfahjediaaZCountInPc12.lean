/- Printed by a program of this session: what functions of the translation come to, each contract as it stands. No condition. -/
import Derived.Test.YtonimhfahjediaaZCountInSh
import Derived.Test.YtonimhfahjediaaZCountInWLastM
import Derived.Test.YtonimhfahjediaaZCountInPc1M
import Derived.Test.YtonimhfahjediaaZCountInPc4M
import Derived.Test.YtonimhfahjediaaZCountInPc6M
import Derived.Test.YtonimhfahjediaaZCountInPc11
namespace Go.Proofs.Ytonimhfahjediaa.Pc
open Go.RowKit Go.Proofs.Ytonimhfahjediaa.Ext Go.Proofs.YtonimhfahjediaaW.PrintWords Go.Proofs.YtonimhfahjediaaW.PrintLast Go.Proofs.YtonimhfahjediaaW.PrintMore
attribute [local go_sem] max2_int min2_int max_two min_two max_three min_three max_four min_four   -- for this text's walks alone
set_option linter.unusedVariables false
set_option linter.unusedSimpArgs false

/-! ### laws_FnExactCountIn: function 4 -/
noncomputable def laws_FnExactCountIn.f (k : Nat) (a0_0 : Int) (a0_1 : Int) (l0_2 : List ByteArray) (l0_3 : List (S25)) (a1_0 : Int) (a1_1 : Int) (l1_2 : List ByteArray) (l1_3 : List (S25)) : Option (Bool) := (laws_szValue.f k a0_0 a0_1 l0_2 l0_3 1048576).bind fun t367 => (if t367 < 0 then (some true) else ((laws_szValue.f k a1_0 a1_1 l1_2 l1_3 t367).bind fun t368 => (if t368 < 0 then (some true) else ((laws_toValue.f k a0_0 a0_1 l0_2 l0_3).bind fun bt369 => ((laws_toValue.f k a1_0 a1_1 l1_2 l1_3).bind fun bt377 => ((spec_CountIn.f k bt369.1 bt369.2.1 bt369.2.2.1 bt369.2.2.2 bt377.1 bt377.2.1 bt377.2.2.1 bt377.2.2.2).bind fun t385 => ((laws_toValue.f k a0_0 a0_1 l0_2 l0_3).bind fun bt386 => ((laws_toValue.f k a1_0 a1_1 l1_2 l1_3).bind fun bt395 => ((impl_CountIn.f k bt386.1 bt386.2.1 bt386.2.2.1 bt386.2.2.2 bt395.1 bt395.2.1 bt395.2.2.1 bt395.2.2.2).bind fun t404 => (if t404 = t385 then ((laws_toValue.f k a0_0 a0_1 l0_2 l0_3).bind fun bt405 => ((laws_eqValue.f k bt386.1 bt386.2.1 bt386.2.2.1 bt386.2.2.2 bt405.1 bt405.2.1 bt405.2.2.1 bt405.2.2.2).bind fun t413 => (if t413 = true then ((laws_toValue.f k a1_0 a1_1 l1_2 l1_3).bind fun bt414 => ((laws_eqValue.f k bt395.1 bt395.2.1 bt395.2.2.1 bt395.2.2.2 bt414.1 bt414.2.1 bt414.2.2.1 bt414.2.2.2).bind fun t422 => (if t422 = true then (some true) else (some false)))) else (some false)))) else (some false)))))))))))
set_option maxHeartbeats 8000000 in
set_option maxRecDepth 100000 in
theorem laws_FnExactCountIn.calls (k : Nat) (a0_0 : Int) (a0_1 : Int) (A0_2 : Option Addr) (c0_2 : Nat) (l0_2 : List ByteArray) (A0_3 : Option Addr) (c0_3 : Nat) (l0_3 : List (S25)) (a1_0 : Int) (a1_1 : Int) (A1_2 : Option Addr) (c1_2 : Nat) (l1_2 : List ByteArray) (A1_3 : Option Addr) (c1_3 : Nat) (l1_3 : List (S25)) (r : Bool) (w : World) (hr0_2 : Kd.C Kd.string w A0_2 l0_2.length l0_2) (hc0_2 : l0_2.length ≤ c0_2) (hr0_3 : Kd.C k25 w A0_3 l0_3.length l0_3) (hc0_3 : l0_3.length ≤ c0_3) (hr1_2 : Kd.C Kd.string w A1_2 l1_2.length l1_2) (hc1_2 : l1_2.length ≤ c1_2) (hr1_3 : Kd.C k25 w A1_3 l1_3.length l1_3) (hc1_3 : l1_3.length ≤ c1_3) (h : laws_FnExactCountIn.f k a0_0 a0_1 l0_2 l0_3 a1_0 a1_1 l1_2 l1_3 = some r) :
  Calls Try.prog 4 #[.agg #[.int .i64 a0_0, .int .i64 a0_1, .slice A0_2 l0_2.length c0_2, .slice A0_3 l0_3.length c0_3], .agg #[.int .i64 a1_0, .int .i64 a1_1, .slice A1_2 l1_2.length c1_2, .slice A1_3 l1_3.length c1_3]] w fun e w' => e = .returned (.bool r) ∧ Below w.heap.size w w' := by
 have hu25 := Try.underlying25
 have hu30 := Try.underlying30
 have HR0_2 := am hr0_2
 have HC0_2 := am hc0_2
 clear hr0_2 hc0_2
 have HR0_3 := am hr0_3
 have HC0_3 := am hc0_3
 clear hr0_3 hc0_3
 have HR1_2 := am hr1_2
 have HC1_2 := am hc1_2
 clear hr1_2 hc1_2
 have HR1_3 := am hr1_3
 have HC1_3 := am hc1_3
 clear hr1_3 hc1_3
 have HB := am (Below.refl w.heap.size w)
 have H : ((laws_szValue.f k a0_0 a0_1 l0_2 l0_3 1048576).bind fun t367 => (if t367 < 0 then (some true) else ((laws_szValue.f k a1_0 a1_1 l1_2 l1_3 t367).bind fun t368 => (if t368 < 0 then (some true) else ((laws_toValue.f k a0_0 a0_1 l0_2 l0_3).bind fun bt369 => ((laws_toValue.f k a1_0 a1_1 l1_2 l1_3).bind fun bt377 => ((spec_CountIn.f k bt369.1 bt369.2.1 bt369.2.2.1 bt369.2.2.2 bt377.1 bt377.2.1 bt377.2.2.1 bt377.2.2.2).bind fun t385 => ((laws_toValue.f k a0_0 a0_1 l0_2 l0_3).bind fun bt386 => ((laws_toValue.f k a1_0 a1_1 l1_2 l1_3).bind fun bt395 => ((impl_CountIn.f k bt386.1 bt386.2.1 bt386.2.2.1 bt386.2.2.2 bt395.1 bt395.2.1 bt395.2.2.1 bt395.2.2.2).bind fun t404 => (if t404 = t385 then ((laws_toValue.f k a0_0 a0_1 l0_2 l0_3).bind fun bt405 => ((laws_eqValue.f k bt386.1 bt386.2.1 bt386.2.2.1 bt386.2.2.2 bt405.1 bt405.2.1 bt405.2.2.1 bt405.2.2.2).bind fun t413 => (if t413 = true then ((laws_toValue.f k a1_0 a1_1 l1_2 l1_3).bind fun bt414 => ((laws_eqValue.f k bt395.1 bt395.2.1 bt395.2.2.1 bt395.2.2.2 bt414.1 bt414.2.1 bt414.2.2.1 bt414.2.2.2).bind fun t422 => (if t422 = true then (some true) else (some false)))) else (some false)))) else (some false)))))))))))) = some r := h
 clear h
 replace H := Option.bind_eq_some_iff.mp H
 obtain ⟨t367, A30, H⟩ := H
 replace H : (if t367 < 0 then (some true) else ((laws_szValue.f k a1_0 a1_1 l1_2 l1_3 t367).bind fun t368 => (if t368 < 0 then (some true) else ((laws_toValue.f k a0_0 a0_1 l0_2 l0_3).bind fun bt369 => ((laws_toValue.f k a1_0 a1_1 l1_2 l1_3).bind fun bt377 => ((spec_CountIn.f k bt369.1 bt369.2.1 bt369.2.2.1 bt369.2.2.2 bt377.1 bt377.2.1 bt377.2.2.1 bt377.2.2.2).bind fun t385 => ((laws_toValue.f k a0_0 a0_1 l0_2 l0_3).bind fun bt386 => ((laws_toValue.f k a1_0 a1_1 l1_2 l1_3).bind fun bt395 => ((impl_CountIn.f k bt386.1 bt386.2.1 bt386.2.2.1 bt386.2.2.2 bt395.1 bt395.2.1 bt395.2.2.1 bt395.2.2.2).bind fun t404 => (if t404 = t385 then ((laws_toValue.f k a0_0 a0_1 l0_2 l0_3).bind fun bt405 => ((laws_eqValue.f k bt386.1 bt386.2.1 bt386.2.2.1 bt386.2.2.2 bt405.1 bt405.2.1 bt405.2.2.1 bt405.2.2.2).bind fun t413 => (if t413 = true then ((laws_toValue.f k a1_0 a1_1 l1_2 l1_3).bind fun bt414 => ((laws_eqValue.f k bt395.1 bt395.2.1 bt395.2.2.1 bt395.2.2.2 bt414.1 bt414.2.1 bt414.2.2.1 bt414.2.2.2).bind fun t422 => (if t422 = true then (some true) else (some false)))) else (some false)))) else (some false))))))))))) = some r := H
 have A3 := am A30
 clear A30
 have HC4 := am H
 clear H
 go_enter Try.func4, Try.ntmps4
 go_upto_if 14 with (first | ((with_reducible refine gate_dst (N := 2) rfl ?_); refine box_event ?hg (N := 2) ?hd (cs := #[.int .i64 a0_0, .int .i64 a0_1, .slice A0_2 l0_2.length c0_2, .slice A0_3 l0_3.length c0_3]) (t := 25) ?hr ?_; (case hd => rfl); (case hg => rfl); (case hr => exact hrw); intro gb365 hg w5 hbox hb; have n0_ := am (below_step blw hb); have n1_ := am (hbox); have n2_ := am ((by rw [hg]; exact (below_size blw) : w.heap.size ≤ gb365)); have n3_ := n2_; clear HB; revert n0_ n1_ n2_ n3_; intro HB BK365 GW365 GE365; clear hb hbox hg) | ((with_reducible refine gate_dst (N := 3) rfl ?_); refine box_event ?hg (N := 3) ?hd (cs := #[.int .i64 a1_0, .int .i64 a1_1, .slice A1_2 l1_2.length c1_2, .slice A1_3 l1_3.length c1_3]) (t := 25) ?hr ?_; (case hd => rfl); (case hg => rfl); (case hr => exact hrw); intro gb366 hg w6 hbox hb; have n0_ := am (blk_below (g := gb365) bkw hb); have n1_ := am (below_step blw hb); have n2_ := am (hbox); have n3_ := am ((by rw [hg]; exact (below_size blw) : w.heap.size ≤ gb366)); have n4_ := n3_; have n5_ := am ((by rw [hg]; exact Nat.ne_of_lt (blk_lt (g := gb365) bkw) : gb365 ≠ gb366)); have n6_ := am ((by rw [hg]; exact Nat.ne_of_gt (blk_lt (g := gb365) bkw) : gb366 ≠ gb365)); clear BK365; clear HB; revert n0_ n1_ n2_ n3_ n4_ n5_ n6_; intro BK365 HB BK366 GW366 GE366 NB365_366 NB366_365; clear hb hbox hg; have hnb7 := NB365_366.out; have hnc7 := NB366_365.out; obtain ⟨hcz8_0, hcz8_1, hcz8_2, hcz8_3⟩ := cls4 BK365.out; obtain ⟨hfz8_0, hfz8_1, hfz8_2, hfz8_3⟩ := frz4 BK365.out) | ((with_reducible refine gate_callee (f := 6) rfl ?_); refine goesL_ (some 12) rfl rfl Try.func6 kr rfl #[.agg #[.int .i64 a0_0, .int .i64 a0_1, .slice A0_2 l0_2.length c0_2, .slice A0_3 l0_3.length c0_3], .int .i64 1048576] rfl mpw ?_; (with_reducible refine (laws_szValue.calls k a0_0 a0_1 _ _ l0_2 _ _ l0_3 1048576 t367 _ ?side1 ?side2 ?side3 ?side4 A3.out).mono ?_); (case side1 => have X_ := HR0_2; exact cbl); (case side2 => exact HC0_2.out); (case side3 => have X_ := HR0_3; exact cbl); (case side4 => exact HC0_3.out); rintro e w9 ⟨rfl, hb⟩; refine ⟨_, rfl, ?_⟩; have n0_ := am (blk_below (g := gb365) bkw hb); have n1_ := am (blk_below (g := gb366) bkw hb); have n2_ := am (below_step blw hb); clear BK365; clear BK366; clear HB; revert n0_ n1_ n2_; intro BK365 BK366 HB; (try clear hb); (try clear hb2); (try clear hk); (try clear hi)))
 have H := HC4.out
 clear HC4
 by_cases c10 : t367 < 0
 ·rw [if_pos c10] at H
  have c10b0 : decide (t367 < 0) = true := decide_eq_true c10
  clear c10
  (first | rw [c10b0] | (simp only [i64_w, i32_w]; rw [c10b0]) | skip)
  obtain rfl := Option.some.inj H
  go_wp2
  go_ret
  exact ⟨rfw, blw⟩
 rw [if_neg c10] at H
 have c10b0 : decide (t367 < 0) = false := decide_eq_false c10
 clear c10
 (first | rw [c10b0] | (simp only [i64_w, i32_w]; rw [c10b0]) | skip)
 replace H := Option.bind_eq_some_iff.mp H
 obtain ⟨t368, A110, H⟩ := H
 replace H : (if t368 < 0 then (some true) else ((laws_toValue.f k a0_0 a0_1 l0_2 l0_3).bind fun bt369 => ((laws_toValue.f k a1_0 a1_1 l1_2 l1_3).bind fun bt377 => ((spec_CountIn.f k bt369.1 bt369.2.1 bt369.2.2.1 bt369.2.2.2 bt377.1 bt377.2.1 bt377.2.2.1 bt377.2.2.2).bind fun t385 => ((laws_toValue.f k a0_0 a0_1 l0_2 l0_3).bind fun bt386 => ((laws_toValue.f k a1_0 a1_1 l1_2 l1_3).bind fun bt395 => ((impl_CountIn.f k bt386.1 bt386.2.1 bt386.2.2.1 bt386.2.2.2 bt395.1 bt395.2.1 bt395.2.2.1 bt395.2.2.2).bind fun t404 => (if t404 = t385 then ((laws_toValue.f k a0_0 a0_1 l0_2 l0_3).bind fun bt405 => ((laws_eqValue.f k bt386.1 bt386.2.1 bt386.2.2.1 bt386.2.2.2 bt405.1 bt405.2.1 bt405.2.2.1 bt405.2.2.2).bind fun t413 => (if t413 = true then ((laws_toValue.f k a1_0 a1_1 l1_2 l1_3).bind fun bt414 => ((laws_eqValue.f k bt395.1 bt395.2.1 bt395.2.2.1 bt395.2.2.2 bt414.1 bt414.2.1 bt414.2.2.1 bt414.2.2.2).bind fun t422 => (if t422 = true then (some true) else (some false)))) else (some false)))) else (some false))))))))) = some r := H
 have A11 := am A110
 clear A110
 have HC12 := am H
 clear H
 have hnb13 := NB366_365.out
 have hnc13 := NB365_366.out
 obtain ⟨hcz14_0, hcz14_1, hcz14_2, hcz14_3⟩ := cls4 BK366.out
 obtain ⟨hfz14_0, hfz14_1, hfz14_2, hfz14_3⟩ := frz4 BK366.out
 go_upto_if 19 with (first | ((with_reducible refine gate_callee (f := 6) rfl ?_); refine goesL_ (some 17) rfl rfl Try.func6 kr rfl #[.agg #[.int .i64 a1_0, .int .i64 a1_1, .slice A1_2 l1_2.length c1_2, .slice A1_3 l1_3.length c1_3], .int .i64 t367] rfl mpw ?_; (with_reducible refine (laws_szValue.calls k a1_0 a1_1 _ _ l1_2 _ _ l1_3 t367 t368 _ ?side1 ?side2 ?side3 ?side4 A11.out).mono ?_); (case side1 => have X_ := HR1_2; exact cbl); (case side2 => exact HC1_2.out); (case side3 => have X_ := HR1_3; exact cbl); (case side4 => exact HC1_3.out); rintro e w15 ⟨rfl, hb⟩; refine ⟨_, rfl, ?_⟩; have n0_ := am (blk_below (g := gb365) bkw hb); have n1_ := am (blk_below (g := gb366) bkw hb); have n2_ := am (below_step blw hb); clear BK365; clear BK366; clear HB; revert n0_ n1_ n2_; intro BK365 BK366 HB; (try clear hb); (try clear hb2); (try clear hk); (try clear hi)))
 have H := HC12.out
 clear HC12
 by_cases c16 : t368 < 0
 ·rw [if_pos c16] at H
  have c16b0 : decide (t368 < 0) = true := decide_eq_true c16
  clear c16
  (first | rw [c16b0] | (simp only [i64_w, i32_w]; rw [c16b0]) | skip)
  obtain rfl := Option.some.inj H
  go_wp2
  go_ret
  exact ⟨rfw, blw⟩
 rw [if_neg c16] at H
 have c16b0 : decide (t368 < 0) = false := decide_eq_false c16
 clear c16
 (first | rw [c16b0] | (simp only [i64_w, i32_w]; rw [c16b0]) | skip)
 replace H := Option.bind_eq_some_iff.mp H
 obtain ⟨⟨t369, t370, t371, t374⟩, A170, H⟩ := H
 replace H : ((laws_toValue.f k a1_0 a1_1 l1_2 l1_3).bind fun bt377 => ((spec_CountIn.f k t369 t370 t371 t374 bt377.1 bt377.2.1 bt377.2.2.1 bt377.2.2.2).bind fun t385 => ((laws_toValue.f k a0_0 a0_1 l0_2 l0_3).bind fun bt386 => ((laws_toValue.f k a1_0 a1_1 l1_2 l1_3).bind fun bt395 => ((impl_CountIn.f k bt386.1 bt386.2.1 bt386.2.2.1 bt386.2.2.2 bt395.1 bt395.2.1 bt395.2.2.1 bt395.2.2.2).bind fun t404 => (if t404 = t385 then ((laws_toValue.f k a0_0 a0_1 l0_2 l0_3).bind fun bt405 => ((laws_eqValue.f k bt386.1 bt386.2.1 bt386.2.2.1 bt386.2.2.2 bt405.1 bt405.2.1 bt405.2.2.1 bt405.2.2.2).bind fun t413 => (if t413 = true then ((laws_toValue.f k a1_0 a1_1 l1_2 l1_3).bind fun bt414 => ((laws_eqValue.f k bt395.1 bt395.2.1 bt395.2.2.1 bt395.2.2.2 bt414.1 bt414.2.1 bt414.2.2.1 bt414.2.2.2).bind fun t422 => (if t422 = true then (some true) else (some false)))) else (some false)))) else (some false))))))) = some r := H
 have A17 := am A170
 clear A170
 replace H := Option.bind_eq_some_iff.mp H
 obtain ⟨⟨t377, t378, t379, t382⟩, A180, H⟩ := H
 replace H : ((spec_CountIn.f k t369 t370 t371 t374 t377 t378 t379 t382).bind fun t385 => ((laws_toValue.f k a0_0 a0_1 l0_2 l0_3).bind fun bt386 => ((laws_toValue.f k a1_0 a1_1 l1_2 l1_3).bind fun bt395 => ((impl_CountIn.f k bt386.1 bt386.2.1 bt386.2.2.1 bt386.2.2.2 bt395.1 bt395.2.1 bt395.2.2.1 bt395.2.2.2).bind fun t404 => (if t404 = t385 then ((laws_toValue.f k a0_0 a0_1 l0_2 l0_3).bind fun bt405 => ((laws_eqValue.f k bt386.1 bt386.2.1 bt386.2.2.1 bt386.2.2.2 bt405.1 bt405.2.1 bt405.2.2.1 bt405.2.2.2).bind fun t413 => (if t413 = true then ((laws_toValue.f k a1_0 a1_1 l1_2 l1_3).bind fun bt414 => ((laws_eqValue.f k bt395.1 bt395.2.1 bt395.2.2.1 bt395.2.2.2 bt414.1 bt414.2.1 bt414.2.2.1 bt414.2.2.2).bind fun t422 => (if t422 = true then (some true) else (some false)))) else (some false)))) else (some false)))))) = some r := H
 have A18 := am A180
 clear A180
 replace H := Option.bind_eq_some_iff.mp H
 obtain ⟨t385, A190, H⟩ := H
 replace H : ((laws_toValue.f k a0_0 a0_1 l0_2 l0_3).bind fun bt386 => ((laws_toValue.f k a1_0 a1_1 l1_2 l1_3).bind fun bt395 => ((impl_CountIn.f k bt386.1 bt386.2.1 bt386.2.2.1 bt386.2.2.2 bt395.1 bt395.2.1 bt395.2.2.1 bt395.2.2.2).bind fun t404 => (if t404 = t385 then ((laws_toValue.f k a0_0 a0_1 l0_2 l0_3).bind fun bt405 => ((laws_eqValue.f k bt386.1 bt386.2.1 bt386.2.2.1 bt386.2.2.2 bt405.1 bt405.2.1 bt405.2.2.1 bt405.2.2.2).bind fun t413 => (if t413 = true then ((laws_toValue.f k a1_0 a1_1 l1_2 l1_3).bind fun bt414 => ((laws_eqValue.f k bt395.1 bt395.2.1 bt395.2.2.1 bt395.2.2.2 bt414.1 bt414.2.1 bt414.2.2.1 bt414.2.2.2).bind fun t422 => (if t422 = true then (some true) else (some false)))) else (some false)))) else (some false))))) = some r := H
 have A19 := am A190
 clear A190
 replace H := Option.bind_eq_some_iff.mp H
 obtain ⟨⟨t386, t387, t388, t391⟩, A200, H⟩ := H
 replace H : ((laws_toValue.f k a1_0 a1_1 l1_2 l1_3).bind fun bt395 => ((impl_CountIn.f k t386 t387 t388 t391 bt395.1 bt395.2.1 bt395.2.2.1 bt395.2.2.2).bind fun t404 => (if t404 = t385 then ((laws_toValue.f k a0_0 a0_1 l0_2 l0_3).bind fun bt405 => ((laws_eqValue.f k t386 t387 t388 t391 bt405.1 bt405.2.1 bt405.2.2.1 bt405.2.2.2).bind fun t413 => (if t413 = true then ((laws_toValue.f k a1_0 a1_1 l1_2 l1_3).bind fun bt414 => ((laws_eqValue.f k bt395.1 bt395.2.1 bt395.2.2.1 bt395.2.2.2 bt414.1 bt414.2.1 bt414.2.2.1 bt414.2.2.2).bind fun t422 => (if t422 = true then (some true) else (some false)))) else (some false)))) else (some false)))) = some r := H
 have A20 := am A200
 clear A200
 replace H := Option.bind_eq_some_iff.mp H
 obtain ⟨⟨t395, t396, t397, t400⟩, A210, H⟩ := H
 replace H : ((impl_CountIn.f k t386 t387 t388 t391 t395 t396 t397 t400).bind fun t404 => (if t404 = t385 then ((laws_toValue.f k a0_0 a0_1 l0_2 l0_3).bind fun bt405 => ((laws_eqValue.f k t386 t387 t388 t391 bt405.1 bt405.2.1 bt405.2.2.1 bt405.2.2.2).bind fun t413 => (if t413 = true then ((laws_toValue.f k a1_0 a1_1 l1_2 l1_3).bind fun bt414 => ((laws_eqValue.f k t395 t396 t397 t400 bt414.1 bt414.2.1 bt414.2.2.1 bt414.2.2.2).bind fun t422 => (if t422 = true then (some true) else (some false)))) else (some false)))) else (some false))) = some r := H
 have A21 := am A210
 clear A210
 replace H := Option.bind_eq_some_iff.mp H
 obtain ⟨t404, A220, H⟩ := H
 replace H : (if t404 = t385 then ((laws_toValue.f k a0_0 a0_1 l0_2 l0_3).bind fun bt405 => ((laws_eqValue.f k t386 t387 t388 t391 bt405.1 bt405.2.1 bt405.2.2.1 bt405.2.2.2).bind fun t413 => (if t413 = true then ((laws_toValue.f k a1_0 a1_1 l1_2 l1_3).bind fun bt414 => ((laws_eqValue.f k t395 t396 t397 t400 bt414.1 bt414.2.1 bt414.2.2.1 bt414.2.2.2).bind fun t422 => (if t422 = true then (some true) else (some false)))) else (some false)))) else (some false)) = some r := H
 have A22 := am A220
 clear A220
 have HC23 := am H
 clear H
 try go_wp2
 have n0_ := am (blk_drew BK365.out)
 have n1_ := am (blk_drew BK366.out)
 have n2_ := am (below_drew1 HB.out)
 clear BK365
 clear BK366
 clear HB
 revert n0_ n1_ n2_
 intro BK365 BK366 HB
 refine start_ (n := 6) (S := fun w' => w'.cell? ⟨gb365, 0, none⟩ = some (.int .i64 a0_0) ∧ w'.cell? ⟨gb365, 1, none⟩ = some (.int .i64 a0_1) ∧ w'.cell? ⟨gb365, 2, none⟩ = some (.slice A0_2 l0_2.length c0_2) ∧ w'.cell? ⟨gb365, 3, none⟩ = some (.slice A0_3 l0_3.length c0_3) ∧ w'.cell? ⟨gb366, 0, none⟩ = some (.int .i64 a1_0) ∧ w'.cell? ⟨gb366, 1, none⟩ = some (.int .i64 a1_1) ∧ w'.cell? ⟨gb366, 2, none⟩ = some (.slice A1_2 l1_2.length c1_2) ∧ w'.cell? ⟨gb366, 3, none⟩ = some (.slice A1_3 l1_3.length c1_3)) (ds := []) #[false,false,false,false,false,false] kr rfl rfl ⟨(blk_cell BK365.out 0).trans rfl, (blk_cell BK365.out 1).trans rfl, (blk_cell BK365.out 2).trans rfl, (blk_cell BK365.out 3).trans rfl, (blk_cell BK366.out 0).trans rfl, (blk_cell BK366.out 1).trans rfl, (blk_cell BK366.out 2).trans rfl, (blk_cell BK366.out 3).trans rfl⟩ (fun hHeld => ?_)
 generalize w15.drew = w24 at BK365 BK366 HB hHeld ⊢
 refine take_ (i := 0) (N := some 20) (v := ?_) (a' := ?_) (bm 6 1) rfl rfl kr qi (Or.inl ⟨by rfl, ?_⟩) hHeld ?_ ?_
 rotate_left
 ·rintro w' ⟨s0, s1, s2, s3, s4, s5, s6, s7⟩
  go_simp
  with_reducible rfl
 rotate_left
 ·simp only [sx]
  rfl
 refine take_ (i := 2) (N := some 22) (v := ?_) (a' := ?_) (bm 6 5) rfl rfl kr qi (Or.inl ⟨by rfl, ?_⟩) hHeld ?_ ?_
 rotate_left
 ·rintro w' ⟨s0, s1, s2, s3, s4, s5, s6, s7⟩
  go_simp
  with_reducible rfl
 rotate_left
 ·simp only [sx]
  rfl
 refine one_ (i := 1) (N := some 21) (bm 6 7) rfl rfl kr (by decide) (fun K hK => ?_)
 refine goes_ Try.func8 kr rfl #[.agg #[.int .i64 a0_0, .int .i64 a0_1, .slice A0_2 l0_2.length c0_2, .slice A0_3 l0_3.length c0_3]] (by rfl) rfl rfl mpw ?_
 with_reducible refine (laws_toValue.calls k a0_0 a0_1 _ _ l0_2 _ _ l0_3 t369 t370 t371 t374 _ ?side1 ?side2 ?side3 ?side4 A17.out).mono ?_
 (case side1 => have X_ := HR0_2; exact cbl)
 (case side2 => exact HC0_2.out)
 (case side3 => have X_ := HR0_3; exact cbl)
 (case side4 => exact HC0_3.out)
 rintro e w25 ⟨v372, v375, rfl, ho0, ho1, hb⟩
 refine ⟨_, rfl, ?_⟩
 have n0_ := am (Kd.R_lower ho0 (below_size blw))
 have n1_ := am (Kd.R_lower ho1 (below_size blw))
 have n2_ := am (blk_below (g := gb365) bkw hb)
 have n3_ := am (blk_below (g := gb366) bkw hb)
 have n4_ := am (below_step blw hb)
 clear BK365
 clear BK366
 clear HB
 revert n0_ n1_ n2_ n3_ n4_
 intro HO373 HO376 BK365 BK366 HB
 (try clear hb)
 (try clear hb2)
 (try clear hk)
 (try clear hi)
 (try clear ho0)
 (try clear ho1)
 refine hK.out _ _ ⟨(blk_cell BK365.out 0).trans rfl, (blk_cell BK365.out 1).trans rfl, (blk_cell BK365.out 2).trans rfl, (blk_cell BK365.out 3).trans rfl, (blk_cell BK366.out 0).trans rfl, (blk_cell BK366.out 1).trans rfl, (blk_cell BK366.out 2).trans rfl, (blk_cell BK366.out 3).trans rfl⟩ (fun hHeld => ?_)
 clear hK K
 refine norm_ (a' := ?_) ?_ ?_
 rotate_left
 ·show Act.put _ (some 21) _ = _
  simp only [sx]
  rfl
 refine one_ (i := 3) (N := some 23) (bm 6 15) rfl rfl kr (by decide) (fun K hK => ?_)
 refine goes_ Try.func8 kr rfl #[.agg #[.int .i64 a1_0, .int .i64 a1_1, .slice A1_2 l1_2.length c1_2, .slice A1_3 l1_3.length c1_3]] (by rfl) rfl rfl mpw ?_
 with_reducible refine (laws_toValue.calls k a1_0 a1_1 _ _ l1_2 _ _ l1_3 t377 t378 t379 t382 _ ?side1 ?side2 ?side3 ?side4 A18.out).mono ?_
 (case side1 => have X_ := HR1_2; exact cbl)
 (case side2 => exact HC1_2.out)
 (case side3 => have X_ := HR1_3; exact cbl)
 (case side4 => exact HC1_3.out)
 rintro e w26 ⟨v380, v383, rfl, ho0, ho1, hb⟩
 refine ⟨_, rfl, ?_⟩
 have n0_ := am (Kd.R_elder' (by (with_reducible repeat (first | apply Kd.R_alloc | apply Kd.R_drewN | apply Kd.R_drew)); exact HO373.out) (Kd.R_base ho0) hb)
 have n1_ := am (Kd.R_mono (Kd.R_told (Kd.R_told (Kd.R_old (by (with_reducible repeat (first | apply Kd.R_alloc | apply Kd.R_drewN | apply Kd.R_drew)); exact HO376.out) hb) (Kd.R_base ho0)) (Kd.R_base ho1)) (fun _ h_ => h_.1))
 have n2_ := am (Kd.R_lower (Kd.R_new' ho0 (Kd.R_lt (by (with_reducible repeat (first | apply Kd.R_alloc | apply Kd.R_drewN | apply Kd.R_drew)); exact HO373.out))) (below_size blw))
 have n3_ := am (Kd.R_lower (Kd.R_new' (Kd.R_new' ho1 (Kd.R_lt (by (with_reducible repeat (first | apply Kd.R_alloc | apply Kd.R_drewN | apply Kd.R_drew)); exact HO373.out))) (Kd.R_lt (by (with_reducible repeat (first | apply Kd.R_alloc | apply Kd.R_drewN | apply Kd.R_drew)); exact HO376.out))) (below_size blw))
 have n4_ := am (blk_below (g := gb365) bkw hb)
 have n5_ := am (blk_below (g := gb366) bkw hb)
 have n6_ := am (below_step blw hb)
 clear HO373
 clear HO376
 clear BK365
 clear BK366
 clear HB
 revert n0_ n1_ n2_ n3_ n4_ n5_ n6_
 intro HO373 HO376 HO381 HO384 BK365 BK366 HB
 (try clear hb)
 (try clear hb2)
 (try clear hk)
 (try clear hi)
 (try clear ho0)
 (try clear ho1)
 obtain ⟨Ao27, co27, eo27⟩ := Kd.R_slice HO373.out
 (first | subst eo27 | (injection eo27 with f1_ f2_ f3_; have f4_ := f1_.symm; have f5_ := f3_.symm; clear f1_ f2_ f3_; subst f4_; subst f5_))
 obtain ⟨Ao28, co28, eo28⟩ := Kd.R_slice HO376.out
 (first | subst eo28 | (injection eo28 with f1_ f2_ f3_; have f4_ := f1_.symm; have f5_ := f3_.symm; clear f1_ f2_ f3_; subst f4_; subst f5_))
 obtain ⟨Ao29, co29, eo29⟩ := Kd.R_slice HO381.out
 (first | subst eo29 | (injection eo29 with f1_ f2_ f3_; have f4_ := f1_.symm; have f5_ := f3_.symm; clear f1_ f2_ f3_; subst f4_; subst f5_))
 obtain ⟨Ao30, co30, eo30⟩ := Kd.R_slice HO384.out
 (first | subst eo30 | (injection eo30 with f1_ f2_ f3_; have f4_ := f1_.symm; have f5_ := f3_.symm; clear f1_ f2_ f3_; subst f4_; subst f5_))
 refine hK.out _ _ ⟨(blk_cell BK365.out 0).trans rfl, (blk_cell BK365.out 1).trans rfl, (blk_cell BK365.out 2).trans rfl, (blk_cell BK365.out 3).trans rfl, (blk_cell BK366.out 0).trans rfl, (blk_cell BK366.out 1).trans rfl, (blk_cell BK366.out 2).trans rfl, (blk_cell BK366.out 3).trans rfl⟩ (fun hHeld => ?_)
 clear hK K
 refine norm_ (a' := ?_) ?_ ?_
 rotate_left
 ·show Act.put _ (some 23) _ = _
  simp only [sx]
  rfl
 refine one_ (i := 4) (N := some 24) (bm 6 31) rfl rfl kr (by decide) (fun K hK => ?_)
 refine goes_ Try.func11 kr rfl #[.agg #[.int .i64 t369, .int .i64 t370, .slice Ao27 t371.length co27, .slice Ao28 t374.length co28], .agg #[.int .i64 t377, .int .i64 t378, .slice Ao29 t379.length co29, .slice Ao30 t382.length co30]] (by rfl) rfl rfl mpw ?_
 with_reducible refine (spec_CountIn.calls k t369 t370 _ _ t371 _ _ t374 t377 t378 _ _ t379 _ _ t382 t385 _ ?side1 ?side2 ?side3 ?side4 ?side5 ?side6 ?side7 ?side8 A19.out).mono ?_
 (case side1 => repeat (first | exact (Kd.R_reads' HO373.out).2.2 | (with_reducible refine Kd.C_alloc ?_ _) | (with_reducible refine Kd.C_drewN ?_ _) | (with_reducible refine Kd.C_drew ?_)))
 (case side2 => exact (Kd.R_reads' HO373.out).2.1)
 (case side3 => repeat (first | exact (Kd.R_reads' HO376.out).2.2 | (with_reducible refine Kd.C_alloc ?_ _) | (with_reducible refine Kd.C_drewN ?_ _) | (with_reducible refine Kd.C_drew ?_)))
 (case side4 => exact (Kd.R_reads' HO376.out).2.1)
 (case side5 => repeat (first | exact (Kd.R_reads' HO381.out).2.2 | (with_reducible refine Kd.C_alloc ?_ _) | (with_reducible refine Kd.C_drewN ?_ _) | (with_reducible refine Kd.C_drew ?_)))
 (case side6 => exact (Kd.R_reads' HO381.out).2.1)
 (case side7 => repeat (first | exact (Kd.R_reads' HO384.out).2.2 | (with_reducible refine Kd.C_alloc ?_ _) | (with_reducible refine Kd.C_drewN ?_ _) | (with_reducible refine Kd.C_drew ?_)))
 (case side8 => exact (Kd.R_reads' HO384.out).2.1)
 rintro e w31 ⟨rfl, hb⟩
 refine ⟨_, rfl, ?_⟩
 have n0_ := am (Kd.R_below (by (with_reducible repeat (first | apply Kd.R_alloc | apply Kd.R_drewN | apply Kd.R_drew)); exact HO373.out) hb)
 have n1_ := am (Kd.R_below (by (with_reducible repeat (first | apply Kd.R_alloc | apply Kd.R_drewN | apply Kd.R_drew)); exact HO376.out) hb)
 have n2_ := am (Kd.R_below (by (with_reducible repeat (first | apply Kd.R_alloc | apply Kd.R_drewN | apply Kd.R_drew)); exact HO381.out) hb)
 have n3_ := am (Kd.R_below (by (with_reducible repeat (first | apply Kd.R_alloc | apply Kd.R_drewN | apply Kd.R_drew)); exact HO384.out) hb)
 have n4_ := am (blk_below (g := gb365) bkw hb)
 have n5_ := am (blk_below (g := gb366) bkw hb)
 have n6_ := am (below_step blw hb)
 clear HO373
 clear HO376
 clear HO381
 clear HO384
 clear BK365
 clear BK366
 clear HB
 revert n0_ n1_ n2_ n3_ n4_ n5_ n6_
 intro HO373 HO376 HO381 HO384 BK365 BK366 HB
 (try clear hb)
 (try clear hb2)
 (try clear hk)
 (try clear hi)
 refine hK.out _ _ ⟨(blk_cell BK365.out 0).trans rfl, (blk_cell BK365.out 1).trans rfl, (blk_cell BK365.out 2).trans rfl, (blk_cell BK365.out 3).trans rfl, (blk_cell BK366.out 0).trans rfl, (blk_cell BK366.out 1).trans rfl, (blk_cell BK366.out 2).trans rfl, (blk_cell BK366.out 3).trans rfl⟩ (fun hHeld => ?_)
 clear hK K
 refine norm_ (a' := ?_) ?_ ?_
 rotate_left
 ·show Act.put _ (some 24) _ = _
  simp only [sx]
  rfl
 refine pure_ (i := 5) (N := some 6) (v := ?_) (a' := ?_) (bm 6 63) rfl rfl kr qi (Or.inl ⟨by rfl, ?_⟩) ?_ ?_
 rotate_left
 ·intro w'
  go_simp
  with_reducible rfl
 rotate_left
 ·simp only [sx]
  rfl
 refine done_ kr ?_
 have hnb32 := NB365_366.out
 have hnc32 := NB366_365.out
 obtain ⟨hcz33_0, hcz33_1, hcz33_2, hcz33_3⟩ := cls4 BK365.out
 obtain ⟨hfz33_0, hfz33_1, hfz33_2, hfz33_3⟩ := frz4 BK365.out
 go_upto_if 34 with (first | ((with_reducible refine gate_callee (f := 8) rfl ?_); refine goesL_ (some 26) rfl rfl Try.func8 kr rfl #[.agg #[.int .i64 a0_0, .int .i64 a0_1, .slice A0_2 l0_2.length c0_2, .slice A0_3 l0_3.length c0_3]] rfl mpw ?_; (with_reducible refine (laws_toValue.calls k a0_0 a0_1 _ _ l0_2 _ _ l0_3 t386 t387 t388 t391 _ ?side1 ?side2 ?side3 ?side4 A20.out).mono ?_); (case side1 => have X_ := HR0_2; exact cbl); (case side2 => exact HC0_2.out); (case side3 => have X_ := HR0_3; exact cbl); (case side4 => exact HC0_3.out); rintro e w34 ⟨v389, v392, rfl, ho0, ho1, hb⟩; refine ⟨_, rfl, ?_⟩; have n0_ := am (Kd.R_elder' (by (with_reducible repeat (first | apply Kd.R_alloc | apply Kd.R_drewN | apply Kd.R_drew)); exact HO373.out) (Kd.R_base ho0) hb); have n1_ := am (Kd.R_mono (Kd.R_told (Kd.R_told (Kd.R_old (by (with_reducible repeat (first | apply Kd.R_alloc | apply Kd.R_drewN | apply Kd.R_drew)); exact HO376.out) hb) (Kd.R_base ho0)) (Kd.R_base ho1)) (fun _ h_ => h_.1)); have n2_ := am (Kd.R_elder' (by (with_reducible repeat (first | apply Kd.R_alloc | apply Kd.R_drewN | apply Kd.R_drew)); exact HO381.out) (Kd.R_base ho0) hb); have n3_ := am (Kd.R_mono (Kd.R_told (Kd.R_told (Kd.R_old (by (with_reducible repeat (first | apply Kd.R_alloc | apply Kd.R_drewN | apply Kd.R_drew)); exact HO384.out) hb) (Kd.R_base ho0)) (Kd.R_base ho1)) (fun _ h_ => h_.1)); have n4_ := am (Kd.R_lower (Kd.R_new' (Kd.R_new' ho0 (Kd.R_lt (by (with_reducible repeat (first | apply Kd.R_alloc | apply Kd.R_drewN | apply Kd.R_drew)); exact HO373.out))) (Kd.R_lt (by (with_reducible repeat (first | apply Kd.R_alloc | apply Kd.R_drewN | apply Kd.R_drew)); exact HO381.out))) (below_size blw)); have n5_ := am (Kd.R_lower (Kd.R_new' (Kd.R_new' (Kd.R_new' (Kd.R_new' ho1 (Kd.R_lt (by (with_reducible repeat (first | apply Kd.R_alloc | apply Kd.R_drewN | apply Kd.R_drew)); exact HO373.out))) (Kd.R_lt (by (with_reducible repeat (first | apply Kd.R_alloc | apply Kd.R_drewN | apply Kd.R_drew)); exact HO376.out))) (Kd.R_lt (by (with_reducible repeat (first | apply Kd.R_alloc | apply Kd.R_drewN | apply Kd.R_drew)); exact HO381.out))) (Kd.R_lt (by (with_reducible repeat (first | apply Kd.R_alloc | apply Kd.R_drewN | apply Kd.R_drew)); exact HO384.out))) (below_size blw)); have n6_ := am (blk_below (g := gb365) bkw hb); have n7_ := am (blk_below (g := gb366) bkw hb); have n8_ := am (below_step blw hb); clear HO373; clear HO376; clear HO381; clear HO384; clear BK365; clear BK366; clear HB; revert n0_ n1_ n2_ n3_ n4_ n5_ n6_ n7_ n8_; intro HO373 HO376 HO381 HO384 HO390 HO393 BK365 BK366 HB; (try clear hb); (try clear hb2); (try clear hk); (try clear hi); (try clear ho0); (try clear ho1)) | ((with_reducible refine gate_dst (N := 7) rfl ?_); refine box_event ?hg (N := 7) ?hd (cs := #[.int .i64 0, .int .i64 0, .slice none 0 0, .slice none 0 0]) (t := 30) ?hr ?_; (case hd => rfl); (case hg => rfl); (case hr => exact hrw); intro gb394 hg w35 hbox hb; have n0_ := am (Kd.R_below (by (with_reducible repeat (first | apply Kd.R_alloc | apply Kd.R_drewN | apply Kd.R_drew)); exact HO373.out) hb); have n1_ := am (Kd.R_below (Kd.R_elderB (by (with_reducible repeat (first | apply Kd.R_alloc | apply Kd.R_drewN | apply Kd.R_drew)); exact HO376.out) gb394 (Nat.le_of_eq hg.symm)) hb); have n2_ := am (Kd.R_below (by (with_reducible repeat (first | apply Kd.R_alloc | apply Kd.R_drewN | apply Kd.R_drew)); exact HO381.out) hb); have n3_ := am (Kd.R_below (Kd.R_elderB (by (with_reducible repeat (first | apply Kd.R_alloc | apply Kd.R_drewN | apply Kd.R_drew)); exact HO384.out) gb394 (Nat.le_of_eq hg.symm)) hb); have n4_ := am (Kd.R_below (by (with_reducible repeat (first | apply Kd.R_alloc | apply Kd.R_drewN | apply Kd.R_drew)); exact HO390.out) hb); have n5_ := am (Kd.R_below (Kd.R_elderB (by (with_reducible repeat (first | apply Kd.R_alloc | apply Kd.R_drewN | apply Kd.R_drew)); exact HO393.out) gb394 (Nat.le_of_eq hg.symm)) hb); have n6_ := am (blk_below (g := gb365) bkw hb); have n7_ := am (blk_below (g := gb366) bkw hb); have n8_ := am (below_step blw hb); have n9_ := am (hbox); have n10_ := am ((by rw [hg]; exact (below_size blw) : w.heap.size ≤ gb394)); have n11_ := n10_; have n12_ := am ((by rw [hg]; exact Nat.ne_of_lt (blk_lt (g := gb365) bkw) : gb365 ≠ gb394)); have n13_ := am ((by rw [hg]; exact Nat.ne_of_gt (blk_lt (g := gb365) bkw) : gb394 ≠ gb365)); have n14_ := am ((by rw [hg]; exact Nat.ne_of_lt (blk_lt (g := gb366) bkw) : gb366 ≠ gb394)); have n15_ := am ((by rw [hg]; exact Nat.ne_of_gt (blk_lt (g := gb366) bkw) : gb394 ≠ gb366)); clear HO373; clear HO376; clear HO381; clear HO384; clear HO390; clear HO393; clear BK365; clear BK366; clear HB; revert n0_ n1_ n2_ n3_ n4_ n5_ n6_ n7_ n8_ n9_ n10_ n11_ n12_ n13_ n14_ n15_; intro HO373 HO376 HO381 HO384 HO390 HO393 BK365 BK366 HB BK394 GW394 GE394 NB365_394 NB394_365 NB366_394 NB394_366; clear hb hbox hg; have hnb36 := NB394_365.out; have hnc36 := NB365_394.out; have hnb37 := NB394_366.out; have hnc37 := NB366_394.out; obtain ⟨hcz38_0, hcz38_1, hcz38_2, hcz38_3⟩ := cls4 BK394.out; obtain ⟨hfz38_0, hfz38_1, hfz38_2, hfz38_3⟩ := frz4 BK394.out; obtain ⟨Ao39, co39, eo39⟩ := Kd.R_slice HO390.out; subst eo39; obtain ⟨Ao40, co40, eo40⟩ := Kd.R_slice HO393.out; subst eo40; obtain ⟨hcz41_0, hcz41_1, hcz41_2, hcz41_3⟩ := cls4 BK366.out; obtain ⟨hfz41_0, hfz41_1, hfz41_2, hfz41_3⟩ := frz4 BK366.out) | ((with_reducible refine gate_callee (f := 8) rfl ?_); refine goesL_ (some 28) rfl rfl Try.func8 kr rfl #[.agg #[.int .i64 a1_0, .int .i64 a1_1, .slice A1_2 l1_2.length c1_2, .slice A1_3 l1_3.length c1_3]] rfl mpw ?_; (with_reducible refine (laws_toValue.calls k a1_0 a1_1 _ _ l1_2 _ _ l1_3 t395 t396 t397 t400 _ ?side1 ?side2 ?side3 ?side4 A21.out).mono ?_); (case side1 => exact Kd.C_below HR1_2.out blw); (case side2 => exact HC1_2.out); (case side3 => exact Kd.C_below HR1_3.out blw); (case side4 => exact HC1_3.out); rintro e w42 ⟨v398, v401, rfl, ho0, ho1, hb⟩; refine ⟨_, rfl, ?_⟩; have n0_ := am (Kd.R_elder' (by (with_reducible repeat (first | apply Kd.R_alloc | apply Kd.R_drewN | apply Kd.R_drew)); exact (Kd.R_mono (fr4 (g := gb394) (Kd.R_types HO373.out BK394.out (by decide)) (fun _ hk => hk.2) 0) (fun _ h_ => h_.1))) (Kd.R_base ho0) hb); have n1_ := am (Kd.R_mono (Kd.R_told (Kd.R_told (Kd.R_old (by (with_reducible repeat (first | apply Kd.R_alloc | apply Kd.R_drewN | apply Kd.R_drew)); exact (Kd.R_mono (fr4 (g := gb394) (Kd.R_mono HO376.out (fun k_ hk => (⟨hk, hk.2⟩ : _ ∧ k_ ≠ gb394))) (fun _ hk => hk.2) 0) (fun _ h_ => h_.1))) hb) (Kd.R_base ho0)) (Kd.R_base ho1)) (fun _ h_ => h_.1)); have n2_ := am (Kd.R_elder' (by (with_reducible repeat (first | apply Kd.R_alloc | apply Kd.R_drewN | apply Kd.R_drew)); exact (Kd.R_mono (fr4 (g := gb394) (Kd.R_types HO381.out BK394.out (by decide)) (fun _ hk => hk.2) 0) (fun _ h_ => h_.1))) (Kd.R_base ho0) hb); have n3_ := am (Kd.R_mono (Kd.R_told (Kd.R_told (Kd.R_old (by (with_reducible repeat (first | apply Kd.R_alloc | apply Kd.R_drewN | apply Kd.R_drew)); exact (Kd.R_mono (fr4 (g := gb394) (Kd.R_mono HO384.out (fun k_ hk => (⟨hk, hk.2⟩ : _ ∧ k_ ≠ gb394))) (fun _ hk => hk.2) 0) (fun _ h_ => h_.1))) hb) (Kd.R_base ho0)) (Kd.R_base ho1)) (fun _ h_ => h_.1)); have n4_ := am (Kd.R_elder' (by (with_reducible repeat (first | apply Kd.R_alloc | apply Kd.R_drewN | apply Kd.R_drew)); exact (Kd.R_mono (fr4 (g := gb394) (Kd.R_types HO390.out BK394.out (by decide)) (fun _ hk => hk.2) 0) (fun _ h_ => h_.1))) (Kd.R_base ho0) hb); have n5_ := am (Kd.R_mono (Kd.R_told (Kd.R_told (Kd.R_old (by (with_reducible repeat (first | apply Kd.R_alloc | apply Kd.R_drewN | apply Kd.R_drew)); exact (Kd.R_mono (fr4 (g := gb394) (Kd.R_mono HO393.out (fun k_ hk => (⟨hk, hk.2⟩ : _ ∧ k_ ≠ gb394))) (fun _ hk => hk.2) 0) (fun _ h_ => h_.1))) hb) (Kd.R_base ho0)) (Kd.R_base ho1)) (fun _ h_ => h_.1)); have n6_ := am (Kd.R_lower (Kd.R_new' (Kd.R_new' (Kd.R_new' ho0 (Kd.R_lt (by (with_reducible repeat (first | apply Kd.R_alloc | apply Kd.R_drewN | apply Kd.R_drew)); exact (Kd.R_mono (fr4 (g := gb394) (Kd.R_types HO373.out BK394.out (by decide)) (fun _ hk => hk.2) 0) (fun _ h_ => h_.1))))) (Kd.R_lt (by (with_reducible repeat (first | apply Kd.R_alloc | apply Kd.R_drewN | apply Kd.R_drew)); exact (Kd.R_mono (fr4 (g := gb394) (Kd.R_types HO381.out BK394.out (by decide)) (fun _ hk => hk.2) 0) (fun _ h_ => h_.1))))) (Kd.R_lt (by (with_reducible repeat (first | apply Kd.R_alloc | apply Kd.R_drewN | apply Kd.R_drew)); exact (Kd.R_mono (fr4 (g := gb394) (Kd.R_types HO390.out BK394.out (by decide)) (fun _ hk => hk.2) 0) (fun _ h_ => h_.1))))) (below_size blw)); have n7_ := am (Kd.R_lower (Kd.R_newB (Kd.R_new' (Kd.R_new' (Kd.R_new' (Kd.R_new' (Kd.R_new' (Kd.R_new' ho1 (Kd.R_lt (by (with_reducible repeat (first | apply Kd.R_alloc | apply Kd.R_drewN | apply Kd.R_drew)); exact (Kd.R_mono (fr4 (g := gb394) (Kd.R_types HO373.out BK394.out (by decide)) (fun _ hk => hk.2) 0) (fun _ h_ => h_.1))))) (Kd.R_lt (by (with_reducible repeat (first | apply Kd.R_alloc | apply Kd.R_drewN | apply Kd.R_drew)); exact (Kd.R_mono (fr4 (g := gb394) (Kd.R_mono HO376.out (fun k_ hk => (⟨hk, hk.2⟩ : _ ∧ k_ ≠ gb394))) (fun _ hk => hk.2) 0) (fun _ h_ => h_.1))))) (Kd.R_lt (by (with_reducible repeat (first | apply Kd.R_alloc | apply Kd.R_drewN | apply Kd.R_drew)); exact (Kd.R_mono (fr4 (g := gb394) (Kd.R_types HO381.out BK394.out (by decide)) (fun _ hk => hk.2) 0) (fun _ h_ => h_.1))))) (Kd.R_lt (by (with_reducible repeat (first | apply Kd.R_alloc | apply Kd.R_drewN | apply Kd.R_drew)); exact (Kd.R_mono (fr4 (g := gb394) (Kd.R_mono HO384.out (fun k_ hk => (⟨hk, hk.2⟩ : _ ∧ k_ ≠ gb394))) (fun _ hk => hk.2) 0) (fun _ h_ => h_.1))))) (Kd.R_lt (by (with_reducible repeat (first | apply Kd.R_alloc | apply Kd.R_drewN | apply Kd.R_drew)); exact (Kd.R_mono (fr4 (g := gb394) (Kd.R_types HO390.out BK394.out (by decide)) (fun _ hk => hk.2) 0) (fun _ h_ => h_.1))))) (Kd.R_lt (by (with_reducible repeat (first | apply Kd.R_alloc | apply Kd.R_drewN | apply Kd.R_drew)); exact (Kd.R_mono (fr4 (g := gb394) (Kd.R_mono HO393.out (fun k_ hk => (⟨hk, hk.2⟩ : _ ∧ k_ ≠ gb394))) (fun _ hk => hk.2) 0) (fun _ h_ => h_.1))))) (g := gb394) (o := .cells #[.int .i64 t386, .int .i64 t387, .slice Ao39 t388.length co39, .slice Ao40 t391.length co40] 30 (0, 0)) (by (with_reducible repeat (first | refine blk_drewN ?_ _ | refine blk_drew ?_ | refine blk_alloc ?_ _)); refine blk_put (cs := #[.int .i64 t386, .int .i64 t387, .slice Ao39 t388.length co39, .slice none 0 0]) ?_ 3 _ rfl; (with_reducible repeat (first | refine blk_drewN ?_ _ | refine blk_drew ?_ | refine blk_alloc ?_ _)); refine blk_put (cs := #[.int .i64 t386, .int .i64 t387, .slice none 0 0, .slice none 0 0]) ?_ 2 _ rfl; (with_reducible repeat (first | refine blk_drewN ?_ _ | refine blk_drew ?_ | refine blk_alloc ?_ _)); refine blk_put (cs := #[.int .i64 t386, .int .i64 0, .slice none 0 0, .slice none 0 0]) ?_ 1 _ rfl; (with_reducible repeat (first | refine blk_drewN ?_ _ | refine blk_drew ?_ | refine blk_alloc ?_ _)); refine blk_put (cs := #[.int .i64 0, .int .i64 0, .slice none 0 0, .slice none 0 0]) ?_ 0 _ rfl; (with_reducible repeat (first | refine blk_drewN ?_ _ | refine blk_drew ?_ | refine blk_alloc ?_ _)); exact BK394.out)) (below_size blw)); have n8_ := am (blk_below (g := gb365) (o := .cells #[.int .i64 a0_0, .int .i64 a0_1, .slice A0_2 l0_2.length c0_2, .slice A0_3 l0_3.length c0_3] 25 (0, 0)) (by (with_reducible repeat (first | refine blk_drewN ?_ _ | refine blk_drew ?_ | refine blk_alloc ?_ _)); refine blk_far ?_ NB365_394.out _; (with_reducible repeat (first | refine blk_drewN ?_ _ | refine blk_drew ?_ | refine blk_alloc ?_ _)); refine blk_far ?_ NB365_394.out _; (with_reducible repeat (first | refine blk_drewN ?_ _ | refine blk_drew ?_ | refine blk_alloc ?_ _)); refine blk_far ?_ NB365_394.out _; (with_reducible repeat (first | refine blk_drewN ?_ _ | refine blk_drew ?_ | refine blk_alloc ?_ _)); refine blk_far ?_ NB365_394.out _; (with_reducible repeat (first | refine blk_drewN ?_ _ | refine blk_drew ?_ | refine blk_alloc ?_ _)); exact BK365.out) hb); have n9_ := am (blk_below (g := gb366) (o := .cells #[.int .i64 a1_0, .int .i64 a1_1, .slice A1_2 l1_2.length c1_2, .slice A1_3 l1_3.length c1_3] 25 (0, 0)) (by (with_reducible repeat (first | refine blk_drewN ?_ _ | refine blk_drew ?_ | refine blk_alloc ?_ _)); refine blk_far ?_ NB366_394.out _; (with_reducible repeat (first | refine blk_drewN ?_ _ | refine blk_drew ?_ | refine blk_alloc ?_ _)); refine blk_far ?_ NB366_394.out _; (with_reducible repeat (first | refine blk_drewN ?_ _ | refine blk_drew ?_ | refine blk_alloc ?_ _)); refine blk_far ?_ NB366_394.out _; (with_reducible repeat (first | refine blk_drewN ?_ _ | refine blk_drew ?_ | refine blk_alloc ?_ _)); refine blk_far ?_ NB366_394.out _; (with_reducible repeat (first | refine blk_drewN ?_ _ | refine blk_drew ?_ | refine blk_alloc ?_ _)); exact BK366.out) hb); have n10_ := am (blk_below (g := gb394) (o := .cells #[.int .i64 t386, .int .i64 t387, .slice Ao39 t388.length co39, .slice Ao40 t391.length co40] 30 (0, 0)) (by (with_reducible repeat (first | refine blk_drewN ?_ _ | refine blk_drew ?_ | refine blk_alloc ?_ _)); refine blk_put (cs := #[.int .i64 t386, .int .i64 t387, .slice Ao39 t388.length co39, .slice none 0 0]) ?_ 3 _ rfl; (with_reducible repeat (first | refine blk_drewN ?_ _ | refine blk_drew ?_ | refine blk_alloc ?_ _)); refine blk_put (cs := #[.int .i64 t386, .int .i64 t387, .slice none 0 0, .slice none 0 0]) ?_ 2 _ rfl; (with_reducible repeat (first | refine blk_drewN ?_ _ | refine blk_drew ?_ | refine blk_alloc ?_ _)); refine blk_put (cs := #[.int .i64 t386, .int .i64 0, .slice none 0 0, .slice none 0 0]) ?_ 1 _ rfl; (with_reducible repeat (first | refine blk_drewN ?_ _ | refine blk_drew ?_ | refine blk_alloc ?_ _)); refine blk_put (cs := #[.int .i64 0, .int .i64 0, .slice none 0 0, .slice none 0 0]) ?_ 0 _ rfl; (with_reducible repeat (first | refine blk_drewN ?_ _ | refine blk_drew ?_ | refine blk_alloc ?_ _)); exact BK394.out) hb); have n11_ := am (below_step blw hb); clear HO373; clear HO376; clear HO381; clear HO384; clear HO390; clear HO393; clear BK365; clear BK366; clear BK394; clear HB; revert n0_ n1_ n2_ n3_ n4_ n5_ n6_ n7_ n8_ n9_ n10_ n11_; intro HO373 HO376 HO381 HO384 HO390 HO393 HO399 HO402 BK365 BK366 BK394 HB; (try clear hb); (try clear hb2); (try clear hk); (try clear hi); (try clear ho0); (try clear ho1)) | ((with_reducible refine gate_dst (N := 8) rfl ?_); refine box_event ?hg (N := 8) ?hd (cs := #[.int .i64 0, .int .i64 0, .slice none 0 0, .slice none 0 0]) (t := 30) ?hr ?_; (case hd => rfl); (case hg => rfl); (case hr => exact hrw); intro gb403 hg w43 hbox hb; have n0_ := am (Kd.R_below (by (with_reducible repeat (first | apply Kd.R_alloc | apply Kd.R_drewN | apply Kd.R_drew)); exact HO373.out) hb); have n1_ := am (Kd.R_below (Kd.R_elderB (by (with_reducible repeat (first | apply Kd.R_alloc | apply Kd.R_drewN | apply Kd.R_drew)); exact HO376.out) gb403 (Nat.le_of_eq hg.symm)) hb); have n2_ := am (Kd.R_below (by (with_reducible repeat (first | apply Kd.R_alloc | apply Kd.R_drewN | apply Kd.R_drew)); exact HO381.out) hb); have n3_ := am (Kd.R_below (Kd.R_elderB (by (with_reducible repeat (first | apply Kd.R_alloc | apply Kd.R_drewN | apply Kd.R_drew)); exact HO384.out) gb403 (Nat.le_of_eq hg.symm)) hb); have n4_ := am (Kd.R_below (by (with_reducible repeat (first | apply Kd.R_alloc | apply Kd.R_drewN | apply Kd.R_drew)); exact HO390.out) hb); have n5_ := am (Kd.R_below (Kd.R_elderB (by (with_reducible repeat (first | apply Kd.R_alloc | apply Kd.R_drewN | apply Kd.R_drew)); exact HO393.out) gb403 (Nat.le_of_eq hg.symm)) hb); have n6_ := am (Kd.R_below (by (with_reducible repeat (first | apply Kd.R_alloc | apply Kd.R_drewN | apply Kd.R_drew)); exact HO399.out) hb); have n7_ := am (Kd.R_below (Kd.R_elderB (by (with_reducible repeat (first | apply Kd.R_alloc | apply Kd.R_drewN | apply Kd.R_drew)); exact HO402.out) gb403 (Nat.le_of_eq hg.symm)) hb); have n8_ := am (blk_below (g := gb365) bkw hb); have n9_ := am (blk_below (g := gb366) bkw hb); have n10_ := am (blk_below (g := gb394) bkw hb); have n11_ := am (below_step blw hb); have n12_ := am (hbox); have n13_ := am ((by rw [hg]; exact (below_size blw) : w.heap.size ≤ gb403)); have n14_ := n13_; have n15_ := am ((by rw [hg]; exact Nat.ne_of_lt (blk_lt (g := gb365) bkw) : gb365 ≠ gb403)); have n16_ := am ((by rw [hg]; exact Nat.ne_of_gt (blk_lt (g := gb365) bkw) : gb403 ≠ gb365)); have n17_ := am ((by rw [hg]; exact Nat.ne_of_lt (blk_lt (g := gb366) bkw) : gb366 ≠ gb403)); have n18_ := am ((by rw [hg]; exact Nat.ne_of_gt (blk_lt (g := gb366) bkw) : gb403 ≠ gb366)); have n19_ := am ((by rw [hg]; exact Nat.ne_of_lt (blk_lt (g := gb394) bkw) : gb394 ≠ gb403)); have n20_ := am ((by rw [hg]; exact Nat.ne_of_gt (blk_lt (g := gb394) bkw) : gb403 ≠ gb394)); clear HO373; clear HO376; clear HO381; clear HO384; clear HO390; clear HO393; clear HO399; clear HO402; clear BK365; clear BK366; clear BK394; clear HB; revert n0_ n1_ n2_ n3_ n4_ n5_ n6_ n7_ n8_ n9_ n10_ n11_ n12_ n13_ n14_ n15_ n16_ n17_ n18_ n19_ n20_; intro HO373 HO376 HO381 HO384 HO390 HO393 HO399 HO402 BK365 BK366 BK394 HB BK403 GW403 GE403 NB365_403 NB403_365 NB366_403 NB403_366 NB394_403 NB403_394; clear hb hbox hg; have hnb44 := NB403_365.out; have hnc44 := NB365_403.out; have hnb45 := NB403_366.out; have hnc45 := NB366_403.out; have hnb46 := NB403_394.out; have hnc46 := NB394_403.out; obtain ⟨hcz47_0, hcz47_1, hcz47_2, hcz47_3⟩ := cls4 BK403.out; obtain ⟨hfz47_0, hfz47_1, hfz47_2, hfz47_3⟩ := frz4 BK403.out; obtain ⟨Ao48, co48, eo48⟩ := Kd.R_slice HO399.out; subst eo48; obtain ⟨Ao49, co49, eo49⟩ := Kd.R_slice HO402.out; subst eo49; obtain ⟨hcz50_0, hcz50_1, hcz50_2, hcz50_3⟩ := cls4 BK394.out; obtain ⟨hfz50_0, hfz50_1, hfz50_2, hfz50_3⟩ := frz4 BK394.out) | ((with_reducible refine gate_callee (f := 12) rfl ?_); refine goesL_ (some 31) rfl rfl Try.func12 kr rfl #[.agg #[.int .i64 t386, .int .i64 t387, .slice Ao39 t388.length co39, .slice Ao40 t391.length co40], .agg #[.int .i64 t395, .int .i64 t396, .slice Ao48 t397.length co48, .slice Ao49 t400.length co49]] rfl mpw ?_; (with_reducible refine (impl_CountIn.calls k t386 t387 _ _ t388 _ _ t391 t395 t396 _ _ t397 _ _ t400 t404 _ ?side1 ?side2 ?side3 ?side4 ?side5 ?side6 ?side7 ?side8 A22.out).mono ?_); (case side1 => refine (Kd.R_reads' (e := 9) (base := w.heap.size) (ok := fun k_ => (((True ∧ some k_ ≠ (.slice Ao27 t371.length co27 : Value).ownBlock) ∧ some k_ ≠ (.slice Ao29 t379.length co29 : Value).ownBlock) ∧ some k_ ≠ (.slice Ao48 t397.length co48 : Value).ownBlock)) (n := t388.length) (c := co39) ?_).2.2; exact (by (with_reducible repeat (first | apply Kd.R_alloc | apply Kd.R_drewN | apply Kd.R_drew)); exact (Kd.R_mono (fr4 (g := gb403) (Kd.R_types HO390.out BK403.out (by decide)) (fun _ hk => hk.2) 0) (fun _ h_ => h_.1)))); (case side2 => exact (Kd.R_reads' HO390.out).2.1); (case side3 => refine (Kd.R_reads' (e := 30) (base := w.heap.size) (ok := fun k_ => ((((((((some k_ ≠ (.slice Ao39 t388.length co39 : Value).ownBlock ∧ some k_ ≠ (.slice Ao27 t371.length co27 : Value).ownBlock) ∧ some k_ ≠ (.slice Ao28 t374.length co28 : Value).ownBlock) ∧ some k_ ≠ (.slice Ao29 t379.length co29 : Value).ownBlock) ∧ some k_ ≠ (.slice Ao30 t382.length co30 : Value).ownBlock) ∧ k_ ≠ gb394) ∧ some k_ ≠ (.slice Ao48 t397.length co48 : Value).ownBlock) ∧ some k_ ≠ (.slice Ao49 t400.length co49 : Value).ownBlock) ∧ k_ ≠ gb403)) (n := t391.length) (c := co40) ?_).2.2; exact (by (with_reducible repeat (first | apply Kd.R_alloc | apply Kd.R_drewN | apply Kd.R_drew)); exact (Kd.R_mono (fr4 (g := gb403) (Kd.R_mono HO393.out (fun k_ hk => (⟨hk, hk.2⟩ : _ ∧ k_ ≠ gb403))) (fun _ hk => hk.2) 0) (fun _ h_ => h_.1)))); (case side4 => exact (Kd.R_reads' HO393.out).2.1); (case side5 => refine (Kd.R_reads' (e := 9) (base := w.heap.size) (ok := fun k_ => (((True ∧ some k_ ≠ (.slice Ao27 t371.length co27 : Value).ownBlock) ∧ some k_ ≠ (.slice Ao29 t379.length co29 : Value).ownBlock) ∧ some k_ ≠ (.slice Ao39 t388.length co39 : Value).ownBlock)) (n := t397.length) (c := co48) ?_).2.2; exact (by (with_reducible repeat (first | apply Kd.R_alloc | apply Kd.R_drewN | apply Kd.R_drew)); exact (Kd.R_mono (fr4 (g := gb403) (Kd.R_types HO399.out BK403.out (by decide)) (fun _ hk => hk.2) 0) (fun _ h_ => h_.1)))); (case side6 => exact (Kd.R_reads' HO399.out).2.1); (case side7 => refine (Kd.R_reads' (e := 30) (base := w.heap.size) (ok := fun k_ => ((((((((some k_ ≠ (.slice Ao48 t397.length co48 : Value).ownBlock ∧ some k_ ≠ (.slice Ao27 t371.length co27 : Value).ownBlock) ∧ some k_ ≠ (.slice Ao28 t374.length co28 : Value).ownBlock) ∧ some k_ ≠ (.slice Ao29 t379.length co29 : Value).ownBlock) ∧ some k_ ≠ (.slice Ao30 t382.length co30 : Value).ownBlock) ∧ some k_ ≠ (.slice Ao39 t388.length co39 : Value).ownBlock) ∧ some k_ ≠ (.slice Ao40 t391.length co40 : Value).ownBlock) ∧ k_ ≠ gb394) ∧ k_ ≠ gb403)) (n := t400.length) (c := co49) ?_).2.2; exact (by (with_reducible repeat (first | apply Kd.R_alloc | apply Kd.R_drewN | apply Kd.R_drew)); exact (Kd.R_mono (fr4 (g := gb403) (Kd.R_mono HO402.out (fun k_ hk => (⟨hk, hk.2⟩ : _ ∧ k_ ≠ gb403))) (fun _ hk => hk.2) 0) (fun _ h_ => h_.1)))); (case side8 => exact (Kd.R_reads' HO402.out).2.1); rintro e w51 ⟨rfl, hb⟩; refine ⟨_, rfl, ?_⟩; have n0_ := am (Kd.R_below (by (with_reducible repeat (first | apply Kd.R_alloc | apply Kd.R_drewN | apply Kd.R_drew)); exact (Kd.R_mono (fr4 (g := gb403) (Kd.R_types HO373.out BK403.out (by decide)) (fun _ hk => hk.2) 0) (fun _ h_ => h_.1))) hb); have n1_ := am (Kd.R_below (by (with_reducible repeat (first | apply Kd.R_alloc | apply Kd.R_drewN | apply Kd.R_drew)); exact (Kd.R_mono (fr4 (g := gb403) (Kd.R_mono HO376.out (fun k_ hk => (⟨hk, hk.2⟩ : _ ∧ k_ ≠ gb403))) (fun _ hk => hk.2) 0) (fun _ h_ => h_.1))) hb); have n2_ := am (Kd.R_below (by (with_reducible repeat (first | apply Kd.R_alloc | apply Kd.R_drewN | apply Kd.R_drew)); exact (Kd.R_mono (fr4 (g := gb403) (Kd.R_types HO381.out BK403.out (by decide)) (fun _ hk => hk.2) 0) (fun _ h_ => h_.1))) hb); have n3_ := am (Kd.R_below (by (with_reducible repeat (first | apply Kd.R_alloc | apply Kd.R_drewN | apply Kd.R_drew)); exact (Kd.R_mono (fr4 (g := gb403) (Kd.R_mono HO384.out (fun k_ hk => (⟨hk, hk.2⟩ : _ ∧ k_ ≠ gb403))) (fun _ hk => hk.2) 0) (fun _ h_ => h_.1))) hb); have n4_ := am (Kd.R_below (by (with_reducible repeat (first | apply Kd.R_alloc | apply Kd.R_drewN | apply Kd.R_drew)); exact (Kd.R_mono (fr4 (g := gb403) (Kd.R_types HO390.out BK403.out (by decide)) (fun _ hk => hk.2) 0) (fun _ h_ => h_.1))) hb); have n5_ := am (Kd.R_below (by (with_reducible repeat (first | apply Kd.R_alloc | apply Kd.R_drewN | apply Kd.R_drew)); exact (Kd.R_mono (fr4 (g := gb403) (Kd.R_mono HO393.out (fun k_ hk => (⟨hk, hk.2⟩ : _ ∧ k_ ≠ gb403))) (fun _ hk => hk.2) 0) (fun _ h_ => h_.1))) hb); have n6_ := am (Kd.R_below (by (with_reducible repeat (first | apply Kd.R_alloc | apply Kd.R_drewN | apply Kd.R_drew)); exact (Kd.R_mono (fr4 (g := gb403) (Kd.R_types HO399.out BK403.out (by decide)) (fun _ hk => hk.2) 0) (fun _ h_ => h_.1))) hb); have n7_ := am (Kd.R_below (by (with_reducible repeat (first | apply Kd.R_alloc | apply Kd.R_drewN | apply Kd.R_drew)); exact (Kd.R_mono (fr4 (g := gb403) (Kd.R_mono HO402.out (fun k_ hk => (⟨hk, hk.2⟩ : _ ∧ k_ ≠ gb403))) (fun _ hk => hk.2) 0) (fun _ h_ => h_.1))) hb); have n8_ := am (blk_below (g := gb365) (o := .cells #[.int .i64 a0_0, .int .i64 a0_1, .slice A0_2 l0_2.length c0_2, .slice A0_3 l0_3.length c0_3] 25 (0, 0)) (by (with_reducible repeat (first | refine blk_drewN ?_ _ | refine blk_drew ?_ | refine blk_alloc ?_ _)); refine blk_far ?_ NB365_403.out _; (with_reducible repeat (first | refine blk_drewN ?_ _ | refine blk_drew ?_ | refine blk_alloc ?_ _)); refine blk_far ?_ NB365_403.out _; (with_reducible repeat (first | refine blk_drewN ?_ _ | refine blk_drew ?_ | refine blk_alloc ?_ _)); refine blk_far ?_ NB365_403.out _; (with_reducible repeat (first | refine blk_drewN ?_ _ | refine blk_drew ?_ | refine blk_alloc ?_ _)); refine blk_far ?_ NB365_403.out _; (with_reducible repeat (first | refine blk_drewN ?_ _ | refine blk_drew ?_ | refine blk_alloc ?_ _)); exact BK365.out) hb); have n9_ := am (blk_below (g := gb366) (o := .cells #[.int .i64 a1_0, .int .i64 a1_1, .slice A1_2 l1_2.length c1_2, .slice A1_3 l1_3.length c1_3] 25 (0, 0)) (by (with_reducible repeat (first | refine blk_drewN ?_ _ | refine blk_drew ?_ | refine blk_alloc ?_ _)); refine blk_far ?_ NB366_403.out _; (with_reducible repeat (first | refine blk_drewN ?_ _ | refine blk_drew ?_ | refine blk_alloc ?_ _)); refine blk_far ?_ NB366_403.out _; (with_reducible repeat (first | refine blk_drewN ?_ _ | refine blk_drew ?_ | refine blk_alloc ?_ _)); refine blk_far ?_ NB366_403.out _; (with_reducible repeat (first | refine blk_drewN ?_ _ | refine blk_drew ?_ | refine blk_alloc ?_ _)); refine blk_far ?_ NB366_403.out _; (with_reducible repeat (first | refine blk_drewN ?_ _ | refine blk_drew ?_ | refine blk_alloc ?_ _)); exact BK366.out) hb); have n10_ := am (blk_below (g := gb394) (o := .cells #[.int .i64 t386, .int .i64 t387, .slice Ao39 t388.length co39, .slice Ao40 t391.length co40] 30 (0, 0)) (by (with_reducible repeat (first | refine blk_drewN ?_ _ | refine blk_drew ?_ | refine blk_alloc ?_ _)); refine blk_far ?_ NB394_403.out _; (with_reducible repeat (first | refine blk_drewN ?_ _ | refine blk_drew ?_ | refine blk_alloc ?_ _)); refine blk_far ?_ NB394_403.out _; (with_reducible repeat (first | refine blk_drewN ?_ _ | refine blk_drew ?_ | refine blk_alloc ?_ _)); refine blk_far ?_ NB394_403.out _; (with_reducible repeat (first | refine blk_drewN ?_ _ | refine blk_drew ?_ | refine blk_alloc ?_ _)); refine blk_far ?_ NB394_403.out _; (with_reducible repeat (first | refine blk_drewN ?_ _ | refine blk_drew ?_ | refine blk_alloc ?_ _)); exact BK394.out) hb); have n11_ := am (blk_below (g := gb403) (o := .cells #[.int .i64 t395, .int .i64 t396, .slice Ao48 t397.length co48, .slice Ao49 t400.length co49] 30 (0, 0)) (by (with_reducible repeat (first | refine blk_drewN ?_ _ | refine blk_drew ?_ | refine blk_alloc ?_ _)); refine blk_put (cs := #[.int .i64 t395, .int .i64 t396, .slice Ao48 t397.length co48, .slice none 0 0]) ?_ 3 _ rfl; (with_reducible repeat (first | refine blk_drewN ?_ _ | refine blk_drew ?_ | refine blk_alloc ?_ _)); refine blk_put (cs := #[.int .i64 t395, .int .i64 t396, .slice none 0 0, .slice none 0 0]) ?_ 2 _ rfl; (with_reducible repeat (first | refine blk_drewN ?_ _ | refine blk_drew ?_ | refine blk_alloc ?_ _)); refine blk_put (cs := #[.int .i64 t395, .int .i64 0, .slice none 0 0, .slice none 0 0]) ?_ 1 _ rfl; (with_reducible repeat (first | refine blk_drewN ?_ _ | refine blk_drew ?_ | refine blk_alloc ?_ _)); refine blk_put (cs := #[.int .i64 0, .int .i64 0, .slice none 0 0, .slice none 0 0]) ?_ 0 _ rfl; (with_reducible repeat (first | refine blk_drewN ?_ _ | refine blk_drew ?_ | refine blk_alloc ?_ _)); exact BK403.out) hb); have n12_ := am (below_step blw hb); clear HO373; clear HO376; clear HO381; clear HO384; clear HO390; clear HO393; clear HO399; clear HO402; clear BK365; clear BK366; clear BK394; clear BK403; clear HB; revert n0_ n1_ n2_ n3_ n4_ n5_ n6_ n7_ n8_ n9_ n10_ n11_ n12_; intro HO373 HO376 HO381 HO384 HO390 HO393 HO399 HO402 BK365 BK366 BK394 BK403 HB; (try clear hb); (try clear hb2); (try clear hk); (try clear hi)))
 (try clear hcz14_0 hcz14_1 hcz14_2 hcz14_3); (try clear hcz33_0 hcz33_1 hcz33_2 hcz33_3); (try clear hcz38_0 hcz38_1 hcz38_2 hcz38_3); (try clear hcz41_0 hcz41_1 hcz41_2 hcz41_3); (try clear hcz47_0 hcz47_1 hcz47_2 hcz47_3); (try clear hcz50_0 hcz50_1 hcz50_2 hcz50_3); (try clear hcz8_0 hcz8_1 hcz8_2 hcz8_3); (try clear hfz14_0 hfz14_1 hfz14_2 hfz14_3); (try clear hfz33_0 hfz33_1 hfz33_2 hfz33_3); (try clear hfz38_0 hfz38_1 hfz38_2 hfz38_3); (try clear hfz41_0 hfz41_1 hfz41_2 hfz41_3); (try clear hfz47_0 hfz47_1 hfz47_2 hfz47_3); (try clear hfz50_0 hfz50_1 hfz50_2 hfz50_3); (try clear hfz8_0 hfz8_1 hfz8_2 hfz8_3)
 have H := HC23.out
 clear HC23
 by_cases c52 : t404 = t385
 case neg =>
  rw [if_neg c52] at H
  have c52b0 : (t404 == t385) = false := beq_eq_false_iff_ne.mpr c52
  have c52b1 : (t404 != t385) = true := bne_iff_ne.mpr c52
  (first | rw [c52b0] | (simp only [i64_w, i32_w]; rw [c52b0]) | (rw [c52b1]; (try simp only [Bool.not_true, Bool.not_false])) | skip)
  obtain rfl := Option.some.inj H
  go_wp2
  go_ret
  exact ⟨rfw, blw⟩
 rw [if_pos c52] at H
 have c52b0 : (t404 == t385) = true := beq_iff_eq.mpr c52
 have c52b1 : (t404 != t385) = false := bne_eq_false_iff_eq.mpr c52
 clear c52
 (first | rw [c52b0] | (simp only [i64_w, i32_w]; rw [c52b0]) | (rw [c52b1]; (try simp only [Bool.not_true, Bool.not_false])) | skip)
 replace H := Option.bind_eq_some_iff.mp H
 obtain ⟨⟨t405, t406, t407, t410⟩, A530, H⟩ := H
 replace H : ((laws_eqValue.f k t386 t387 t388 t391 t405 t406 t407 t410).bind fun t413 => (if t413 = true then ((laws_toValue.f k a1_0 a1_1 l1_2 l1_3).bind fun bt414 => ((laws_eqValue.f k t395 t396 t397 t400 bt414.1 bt414.2.1 bt414.2.2.1 bt414.2.2.2).bind fun t422 => (if t422 = true then (some true) else (some false)))) else (some false))) = some r := H
 have A53 := am A530
 clear A530
 replace H := Option.bind_eq_some_iff.mp H
 obtain ⟨t413, A540, H⟩ := H
 replace H : (if t413 = true then ((laws_toValue.f k a1_0 a1_1 l1_2 l1_3).bind fun bt414 => ((laws_eqValue.f k t395 t396 t397 t400 bt414.1 bt414.2.1 bt414.2.2.1 bt414.2.2.2).bind fun t422 => (if t422 = true then (some true) else (some false)))) else (some false)) = some r := H
 have A54 := am A540
 clear A540
 have HC55 := am H
 clear H
 try go_wp2
 have n0_ := am (Kd.R_drew HO373.out)
 have n1_ := am (Kd.R_drew HO376.out)
 have n2_ := am (Kd.R_drew HO381.out)
 have n3_ := am (Kd.R_drew HO384.out)
 have n4_ := am (Kd.R_drew HO390.out)
 have n5_ := am (Kd.R_drew HO393.out)
 have n6_ := am (Kd.R_drew HO399.out)
 have n7_ := am (Kd.R_drew HO402.out)
 have n8_ := am (blk_drew BK365.out)
 have n9_ := am (blk_drew BK366.out)
 have n10_ := am (blk_drew BK394.out)
 have n11_ := am (blk_drew BK403.out)
 have n12_ := am (below_drew1 HB.out)
 clear HO373
 clear HO376
 clear HO381
 clear HO384
 clear HO390
 clear HO393
 clear HO399
 clear HO402
 clear BK365
 clear BK366
 clear BK394
 clear BK403
 clear HB
 revert n0_ n1_ n2_ n3_ n4_ n5_ n6_ n7_ n8_ n9_ n10_ n11_ n12_
 intro HO373 HO376 HO381 HO384 HO390 HO393 HO399 HO402 BK365 BK366 BK394 BK403 HB
 refine start_ (n := 5) (S := fun w' => w'.cell? ⟨gb394, 0, none⟩ = some (.int .i64 t386) ∧ w'.cell? ⟨gb394, 1, none⟩ = some (.int .i64 t387) ∧ w'.cell? ⟨gb394, 2, none⟩ = some (.slice Ao39 t388.length co39) ∧ w'.cell? ⟨gb394, 3, none⟩ = some (.slice Ao40 t391.length co40) ∧ w'.cell? ⟨gb365, 0, none⟩ = some (.int .i64 a0_0) ∧ w'.cell? ⟨gb365, 1, none⟩ = some (.int .i64 a0_1) ∧ w'.cell? ⟨gb365, 2, none⟩ = some (.slice A0_2 l0_2.length c0_2) ∧ w'.cell? ⟨gb365, 3, none⟩ = some (.slice A0_3 l0_3.length c0_3)) (ds := []) #[false,false,false,false,false] kr rfl rfl ⟨(blk_cell BK394.out 0).trans rfl, (blk_cell BK394.out 1).trans rfl, (blk_cell BK394.out 2).trans rfl, (blk_cell BK394.out 3).trans rfl, (blk_cell BK365.out 0).trans rfl, (blk_cell BK365.out 1).trans rfl, (blk_cell BK365.out 2).trans rfl, (blk_cell BK365.out 3).trans rfl⟩ (fun hHeld => ?_)
 generalize w51.drew = w56 at HO373 HO376 HO381 HO384 HO390 HO393 HO399 HO402 BK365 BK366 BK394 BK403 HB hHeld ⊢
 refine take_ (i := 0) (N := some 35) (v := ?_) (a' := ?_) (bm 5 1) rfl rfl kr qi (Or.inl ⟨by rfl, ?_⟩) hHeld ?_ ?_
 rotate_left
 ·rintro w' ⟨s0, s1, s2, s3, s4, s5, s6, s7⟩
  go_simp
  with_reducible rfl
 rotate_left
 ·simp only [sx]
  rfl
 refine take_ (i := 1) (N := some 36) (v := ?_) (a' := ?_) (bm 5 3) rfl rfl kr qi (Or.inl ⟨by rfl, ?_⟩) hHeld ?_ ?_
 rotate_left
 ·rintro w' ⟨s0, s1, s2, s3, s4, s5, s6, s7⟩
  go_simp
  with_reducible rfl
 rotate_left
 ·simp only [sx]
  rfl
 refine one_ (i := 2) (N := some 37) (bm 5 7) rfl rfl kr (by decide) (fun K hK => ?_)
 refine goes_ Try.func8 kr rfl #[.agg #[.int .i64 a0_0, .int .i64 a0_1, .slice A0_2 l0_2.length c0_2, .slice A0_3 l0_3.length c0_3]] (by rfl) rfl rfl mpw ?_
 with_reducible refine (laws_toValue.calls k a0_0 a0_1 _ _ l0_2 _ _ l0_3 t405 t406 t407 t410 _ ?side1 ?side2 ?side3 ?side4 A53.out).mono ?_
 (case side1 => have X_ := HR0_2; exact cbl)
 (case side2 => exact HC0_2.out)
 (case side3 => have X_ := HR0_3; exact cbl)
 (case side4 => exact HC0_3.out)
 rintro e w57 ⟨v408, v411, rfl, ho0, ho1, hb⟩
 refine ⟨_, rfl, ?_⟩
 have n0_ := am (Kd.R_elder' (by (with_reducible repeat (first | apply Kd.R_alloc | apply Kd.R_drewN | apply Kd.R_drew)); exact HO373.out) (Kd.R_base ho0) hb)
 have n1_ := am (Kd.R_mono (Kd.R_told (Kd.R_told (Kd.R_old (by (with_reducible repeat (first | apply Kd.R_alloc | apply Kd.R_drewN | apply Kd.R_drew)); exact HO376.out) hb) (Kd.R_base ho0)) (Kd.R_base ho1)) (fun _ h_ => h_.1))
 have n2_ := am (Kd.R_elder' (by (with_reducible repeat (first | apply Kd.R_alloc | apply Kd.R_drewN | apply Kd.R_drew)); exact HO381.out) (Kd.R_base ho0) hb)
 have n3_ := am (Kd.R_mono (Kd.R_told (Kd.R_told (Kd.R_old (by (with_reducible repeat (first | apply Kd.R_alloc | apply Kd.R_drewN | apply Kd.R_drew)); exact HO384.out) hb) (Kd.R_base ho0)) (Kd.R_base ho1)) (fun _ h_ => h_.1))
 have n4_ := am (Kd.R_elder' (by (with_reducible repeat (first | apply Kd.R_alloc | apply Kd.R_drewN | apply Kd.R_drew)); exact HO390.out) (Kd.R_base ho0) hb)
 have n5_ := am (Kd.R_mono (Kd.R_told (Kd.R_told (Kd.R_old (by (with_reducible repeat (first | apply Kd.R_alloc | apply Kd.R_drewN | apply Kd.R_drew)); exact HO393.out) hb) (Kd.R_base ho0)) (Kd.R_base ho1)) (fun _ h_ => h_.1))
 have n6_ := am (Kd.R_elder' (by (with_reducible repeat (first | apply Kd.R_alloc | apply Kd.R_drewN | apply Kd.R_drew)); exact HO399.out) (Kd.R_base ho0) hb)
 have n7_ := am (Kd.R_mono (Kd.R_told (Kd.R_told (Kd.R_old (by (with_reducible repeat (first | apply Kd.R_alloc | apply Kd.R_drewN | apply Kd.R_drew)); exact HO402.out) hb) (Kd.R_base ho0)) (Kd.R_base ho1)) (fun _ h_ => h_.1))
 have n8_ := am (Kd.R_lower (Kd.R_new' (Kd.R_new' (Kd.R_new' (Kd.R_new' ho0 (Kd.R_lt (by (with_reducible repeat (first | apply Kd.R_alloc | apply Kd.R_drewN | apply Kd.R_drew)); exact HO373.out))) (Kd.R_lt (by (with_reducible repeat (first | apply Kd.R_alloc | apply Kd.R_drewN | apply Kd.R_drew)); exact HO381.out))) (Kd.R_lt (by (with_reducible repeat (first | apply Kd.R_alloc | apply Kd.R_drewN | apply Kd.R_drew)); exact HO390.out))) (Kd.R_lt (by (with_reducible repeat (first | apply Kd.R_alloc | apply Kd.R_drewN | apply Kd.R_drew)); exact HO399.out))) (below_size blw))
 have n9_ := am (Kd.R_lower (Kd.R_newB (Kd.R_newB (Kd.R_new' (Kd.R_new' (Kd.R_new' (Kd.R_new' (Kd.R_new' (Kd.R_new' (Kd.R_new' (Kd.R_new' ho1 (Kd.R_lt (by (with_reducible repeat (first | apply Kd.R_alloc | apply Kd.R_drewN | apply Kd.R_drew)); exact HO373.out))) (Kd.R_lt (by (with_reducible repeat (first | apply Kd.R_alloc | apply Kd.R_drewN | apply Kd.R_drew)); exact HO376.out))) (Kd.R_lt (by (with_reducible repeat (first | apply Kd.R_alloc | apply Kd.R_drewN | apply Kd.R_drew)); exact HO381.out))) (Kd.R_lt (by (with_reducible repeat (first | apply Kd.R_alloc | apply Kd.R_drewN | apply Kd.R_drew)); exact HO384.out))) (Kd.R_lt (by (with_reducible repeat (first | apply Kd.R_alloc | apply Kd.R_drewN | apply Kd.R_drew)); exact HO390.out))) (Kd.R_lt (by (with_reducible repeat (first | apply Kd.R_alloc | apply Kd.R_drewN | apply Kd.R_drew)); exact HO393.out))) (Kd.R_lt (by (with_reducible repeat (first | apply Kd.R_alloc | apply Kd.R_drewN | apply Kd.R_drew)); exact HO399.out))) (Kd.R_lt (by (with_reducible repeat (first | apply Kd.R_alloc | apply Kd.R_drewN | apply Kd.R_drew)); exact HO402.out))) (g := gb394) (o := .cells #[.int .i64 t386, .int .i64 t387, .slice Ao39 t388.length co39, .slice Ao40 t391.length co40] 30 (0, 0)) bkw) (g := gb403) (o := .cells #[.int .i64 t395, .int .i64 t396, .slice Ao48 t397.length co48, .slice Ao49 t400.length co49] 30 (0, 0)) bkw) (below_size blw))
 have n10_ := am (blk_below (g := gb365) bkw hb)
 have n11_ := am (blk_below (g := gb366) bkw hb)
 have n12_ := am (blk_below (g := gb394) bkw hb)
 have n13_ := am (blk_below (g := gb403) bkw hb)
 have n14_ := am (below_step blw hb)
 clear HO373
 clear HO376
 clear HO381
 clear HO384
 clear HO390
 clear HO393
 clear HO399
 clear HO402
 clear BK365
 clear BK366
 clear BK394
 clear BK403
 clear HB
 revert n0_ n1_ n2_ n3_ n4_ n5_ n6_ n7_ n8_ n9_ n10_ n11_ n12_ n13_ n14_
 intro HO373 HO376 HO381 HO384 HO390 HO393 HO399 HO402 HO409 HO412 BK365 BK366 BK394 BK403 HB
 (try clear hb)
 (try clear hb2)
 (try clear hk)
 (try clear hi)
 (try clear ho0)
 (try clear ho1)
 obtain ⟨Ao58, co58, eo58⟩ := Kd.R_slice HO409.out
 (first | subst eo58 | (injection eo58 with f1_ f2_ f3_; have f4_ := f1_.symm; have f5_ := f3_.symm; clear f1_ f2_ f3_; subst f4_; subst f5_))
 obtain ⟨Ao59, co59, eo59⟩ := Kd.R_slice HO412.out
 (first | subst eo59 | (injection eo59 with f1_ f2_ f3_; have f4_ := f1_.symm; have f5_ := f3_.symm; clear f1_ f2_ f3_; subst f4_; subst f5_))
 refine hK.out _ _ ⟨(blk_cell BK394.out 0).trans rfl, (blk_cell BK394.out 1).trans rfl, (blk_cell BK394.out 2).trans rfl, (blk_cell BK394.out 3).trans rfl, (blk_cell BK365.out 0).trans rfl, (blk_cell BK365.out 1).trans rfl, (blk_cell BK365.out 2).trans rfl, (blk_cell BK365.out 3).trans rfl⟩ (fun hHeld => ?_)
 clear hK K
 refine norm_ (a' := ?_) ?_ ?_
 rotate_left
 ·show Act.put _ (some 37) _ = _
  simp only [sx]
  rfl
 refine one_ (i := 3) (N := some 38) (bm 5 15) rfl rfl kr (by decide) (fun K hK => ?_)
 refine goes_ Try.func10 kr rfl #[.agg #[.int .i64 t386, .int .i64 t387, .slice Ao39 t388.length co39, .slice Ao40 t391.length co40], .agg #[.int .i64 t405, .int .i64 t406, .slice Ao58 t407.length co58, .slice Ao59 t410.length co59]] (by rfl) rfl rfl mpw ?_
 with_reducible refine (laws_eqValue.calls k t386 t387 _ _ t388 _ _ t391 t405 t406 _ _ t407 _ _ t410 t413 _ ?side1 ?side2 ?side3 ?side4 ?side5 ?side6 ?side7 ?side8 A54.out).mono ?_
 (case side1 => repeat (first | exact (Kd.R_reads' HO390.out).2.2 | (with_reducible refine Kd.C_alloc ?_ _) | (with_reducible refine Kd.C_drewN ?_ _) | (with_reducible refine Kd.C_drew ?_)))
 (case side2 => exact (Kd.R_reads' HO390.out).2.1)
 (case side3 => repeat (first | exact (Kd.R_reads' HO393.out).2.2 | (with_reducible refine Kd.C_alloc ?_ _) | (with_reducible refine Kd.C_drewN ?_ _) | (with_reducible refine Kd.C_drew ?_)))
 (case side4 => exact (Kd.R_reads' HO393.out).2.1)
 (case side5 => repeat (first | exact (Kd.R_reads' HO409.out).2.2 | (with_reducible refine Kd.C_alloc ?_ _) | (with_reducible refine Kd.C_drewN ?_ _) | (with_reducible refine Kd.C_drew ?_)))
 (case side6 => exact (Kd.R_reads' HO409.out).2.1)
 (case side7 => repeat (first | exact (Kd.R_reads' HO412.out).2.2 | (with_reducible refine Kd.C_alloc ?_ _) | (with_reducible refine Kd.C_drewN ?_ _) | (with_reducible refine Kd.C_drew ?_)))
 (case side8 => exact (Kd.R_reads' HO412.out).2.1)
 rintro e w60 ⟨rfl, hb⟩
 refine ⟨_, rfl, ?_⟩
 have n0_ := am (Kd.R_below (by (with_reducible repeat (first | apply Kd.R_alloc | apply Kd.R_drewN | apply Kd.R_drew)); exact HO373.out) hb)
 have n1_ := am (Kd.R_below (by (with_reducible repeat (first | apply Kd.R_alloc | apply Kd.R_drewN | apply Kd.R_drew)); exact HO376.out) hb)
 have n2_ := am (Kd.R_below (by (with_reducible repeat (first | apply Kd.R_alloc | apply Kd.R_drewN | apply Kd.R_drew)); exact HO381.out) hb)
 have n3_ := am (Kd.R_below (by (with_reducible repeat (first | apply Kd.R_alloc | apply Kd.R_drewN | apply Kd.R_drew)); exact HO384.out) hb)
 have n4_ := am (Kd.R_below (by (with_reducible repeat (first | apply Kd.R_alloc | apply Kd.R_drewN | apply Kd.R_drew)); exact HO390.out) hb)
 have n5_ := am (Kd.R_below (by (with_reducible repeat (first | apply Kd.R_alloc | apply Kd.R_drewN | apply Kd.R_drew)); exact HO393.out) hb)
 have n6_ := am (Kd.R_below (by (with_reducible repeat (first | apply Kd.R_alloc | apply Kd.R_drewN | apply Kd.R_drew)); exact HO399.out) hb)
 have n7_ := am (Kd.R_below (by (with_reducible repeat (first | apply Kd.R_alloc | apply Kd.R_drewN | apply Kd.R_drew)); exact HO402.out) hb)
 have n8_ := am (Kd.R_below (by (with_reducible repeat (first | apply Kd.R_alloc | apply Kd.R_drewN | apply Kd.R_drew)); exact HO409.out) hb)
 have n9_ := am (Kd.R_below (by (with_reducible repeat (first | apply Kd.R_alloc | apply Kd.R_drewN | apply Kd.R_drew)); exact HO412.out) hb)
 have n10_ := am (blk_below (g := gb365) bkw hb)
 have n11_ := am (blk_below (g := gb366) bkw hb)
 have n12_ := am (blk_below (g := gb394) bkw hb)
 have n13_ := am (blk_below (g := gb403) bkw hb)
 have n14_ := am (below_step blw hb)
 clear HO373
 clear HO376
 clear HO381
 clear HO384
 clear HO390
 clear HO393
 clear HO399
 clear HO402
 clear HO409
 clear HO412
 clear BK365
 clear BK366
 clear BK394
 clear BK403
 clear HB
 revert n0_ n1_ n2_ n3_ n4_ n5_ n6_ n7_ n8_ n9_ n10_ n11_ n12_ n13_ n14_
 intro HO373 HO376 HO381 HO384 HO390 HO393 HO399 HO402 HO409 HO412 BK365 BK366 BK394 BK403 HB
 (try clear hb)
 (try clear hb2)
 (try clear hk)
 (try clear hi)
 refine hK.out _ _ ⟨(blk_cell BK394.out 0).trans rfl, (blk_cell BK394.out 1).trans rfl, (blk_cell BK394.out 2).trans rfl, (blk_cell BK394.out 3).trans rfl, (blk_cell BK365.out 0).trans rfl, (blk_cell BK365.out 1).trans rfl, (blk_cell BK365.out 2).trans rfl, (blk_cell BK365.out 3).trans rfl⟩ (fun hHeld => ?_)
 clear hK K
 refine norm_ (a' := ?_) ?_ ?_
 rotate_left
 ·show Act.put _ (some 38) _ = _
  simp only [sx]
  rfl
 refine pure_ (i := 4) (N := some 39) (v := ?_) (a' := ?_) (bm 5 31) rfl rfl kr qi (Or.inl ⟨by rfl, ?_⟩) ?_ ?_
 rotate_left
 ·intro w'
  go_simp
  with_reducible rfl
 rotate_left
 ·simp only [sx]
  rfl
 refine done_ kr ?_
 go_upto_if 39 with (fail)
 have H := HC55.out
 clear HC55
 by_cases c61 : t413 = true
 case neg =>
  replace c61 := Bool.eq_false_iff.mpr c61
  subst c61
  have H1 : (some false) = some r := by rw [if_neg (show ¬ (false = true) by decide)] at H; exact H
  clear H
  have H := H1
  clear H1
  obtain rfl := Option.some.inj H
  go_wp2
  go_ret
  exact ⟨rfw, blw⟩
 subst c61
 have H1 : ((laws_toValue.f k a1_0 a1_1 l1_2 l1_3).bind fun bt414 => ((laws_eqValue.f k t395 t396 t397 t400 bt414.1 bt414.2.1 bt414.2.2.1 bt414.2.2.2).bind fun t422 => (if t422 = true then (some true) else (some false)))) = some r := by rw [if_pos rfl] at H; exact H
 clear H
 have H := H1
 clear H1
 replace H := Option.bind_eq_some_iff.mp H
 obtain ⟨⟨t414, t415, t416, t419⟩, A620, H⟩ := H
 replace H : ((laws_eqValue.f k t395 t396 t397 t400 t414 t415 t416 t419).bind fun t422 => (if t422 = true then (some true) else (some false))) = some r := H
 have A62 := am A620
 clear A620
 replace H := Option.bind_eq_some_iff.mp H
 obtain ⟨t422, A630, H⟩ := H
 replace H : (if t422 = true then (some true) else (some false)) = some r := H
 have A63 := am A630
 clear A630
 have HC64 := am H
 clear H
 try go_wp2
 have n0_ := am (Kd.R_drew HO373.out)
 have n1_ := am (Kd.R_drew HO376.out)
 have n2_ := am (Kd.R_drew HO381.out)
 have n3_ := am (Kd.R_drew HO384.out)
 have n4_ := am (Kd.R_drew HO390.out)
 have n5_ := am (Kd.R_drew HO393.out)
 have n6_ := am (Kd.R_drew HO399.out)
 have n7_ := am (Kd.R_drew HO402.out)
 have n8_ := am (Kd.R_drew HO409.out)
 have n9_ := am (Kd.R_drew HO412.out)
 have n10_ := am (blk_drew BK365.out)
 have n11_ := am (blk_drew BK366.out)
 have n12_ := am (blk_drew BK394.out)
 have n13_ := am (blk_drew BK403.out)
 have n14_ := am (below_drew1 HB.out)
 clear HO373
 clear HO376
 clear HO381
 clear HO384
 clear HO390
 clear HO393
 clear HO399
 clear HO402
 clear HO409
 clear HO412
 clear BK365
 clear BK366
 clear BK394
 clear BK403
 clear HB
 revert n0_ n1_ n2_ n3_ n4_ n5_ n6_ n7_ n8_ n9_ n10_ n11_ n12_ n13_ n14_
 intro HO373 HO376 HO381 HO384 HO390 HO393 HO399 HO402 HO409 HO412 BK365 BK366 BK394 BK403 HB
 refine start_ (n := 5) (S := fun w' => w'.cell? ⟨gb403, 0, none⟩ = some (.int .i64 t395) ∧ w'.cell? ⟨gb403, 1, none⟩ = some (.int .i64 t396) ∧ w'.cell? ⟨gb403, 2, none⟩ = some (.slice Ao48 t397.length co48) ∧ w'.cell? ⟨gb403, 3, none⟩ = some (.slice Ao49 t400.length co49) ∧ w'.cell? ⟨gb366, 0, none⟩ = some (.int .i64 a1_0) ∧ w'.cell? ⟨gb366, 1, none⟩ = some (.int .i64 a1_1) ∧ w'.cell? ⟨gb366, 2, none⟩ = some (.slice A1_2 l1_2.length c1_2) ∧ w'.cell? ⟨gb366, 3, none⟩ = some (.slice A1_3 l1_3.length c1_3)) (ds := []) #[false,false,false,false,false] kr rfl rfl ⟨(blk_cell BK403.out 0).trans rfl, (blk_cell BK403.out 1).trans rfl, (blk_cell BK403.out 2).trans rfl, (blk_cell BK403.out 3).trans rfl, (blk_cell BK366.out 0).trans rfl, (blk_cell BK366.out 1).trans rfl, (blk_cell BK366.out 2).trans rfl, (blk_cell BK366.out 3).trans rfl⟩ (fun hHeld => ?_)
 generalize w60.drew = w65 at HO373 HO376 HO381 HO384 HO390 HO393 HO399 HO402 HO409 HO412 BK365 BK366 BK394 BK403 HB hHeld ⊢
 refine take_ (i := 0) (N := some 40) (v := ?_) (a' := ?_) (bm 5 1) rfl rfl kr qi (Or.inl ⟨by rfl, ?_⟩) hHeld ?_ ?_
 rotate_left
 ·rintro w' ⟨s0, s1, s2, s3, s4, s5, s6, s7⟩
  go_simp
  with_reducible rfl
 rotate_left
 ·simp only [sx]
  rfl
 refine take_ (i := 1) (N := some 41) (v := ?_) (a' := ?_) (bm 5 3) rfl rfl kr qi (Or.inl ⟨by rfl, ?_⟩) hHeld ?_ ?_
 rotate_left
 ·rintro w' ⟨s0, s1, s2, s3, s4, s5, s6, s7⟩
  go_simp
  with_reducible rfl
 rotate_left
 ·simp only [sx]
  rfl
 refine one_ (i := 2) (N := some 42) (bm 5 7) rfl rfl kr (by decide) (fun K hK => ?_)
 refine goes_ Try.func8 kr rfl #[.agg #[.int .i64 a1_0, .int .i64 a1_1, .slice A1_2 l1_2.length c1_2, .slice A1_3 l1_3.length c1_3]] (by rfl) rfl rfl mpw ?_
 with_reducible refine (laws_toValue.calls k a1_0 a1_1 _ _ l1_2 _ _ l1_3 t414 t415 t416 t419 _ ?side1 ?side2 ?side3 ?side4 A62.out).mono ?_
 (case side1 => have X_ := HR1_2; exact cbl)
 (case side2 => exact HC1_2.out)
 (case side3 => have X_ := HR1_3; exact cbl)
 (case side4 => exact HC1_3.out)
 rintro e w66 ⟨v417, v420, rfl, ho0, ho1, hb⟩
 refine ⟨_, rfl, ?_⟩
 have n0_ := am (Kd.R_elder' (by (with_reducible repeat (first | apply Kd.R_alloc | apply Kd.R_drewN | apply Kd.R_drew)); exact HO373.out) (Kd.R_base ho0) hb)
 have n1_ := am (Kd.R_mono (Kd.R_told (Kd.R_told (Kd.R_old (by (with_reducible repeat (first | apply Kd.R_alloc | apply Kd.R_drewN | apply Kd.R_drew)); exact HO376.out) hb) (Kd.R_base ho0)) (Kd.R_base ho1)) (fun _ h_ => h_.1))
 have n2_ := am (Kd.R_elder' (by (with_reducible repeat (first | apply Kd.R_alloc | apply Kd.R_drewN | apply Kd.R_drew)); exact HO381.out) (Kd.R_base ho0) hb)
 have n3_ := am (Kd.R_mono (Kd.R_told (Kd.R_told (Kd.R_old (by (with_reducible repeat (first | apply Kd.R_alloc | apply Kd.R_drewN | apply Kd.R_drew)); exact HO384.out) hb) (Kd.R_base ho0)) (Kd.R_base ho1)) (fun _ h_ => h_.1))
 have n4_ := am (Kd.R_elder' (by (with_reducible repeat (first | apply Kd.R_alloc | apply Kd.R_drewN | apply Kd.R_drew)); exact HO390.out) (Kd.R_base ho0) hb)
 have n5_ := am (Kd.R_mono (Kd.R_told (Kd.R_told (Kd.R_old (by (with_reducible repeat (first | apply Kd.R_alloc | apply Kd.R_drewN | apply Kd.R_drew)); exact HO393.out) hb) (Kd.R_base ho0)) (Kd.R_base ho1)) (fun _ h_ => h_.1))
 have n6_ := am (Kd.R_elder' (by (with_reducible repeat (first | apply Kd.R_alloc | apply Kd.R_drewN | apply Kd.R_drew)); exact HO399.out) (Kd.R_base ho0) hb)
 have n7_ := am (Kd.R_mono (Kd.R_told (Kd.R_told (Kd.R_old (by (with_reducible repeat (first | apply Kd.R_alloc | apply Kd.R_drewN | apply Kd.R_drew)); exact HO402.out) hb) (Kd.R_base ho0)) (Kd.R_base ho1)) (fun _ h_ => h_.1))
 have n8_ := am (Kd.R_elder' (by (with_reducible repeat (first | apply Kd.R_alloc | apply Kd.R_drewN | apply Kd.R_drew)); exact HO409.out) (Kd.R_base ho0) hb)
 have n9_ := am (Kd.R_mono (Kd.R_told (Kd.R_told (Kd.R_old (by (with_reducible repeat (first | apply Kd.R_alloc | apply Kd.R_drewN | apply Kd.R_drew)); exact HO412.out) hb) (Kd.R_base ho0)) (Kd.R_base ho1)) (fun _ h_ => h_.1))
 have n10_ := am (Kd.R_lower (Kd.R_new' (Kd.R_new' (Kd.R_new' (Kd.R_new' (Kd.R_new' ho0 (Kd.R_lt (by (with_reducible repeat (first | apply Kd.R_alloc | apply Kd.R_drewN | apply Kd.R_drew)); exact HO373.out))) (Kd.R_lt (by (with_reducible repeat (first | apply Kd.R_alloc | apply Kd.R_drewN | apply Kd.R_drew)); exact HO381.out))) (Kd.R_lt (by (with_reducible repeat (first | apply Kd.R_alloc | apply Kd.R_drewN | apply Kd.R_drew)); exact HO390.out))) (Kd.R_lt (by (with_reducible repeat (first | apply Kd.R_alloc | apply Kd.R_drewN | apply Kd.R_drew)); exact HO399.out))) (Kd.R_lt (by (with_reducible repeat (first | apply Kd.R_alloc | apply Kd.R_drewN | apply Kd.R_drew)); exact HO409.out))) (below_size blw))
 have n11_ := am (Kd.R_lower (Kd.R_newB (Kd.R_newB (Kd.R_new' (Kd.R_new' (Kd.R_new' (Kd.R_new' (Kd.R_new' (Kd.R_new' (Kd.R_new' (Kd.R_new' (Kd.R_new' (Kd.R_new' ho1 (Kd.R_lt (by (with_reducible repeat (first | apply Kd.R_alloc | apply Kd.R_drewN | apply Kd.R_drew)); exact HO373.out))) (Kd.R_lt (by (with_reducible repeat (first | apply Kd.R_alloc | apply Kd.R_drewN | apply Kd.R_drew)); exact HO376.out))) (Kd.R_lt (by (with_reducible repeat (first | apply Kd.R_alloc | apply Kd.R_drewN | apply Kd.R_drew)); exact HO381.out))) (Kd.R_lt (by (with_reducible repeat (first | apply Kd.R_alloc | apply Kd.R_drewN | apply Kd.R_drew)); exact HO384.out))) (Kd.R_lt (by (with_reducible repeat (first | apply Kd.R_alloc | apply Kd.R_drewN | apply Kd.R_drew)); exact HO390.out))) (Kd.R_lt (by (with_reducible repeat (first | apply Kd.R_alloc | apply Kd.R_drewN | apply Kd.R_drew)); exact HO393.out))) (Kd.R_lt (by (with_reducible repeat (first | apply Kd.R_alloc | apply Kd.R_drewN | apply Kd.R_drew)); exact HO399.out))) (Kd.R_lt (by (with_reducible repeat (first | apply Kd.R_alloc | apply Kd.R_drewN | apply Kd.R_drew)); exact HO402.out))) (Kd.R_lt (by (with_reducible repeat (first | apply Kd.R_alloc | apply Kd.R_drewN | apply Kd.R_drew)); exact HO409.out))) (Kd.R_lt (by (with_reducible repeat (first | apply Kd.R_alloc | apply Kd.R_drewN | apply Kd.R_drew)); exact HO412.out))) (g := gb394) (o := .cells #[.int .i64 t386, .int .i64 t387, .slice Ao39 t388.length co39, .slice Ao40 t391.length co40] 30 (0, 0)) bkw) (g := gb403) (o := .cells #[.int .i64 t395, .int .i64 t396, .slice Ao48 t397.length co48, .slice Ao49 t400.length co49] 30 (0, 0)) bkw) (below_size blw))
 have n12_ := am (blk_below (g := gb365) bkw hb)
 have n13_ := am (blk_below (g := gb366) bkw hb)
 have n14_ := am (blk_below (g := gb394) bkw hb)
 have n15_ := am (blk_below (g := gb403) bkw hb)
 have n16_ := am (below_step blw hb)
 clear HO373
 clear HO376
 clear HO381
 clear HO384
 clear HO390
 clear HO393
 clear HO399
 clear HO402
 clear HO409
 clear HO412
 clear BK365
 clear BK366
 clear BK394
 clear BK403
 clear HB
 revert n0_ n1_ n2_ n3_ n4_ n5_ n6_ n7_ n8_ n9_ n10_ n11_ n12_ n13_ n14_ n15_ n16_
 intro HO373 HO376 HO381 HO384 HO390 HO393 HO399 HO402 HO409 HO412 HO418 HO421 BK365 BK366 BK394 BK403 HB
 (try clear hb)
 (try clear hb2)
 (try clear hk)
 (try clear hi)
 (try clear ho0)
 (try clear ho1)
 obtain ⟨Ao67, co67, eo67⟩ := Kd.R_slice HO418.out
 (first | subst eo67 | (injection eo67 with f1_ f2_ f3_; have f4_ := f1_.symm; have f5_ := f3_.symm; clear f1_ f2_ f3_; subst f4_; subst f5_))
 obtain ⟨Ao68, co68, eo68⟩ := Kd.R_slice HO421.out
 (first | subst eo68 | (injection eo68 with f1_ f2_ f3_; have f4_ := f1_.symm; have f5_ := f3_.symm; clear f1_ f2_ f3_; subst f4_; subst f5_))
 refine hK.out _ _ ⟨(blk_cell BK403.out 0).trans rfl, (blk_cell BK403.out 1).trans rfl, (blk_cell BK403.out 2).trans rfl, (blk_cell BK403.out 3).trans rfl, (blk_cell BK366.out 0).trans rfl, (blk_cell BK366.out 1).trans rfl, (blk_cell BK366.out 2).trans rfl, (blk_cell BK366.out 3).trans rfl⟩ (fun hHeld => ?_)
 clear hK K
 refine norm_ (a' := ?_) ?_ ?_
 rotate_left
 ·show Act.put _ (some 42) _ = _
  simp only [sx]
  rfl
 refine one_ (i := 3) (N := some 43) (bm 5 15) rfl rfl kr (by decide) (fun K hK => ?_)
 refine goes_ Try.func10 kr rfl #[.agg #[.int .i64 t395, .int .i64 t396, .slice Ao48 t397.length co48, .slice Ao49 t400.length co49], .agg #[.int .i64 t414, .int .i64 t415, .slice Ao67 t416.length co67, .slice Ao68 t419.length co68]] (by rfl) rfl rfl mpw ?_
 with_reducible refine (laws_eqValue.calls k t395 t396 _ _ t397 _ _ t400 t414 t415 _ _ t416 _ _ t419 t422 _ ?side1 ?side2 ?side3 ?side4 ?side5 ?side6 ?side7 ?side8 A63.out).mono ?_
 (case side1 => repeat (first | exact (Kd.R_reads' HO399.out).2.2 | (with_reducible refine Kd.C_alloc ?_ _) | (with_reducible refine Kd.C_drewN ?_ _) | (with_reducible refine Kd.C_drew ?_)))
 (case side2 => exact (Kd.R_reads' HO399.out).2.1)
 (case side3 => repeat (first | exact (Kd.R_reads' HO402.out).2.2 | (with_reducible refine Kd.C_alloc ?_ _) | (with_reducible refine Kd.C_drewN ?_ _) | (with_reducible refine Kd.C_drew ?_)))
 (case side4 => exact (Kd.R_reads' HO402.out).2.1)
 (case side5 => repeat (first | exact (Kd.R_reads' HO418.out).2.2 | (with_reducible refine Kd.C_alloc ?_ _) | (with_reducible refine Kd.C_drewN ?_ _) | (with_reducible refine Kd.C_drew ?_)))
 (case side6 => exact (Kd.R_reads' HO418.out).2.1)
 (case side7 => repeat (first | exact (Kd.R_reads' HO421.out).2.2 | (with_reducible refine Kd.C_alloc ?_ _) | (with_reducible refine Kd.C_drewN ?_ _) | (with_reducible refine Kd.C_drew ?_)))
 (case side8 => exact (Kd.R_reads' HO421.out).2.1)
 rintro e w69 ⟨rfl, hb⟩
 refine ⟨_, rfl, ?_⟩
 have n0_ := am (Kd.R_below (by (with_reducible repeat (first | apply Kd.R_alloc | apply Kd.R_drewN | apply Kd.R_drew)); exact HO373.out) hb)
 have n1_ := am (Kd.R_below (by (with_reducible repeat (first | apply Kd.R_alloc | apply Kd.R_drewN | apply Kd.R_drew)); exact HO376.out) hb)
 have n2_ := am (Kd.R_below (by (with_reducible repeat (first | apply Kd.R_alloc | apply Kd.R_drewN | apply Kd.R_drew)); exact HO381.out) hb)
 have n3_ := am (Kd.R_below (by (with_reducible repeat (first | apply Kd.R_alloc | apply Kd.R_drewN | apply Kd.R_drew)); exact HO384.out) hb)
 have n4_ := am (Kd.R_below (by (with_reducible repeat (first | apply Kd.R_alloc | apply Kd.R_drewN | apply Kd.R_drew)); exact HO390.out) hb)
 have n5_ := am (Kd.R_below (by (with_reducible repeat (first | apply Kd.R_alloc | apply Kd.R_drewN | apply Kd.R_drew)); exact HO393.out) hb)
 have n6_ := am (Kd.R_below (by (with_reducible repeat (first | apply Kd.R_alloc | apply Kd.R_drewN | apply Kd.R_drew)); exact HO399.out) hb)
 have n7_ := am (Kd.R_below (by (with_reducible repeat (first | apply Kd.R_alloc | apply Kd.R_drewN | apply Kd.R_drew)); exact HO402.out) hb)
 have n8_ := am (Kd.R_below (by (with_reducible repeat (first | apply Kd.R_alloc | apply Kd.R_drewN | apply Kd.R_drew)); exact HO409.out) hb)
 have n9_ := am (Kd.R_below (by (with_reducible repeat (first | apply Kd.R_alloc | apply Kd.R_drewN | apply Kd.R_drew)); exact HO412.out) hb)
 have n10_ := am (Kd.R_below (by (with_reducible repeat (first | apply Kd.R_alloc | apply Kd.R_drewN | apply Kd.R_drew)); exact HO418.out) hb)
 have n11_ := am (Kd.R_below (by (with_reducible repeat (first | apply Kd.R_alloc | apply Kd.R_drewN | apply Kd.R_drew)); exact HO421.out) hb)
 have n12_ := am (blk_below (g := gb365) bkw hb)
 have n13_ := am (blk_below (g := gb366) bkw hb)
 have n14_ := am (blk_below (g := gb394) bkw hb)
 have n15_ := am (blk_below (g := gb403) bkw hb)
 have n16_ := am (below_step blw hb)
 clear HO373
 clear HO376
 clear HO381
 clear HO384
 clear HO390
 clear HO393
 clear HO399
 clear HO402
 clear HO409
 clear HO412
 clear HO418
 clear HO421
 clear BK365
 clear BK366
 clear BK394
 clear BK403
 clear HB
 revert n0_ n1_ n2_ n3_ n4_ n5_ n6_ n7_ n8_ n9_ n10_ n11_ n12_ n13_ n14_ n15_ n16_
 intro HO373 HO376 HO381 HO384 HO390 HO393 HO399 HO402 HO409 HO412 HO418 HO421 BK365 BK366 BK394 BK403 HB
 (try clear hb)
 (try clear hb2)
 (try clear hk)
 (try clear hi)
 refine hK.out _ _ ⟨(blk_cell BK403.out 0).trans rfl, (blk_cell BK403.out 1).trans rfl, (blk_cell BK403.out 2).trans rfl, (blk_cell BK403.out 3).trans rfl, (blk_cell BK366.out 0).trans rfl, (blk_cell BK366.out 1).trans rfl, (blk_cell BK366.out 2).trans rfl, (blk_cell BK366.out 3).trans rfl⟩ (fun hHeld => ?_)
 clear hK K
 refine norm_ (a' := ?_) ?_ ?_
 rotate_left
 ·show Act.put _ (some 43) _ = _
  simp only [sx]
  rfl
 refine pure_ (i := 4) (N := some 44) (v := ?_) (a' := ?_) (bm 5 31) rfl rfl kr qi (Or.inl ⟨by rfl, ?_⟩) ?_ ?_
 rotate_left
 ·intro w'
  go_simp
  with_reducible rfl
 rotate_left
 ·simp only [sx]
  rfl
 refine done_ kr ?_
 go_upto_if 44 with (fail)
 have H := HC64.out
 clear HC64
 by_cases c70 : t422 = true
 ·subst c70
  have H1 : (some true) = some r := by rw [if_pos rfl] at H; exact H
  clear H
  have H := H1
  clear H1
  obtain rfl := Option.some.inj H
  go_wp2
  go_ret
  exact ⟨rfw, blw⟩
 replace c70 := Bool.eq_false_iff.mpr c70
 subst c70
 have H1 : (some false) = some r := by rw [if_neg (show ¬ (false = true) by decide)] at H; exact H
 clear H
 have H := H1
 clear H1
 obtain rfl := Option.some.inj H
 go_wp2
 go_ret
 exact ⟨rfw, blw⟩

/-- THE ONE PURE STATEMENT of laws_FnExactCountIn. -/
def laws_FnExactCountIn.Pure : Prop := ∀ (a0_0 : Int) (a0_1 : Int) (l0_2 : List ByteArray) (l0_3 : List (S25)) (a1_0 : Int) (a1_1 : Int) (l1_2 : List ByteArray) (l1_3 : List (S25)), W25 (⟨a0_0, a0_1, l0_2, l0_3⟩ : S25) → W25 (⟨a1_0, a1_1, l1_2, l1_3⟩ : S25) → ∃ k, laws_FnExactCountIn.f k a0_0 a0_1 l0_2 l0_3 a1_0 a1_1 l1_2 l1_3 = some true

end Go.Proofs.Ytonimhfahjediaa.Pc
