/- Printed by a program of this session: what functions of the translation come to, each contract as it stands. No condition. -/
import Derived.Test.YtonimhfahjediaaZSameBagSh
import Derived.Test.YtonimhfahjediaaZSameBagWLastM
import Derived.Test.YtonimhfahjediaaZSameBagPc1M
import Derived.Test.YtonimhfahjediaaZSameBagPc4M
import Derived.Test.YtonimhfahjediaaZSameBagPc3M
import Derived.Test.YtonimhfahjediaaZSameBagPc6M
import Derived.Test.YtonimhfahjediaaZSameBagPc7M
section
namespace Go.Proofs.Ytonimhfahjediaa.Pc
open Go.RowKit Go.Proofs.Ytonimhfahjediaa.Ext Go.Proofs.YtonimhfahjediaaW.PrintWords Go.Proofs.YtonimhfahjediaaW.PrintLast Go.Proofs.YtonimhfahjediaaW.PrintMore
attribute [local go_sem] max2_int min2_int max_two min_two max_three min_three max_four min_four   -- for this text's walks alone
set_option linter.unusedVariables false
set_option linter.unusedSimpArgs false

/-! ### laws_FnExactSameBag: function 3 -/
noncomputable def laws_FnExactSameBag.f (k : Nat) (a0_0 : Int) (a0_1 : Int) (l0_2 : List ByteArray) (l0_3 : List (S25)) (a1_0 : Int) (a1_1 : Int) (l1_2 : List ByteArray) (l1_3 : List (S25)) : Option (Bool) := (laws_szValue.f k a0_0 a0_1 l0_2 l0_3 1048576).bind fun t299 => (if t299 < 0 then (some true) else ((laws_szValue.f k a1_0 a1_1 l1_2 l1_3 t299).bind fun t300 => (if t300 < 0 then (some true) else ((laws_toValue.f k a0_0 a0_1 l0_2 l0_3).bind fun bt301 => ((laws_toValue.f k a1_0 a1_1 l1_2 l1_3).bind fun bt309 => ((spec_SameBag.f k bt301.1 bt301.2.1 bt301.2.2.1 bt301.2.2.2 bt309.1 bt309.2.1 bt309.2.2.1 bt309.2.2.2).bind fun t317 => ((laws_toValue.f k a0_0 a0_1 l0_2 l0_3).bind fun bt318 => ((laws_toValue.f k a1_0 a1_1 l1_2 l1_3).bind fun bt327 => ((impl_SameBag.f k bt318.1 bt318.2.1 bt318.2.2.1 bt318.2.2.2 bt327.1 bt327.2.1 bt327.2.2.1 bt327.2.2.2).bind fun t336 => (if (t336 != t317) = true then (some false) else ((laws_toValue.f k a0_0 a0_1 l0_2 l0_3).bind fun bt337 => ((laws_eqValue.f k bt318.1 bt318.2.1 bt318.2.2.1 bt318.2.2.2 bt337.1 bt337.2.1 bt337.2.2.1 bt337.2.2.2).bind fun t345 => (if t345 = true then ((laws_toValue.f k a1_0 a1_1 l1_2 l1_3).bind fun bt346 => ((laws_eqValue.f k bt327.1 bt327.2.1 bt327.2.2.1 bt327.2.2.2 bt346.1 bt346.2.1 bt346.2.2.1 bt346.2.2.2).bind fun t354 => (if t354 = true then (some true) else (some false)))) else (some false))))))))))))))
set_option maxHeartbeats 8000000 in
set_option maxRecDepth 100000 in
theorem laws_FnExactSameBag.calls (k : Nat) (a0_0 : Int) (a0_1 : Int) (A0_2 : Option Addr) (c0_2 : Nat) (l0_2 : List ByteArray) (A0_3 : Option Addr) (c0_3 : Nat) (l0_3 : List (S25)) (a1_0 : Int) (a1_1 : Int) (A1_2 : Option Addr) (c1_2 : Nat) (l1_2 : List ByteArray) (A1_3 : Option Addr) (c1_3 : Nat) (l1_3 : List (S25)) (r : Bool) (w : World) (hr0_2 : Kd.C Kd.string w A0_2 l0_2.length l0_2) (hc0_2 : l0_2.length ≤ c0_2) (hr0_3 : Kd.C k25 w A0_3 l0_3.length l0_3) (hc0_3 : l0_3.length ≤ c0_3) (hr1_2 : Kd.C Kd.string w A1_2 l1_2.length l1_2) (hc1_2 : l1_2.length ≤ c1_2) (hr1_3 : Kd.C k25 w A1_3 l1_3.length l1_3) (hc1_3 : l1_3.length ≤ c1_3) (h : laws_FnExactSameBag.f k a0_0 a0_1 l0_2 l0_3 a1_0 a1_1 l1_2 l1_3 = some r) :
  Calls Try.prog 3 #[.agg #[.int .i64 a0_0, .int .i64 a0_1, .slice A0_2 l0_2.length c0_2, .slice A0_3 l0_3.length c0_3], .agg #[.int .i64 a1_0, .int .i64 a1_1, .slice A1_2 l1_2.length c1_2, .slice A1_3 l1_3.length c1_3]] w fun e w' => e = .returned (.bool r) ∧ Below w.heap.size w w' := by
 have hu25 := Try.underlying25
 have hu30 := Try.underlying30
 have HR0_2 := am hr0_2
 have HC0_2 := am hc0_2
 clear hr0_2 hc0_2
 have HR0_3 := am hr0_3
 have HC0_3 := am hc0_3
 clear hr0_3 hc0_3
 have HR1_2 := am hr1_2
 have HC1_2 := am hc1_2
 clear hr1_2 hc1_2
 have HR1_3 := am hr1_3
 have HC1_3 := am hc1_3
 clear hr1_3 hc1_3
 have HB := am (Below.refl w.heap.size w)
 have H : ((laws_szValue.f k a0_0 a0_1 l0_2 l0_3 1048576).bind fun t299 => (if t299 < 0 then (some true) else ((laws_szValue.f k a1_0 a1_1 l1_2 l1_3 t299).bind fun t300 => (if t300 < 0 then (some true) else ((laws_toValue.f k a0_0 a0_1 l0_2 l0_3).bind fun bt301 => ((laws_toValue.f k a1_0 a1_1 l1_2 l1_3).bind fun bt309 => ((spec_SameBag.f k bt301.1 bt301.2.1 bt301.2.2.1 bt301.2.2.2 bt309.1 bt309.2.1 bt309.2.2.1 bt309.2.2.2).bind fun t317 => ((laws_toValue.f k a0_0 a0_1 l0_2 l0_3).bind fun bt318 => ((laws_toValue.f k a1_0 a1_1 l1_2 l1_3).bind fun bt327 => ((impl_SameBag.f k bt318.1 bt318.2.1 bt318.2.2.1 bt318.2.2.2 bt327.1 bt327.2.1 bt327.2.2.1 bt327.2.2.2).bind fun t336 => (if (t336 != t317) = true then (some false) else ((laws_toValue.f k a0_0 a0_1 l0_2 l0_3).bind fun bt337 => ((laws_eqValue.f k bt318.1 bt318.2.1 bt318.2.2.1 bt318.2.2.2 bt337.1 bt337.2.1 bt337.2.2.1 bt337.2.2.2).bind fun t345 => (if t345 = true then ((laws_toValue.f k a1_0 a1_1 l1_2 l1_3).bind fun bt346 => ((laws_eqValue.f k bt327.1 bt327.2.1 bt327.2.2.1 bt327.2.2.2 bt346.1 bt346.2.1 bt346.2.2.1 bt346.2.2.2).bind fun t354 => (if t354 = true then (some true) else (some false)))) else (some false))))))))))))))) = some r := h
 clear h
 replace H := Option.bind_eq_some_iff.mp H
 obtain ⟨t299, A30, H⟩ := H
 replace H : (if t299 < 0 then (some true) else ((laws_szValue.f k a1_0 a1_1 l1_2 l1_3 t299).bind fun t300 => (if t300 < 0 then (some true) else ((laws_toValue.f k a0_0 a0_1 l0_2 l0_3).bind fun bt301 => ((laws_toValue.f k a1_0 a1_1 l1_2 l1_3).bind fun bt309 => ((spec_SameBag.f k bt301.1 bt301.2.1 bt301.2.2.1 bt301.2.2.2 bt309.1 bt309.2.1 bt309.2.2.1 bt309.2.2.2).bind fun t317 => ((laws_toValue.f k a0_0 a0_1 l0_2 l0_3).bind fun bt318 => ((laws_toValue.f k a1_0 a1_1 l1_2 l1_3).bind fun bt327 => ((impl_SameBag.f k bt318.1 bt318.2.1 bt318.2.2.1 bt318.2.2.2 bt327.1 bt327.2.1 bt327.2.2.1 bt327.2.2.2).bind fun t336 => (if (t336 != t317) = true then (some false) else ((laws_toValue.f k a0_0 a0_1 l0_2 l0_3).bind fun bt337 => ((laws_eqValue.f k bt318.1 bt318.2.1 bt318.2.2.1 bt318.2.2.2 bt337.1 bt337.2.1 bt337.2.2.1 bt337.2.2.2).bind fun t345 => (if t345 = true then ((laws_toValue.f k a1_0 a1_1 l1_2 l1_3).bind fun bt346 => ((laws_eqValue.f k bt327.1 bt327.2.1 bt327.2.2.1 bt327.2.2.2 bt346.1 bt346.2.1 bt346.2.2.1 bt346.2.2.2).bind fun t354 => (if t354 = true then (some true) else (some false)))) else (some false)))))))))))))) = some r := H
 have A3 := am A30
 clear A30
 have HC4 := am H
 clear H
 go_enter Try.func3, Try.ntmps3
 go_upto_if 14 with (first | ((with_reducible refine gate_dst (N := 2) rfl ?_); refine box_event ?hg (N := 2) ?hd (cs := #[.int .i64 a0_0, .int .i64 a0_1, .slice A0_2 l0_2.length c0_2, .slice A0_3 l0_3.length c0_3]) (t := 25) ?hr ?_; (case hd => rfl); (case hg => rfl); (case hr => exact hrw); intro gb297 hg w5 hbox hb; have n0_ := am (below_step blw hb); have n1_ := am (hbox); have n2_ := am ((by rw [hg]; exact (below_size blw) : w.heap.size ≤ gb297)); have n3_ := n2_; clear HB; revert n0_ n1_ n2_ n3_; intro HB BK297 GW297 GE297; clear hb hbox hg) | ((with_reducible refine gate_dst (N := 3) rfl ?_); refine box_event ?hg (N := 3) ?hd (cs := #[.int .i64 a1_0, .int .i64 a1_1, .slice A1_2 l1_2.length c1_2, .slice A1_3 l1_3.length c1_3]) (t := 25) ?hr ?_; (case hd => rfl); (case hg => rfl); (case hr => exact hrw); intro gb298 hg w6 hbox hb; have n0_ := am (blk_below (g := gb297) bkw hb); have n1_ := am (below_step blw hb); have n2_ := am (hbox); have n3_ := am ((by rw [hg]; exact (below_size blw) : w.heap.size ≤ gb298)); have n4_ := n3_; have n5_ := am ((by rw [hg]; exact Nat.ne_of_lt (blk_lt (g := gb297) bkw) : gb297 ≠ gb298)); have n6_ := am ((by rw [hg]; exact Nat.ne_of_gt (blk_lt (g := gb297) bkw) : gb298 ≠ gb297)); clear BK297; clear HB; revert n0_ n1_ n2_ n3_ n4_ n5_ n6_; intro BK297 HB BK298 GW298 GE298 NB297_298 NB298_297; clear hb hbox hg; have hnb7 := NB297_298.out; have hnc7 := NB298_297.out; obtain ⟨hcz8_0, hcz8_1, hcz8_2, hcz8_3⟩ := cls4 BK297.out; obtain ⟨hfz8_0, hfz8_1, hfz8_2, hfz8_3⟩ := frz4 BK297.out) | ((with_reducible refine gate_callee (f := 6) rfl ?_); refine goesL_ (some 12) rfl rfl Try.func6 kr rfl #[.agg #[.int .i64 a0_0, .int .i64 a0_1, .slice A0_2 l0_2.length c0_2, .slice A0_3 l0_3.length c0_3], .int .i64 1048576] rfl mpw ?_; (with_reducible refine (laws_szValue.calls k a0_0 a0_1 _ _ l0_2 _ _ l0_3 1048576 t299 _ ?side1 ?side2 ?side3 ?side4 A3.out).mono ?_); (case side1 => have X_ := HR0_2; exact cbl); (case side2 => exact HC0_2.out); (case side3 => have X_ := HR0_3; exact cbl); (case side4 => exact HC0_3.out); rintro e w9 ⟨rfl, hb⟩; refine ⟨_, rfl, ?_⟩; have n0_ := am (blk_below (g := gb297) bkw hb); have n1_ := am (blk_below (g := gb298) bkw hb); have n2_ := am (below_step blw hb); clear BK297; clear BK298; clear HB; revert n0_ n1_ n2_; intro BK297 BK298 HB; (try clear hb); (try clear hb2); (try clear hk); (try clear hi)))
 have H := HC4.out
 clear HC4
 by_cases c10 : t299 < 0
 ·rw [if_pos c10] at H
  have c10b0 : decide (t299 < 0) = true := decide_eq_true c10
  clear c10
  (first | rw [c10b0] | (simp only [i64_w, i32_w]; rw [c10b0]) | skip)
  obtain rfl := Option.some.inj H
  go_wp2
  go_ret
  exact ⟨rfw, blw⟩
 rw [if_neg c10] at H
 have c10b0 : decide (t299 < 0) = false := decide_eq_false c10
 clear c10
 (first | rw [c10b0] | (simp only [i64_w, i32_w]; rw [c10b0]) | skip)
 replace H := Option.bind_eq_some_iff.mp H
 obtain ⟨t300, A110, H⟩ := H
 replace H : (if t300 < 0 then (some true) else ((laws_toValue.f k a0_0 a0_1 l0_2 l0_3).bind fun bt301 => ((laws_toValue.f k a1_0 a1_1 l1_2 l1_3).bind fun bt309 => ((spec_SameBag.f k bt301.1 bt301.2.1 bt301.2.2.1 bt301.2.2.2 bt309.1 bt309.2.1 bt309.2.2.1 bt309.2.2.2).bind fun t317 => ((laws_toValue.f k a0_0 a0_1 l0_2 l0_3).bind fun bt318 => ((laws_toValue.f k a1_0 a1_1 l1_2 l1_3).bind fun bt327 => ((impl_SameBag.f k bt318.1 bt318.2.1 bt318.2.2.1 bt318.2.2.2 bt327.1 bt327.2.1 bt327.2.2.1 bt327.2.2.2).bind fun t336 => (if (t336 != t317) = true then (some false) else ((laws_toValue.f k a0_0 a0_1 l0_2 l0_3).bind fun bt337 => ((laws_eqValue.f k bt318.1 bt318.2.1 bt318.2.2.1 bt318.2.2.2 bt337.1 bt337.2.1 bt337.2.2.1 bt337.2.2.2).bind fun t345 => (if t345 = true then ((laws_toValue.f k a1_0 a1_1 l1_2 l1_3).bind fun bt346 => ((laws_eqValue.f k bt327.1 bt327.2.1 bt327.2.2.1 bt327.2.2.2 bt346.1 bt346.2.1 bt346.2.2.1 bt346.2.2.2).bind fun t354 => (if t354 = true then (some true) else (some false)))) else (some false)))))))))))) = some r := H
 have A11 := am A110
 clear A110
 have HC12 := am H
 clear H
 have hnb13 := NB298_297.out
 have hnc13 := NB297_298.out
 obtain ⟨hcz14_0, hcz14_1, hcz14_2, hcz14_3⟩ := cls4 BK298.out
 obtain ⟨hfz14_0, hfz14_1, hfz14_2, hfz14_3⟩ := frz4 BK298.out
 go_upto_if 19 with (first | ((with_reducible refine gate_callee (f := 6) rfl ?_); refine goesL_ (some 17) rfl rfl Try.func6 kr rfl #[.agg #[.int .i64 a1_0, .int .i64 a1_1, .slice A1_2 l1_2.length c1_2, .slice A1_3 l1_3.length c1_3], .int .i64 t299] rfl mpw ?_; (with_reducible refine (laws_szValue.calls k a1_0 a1_1 _ _ l1_2 _ _ l1_3 t299 t300 _ ?side1 ?side2 ?side3 ?side4 A11.out).mono ?_); (case side1 => have X_ := HR1_2; exact cbl); (case side2 => exact HC1_2.out); (case side3 => have X_ := HR1_3; exact cbl); (case side4 => exact HC1_3.out); rintro e w15 ⟨rfl, hb⟩; refine ⟨_, rfl, ?_⟩; have n0_ := am (blk_below (g := gb297) bkw hb); have n1_ := am (blk_below (g := gb298) bkw hb); have n2_ := am (below_step blw hb); clear BK297; clear BK298; clear HB; revert n0_ n1_ n2_; intro BK297 BK298 HB; (try clear hb); (try clear hb2); (try clear hk); (try clear hi)))
 have H := HC12.out
 clear HC12
 by_cases c16 : t300 < 0
 ·rw [if_pos c16] at H
  have c16b0 : decide (t300 < 0) = true := decide_eq_true c16
  clear c16
  (first | rw [c16b0] | (simp only [i64_w, i32_w]; rw [c16b0]) | skip)
  obtain rfl := Option.some.inj H
  go_wp2
  go_ret
  exact ⟨rfw, blw⟩
 rw [if_neg c16] at H
 have c16b0 : decide (t300 < 0) = false := decide_eq_false c16
 clear c16
 (first | rw [c16b0] | (simp only [i64_w, i32_w]; rw [c16b0]) | skip)
 replace H := Option.bind_eq_some_iff.mp H
 obtain ⟨⟨t301, t302, t303, t306⟩, A170, H⟩ := H
 replace H : ((laws_toValue.f k a1_0 a1_1 l1_2 l1_3).bind fun bt309 => ((spec_SameBag.f k t301 t302 t303 t306 bt309.1 bt309.2.1 bt309.2.2.1 bt309.2.2.2).bind fun t317 => ((laws_toValue.f k a0_0 a0_1 l0_2 l0_3).bind fun bt318 => ((laws_toValue.f k a1_0 a1_1 l1_2 l1_3).bind fun bt327 => ((impl_SameBag.f k bt318.1 bt318.2.1 bt318.2.2.1 bt318.2.2.2 bt327.1 bt327.2.1 bt327.2.2.1 bt327.2.2.2).bind fun t336 => (if (t336 != t317) = true then (some false) else ((laws_toValue.f k a0_0 a0_1 l0_2 l0_3).bind fun bt337 => ((laws_eqValue.f k bt318.1 bt318.2.1 bt318.2.2.1 bt318.2.2.2 bt337.1 bt337.2.1 bt337.2.2.1 bt337.2.2.2).bind fun t345 => (if t345 = true then ((laws_toValue.f k a1_0 a1_1 l1_2 l1_3).bind fun bt346 => ((laws_eqValue.f k bt327.1 bt327.2.1 bt327.2.2.1 bt327.2.2.2 bt346.1 bt346.2.1 bt346.2.2.1 bt346.2.2.2).bind fun t354 => (if t354 = true then (some true) else (some false)))) else (some false)))))))))) = some r := H
 have A17 := am A170
 clear A170
 replace H := Option.bind_eq_some_iff.mp H
 obtain ⟨⟨t309, t310, t311, t314⟩, A180, H⟩ := H
 replace H : ((spec_SameBag.f k t301 t302 t303 t306 t309 t310 t311 t314).bind fun t317 => ((laws_toValue.f k a0_0 a0_1 l0_2 l0_3).bind fun bt318 => ((laws_toValue.f k a1_0 a1_1 l1_2 l1_3).bind fun bt327 => ((impl_SameBag.f k bt318.1 bt318.2.1 bt318.2.2.1 bt318.2.2.2 bt327.1 bt327.2.1 bt327.2.2.1 bt327.2.2.2).bind fun t336 => (if (t336 != t317) = true then (some false) else ((laws_toValue.f k a0_0 a0_1 l0_2 l0_3).bind fun bt337 => ((laws_eqValue.f k bt318.1 bt318.2.1 bt318.2.2.1 bt318.2.2.2 bt337.1 bt337.2.1 bt337.2.2.1 bt337.2.2.2).bind fun t345 => (if t345 = true then ((laws_toValue.f k a1_0 a1_1 l1_2 l1_3).bind fun bt346 => ((laws_eqValue.f k bt327.1 bt327.2.1 bt327.2.2.1 bt327.2.2.2 bt346.1 bt346.2.1 bt346.2.2.1 bt346.2.2.2).bind fun t354 => (if t354 = true then (some true) else (some false)))) else (some false))))))))) = some r := H
 have A18 := am A180
 clear A180
 replace H := Option.bind_eq_some_iff.mp H
 obtain ⟨t317, A190, H⟩ := H
 replace H : ((laws_toValue.f k a0_0 a0_1 l0_2 l0_3).bind fun bt318 => ((laws_toValue.f k a1_0 a1_1 l1_2 l1_3).bind fun bt327 => ((impl_SameBag.f k bt318.1 bt318.2.1 bt318.2.2.1 bt318.2.2.2 bt327.1 bt327.2.1 bt327.2.2.1 bt327.2.2.2).bind fun t336 => (if (t336 != t317) = true then (some false) else ((laws_toValue.f k a0_0 a0_1 l0_2 l0_3).bind fun bt337 => ((laws_eqValue.f k bt318.1 bt318.2.1 bt318.2.2.1 bt318.2.2.2 bt337.1 bt337.2.1 bt337.2.2.1 bt337.2.2.2).bind fun t345 => (if t345 = true then ((laws_toValue.f k a1_0 a1_1 l1_2 l1_3).bind fun bt346 => ((laws_eqValue.f k bt327.1 bt327.2.1 bt327.2.2.1 bt327.2.2.2 bt346.1 bt346.2.1 bt346.2.2.1 bt346.2.2.2).bind fun t354 => (if t354 = true then (some true) else (some false)))) else (some false)))))))) = some r := H
 have A19 := am A190
 clear A190
 replace H := Option.bind_eq_some_iff.mp H
 obtain ⟨⟨t318, t319, t320, t323⟩, A200, H⟩ := H
 replace H : ((laws_toValue.f k a1_0 a1_1 l1_2 l1_3).bind fun bt327 => ((impl_SameBag.f k t318 t319 t320 t323 bt327.1 bt327.2.1 bt327.2.2.1 bt327.2.2.2).bind fun t336 => (if (t336 != t317) = true then (some false) else ((laws_toValue.f k a0_0 a0_1 l0_2 l0_3).bind fun bt337 => ((laws_eqValue.f k t318 t319 t320 t323 bt337.1 bt337.2.1 bt337.2.2.1 bt337.2.2.2).bind fun t345 => (if t345 = true then ((laws_toValue.f k a1_0 a1_1 l1_2 l1_3).bind fun bt346 => ((laws_eqValue.f k bt327.1 bt327.2.1 bt327.2.2.1 bt327.2.2.2 bt346.1 bt346.2.1 bt346.2.2.1 bt346.2.2.2).bind fun t354 => (if t354 = true then (some true) else (some false)))) else (some false))))))) = some r := H
 have A20 := am A200
 clear A200
 replace H := Option.bind_eq_some_iff.mp H
 obtain ⟨⟨t327, t328, t329, t332⟩, A210, H⟩ := H
 replace H : ((impl_SameBag.f k t318 t319 t320 t323 t327 t328 t329 t332).bind fun t336 => (if (t336 != t317) = true then (some false) else ((laws_toValue.f k a0_0 a0_1 l0_2 l0_3).bind fun bt337 => ((laws_eqValue.f k t318 t319 t320 t323 bt337.1 bt337.2.1 bt337.2.2.1 bt337.2.2.2).bind fun t345 => (if t345 = true then ((laws_toValue.f k a1_0 a1_1 l1_2 l1_3).bind fun bt346 => ((laws_eqValue.f k t327 t328 t329 t332 bt346.1 bt346.2.1 bt346.2.2.1 bt346.2.2.2).bind fun t354 => (if t354 = true then (some true) else (some false)))) else (some false)))))) = some r := H
 have A21 := am A210
 clear A210
 replace H := Option.bind_eq_some_iff.mp H
 obtain ⟨t336, A220, H⟩ := H
 replace H : (if (t336 != t317) = true then (some false) else ((laws_toValue.f k a0_0 a0_1 l0_2 l0_3).bind fun bt337 => ((laws_eqValue.f k t318 t319 t320 t323 bt337.1 bt337.2.1 bt337.2.2.1 bt337.2.2.2).bind fun t345 => (if t345 = true then ((laws_toValue.f k a1_0 a1_1 l1_2 l1_3).bind fun bt346 => ((laws_eqValue.f k t327 t328 t329 t332 bt346.1 bt346.2.1 bt346.2.2.1 bt346.2.2.2).bind fun t354 => (if t354 = true then (some true) else (some false)))) else (some false))))) = some r := H
 have A22 := am A220
 clear A220
 have HC23 := am H
 clear H
 try go_wp2
 have n0_ := am (blk_drew BK297.out)
 have n1_ := am (blk_drew BK298.out)
 have n2_ := am (below_drew1 HB.out)
 clear BK297
 clear BK298
 clear HB
 revert n0_ n1_ n2_
 intro BK297 BK298 HB
 refine start_ (n := 6) (S := fun w' => w'.cell? ⟨gb297, 0, none⟩ = some (.int .i64 a0_0) ∧ w'.cell? ⟨gb297, 1, none⟩ = some (.int .i64 a0_1) ∧ w'.cell? ⟨gb297, 2, none⟩ = some (.slice A0_2 l0_2.length c0_2) ∧ w'.cell? ⟨gb297, 3, none⟩ = some (.slice A0_3 l0_3.length c0_3) ∧ w'.cell? ⟨gb298, 0, none⟩ = some (.int .i64 a1_0) ∧ w'.cell? ⟨gb298, 1, none⟩ = some (.int .i64 a1_1) ∧ w'.cell? ⟨gb298, 2, none⟩ = some (.slice A1_2 l1_2.length c1_2) ∧ w'.cell? ⟨gb298, 3, none⟩ = some (.slice A1_3 l1_3.length c1_3)) (ds := []) #[false,false,false,false,false,false] kr rfl rfl ⟨(blk_cell BK297.out 0).trans rfl, (blk_cell BK297.out 1).trans rfl, (blk_cell BK297.out 2).trans rfl, (blk_cell BK297.out 3).trans rfl, (blk_cell BK298.out 0).trans rfl, (blk_cell BK298.out 1).trans rfl, (blk_cell BK298.out 2).trans rfl, (blk_cell BK298.out 3).trans rfl⟩ (fun hHeld => ?_)
 generalize w15.drew = w24 at BK297 BK298 HB hHeld ⊢
 refine take_ (i := 0) (N := some 20) (v := ?_) (a' := ?_) (bm 6 1) rfl rfl kr qi (Or.inl ⟨by rfl, ?_⟩) hHeld ?_ ?_
 rotate_left
 ·rintro w' ⟨s0, s1, s2, s3, s4, s5, s6, s7⟩
  go_simp
  with_reducible rfl
 rotate_left
 ·simp only [sx]
  rfl
 refine take_ (i := 2) (N := some 22) (v := ?_) (a' := ?_) (bm 6 5) rfl rfl kr qi (Or.inl ⟨by rfl, ?_⟩) hHeld ?_ ?_
 rotate_left
 ·rintro w' ⟨s0, s1, s2, s3, s4, s5, s6, s7⟩
  go_simp
  with_reducible rfl
 rotate_left
 ·simp only [sx]
  rfl
 refine one_ (i := 1) (N := some 21) (bm 6 7) rfl rfl kr (by decide) (fun K hK => ?_)
 refine goes_ Try.func8 kr rfl #[.agg #[.int .i64 a0_0, .int .i64 a0_1, .slice A0_2 l0_2.length c0_2, .slice A0_3 l0_3.length c0_3]] (by rfl) rfl rfl mpw ?_
 with_reducible refine (laws_toValue.calls k a0_0 a0_1 _ _ l0_2 _ _ l0_3 t301 t302 t303 t306 _ ?side1 ?side2 ?side3 ?side4 A17.out).mono ?_
 (case side1 => have X_ := HR0_2; exact cbl)
 (case side2 => exact HC0_2.out)
 (case side3 => have X_ := HR0_3; exact cbl)
 (case side4 => exact HC0_3.out)
 rintro e w25 ⟨v304, v307, rfl, ho0, ho1, hb⟩
 refine ⟨_, rfl, ?_⟩
 have n0_ := am (Kd.R_lower ho0 (below_size blw))
 have n1_ := am (Kd.R_lower ho1 (below_size blw))
 have n2_ := am (blk_below (g := gb297) bkw hb)
 have n3_ := am (blk_below (g := gb298) bkw hb)
 have n4_ := am (below_step blw hb)
 clear BK297
 clear BK298
 clear HB
 revert n0_ n1_ n2_ n3_ n4_
 intro HO305 HO308 BK297 BK298 HB
 (try clear hb)
 (try clear hb2)
 (try clear hk)
 (try clear hi)
 (try clear ho0)
 (try clear ho1)
 refine hK.out _ _ ⟨(blk_cell BK297.out 0).trans rfl, (blk_cell BK297.out 1).trans rfl, (blk_cell BK297.out 2).trans rfl, (blk_cell BK297.out 3).trans rfl, (blk_cell BK298.out 0).trans rfl, (blk_cell BK298.out 1).trans rfl, (blk_cell BK298.out 2).trans rfl, (blk_cell BK298.out 3).trans rfl⟩ (fun hHeld => ?_)
 clear hK K
 refine norm_ (a' := ?_) ?_ ?_
 rotate_left
 ·show Act.put _ (some 21) _ = _
  simp only [sx]
  rfl
 refine one_ (i := 3) (N := some 23) (bm 6 15) rfl rfl kr (by decide) (fun K hK => ?_)
 refine goes_ Try.func8 kr rfl #[.agg #[.int .i64 a1_0, .int .i64 a1_1, .slice A1_2 l1_2.length c1_2, .slice A1_3 l1_3.length c1_3]] (by rfl) rfl rfl mpw ?_
 with_reducible refine (laws_toValue.calls k a1_0 a1_1 _ _ l1_2 _ _ l1_3 t309 t310 t311 t314 _ ?side1 ?side2 ?side3 ?side4 A18.out).mono ?_
 (case side1 => have X_ := HR1_2; exact cbl)
 (case side2 => exact HC1_2.out)
 (case side3 => have X_ := HR1_3; exact cbl)
 (case side4 => exact HC1_3.out)
 rintro e w26 ⟨v312, v315, rfl, ho0, ho1, hb⟩
 refine ⟨_, rfl, ?_⟩
 have n0_ := am (Kd.R_elder' (by (with_reducible repeat (first | apply Kd.R_alloc | apply Kd.R_drewN | apply Kd.R_drew)); exact HO305.out) (Kd.R_base ho0) hb)
 have n1_ := am (Kd.R_mono (Kd.R_told (Kd.R_told (Kd.R_old (by (with_reducible repeat (first | apply Kd.R_alloc | apply Kd.R_drewN | apply Kd.R_drew)); exact HO308.out) hb) (Kd.R_base ho0)) (Kd.R_base ho1)) (fun _ h_ => h_.1))
 have n2_ := am (Kd.R_lower (Kd.R_new' ho0 (Kd.R_lt (by (with_reducible repeat (first | apply Kd.R_alloc | apply Kd.R_drewN | apply Kd.R_drew)); exact HO305.out))) (below_size blw))
 have n3_ := am (Kd.R_lower (Kd.R_new' (Kd.R_new' ho1 (Kd.R_lt (by (with_reducible repeat (first | apply Kd.R_alloc | apply Kd.R_drewN | apply Kd.R_drew)); exact HO305.out))) (Kd.R_lt (by (with_reducible repeat (first | apply Kd.R_alloc | apply Kd.R_drewN | apply Kd.R_drew)); exact HO308.out))) (below_size blw))
 have n4_ := am (blk_below (g := gb297) bkw hb)
 have n5_ := am (blk_below (g := gb298) bkw hb)
 have n6_ := am (below_step blw hb)
 clear HO305
 clear HO308
 clear BK297
 clear BK298
 clear HB
 revert n0_ n1_ n2_ n3_ n4_ n5_ n6_
 intro HO305 HO308 HO313 HO316 BK297 BK298 HB
 (try clear hb)
 (try clear hb2)
 (try clear hk)
 (try clear hi)
 (try clear ho0)
 (try clear ho1)
 obtain ⟨Ao27, co27, eo27⟩ := Kd.R_slice HO305.out
 (first | subst eo27 | (injection eo27 with f1_ f2_ f3_; have f4_ := f1_.symm; have f5_ := f3_.symm; clear f1_ f2_ f3_; subst f4_; subst f5_))
 obtain ⟨Ao28, co28, eo28⟩ := Kd.R_slice HO308.out
 (first | subst eo28 | (injection eo28 with f1_ f2_ f3_; have f4_ := f1_.symm; have f5_ := f3_.symm; clear f1_ f2_ f3_; subst f4_; subst f5_))
 obtain ⟨Ao29, co29, eo29⟩ := Kd.R_slice HO313.out
 (first | subst eo29 | (injection eo29 with f1_ f2_ f3_; have f4_ := f1_.symm; have f5_ := f3_.symm; clear f1_ f2_ f3_; subst f4_; subst f5_))
 obtain ⟨Ao30, co30, eo30⟩ := Kd.R_slice HO316.out
 (first | subst eo30 | (injection eo30 with f1_ f2_ f3_; have f4_ := f1_.symm; have f5_ := f3_.symm; clear f1_ f2_ f3_; subst f4_; subst f5_))
 refine hK.out _ _ ⟨(blk_cell BK297.out 0).trans rfl, (blk_cell BK297.out 1).trans rfl, (blk_cell BK297.out 2).trans rfl, (blk_cell BK297.out 3).trans rfl, (blk_cell BK298.out 0).trans rfl, (blk_cell BK298.out 1).trans rfl, (blk_cell BK298.out 2).trans rfl, (blk_cell BK298.out 3).trans rfl⟩ (fun hHeld => ?_)
 clear hK K
 refine norm_ (a' := ?_) ?_ ?_
 rotate_left
 ·show Act.put _ (some 23) _ = _
  simp only [sx]
  rfl
 refine one_ (i := 4) (N := some 24) (bm 6 31) rfl rfl kr (by decide) (fun K hK => ?_)
 refine goes_ Try.func7 kr rfl #[.agg #[.int .i64 t301, .int .i64 t302, .slice Ao27 t303.length co27, .slice Ao28 t306.length co28], .agg #[.int .i64 t309, .int .i64 t310, .slice Ao29 t311.length co29, .slice Ao30 t314.length co30]] (by rfl) rfl rfl mpw ?_
 with_reducible refine (spec_SameBag.calls k t301 t302 _ _ t303 _ _ t306 t309 t310 _ _ t311 _ _ t314 t317 _ ?side1 ?side2 ?side3 ?side4 ?side5 ?side6 ?side7 ?side8 A19.out).mono ?_
 (case side1 => repeat (first | exact (Kd.R_reads' HO305.out).2.2 | (with_reducible refine Kd.C_alloc ?_ _) | (with_reducible refine Kd.C_drewN ?_ _) | (with_reducible refine Kd.C_drew ?_)))
 (case side2 => exact (Kd.R_reads' HO305.out).2.1)
 (case side3 => repeat (first | exact (Kd.R_reads' HO308.out).2.2 | (with_reducible refine Kd.C_alloc ?_ _) | (with_reducible refine Kd.C_drewN ?_ _) | (with_reducible refine Kd.C_drew ?_)))
 (case side4 => exact (Kd.R_reads' HO308.out).2.1)
 (case side5 => repeat (first | exact (Kd.R_reads' HO313.out).2.2 | (with_reducible refine Kd.C_alloc ?_ _) | (with_reducible refine Kd.C_drewN ?_ _) | (with_reducible refine Kd.C_drew ?_)))
 (case side6 => exact (Kd.R_reads' HO313.out).2.1)
 (case side7 => repeat (first | exact (Kd.R_reads' HO316.out).2.2 | (with_reducible refine Kd.C_alloc ?_ _) | (with_reducible refine Kd.C_drewN ?_ _) | (with_reducible refine Kd.C_drew ?_)))
 (case side8 => exact (Kd.R_reads' HO316.out).2.1)
 rintro e w31 ⟨rfl, hb⟩
 refine ⟨_, rfl, ?_⟩
 have n0_ := am (Kd.R_below (by (with_reducible repeat (first | apply Kd.R_alloc | apply Kd.R_drewN | apply Kd.R_drew)); exact HO305.out) hb)
 have n1_ := am (Kd.R_below (by (with_reducible repeat (first | apply Kd.R_alloc | apply Kd.R_drewN | apply Kd.R_drew)); exact HO308.out) hb)
 have n2_ := am (Kd.R_below (by (with_reducible repeat (first | apply Kd.R_alloc | apply Kd.R_drewN | apply Kd.R_drew)); exact HO313.out) hb)
 have n3_ := am (Kd.R_below (by (with_reducible repeat (first | apply Kd.R_alloc | apply Kd.R_drewN | apply Kd.R_drew)); exact HO316.out) hb)
 have n4_ := am (blk_below (g := gb297) bkw hb)
 have n5_ := am (blk_below (g := gb298) bkw hb)
 have n6_ := am (below_step blw hb)
 clear HO305
 clear HO308
 clear HO313
 clear HO316
 clear BK297
 clear BK298
 clear HB
 revert n0_ n1_ n2_ n3_ n4_ n5_ n6_
 intro HO305 HO308 HO313 HO316 BK297 BK298 HB
 (try clear hb)
 (try clear hb2)
 (try clear hk)
 (try clear hi)
 refine hK.out _ _ ⟨(blk_cell BK297.out 0).trans rfl, (blk_cell BK297.out 1).trans rfl, (blk_cell BK297.out 2).trans rfl, (blk_cell BK297.out 3).trans rfl, (blk_cell BK298.out 0).trans rfl, (blk_cell BK298.out 1).trans rfl, (blk_cell BK298.out 2).trans rfl, (blk_cell BK298.out 3).trans rfl⟩ (fun hHeld => ?_)
 clear hK K
 refine norm_ (a' := ?_) ?_ ?_
 rotate_left
 ·show Act.put _ (some 24) _ = _
  simp only [sx]
  rfl
 refine pure_ (i := 5) (N := some 6) (v := ?_) (a' := ?_) (bm 6 63) rfl rfl kr qi (Or.inl ⟨by rfl, ?_⟩) ?_ ?_
 rotate_left
 ·intro w'
  go_simp
  with_reducible rfl
 rotate_left
 ·simp only [sx]
  rfl
 refine done_ kr ?_
 have hnb32 := NB297_298.out
 have hnc32 := NB298_297.out
 obtain ⟨hcz33_0, hcz33_1, hcz33_2, hcz33_3⟩ := cls4 BK297.out
 obtain ⟨hfz33_0, hfz33_1, hfz33_2, hfz33_3⟩ := frz4 BK297.out
 go_upto_if 34 with (first | ((with_reducible refine gate_callee (f := 8) rfl ?_); refine goesL_ (some 26) rfl rfl Try.func8 kr rfl #[.agg #[.int .i64 a0_0, .int .i64 a0_1, .slice A0_2 l0_2.length c0_2, .slice A0_3 l0_3.length c0_3]] rfl mpw ?_; (with_reducible refine (laws_toValue.calls k a0_0 a0_1 _ _ l0_2 _ _ l0_3 t318 t319 t320 t323 _ ?side1 ?side2 ?side3 ?side4 A20.out).mono ?_); (case side1 => have X_ := HR0_2; exact cbl); (case side2 => exact HC0_2.out); (case side3 => have X_ := HR0_3; exact cbl); (case side4 => exact HC0_3.out); rintro e w34 ⟨v321, v324, rfl, ho0, ho1, hb⟩; refine ⟨_, rfl, ?_⟩; have n0_ := am (Kd.R_elder' (by (with_reducible repeat (first | apply Kd.R_alloc | apply Kd.R_drewN | apply Kd.R_drew)); exact HO305.out) (Kd.R_base ho0) hb); have n1_ := am (Kd.R_mono (Kd.R_told (Kd.R_told (Kd.R_old (by (with_reducible repeat (first | apply Kd.R_alloc | apply Kd.R_drewN | apply Kd.R_drew)); exact HO308.out) hb) (Kd.R_base ho0)) (Kd.R_base ho1)) (fun _ h_ => h_.1)); have n2_ := am (Kd.R_elder' (by (with_reducible repeat (first | apply Kd.R_alloc | apply Kd.R_drewN | apply Kd.R_drew)); exact HO313.out) (Kd.R_base ho0) hb); have n3_ := am (Kd.R_mono (Kd.R_told (Kd.R_told (Kd.R_old (by (with_reducible repeat (first | apply Kd.R_alloc | apply Kd.R_drewN | apply Kd.R_drew)); exact HO316.out) hb) (Kd.R_base ho0)) (Kd.R_base ho1)) (fun _ h_ => h_.1)); have n4_ := am (Kd.R_lower (Kd.R_new' (Kd.R_new' ho0 (Kd.R_lt (by (with_reducible repeat (first | apply Kd.R_alloc | apply Kd.R_drewN | apply Kd.R_drew)); exact HO305.out))) (Kd.R_lt (by (with_reducible repeat (first | apply Kd.R_alloc | apply Kd.R_drewN | apply Kd.R_drew)); exact HO313.out))) (below_size blw)); have n5_ := am (Kd.R_lower (Kd.R_new' (Kd.R_new' (Kd.R_new' (Kd.R_new' ho1 (Kd.R_lt (by (with_reducible repeat (first | apply Kd.R_alloc | apply Kd.R_drewN | apply Kd.R_drew)); exact HO305.out))) (Kd.R_lt (by (with_reducible repeat (first | apply Kd.R_alloc | apply Kd.R_drewN | apply Kd.R_drew)); exact HO308.out))) (Kd.R_lt (by (with_reducible repeat (first | apply Kd.R_alloc | apply Kd.R_drewN | apply Kd.R_drew)); exact HO313.out))) (Kd.R_lt (by (with_reducible repeat (first | apply Kd.R_alloc | apply Kd.R_drewN | apply Kd.R_drew)); exact HO316.out))) (below_size blw)); have n6_ := am (blk_below (g := gb297) bkw hb); have n7_ := am (blk_below (g := gb298) bkw hb); have n8_ := am (below_step blw hb); clear HO305; clear HO308; clear HO313; clear HO316; clear BK297; clear BK298; clear HB; revert n0_ n1_ n2_ n3_ n4_ n5_ n6_ n7_ n8_; intro HO305 HO308 HO313 HO316 HO322 HO325 BK297 BK298 HB; (try clear hb); (try clear hb2); (try clear hk); (try clear hi); (try clear ho0); (try clear ho1)) | ((with_reducible refine gate_dst (N := 7) rfl ?_); refine box_event ?hg (N := 7) ?hd (cs := #[.int .i64 0, .int .i64 0, .slice none 0 0, .slice none 0 0]) (t := 30) ?hr ?_; (case hd => rfl); (case hg => rfl); (case hr => exact hrw); intro gb326 hg w35 hbox hb; have n0_ := am (Kd.R_below (by (with_reducible repeat (first | apply Kd.R_alloc | apply Kd.R_drewN | apply Kd.R_drew)); exact HO305.out) hb); have n1_ := am (Kd.R_below (Kd.R_elderB (by (with_reducible repeat (first | apply Kd.R_alloc | apply Kd.R_drewN | apply Kd.R_drew)); exact HO308.out) gb326 (Nat.le_of_eq hg.symm)) hb); have n2_ := am (Kd.R_below (by (with_reducible repeat (first | apply Kd.R_alloc | apply Kd.R_drewN | apply Kd.R_drew)); exact HO313.out) hb); have n3_ := am (Kd.R_below (Kd.R_elderB (by (with_reducible repeat (first | apply Kd.R_alloc | apply Kd.R_drewN | apply Kd.R_drew)); exact HO316.out) gb326 (Nat.le_of_eq hg.symm)) hb); have n4_ := am (Kd.R_below (by (with_reducible repeat (first | apply Kd.R_alloc | apply Kd.R_drewN | apply Kd.R_drew)); exact HO322.out) hb); have n5_ := am (Kd.R_below (Kd.R_elderB (by (with_reducible repeat (first | apply Kd.R_alloc | apply Kd.R_drewN | apply Kd.R_drew)); exact HO325.out) gb326 (Nat.le_of_eq hg.symm)) hb); have n6_ := am (blk_below (g := gb297) bkw hb); have n7_ := am (blk_below (g := gb298) bkw hb); have n8_ := am (below_step blw hb); have n9_ := am (hbox); have n10_ := am ((by rw [hg]; exact (below_size blw) : w.heap.size ≤ gb326)); have n11_ := n10_; have n12_ := am ((by rw [hg]; exact Nat.ne_of_lt (blk_lt (g := gb297) bkw) : gb297 ≠ gb326)); have n13_ := am ((by rw [hg]; exact Nat.ne_of_gt (blk_lt (g := gb297) bkw) : gb326 ≠ gb297)); have n14_ := am ((by rw [hg]; exact Nat.ne_of_lt (blk_lt (g := gb298) bkw) : gb298 ≠ gb326)); have n15_ := am ((by rw [hg]; exact Nat.ne_of_gt (blk_lt (g := gb298) bkw) : gb326 ≠ gb298)); clear HO305; clear HO308; clear HO313; clear HO316; clear HO322; clear HO325; clear BK297; clear BK298; clear HB; revert n0_ n1_ n2_ n3_ n4_ n5_ n6_ n7_ n8_ n9_ n10_ n11_ n12_ n13_ n14_ n15_; intro HO305 HO308 HO313 HO316 HO322 HO325 BK297 BK298 HB BK326 GW326 GE326 NB297_326 NB326_297 NB298_326 NB326_298; clear hb hbox hg; have hnb36 := NB326_297.out; have hnc36 := NB297_326.out; have hnb37 := NB326_298.out; have hnc37 := NB298_326.out; obtain ⟨hcz38_0, hcz38_1, hcz38_2, hcz38_3⟩ := cls4 BK326.out; obtain ⟨hfz38_0, hfz38_1, hfz38_2, hfz38_3⟩ := frz4 BK326.out; obtain ⟨Ao39, co39, eo39⟩ := Kd.R_slice HO322.out; subst eo39; obtain ⟨Ao40, co40, eo40⟩ := Kd.R_slice HO325.out; subst eo40; obtain ⟨hcz41_0, hcz41_1, hcz41_2, hcz41_3⟩ := cls4 BK298.out; obtain ⟨hfz41_0, hfz41_1, hfz41_2, hfz41_3⟩ := frz4 BK298.out) | ((with_reducible refine gate_callee (f := 8) rfl ?_); refine goesL_ (some 28) rfl rfl Try.func8 kr rfl #[.agg #[.int .i64 a1_0, .int .i64 a1_1, .slice A1_2 l1_2.length c1_2, .slice A1_3 l1_3.length c1_3]] rfl mpw ?_; (with_reducible refine (laws_toValue.calls k a1_0 a1_1 _ _ l1_2 _ _ l1_3 t327 t328 t329 t332 _ ?side1 ?side2 ?side3 ?side4 A21.out).mono ?_); (case side1 => exact Kd.C_below HR1_2.out blw); (case side2 => exact HC1_2.out); (case side3 => exact Kd.C_below HR1_3.out blw); (case side4 => exact HC1_3.out); rintro e w42 ⟨v330, v333, rfl, ho0, ho1, hb⟩; refine ⟨_, rfl, ?_⟩; have n0_ := am (Kd.R_elder' (by (with_reducible repeat (first | apply Kd.R_alloc | apply Kd.R_drewN | apply Kd.R_drew)); exact (Kd.R_mono (fr4 (g := gb326) (Kd.R_types HO305.out BK326.out (by decide)) (fun _ hk => hk.2) 0) (fun _ h_ => h_.1))) (Kd.R_base ho0) hb); have n1_ := am (Kd.R_mono (Kd.R_told (Kd.R_told (Kd.R_old (by (with_reducible repeat (first | apply Kd.R_alloc | apply Kd.R_drewN | apply Kd.R_drew)); exact (Kd.R_mono (fr4 (g := gb326) (Kd.R_mono HO308.out (fun k_ hk => (⟨hk, hk.2⟩ : _ ∧ k_ ≠ gb326))) (fun _ hk => hk.2) 0) (fun _ h_ => h_.1))) hb) (Kd.R_base ho0)) (Kd.R_base ho1)) (fun _ h_ => h_.1)); have n2_ := am (Kd.R_elder' (by (with_reducible repeat (first | apply Kd.R_alloc | apply Kd.R_drewN | apply Kd.R_drew)); exact (Kd.R_mono (fr4 (g := gb326) (Kd.R_types HO313.out BK326.out (by decide)) (fun _ hk => hk.2) 0) (fun _ h_ => h_.1))) (Kd.R_base ho0) hb); have n3_ := am (Kd.R_mono (Kd.R_told (Kd.R_told (Kd.R_old (by (with_reducible repeat (first | apply Kd.R_alloc | apply Kd.R_drewN | apply Kd.R_drew)); exact (Kd.R_mono (fr4 (g := gb326) (Kd.R_mono HO316.out (fun k_ hk => (⟨hk, hk.2⟩ : _ ∧ k_ ≠ gb326))) (fun _ hk => hk.2) 0) (fun _ h_ => h_.1))) hb) (Kd.R_base ho0)) (Kd.R_base ho1)) (fun _ h_ => h_.1)); have n4_ := am (Kd.R_elder' (by (with_reducible repeat (first | apply Kd.R_alloc | apply Kd.R_drewN | apply Kd.R_drew)); exact (Kd.R_mono (fr4 (g := gb326) (Kd.R_types HO322.out BK326.out (by decide)) (fun _ hk => hk.2) 0) (fun _ h_ => h_.1))) (Kd.R_base ho0) hb); have n5_ := am (Kd.R_mono (Kd.R_told (Kd.R_told (Kd.R_old (by (with_reducible repeat (first | apply Kd.R_alloc | apply Kd.R_drewN | apply Kd.R_drew)); exact (Kd.R_mono (fr4 (g := gb326) (Kd.R_mono HO325.out (fun k_ hk => (⟨hk, hk.2⟩ : _ ∧ k_ ≠ gb326))) (fun _ hk => hk.2) 0) (fun _ h_ => h_.1))) hb) (Kd.R_base ho0)) (Kd.R_base ho1)) (fun _ h_ => h_.1)); have n6_ := am (Kd.R_lower (Kd.R_new' (Kd.R_new' (Kd.R_new' ho0 (Kd.R_lt (by (with_reducible repeat (first | apply Kd.R_alloc | apply Kd.R_drewN | apply Kd.R_drew)); exact (Kd.R_mono (fr4 (g := gb326) (Kd.R_types HO305.out BK326.out (by decide)) (fun _ hk => hk.2) 0) (fun _ h_ => h_.1))))) (Kd.R_lt (by (with_reducible repeat (first | apply Kd.R_alloc | apply Kd.R_drewN | apply Kd.R_drew)); exact (Kd.R_mono (fr4 (g := gb326) (Kd.R_types HO313.out BK326.out (by decide)) (fun _ hk => hk.2) 0) (fun _ h_ => h_.1))))) (Kd.R_lt (by (with_reducible repeat (first | apply Kd.R_alloc | apply Kd.R_drewN | apply Kd.R_drew)); exact (Kd.R_mono (fr4 (g := gb326) (Kd.R_types HO322.out BK326.out (by decide)) (fun _ hk => hk.2) 0) (fun _ h_ => h_.1))))) (below_size blw)); have n7_ := am (Kd.R_lower (Kd.R_newB (Kd.R_new' (Kd.R_new' (Kd.R_new' (Kd.R_new' (Kd.R_new' (Kd.R_new' ho1 (Kd.R_lt (by (with_reducible repeat (first | apply Kd.R_alloc | apply Kd.R_drewN | apply Kd.R_drew)); exact (Kd.R_mono (fr4 (g := gb326) (Kd.R_types HO305.out BK326.out (by decide)) (fun _ hk => hk.2) 0) (fun _ h_ => h_.1))))) (Kd.R_lt (by (with_reducible repeat (first | apply Kd.R_alloc | apply Kd.R_drewN | apply Kd.R_drew)); exact (Kd.R_mono (fr4 (g := gb326) (Kd.R_mono HO308.out (fun k_ hk => (⟨hk, hk.2⟩ : _ ∧ k_ ≠ gb326))) (fun _ hk => hk.2) 0) (fun _ h_ => h_.1))))) (Kd.R_lt (by (with_reducible repeat (first | apply Kd.R_alloc | apply Kd.R_drewN | apply Kd.R_drew)); exact (Kd.R_mono (fr4 (g := gb326) (Kd.R_types HO313.out BK326.out (by decide)) (fun _ hk => hk.2) 0) (fun _ h_ => h_.1))))) (Kd.R_lt (by (with_reducible repeat (first | apply Kd.R_alloc | apply Kd.R_drewN | apply Kd.R_drew)); exact (Kd.R_mono (fr4 (g := gb326) (Kd.R_mono HO316.out (fun k_ hk => (⟨hk, hk.2⟩ : _ ∧ k_ ≠ gb326))) (fun _ hk => hk.2) 0) (fun _ h_ => h_.1))))) (Kd.R_lt (by (with_reducible repeat (first | apply Kd.R_alloc | apply Kd.R_drewN | apply Kd.R_drew)); exact (Kd.R_mono (fr4 (g := gb326) (Kd.R_types HO322.out BK326.out (by decide)) (fun _ hk => hk.2) 0) (fun _ h_ => h_.1))))) (Kd.R_lt (by (with_reducible repeat (first | apply Kd.R_alloc | apply Kd.R_drewN | apply Kd.R_drew)); exact (Kd.R_mono (fr4 (g := gb326) (Kd.R_mono HO325.out (fun k_ hk => (⟨hk, hk.2⟩ : _ ∧ k_ ≠ gb326))) (fun _ hk => hk.2) 0) (fun _ h_ => h_.1))))) (g := gb326) (o := .cells #[.int .i64 t318, .int .i64 t319, .slice Ao39 t320.length co39, .slice Ao40 t323.length co40] 30 (0, 0)) (by (with_reducible repeat (first | refine blk_drewN ?_ _ | refine blk_drew ?_ | refine blk_alloc ?_ _)); refine blk_put (cs := #[.int .i64 t318, .int .i64 t319, .slice Ao39 t320.length co39, .slice none 0 0]) ?_ 3 _ rfl; (with_reducible repeat (first | refine blk_drewN ?_ _ | refine blk_drew ?_ | refine blk_alloc ?_ _)); refine blk_put (cs := #[.int .i64 t318, .int .i64 t319, .slice none 0 0, .slice none 0 0]) ?_ 2 _ rfl; (with_reducible repeat (first | refine blk_drewN ?_ _ | refine blk_drew ?_ | refine blk_alloc ?_ _)); refine blk_put (cs := #[.int .i64 t318, .int .i64 0, .slice none 0 0, .slice none 0 0]) ?_ 1 _ rfl; (with_reducible repeat (first | refine blk_drewN ?_ _ | refine blk_drew ?_ | refine blk_alloc ?_ _)); refine blk_put (cs := #[.int .i64 0, .int .i64 0, .slice none 0 0, .slice none 0 0]) ?_ 0 _ rfl; (with_reducible repeat (first | refine blk_drewN ?_ _ | refine blk_drew ?_ | refine blk_alloc ?_ _)); exact BK326.out)) (below_size blw)); have n8_ := am (blk_below (g := gb297) (o := .cells #[.int .i64 a0_0, .int .i64 a0_1, .slice A0_2 l0_2.length c0_2, .slice A0_3 l0_3.length c0_3] 25 (0, 0)) (by (with_reducible repeat (first | refine blk_drewN ?_ _ | refine blk_drew ?_ | refine blk_alloc ?_ _)); refine blk_far ?_ NB297_326.out _; (with_reducible repeat (first | refine blk_drewN ?_ _ | refine blk_drew ?_ | refine blk_alloc ?_ _)); refine blk_far ?_ NB297_326.out _; (with_reducible repeat (first | refine blk_drewN ?_ _ | refine blk_drew ?_ | refine blk_alloc ?_ _)); refine blk_far ?_ NB297_326.out _; (with_reducible repeat (first | refine blk_drewN ?_ _ | refine blk_drew ?_ | refine blk_alloc ?_ _)); refine blk_far ?_ NB297_326.out _; (with_reducible repeat (first | refine blk_drewN ?_ _ | refine blk_drew ?_ | refine blk_alloc ?_ _)); exact BK297.out) hb); have n9_ := am (blk_below (g := gb298) (o := .cells #[.int .i64 a1_0, .int .i64 a1_1, .slice A1_2 l1_2.length c1_2, .slice A1_3 l1_3.length c1_3] 25 (0, 0)) (by (with_reducible repeat (first | refine blk_drewN ?_ _ | refine blk_drew ?_ | refine blk_alloc ?_ _)); refine blk_far ?_ NB298_326.out _; (with_reducible repeat (first | refine blk_drewN ?_ _ | refine blk_drew ?_ | refine blk_alloc ?_ _)); refine blk_far ?_ NB298_326.out _; (with_reducible repeat (first | refine blk_drewN ?_ _ | refine blk_drew ?_ | refine blk_alloc ?_ _)); refine blk_far ?_ NB298_326.out _; (with_reducible repeat (first | refine blk_drewN ?_ _ | refine blk_drew ?_ | refine blk_alloc ?_ _)); refine blk_far ?_ NB298_326.out _; (with_reducible repeat (first | refine blk_drewN ?_ _ | refine blk_drew ?_ | refine blk_alloc ?_ _)); exact BK298.out) hb); have n10_ := am (blk_below (g := gb326) (o := .cells #[.int .i64 t318, .int .i64 t319, .slice Ao39 t320.length co39, .slice Ao40 t323.length co40] 30 (0, 0)) (by (with_reducible repeat (first | refine blk_drewN ?_ _ | refine blk_drew ?_ | refine blk_alloc ?_ _)); refine blk_put (cs := #[.int .i64 t318, .int .i64 t319, .slice Ao39 t320.length co39, .slice none 0 0]) ?_ 3 _ rfl; (with_reducible repeat (first | refine blk_drewN ?_ _ | refine blk_drew ?_ | refine blk_alloc ?_ _)); refine blk_put (cs := #[.int .i64 t318, .int .i64 t319, .slice none 0 0, .slice none 0 0]) ?_ 2 _ rfl; (with_reducible repeat (first | refine blk_drewN ?_ _ | refine blk_drew ?_ | refine blk_alloc ?_ _)); refine blk_put (cs := #[.int .i64 t318, .int .i64 0, .slice none 0 0, .slice none 0 0]) ?_ 1 _ rfl; (with_reducible repeat (first | refine blk_drewN ?_ _ | refine blk_drew ?_ | refine blk_alloc ?_ _)); refine blk_put (cs := #[.int .i64 0, .int .i64 0, .slice none 0 0, .slice none 0 0]) ?_ 0 _ rfl; (with_reducible repeat (first | refine blk_drewN ?_ _ | refine blk_drew ?_ | refine blk_alloc ?_ _)); exact BK326.out) hb); have n11_ := am (below_step blw hb); clear HO305; clear HO308; clear HO313; clear HO316; clear HO322; clear HO325; clear BK297; clear BK298; clear BK326; clear HB; revert n0_ n1_ n2_ n3_ n4_ n5_ n6_ n7_ n8_ n9_ n10_ n11_; intro HO305 HO308 HO313 HO316 HO322 HO325 HO331 HO334 BK297 BK298 BK326 HB; (try clear hb); (try clear hb2); (try clear hk); (try clear hi); (try clear ho0); (try clear ho1)) | ((with_reducible refine gate_dst (N := 8) rfl ?_); refine box_event ?hg (N := 8) ?hd (cs := #[.int .i64 0, .int .i64 0, .slice none 0 0, .slice none 0 0]) (t := 30) ?hr ?_; (case hd => rfl); (case hg => rfl); (case hr => exact hrw); intro gb335 hg w43 hbox hb; have n0_ := am (Kd.R_below (by (with_reducible repeat (first | apply Kd.R_alloc | apply Kd.R_drewN | apply Kd.R_drew)); exact HO305.out) hb); have n1_ := am (Kd.R_below (Kd.R_elderB (by (with_reducible repeat (first | apply Kd.R_alloc | apply Kd.R_drewN | apply Kd.R_drew)); exact HO308.out) gb335 (Nat.le_of_eq hg.symm)) hb); have n2_ := am (Kd.R_below (by (with_reducible repeat (first | apply Kd.R_alloc | apply Kd.R_drewN | apply Kd.R_drew)); exact HO313.out) hb); have n3_ := am (Kd.R_below (Kd.R_elderB (by (with_reducible repeat (first | apply Kd.R_alloc | apply Kd.R_drewN | apply Kd.R_drew)); exact HO316.out) gb335 (Nat.le_of_eq hg.symm)) hb); have n4_ := am (Kd.R_below (by (with_reducible repeat (first | apply Kd.R_alloc | apply Kd.R_drewN | apply Kd.R_drew)); exact HO322.out) hb); have n5_ := am (Kd.R_below (Kd.R_elderB (by (with_reducible repeat (first | apply Kd.R_alloc | apply Kd.R_drewN | apply Kd.R_drew)); exact HO325.out) gb335 (Nat.le_of_eq hg.symm)) hb); have n6_ := am (Kd.R_below (by (with_reducible repeat (first | apply Kd.R_alloc | apply Kd.R_drewN | apply Kd.R_drew)); exact HO331.out) hb); have n7_ := am (Kd.R_below (Kd.R_elderB (by (with_reducible repeat (first | apply Kd.R_alloc | apply Kd.R_drewN | apply Kd.R_drew)); exact HO334.out) gb335 (Nat.le_of_eq hg.symm)) hb); have n8_ := am (blk_below (g := gb297) bkw hb); have n9_ := am (blk_below (g := gb298) bkw hb); have n10_ := am (blk_below (g := gb326) bkw hb); have n11_ := am (below_step blw hb); have n12_ := am (hbox); have n13_ := am ((by rw [hg]; exact (below_size blw) : w.heap.size ≤ gb335)); have n14_ := n13_; have n15_ := am ((by rw [hg]; exact Nat.ne_of_lt (blk_lt (g := gb297) bkw) : gb297 ≠ gb335)); have n16_ := am ((by rw [hg]; exact Nat.ne_of_gt (blk_lt (g := gb297) bkw) : gb335 ≠ gb297)); have n17_ := am ((by rw [hg]; exact Nat.ne_of_lt (blk_lt (g := gb298) bkw) : gb298 ≠ gb335)); have n18_ := am ((by rw [hg]; exact Nat.ne_of_gt (blk_lt (g := gb298) bkw) : gb335 ≠ gb298)); have n19_ := am ((by rw [hg]; exact Nat.ne_of_lt (blk_lt (g := gb326) bkw) : gb326 ≠ gb335)); have n20_ := am ((by rw [hg]; exact Nat.ne_of_gt (blk_lt (g := gb326) bkw) : gb335 ≠ gb326)); clear HO305; clear HO308; clear HO313; clear HO316; clear HO322; clear HO325; clear HO331; clear HO334; clear BK297; clear BK298; clear BK326; clear HB; revert n0_ n1_ n2_ n3_ n4_ n5_ n6_ n7_ n8_ n9_ n10_ n11_ n12_ n13_ n14_ n15_ n16_ n17_ n18_ n19_ n20_; intro HO305 HO308 HO313 HO316 HO322 HO325 HO331 HO334 BK297 BK298 BK326 HB BK335 GW335 GE335 NB297_335 NB335_297 NB298_335 NB335_298 NB326_335 NB335_326; clear hb hbox hg; have hnb44 := NB335_297.out; have hnc44 := NB297_335.out; have hnb45 := NB335_298.out; have hnc45 := NB298_335.out; have hnb46 := NB335_326.out; have hnc46 := NB326_335.out; obtain ⟨hcz47_0, hcz47_1, hcz47_2, hcz47_3⟩ := cls4 BK335.out; obtain ⟨hfz47_0, hfz47_1, hfz47_2, hfz47_3⟩ := frz4 BK335.out; obtain ⟨Ao48, co48, eo48⟩ := Kd.R_slice HO331.out; subst eo48; obtain ⟨Ao49, co49, eo49⟩ := Kd.R_slice HO334.out; subst eo49; obtain ⟨hcz50_0, hcz50_1, hcz50_2, hcz50_3⟩ := cls4 BK326.out; obtain ⟨hfz50_0, hfz50_1, hfz50_2, hfz50_3⟩ := frz4 BK326.out) | ((with_reducible refine gate_callee (f := 9) rfl ?_); refine goesL_ (some 31) rfl rfl Try.func9 kr rfl #[.agg #[.int .i64 t318, .int .i64 t319, .slice Ao39 t320.length co39, .slice Ao40 t323.length co40], .agg #[.int .i64 t327, .int .i64 t328, .slice Ao48 t329.length co48, .slice Ao49 t332.length co49]] rfl mpw ?_; (with_reducible refine (impl_SameBag.calls k t318 t319 _ _ t320 _ _ t323 t327 t328 _ _ t329 _ _ t332 t336 _ ?side1 ?side2 ?side3 ?side4 ?side5 ?side6 ?side7 ?side8 A22.out).mono ?_); (case side1 => refine (Kd.R_reads' (e := 9) (base := w.heap.size) (ok := fun k_ => (((True ∧ some k_ ≠ (.slice Ao27 t303.length co27 : Value).ownBlock) ∧ some k_ ≠ (.slice Ao29 t311.length co29 : Value).ownBlock) ∧ some k_ ≠ (.slice Ao48 t329.length co48 : Value).ownBlock)) (n := t320.length) (c := co39) ?_).2.2; exact (by (with_reducible repeat (first | apply Kd.R_alloc | apply Kd.R_drewN | apply Kd.R_drew)); exact (Kd.R_mono (fr4 (g := gb335) (Kd.R_types HO322.out BK335.out (by decide)) (fun _ hk => hk.2) 0) (fun _ h_ => h_.1)))); (case side2 => exact (Kd.R_reads' HO322.out).2.1); (case side3 => refine (Kd.R_reads' (e := 30) (base := w.heap.size) (ok := fun k_ => ((((((((some k_ ≠ (.slice Ao39 t320.length co39 : Value).ownBlock ∧ some k_ ≠ (.slice Ao27 t303.length co27 : Value).ownBlock) ∧ some k_ ≠ (.slice Ao28 t306.length co28 : Value).ownBlock) ∧ some k_ ≠ (.slice Ao29 t311.length co29 : Value).ownBlock) ∧ some k_ ≠ (.slice Ao30 t314.length co30 : Value).ownBlock) ∧ k_ ≠ gb326) ∧ some k_ ≠ (.slice Ao48 t329.length co48 : Value).ownBlock) ∧ some k_ ≠ (.slice Ao49 t332.length co49 : Value).ownBlock) ∧ k_ ≠ gb335)) (n := t323.length) (c := co40) ?_).2.2; exact (by (with_reducible repeat (first | apply Kd.R_alloc | apply Kd.R_drewN | apply Kd.R_drew)); exact (Kd.R_mono (fr4 (g := gb335) (Kd.R_mono HO325.out (fun k_ hk => (⟨hk, hk.2⟩ : _ ∧ k_ ≠ gb335))) (fun _ hk => hk.2) 0) (fun _ h_ => h_.1)))); (case side4 => exact (Kd.R_reads' HO325.out).2.1); (case side5 => refine (Kd.R_reads' (e := 9) (base := w.heap.size) (ok := fun k_ => (((True ∧ some k_ ≠ (.slice Ao27 t303.length co27 : Value).ownBlock) ∧ some k_ ≠ (.slice Ao29 t311.length co29 : Value).ownBlock) ∧ some k_ ≠ (.slice Ao39 t320.length co39 : Value).ownBlock)) (n := t329.length) (c := co48) ?_).2.2; exact (by (with_reducible repeat (first | apply Kd.R_alloc | apply Kd.R_drewN | apply Kd.R_drew)); exact (Kd.R_mono (fr4 (g := gb335) (Kd.R_types HO331.out BK335.out (by decide)) (fun _ hk => hk.2) 0) (fun _ h_ => h_.1)))); (case side6 => exact (Kd.R_reads' HO331.out).2.1); (case side7 => refine (Kd.R_reads' (e := 30) (base := w.heap.size) (ok := fun k_ => ((((((((some k_ ≠ (.slice Ao48 t329.length co48 : Value).ownBlock ∧ some k_ ≠ (.slice Ao27 t303.length co27 : Value).ownBlock) ∧ some k_ ≠ (.slice Ao28 t306.length co28 : Value).ownBlock) ∧ some k_ ≠ (.slice Ao29 t311.length co29 : Value).ownBlock) ∧ some k_ ≠ (.slice Ao30 t314.length co30 : Value).ownBlock) ∧ some k_ ≠ (.slice Ao39 t320.length co39 : Value).ownBlock) ∧ some k_ ≠ (.slice Ao40 t323.length co40 : Value).ownBlock) ∧ k_ ≠ gb326) ∧ k_ ≠ gb335)) (n := t332.length) (c := co49) ?_).2.2; exact (by (with_reducible repeat (first | apply Kd.R_alloc | apply Kd.R_drewN | apply Kd.R_drew)); exact (Kd.R_mono (fr4 (g := gb335) (Kd.R_mono HO334.out (fun k_ hk => (⟨hk, hk.2⟩ : _ ∧ k_ ≠ gb335))) (fun _ hk => hk.2) 0) (fun _ h_ => h_.1)))); (case side8 => exact (Kd.R_reads' HO334.out).2.1); rintro e w51 ⟨rfl, hb⟩; refine ⟨_, rfl, ?_⟩; have n0_ := am (Kd.R_below (by (with_reducible repeat (first | apply Kd.R_alloc | apply Kd.R_drewN | apply Kd.R_drew)); exact (Kd.R_mono (fr4 (g := gb335) (Kd.R_types HO305.out BK335.out (by decide)) (fun _ hk => hk.2) 0) (fun _ h_ => h_.1))) hb); have n1_ := am (Kd.R_below (by (with_reducible repeat (first | apply Kd.R_alloc | apply Kd.R_drewN | apply Kd.R_drew)); exact (Kd.R_mono (fr4 (g := gb335) (Kd.R_mono HO308.out (fun k_ hk => (⟨hk, hk.2⟩ : _ ∧ k_ ≠ gb335))) (fun _ hk => hk.2) 0) (fun _ h_ => h_.1))) hb); have n2_ := am (Kd.R_below (by (with_reducible repeat (first | apply Kd.R_alloc | apply Kd.R_drewN | apply Kd.R_drew)); exact (Kd.R_mono (fr4 (g := gb335) (Kd.R_types HO313.out BK335.out (by decide)) (fun _ hk => hk.2) 0) (fun _ h_ => h_.1))) hb); have n3_ := am (Kd.R_below (by (with_reducible repeat (first | apply Kd.R_alloc | apply Kd.R_drewN | apply Kd.R_drew)); exact (Kd.R_mono (fr4 (g := gb335) (Kd.R_mono HO316.out (fun k_ hk => (⟨hk, hk.2⟩ : _ ∧ k_ ≠ gb335))) (fun _ hk => hk.2) 0) (fun _ h_ => h_.1))) hb); have n4_ := am (Kd.R_below (by (with_reducible repeat (first | apply Kd.R_alloc | apply Kd.R_drewN | apply Kd.R_drew)); exact (Kd.R_mono (fr4 (g := gb335) (Kd.R_types HO322.out BK335.out (by decide)) (fun _ hk => hk.2) 0) (fun _ h_ => h_.1))) hb); have n5_ := am (Kd.R_below (by (with_reducible repeat (first | apply Kd.R_alloc | apply Kd.R_drewN | apply Kd.R_drew)); exact (Kd.R_mono (fr4 (g := gb335) (Kd.R_mono HO325.out (fun k_ hk => (⟨hk, hk.2⟩ : _ ∧ k_ ≠ gb335))) (fun _ hk => hk.2) 0) (fun _ h_ => h_.1))) hb); have n6_ := am (Kd.R_below (by (with_reducible repeat (first | apply Kd.R_alloc | apply Kd.R_drewN | apply Kd.R_drew)); exact (Kd.R_mono (fr4 (g := gb335) (Kd.R_types HO331.out BK335.out (by decide)) (fun _ hk => hk.2) 0) (fun _ h_ => h_.1))) hb); have n7_ := am (Kd.R_below (by (with_reducible repeat (first | apply Kd.R_alloc | apply Kd.R_drewN | apply Kd.R_drew)); exact (Kd.R_mono (fr4 (g := gb335) (Kd.R_mono HO334.out (fun k_ hk => (⟨hk, hk.2⟩ : _ ∧ k_ ≠ gb335))) (fun _ hk => hk.2) 0) (fun _ h_ => h_.1))) hb); have n8_ := am (blk_below (g := gb297) (o := .cells #[.int .i64 a0_0, .int .i64 a0_1, .slice A0_2 l0_2.length c0_2, .slice A0_3 l0_3.length c0_3] 25 (0, 0)) (by (with_reducible repeat (first | refine blk_drewN ?_ _ | refine blk_drew ?_ | refine blk_alloc ?_ _)); refine blk_far ?_ NB297_335.out _; (with_reducible repeat (first | refine blk_drewN ?_ _ | refine blk_drew ?_ | refine blk_alloc ?_ _)); refine blk_far ?_ NB297_335.out _; (with_reducible repeat (first | refine blk_drewN ?_ _ | refine blk_drew ?_ | refine blk_alloc ?_ _)); refine blk_far ?_ NB297_335.out _; (with_reducible repeat (first | refine blk_drewN ?_ _ | refine blk_drew ?_ | refine blk_alloc ?_ _)); refine blk_far ?_ NB297_335.out _; (with_reducible repeat (first | refine blk_drewN ?_ _ | refine blk_drew ?_ | refine blk_alloc ?_ _)); exact BK297.out) hb); have n9_ := am (blk_below (g := gb298) (o := .cells #[.int .i64 a1_0, .int .i64 a1_1, .slice A1_2 l1_2.length c1_2, .slice A1_3 l1_3.length c1_3] 25 (0, 0)) (by (with_reducible repeat (first | refine blk_drewN ?_ _ | refine blk_drew ?_ | refine blk_alloc ?_ _)); refine blk_far ?_ NB298_335.out _; (with_reducible repeat (first | refine blk_drewN ?_ _ | refine blk_drew ?_ | refine blk_alloc ?_ _)); refine blk_far ?_ NB298_335.out _; (with_reducible repeat (first | refine blk_drewN ?_ _ | refine blk_drew ?_ | refine blk_alloc ?_ _)); refine blk_far ?_ NB298_335.out _; (with_reducible repeat (first | refine blk_drewN ?_ _ | refine blk_drew ?_ | refine blk_alloc ?_ _)); refine blk_far ?_ NB298_335.out _; (with_reducible repeat (first | refine blk_drewN ?_ _ | refine blk_drew ?_ | refine blk_alloc ?_ _)); exact BK298.out) hb); have n10_ := am (blk_below (g := gb326) (o := .cells #[.int .i64 t318, .int .i64 t319, .slice Ao39 t320.length co39, .slice Ao40 t323.length co40] 30 (0, 0)) (by (with_reducible repeat (first | refine blk_drewN ?_ _ | refine blk_drew ?_ | refine blk_alloc ?_ _)); refine blk_far ?_ NB326_335.out _; (with_reducible repeat (first | refine blk_drewN ?_ _ | refine blk_drew ?_ | refine blk_alloc ?_ _)); refine blk_far ?_ NB326_335.out _; (with_reducible repeat (first | refine blk_drewN ?_ _ | refine blk_drew ?_ | refine blk_alloc ?_ _)); refine blk_far ?_ NB326_335.out _; (with_reducible repeat (first | refine blk_drewN ?_ _ | refine blk_drew ?_ | refine blk_alloc ?_ _)); refine blk_far ?_ NB326_335.out _; (with_reducible repeat (first | refine blk_drewN ?_ _ | refine blk_drew ?_ | refine blk_alloc ?_ _)); exact BK326.out) hb); have n11_ := am (blk_below (g := gb335) (o := .cells #[.int .i64 t327, .int .i64 t328, .slice Ao48 t329.length co48, .slice Ao49 t332.length co49] 30 (0, 0)) (by (with_reducible repeat (first | refine blk_drewN ?_ _ | refine blk_drew ?_ | refine blk_alloc ?_ _)); refine blk_put (cs := #[.int .i64 t327, .int .i64 t328, .slice Ao48 t329.length co48, .slice none 0 0]) ?_ 3 _ rfl; (with_reducible repeat (first | refine blk_drewN ?_ _ | refine blk_drew ?_ | refine blk_alloc ?_ _)); refine blk_put (cs := #[.int .i64 t327, .int .i64 t328, .slice none 0 0, .slice none 0 0]) ?_ 2 _ rfl; (with_reducible repeat (first | refine blk_drewN ?_ _ | refine blk_drew ?_ | refine blk_alloc ?_ _)); refine blk_put (cs := #[.int .i64 t327, .int .i64 0, .slice none 0 0, .slice none 0 0]) ?_ 1 _ rfl; (with_reducible repeat (first | refine blk_drewN ?_ _ | refine blk_drew ?_ | refine blk_alloc ?_ _)); refine blk_put (cs := #[.int .i64 0, .int .i64 0, .slice none 0 0, .slice none 0 0]) ?_ 0 _ rfl; (with_reducible repeat (first | refine blk_drewN ?_ _ | refine blk_drew ?_ | refine blk_alloc ?_ _)); exact BK335.out) hb); have n12_ := am (below_step blw hb); clear HO305; clear HO308; clear HO313; clear HO316; clear HO322; clear HO325; clear HO331; clear HO334; clear BK297; clear BK298; clear BK326; clear BK335; clear HB; revert n0_ n1_ n2_ n3_ n4_ n5_ n6_ n7_ n8_ n9_ n10_ n11_ n12_; intro HO305 HO308 HO313 HO316 HO322 HO325 HO331 HO334 BK297 BK298 BK326 BK335 HB; (try clear hb); (try clear hb2); (try clear hk); (try clear hi)))
 (try clear hcz14_0 hcz14_1 hcz14_2 hcz14_3); (try clear hcz33_0 hcz33_1 hcz33_2 hcz33_3); (try clear hcz38_0 hcz38_1 hcz38_2 hcz38_3); (try clear hcz41_0 hcz41_1 hcz41_2 hcz41_3); (try clear hcz47_0 hcz47_1 hcz47_2 hcz47_3); (try clear hcz50_0 hcz50_1 hcz50_2 hcz50_3); (try clear hcz8_0 hcz8_1 hcz8_2 hcz8_3); (try clear hfz14_0 hfz14_1 hfz14_2 hfz14_3); (try clear hfz33_0 hfz33_1 hfz33_2 hfz33_3); (try clear hfz38_0 hfz38_1 hfz38_2 hfz38_3); (try clear hfz41_0 hfz41_1 hfz41_2 hfz41_3); (try clear hfz47_0 hfz47_1 hfz47_2 hfz47_3); (try clear hfz50_0 hfz50_1 hfz50_2 hfz50_3); (try clear hfz8_0 hfz8_1 hfz8_2 hfz8_3)
 have H := HC23.out
 clear HC23
 by_cases c52 : (t336 != t317) = true
 ·rw [if_pos c52] at H
  have c52b0 : (t336 != t317) = true := c52
  (try (have c52b1 : decide (t336 = t317) = false := by simpa using c52))
  (try (have c52b2 : (t336 == t317) = false := by simpa using c52))
  (try (have c52b3 : ¬ (t336 = t317) := by simpa using c52))
  clear c52
  (first | rw [c52b0] | (simp only [i64_w, i32_w]; rw [c52b0]) | (rw [c52b1]; (try simp only [Bool.not_true, Bool.not_false])) | (rw [c52b2]; (try simp only [Bool.not_true, Bool.not_false])) | (rw [c52b3]; (try simp only [Bool.not_true, Bool.not_false])) | skip)
  obtain rfl := Option.some.inj H
  go_wp2
  go_ret
  exact ⟨rfw, blw⟩
 rw [if_neg c52] at H
 have c52b0 : (t336 != t317) = false := by simpa using c52
 (try (have c52b1 : decide (t336 = t317) = true := by simpa using c52))
 (try (have c52b2 : (t336 == t317) = true := by simpa using c52))
 clear c52
 (first | rw [c52b0] | (simp only [i64_w, i32_w]; rw [c52b0]) | (rw [c52b1]; (try simp only [Bool.not_true, Bool.not_false])) | (rw [c52b2]; (try simp only [Bool.not_true, Bool.not_false])) | skip)
 replace H := Option.bind_eq_some_iff.mp H
 obtain ⟨⟨t337, t338, t339, t342⟩, A530, H⟩ := H
 replace H : ((laws_eqValue.f k t318 t319 t320 t323 t337 t338 t339 t342).bind fun t345 => (if t345 = true then ((laws_toValue.f k a1_0 a1_1 l1_2 l1_3).bind fun bt346 => ((laws_eqValue.f k t327 t328 t329 t332 bt346.1 bt346.2.1 bt346.2.2.1 bt346.2.2.2).bind fun t354 => (if t354 = true then (some true) else (some false)))) else (some false))) = some r := H
 have A53 := am A530
 clear A530
 replace H := Option.bind_eq_some_iff.mp H
 obtain ⟨t345, A540, H⟩ := H
 replace H : (if t345 = true then ((laws_toValue.f k a1_0 a1_1 l1_2 l1_3).bind fun bt346 => ((laws_eqValue.f k t327 t328 t329 t332 bt346.1 bt346.2.1 bt346.2.2.1 bt346.2.2.2).bind fun t354 => (if t354 = true then (some true) else (some false)))) else (some false)) = some r := H
 have A54 := am A540
 clear A540
 have HC55 := am H
 clear H
 try go_wp2
 have n0_ := am (Kd.R_drew HO305.out)
 have n1_ := am (Kd.R_drew HO308.out)
 have n2_ := am (Kd.R_drew HO313.out)
 have n3_ := am (Kd.R_drew HO316.out)
 have n4_ := am (Kd.R_drew HO322.out)
 have n5_ := am (Kd.R_drew HO325.out)
 have n6_ := am (Kd.R_drew HO331.out)
 have n7_ := am (Kd.R_drew HO334.out)
 have n8_ := am (blk_drew BK297.out)
 have n9_ := am (blk_drew BK298.out)
 have n10_ := am (blk_drew BK326.out)
 have n11_ := am (blk_drew BK335.out)
 have n12_ := am (below_drew1 HB.out)
 clear HO305
 clear HO308
 clear HO313
 clear HO316
 clear HO322
 clear HO325
 clear HO331
 clear HO334
 clear BK297
 clear BK298
 clear BK326
 clear BK335
 clear HB
 revert n0_ n1_ n2_ n3_ n4_ n5_ n6_ n7_ n8_ n9_ n10_ n11_ n12_
 intro HO305 HO308 HO313 HO316 HO322 HO325 HO331 HO334 BK297 BK298 BK326 BK335 HB
 refine start_ (n := 5) (S := fun w' => w'.cell? ⟨gb326, 0, none⟩ = some (.int .i64 t318) ∧ w'.cell? ⟨gb326, 1, none⟩ = some (.int .i64 t319) ∧ w'.cell? ⟨gb326, 2, none⟩ = some (.slice Ao39 t320.length co39) ∧ w'.cell? ⟨gb326, 3, none⟩ = some (.slice Ao40 t323.length co40) ∧ w'.cell? ⟨gb297, 0, none⟩ = some (.int .i64 a0_0) ∧ w'.cell? ⟨gb297, 1, none⟩ = some (.int .i64 a0_1) ∧ w'.cell? ⟨gb297, 2, none⟩ = some (.slice A0_2 l0_2.length c0_2) ∧ w'.cell? ⟨gb297, 3, none⟩ = some (.slice A0_3 l0_3.length c0_3)) (ds := []) #[false,false,false,false,false] kr rfl rfl ⟨(blk_cell BK326.out 0).trans rfl, (blk_cell BK326.out 1).trans rfl, (blk_cell BK326.out 2).trans rfl, (blk_cell BK326.out 3).trans rfl, (blk_cell BK297.out 0).trans rfl, (blk_cell BK297.out 1).trans rfl, (blk_cell BK297.out 2).trans rfl, (blk_cell BK297.out 3).trans rfl⟩ (fun hHeld => ?_)
 generalize w51.drew = w56 at HO305 HO308 HO313 HO316 HO322 HO325 HO331 HO334 BK297 BK298 BK326 BK335 HB hHeld ⊢
 refine take_ (i := 0) (N := some 35) (v := ?_) (a' := ?_) (bm 5 1) rfl rfl kr qi (Or.inl ⟨by rfl, ?_⟩) hHeld ?_ ?_
 rotate_left
 ·rintro w' ⟨s0, s1, s2, s3, s4, s5, s6, s7⟩
  go_simp
  with_reducible rfl
 rotate_left
 ·simp only [sx]
  rfl
 refine take_ (i := 1) (N := some 36) (v := ?_) (a' := ?_) (bm 5 3) rfl rfl kr qi (Or.inl ⟨by rfl, ?_⟩) hHeld ?_ ?_
 rotate_left
 ·rintro w' ⟨s0, s1, s2, s3, s4, s5, s6, s7⟩
  go_simp
  with_reducible rfl
 rotate_left
 ·simp only [sx]
  rfl
 refine one_ (i := 2) (N := some 37) (bm 5 7) rfl rfl kr (by decide) (fun K hK => ?_)
 refine goes_ Try.func8 kr rfl #[.agg #[.int .i64 a0_0, .int .i64 a0_1, .slice A0_2 l0_2.length c0_2, .slice A0_3 l0_3.length c0_3]] (by rfl) rfl rfl mpw ?_
 with_reducible refine (laws_toValue.calls k a0_0 a0_1 _ _ l0_2 _ _ l0_3 t337 t338 t339 t342 _ ?side1 ?side2 ?side3 ?side4 A53.out).mono ?_
 (case side1 => have X_ := HR0_2; exact cbl)
 (case side2 => exact HC0_2.out)
 (case side3 => have X_ := HR0_3; exact cbl)
 (case side4 => exact HC0_3.out)
 rintro e w57 ⟨v340, v343, rfl, ho0, ho1, hb⟩
 refine ⟨_, rfl, ?_⟩
 have n0_ := am (Kd.R_elder' (by (with_reducible repeat (first | apply Kd.R_alloc | apply Kd.R_drewN | apply Kd.R_drew)); exact HO305.out) (Kd.R_base ho0) hb)
 have n1_ := am (Kd.R_mono (Kd.R_told (Kd.R_told (Kd.R_old (by (with_reducible repeat (first | apply Kd.R_alloc | apply Kd.R_drewN | apply Kd.R_drew)); exact HO308.out) hb) (Kd.R_base ho0)) (Kd.R_base ho1)) (fun _ h_ => h_.1))
 have n2_ := am (Kd.R_elder' (by (with_reducible repeat (first | apply Kd.R_alloc | apply Kd.R_drewN | apply Kd.R_drew)); exact HO313.out) (Kd.R_base ho0) hb)
 have n3_ := am (Kd.R_mono (Kd.R_told (Kd.R_told (Kd.R_old (by (with_reducible repeat (first | apply Kd.R_alloc | apply Kd.R_drewN | apply Kd.R_drew)); exact HO316.out) hb) (Kd.R_base ho0)) (Kd.R_base ho1)) (fun _ h_ => h_.1))
 have n4_ := am (Kd.R_elder' (by (with_reducible repeat (first | apply Kd.R_alloc | apply Kd.R_drewN | apply Kd.R_drew)); exact HO322.out) (Kd.R_base ho0) hb)
 have n5_ := am (Kd.R_mono (Kd.R_told (Kd.R_told (Kd.R_old (by (with_reducible repeat (first | apply Kd.R_alloc | apply Kd.R_drewN | apply Kd.R_drew)); exact HO325.out) hb) (Kd.R_base ho0)) (Kd.R_base ho1)) (fun _ h_ => h_.1))
 have n6_ := am (Kd.R_elder' (by (with_reducible repeat (first | apply Kd.R_alloc | apply Kd.R_drewN | apply Kd.R_drew)); exact HO331.out) (Kd.R_base ho0) hb)
 have n7_ := am (Kd.R_mono (Kd.R_told (Kd.R_told (Kd.R_old (by (with_reducible repeat (first | apply Kd.R_alloc | apply Kd.R_drewN | apply Kd.R_drew)); exact HO334.out) hb) (Kd.R_base ho0)) (Kd.R_base ho1)) (fun _ h_ => h_.1))
 have n8_ := am (Kd.R_lower (Kd.R_new' (Kd.R_new' (Kd.R_new' (Kd.R_new' ho0 (Kd.R_lt (by (with_reducible repeat (first | apply Kd.R_alloc | apply Kd.R_drewN | apply Kd.R_drew)); exact HO305.out))) (Kd.R_lt (by (with_reducible repeat (first | apply Kd.R_alloc | apply Kd.R_drewN | apply Kd.R_drew)); exact HO313.out))) (Kd.R_lt (by (with_reducible repeat (first | apply Kd.R_alloc | apply Kd.R_drewN | apply Kd.R_drew)); exact HO322.out))) (Kd.R_lt (by (with_reducible repeat (first | apply Kd.R_alloc | apply Kd.R_drewN | apply Kd.R_drew)); exact HO331.out))) (below_size blw))
 have n9_ := am (Kd.R_lower (Kd.R_newB (Kd.R_newB (Kd.R_new' (Kd.R_new' (Kd.R_new' (Kd.R_new' (Kd.R_new' (Kd.R_new' (Kd.R_new' (Kd.R_new' ho1 (Kd.R_lt (by (with_reducible repeat (first | apply Kd.R_alloc | apply Kd.R_drewN | apply Kd.R_drew)); exact HO305.out))) (Kd.R_lt (by (with_reducible repeat (first | apply Kd.R_alloc | apply Kd.R_drewN | apply Kd.R_drew)); exact HO308.out))) (Kd.R_lt (by (with_reducible repeat (first | apply Kd.R_alloc | apply Kd.R_drewN | apply Kd.R_drew)); exact HO313.out))) (Kd.R_lt (by (with_reducible repeat (first | apply Kd.R_alloc | apply Kd.R_drewN | apply Kd.R_drew)); exact HO316.out))) (Kd.R_lt (by (with_reducible repeat (first | apply Kd.R_alloc | apply Kd.R_drewN | apply Kd.R_drew)); exact HO322.out))) (Kd.R_lt (by (with_reducible repeat (first | apply Kd.R_alloc | apply Kd.R_drewN | apply Kd.R_drew)); exact HO325.out))) (Kd.R_lt (by (with_reducible repeat (first | apply Kd.R_alloc | apply Kd.R_drewN | apply Kd.R_drew)); exact HO331.out))) (Kd.R_lt (by (with_reducible repeat (first | apply Kd.R_alloc | apply Kd.R_drewN | apply Kd.R_drew)); exact HO334.out))) (g := gb326) (o := .cells #[.int .i64 t318, .int .i64 t319, .slice Ao39 t320.length co39, .slice Ao40 t323.length co40] 30 (0, 0)) bkw) (g := gb335) (o := .cells #[.int .i64 t327, .int .i64 t328, .slice Ao48 t329.length co48, .slice Ao49 t332.length co49] 30 (0, 0)) bkw) (below_size blw))
 have n10_ := am (blk_below (g := gb297) bkw hb)
 have n11_ := am (blk_below (g := gb298) bkw hb)
 have n12_ := am (blk_below (g := gb326) bkw hb)
 have n13_ := am (blk_below (g := gb335) bkw hb)
 have n14_ := am (below_step blw hb)
 clear HO305
 clear HO308
 clear HO313
 clear HO316
 clear HO322
 clear HO325
 clear HO331
 clear HO334
 clear BK297
 clear BK298
 clear BK326
 clear BK335
 clear HB
 revert n0_ n1_ n2_ n3_ n4_ n5_ n6_ n7_ n8_ n9_ n10_ n11_ n12_ n13_ n14_
 intro HO305 HO308 HO313 HO316 HO322 HO325 HO331 HO334 HO341 HO344 BK297 BK298 BK326 BK335 HB
 (try clear hb)
 (try clear hb2)
 (try clear hk)
 (try clear hi)
 (try clear ho0)
 (try clear ho1)
 obtain ⟨Ao58, co58, eo58⟩ := Kd.R_slice HO341.out
 (first | subst eo58 | (injection eo58 with f1_ f2_ f3_; have f4_ := f1_.symm; have f5_ := f3_.symm; clear f1_ f2_ f3_; subst f4_; subst f5_))
 obtain ⟨Ao59, co59, eo59⟩ := Kd.R_slice HO344.out
 (first | subst eo59 | (injection eo59 with f1_ f2_ f3_; have f4_ := f1_.symm; have f5_ := f3_.symm; clear f1_ f2_ f3_; subst f4_; subst f5_))
 refine hK.out _ _ ⟨(blk_cell BK326.out 0).trans rfl, (blk_cell BK326.out 1).trans rfl, (blk_cell BK326.out 2).trans rfl, (blk_cell BK326.out 3).trans rfl, (blk_cell BK297.out 0).trans rfl, (blk_cell BK297.out 1).trans rfl, (blk_cell BK297.out 2).trans rfl, (blk_cell BK297.out 3).trans rfl⟩ (fun hHeld => ?_)
 clear hK K
 refine norm_ (a' := ?_) ?_ ?_
 rotate_left
 ·show Act.put _ (some 37) _ = _
  simp only [sx]
  rfl
 refine one_ (i := 3) (N := some 38) (bm 5 15) rfl rfl kr (by decide) (fun K hK => ?_)
 refine goes_ Try.func10 kr rfl #[.agg #[.int .i64 t318, .int .i64 t319, .slice Ao39 t320.length co39, .slice Ao40 t323.length co40], .agg #[.int .i64 t337, .int .i64 t338, .slice Ao58 t339.length co58, .slice Ao59 t342.length co59]] (by rfl) rfl rfl mpw ?_
 with_reducible refine (laws_eqValue.calls k t318 t319 _ _ t320 _ _ t323 t337 t338 _ _ t339 _ _ t342 t345 _ ?side1 ?side2 ?side3 ?side4 ?side5 ?side6 ?side7 ?side8 A54.out).mono ?_
 (case side1 => repeat (first | exact (Kd.R_reads' HO322.out).2.2 | (with_reducible refine Kd.C_alloc ?_ _) | (with_reducible refine Kd.C_drewN ?_ _) | (with_reducible refine Kd.C_drew ?_)))
 (case side2 => exact (Kd.R_reads' HO322.out).2.1)
 (case side3 => repeat (first | exact (Kd.R_reads' HO325.out).2.2 | (with_reducible refine Kd.C_alloc ?_ _) | (with_reducible refine Kd.C_drewN ?_ _) | (with_reducible refine Kd.C_drew ?_)))
 (case side4 => exact (Kd.R_reads' HO325.out).2.1)
 (case side5 => repeat (first | exact (Kd.R_reads' HO341.out).2.2 | (with_reducible refine Kd.C_alloc ?_ _) | (with_reducible refine Kd.C_drewN ?_ _) | (with_reducible refine Kd.C_drew ?_)))
 (case side6 => exact (Kd.R_reads' HO341.out).2.1)
 (case side7 => repeat (first | exact (Kd.R_reads' HO344.out).2.2 | (with_reducible refine Kd.C_alloc ?_ _) | (with_reducible refine Kd.C_drewN ?_ _) | (with_reducible refine Kd.C_drew ?_)))
 (case side8 => exact (Kd.R_reads' HO344.out).2.1)
 rintro e w60 ⟨rfl, hb⟩
 refine ⟨_, rfl, ?_⟩
 have n0_ := am (Kd.R_below (by (with_reducible repeat (first | apply Kd.R_alloc | apply Kd.R_drewN | apply Kd.R_drew)); exact HO305.out) hb)
 have n1_ := am (Kd.R_below (by (with_reducible repeat (first | apply Kd.R_alloc | apply Kd.R_drewN | apply Kd.R_drew)); exact HO308.out) hb)
 have n2_ := am (Kd.R_below (by (with_reducible repeat (first | apply Kd.R_alloc | apply Kd.R_drewN | apply Kd.R_drew)); exact HO313.out) hb)
 have n3_ := am (Kd.R_below (by (with_reducible repeat (first | apply Kd.R_alloc | apply Kd.R_drewN | apply Kd.R_drew)); exact HO316.out) hb)
 have n4_ := am (Kd.R_below (by (with_reducible repeat (first | apply Kd.R_alloc | apply Kd.R_drewN | apply Kd.R_drew)); exact HO322.out) hb)
 have n5_ := am (Kd.R_below (by (with_reducible repeat (first | apply Kd.R_alloc | apply Kd.R_drewN | apply Kd.R_drew)); exact HO325.out) hb)
 have n6_ := am (Kd.R_below (by (with_reducible repeat (first | apply Kd.R_alloc | apply Kd.R_drewN | apply Kd.R_drew)); exact HO331.out) hb)
 have n7_ := am (Kd.R_below (by (with_reducible repeat (first | apply Kd.R_alloc | apply Kd.R_drewN | apply Kd.R_drew)); exact HO334.out) hb)
 have n8_ := am (Kd.R_below (by (with_reducible repeat (first | apply Kd.R_alloc | apply Kd.R_drewN | apply Kd.R_drew)); exact HO341.out) hb)
 have n9_ := am (Kd.R_below (by (with_reducible repeat (first | apply Kd.R_alloc | apply Kd.R_drewN | apply Kd.R_drew)); exact HO344.out) hb)
 have n10_ := am (blk_below (g := gb297) bkw hb)
 have n11_ := am (blk_below (g := gb298) bkw hb)
 have n12_ := am (blk_below (g := gb326) bkw hb)
 have n13_ := am (blk_below (g := gb335) bkw hb)
 have n14_ := am (below_step blw hb)
 clear HO305
 clear HO308
 clear HO313
 clear HO316
 clear HO322
 clear HO325
 clear HO331
 clear HO334
 clear HO341
 clear HO344
 clear BK297
 clear BK298
 clear BK326
 clear BK335
 clear HB
 revert n0_ n1_ n2_ n3_ n4_ n5_ n6_ n7_ n8_ n9_ n10_ n11_ n12_ n13_ n14_
 intro HO305 HO308 HO313 HO316 HO322 HO325 HO331 HO334 HO341 HO344 BK297 BK298 BK326 BK335 HB
 (try clear hb)
 (try clear hb2)
 (try clear hk)
 (try clear hi)
 refine hK.out _ _ ⟨(blk_cell BK326.out 0).trans rfl, (blk_cell BK326.out 1).trans rfl, (blk_cell BK326.out 2).trans rfl, (blk_cell BK326.out 3).trans rfl, (blk_cell BK297.out 0).trans rfl, (blk_cell BK297.out 1).trans rfl, (blk_cell BK297.out 2).trans rfl, (blk_cell BK297.out 3).trans rfl⟩ (fun hHeld => ?_)
 clear hK K
 refine norm_ (a' := ?_) ?_ ?_
 rotate_left
 ·show Act.put _ (some 38) _ = _
  simp only [sx]
  rfl
 refine pure_ (i := 4) (N := some 39) (v := ?_) (a' := ?_) (bm 5 31) rfl rfl kr qi (Or.inl ⟨by rfl, ?_⟩) ?_ ?_
 rotate_left
 ·intro w'
  go_simp
  with_reducible rfl
 rotate_left
 ·simp only [sx]
  rfl
 refine done_ kr ?_
 go_upto_if 39 with (fail)
 have H := HC55.out
 clear HC55
 by_cases c61 : t345 = true
 case neg =>
  replace c61 := Bool.eq_false_iff.mpr c61
  subst c61
  have H1 : (some false) = some r := by rw [if_neg (show ¬ (false = true) by decide)] at H; exact H
  clear H
  have H := H1
  clear H1
  obtain rfl := Option.some.inj H
  go_wp2
  go_ret
  exact ⟨rfw, blw⟩
 subst c61
 have H1 : ((laws_toValue.f k a1_0 a1_1 l1_2 l1_3).bind fun bt346 => ((laws_eqValue.f k t327 t328 t329 t332 bt346.1 bt346.2.1 bt346.2.2.1 bt346.2.2.2).bind fun t354 => (if t354 = true then (some true) else (some false)))) = some r := by rw [if_pos rfl] at H; exact H
 clear H
 have H := H1
 clear H1
 replace H := Option.bind_eq_some_iff.mp H
 obtain ⟨⟨t346, t347, t348, t351⟩, A620, H⟩ := H
 replace H : ((laws_eqValue.f k t327 t328 t329 t332 t346 t347 t348 t351).bind fun t354 => (if t354 = true then (some true) else (some false))) = some r := H
 have A62 := am A620
 clear A620
 replace H := Option.bind_eq_some_iff.mp H
 obtain ⟨t354, A630, H⟩ := H
 replace H : (if t354 = true then (some true) else (some false)) = some r := H
 have A63 := am A630
 clear A630
 have HC64 := am H
 clear H
 try go_wp2
 have n0_ := am (Kd.R_drew HO305.out)
 have n1_ := am (Kd.R_drew HO308.out)
 have n2_ := am (Kd.R_drew HO313.out)
 have n3_ := am (Kd.R_drew HO316.out)
 have n4_ := am (Kd.R_drew HO322.out)
 have n5_ := am (Kd.R_drew HO325.out)
 have n6_ := am (Kd.R_drew HO331.out)
 have n7_ := am (Kd.R_drew HO334.out)
 have n8_ := am (Kd.R_drew HO341.out)
 have n9_ := am (Kd.R_drew HO344.out)
 have n10_ := am (blk_drew BK297.out)
 have n11_ := am (blk_drew BK298.out)
 have n12_ := am (blk_drew BK326.out)
 have n13_ := am (blk_drew BK335.out)
 have n14_ := am (below_drew1 HB.out)
 clear HO305
 clear HO308
 clear HO313
 clear HO316
 clear HO322
 clear HO325
 clear HO331
 clear HO334
 clear HO341
 clear HO344
 clear BK297
 clear BK298
 clear BK326
 clear BK335
 clear HB
 revert n0_ n1_ n2_ n3_ n4_ n5_ n6_ n7_ n8_ n9_ n10_ n11_ n12_ n13_ n14_
 intro HO305 HO308 HO313 HO316 HO322 HO325 HO331 HO334 HO341 HO344 BK297 BK298 BK326 BK335 HB
 refine start_ (n := 5) (S := fun w' => w'.cell? ⟨gb335, 0, none⟩ = some (.int .i64 t327) ∧ w'.cell? ⟨gb335, 1, none⟩ = some (.int .i64 t328) ∧ w'.cell? ⟨gb335, 2, none⟩ = some (.slice Ao48 t329.length co48) ∧ w'.cell? ⟨gb335, 3, none⟩ = some (.slice Ao49 t332.length co49) ∧ w'.cell? ⟨gb298, 0, none⟩ = some (.int .i64 a1_0) ∧ w'.cell? ⟨gb298, 1, none⟩ = some (.int .i64 a1_1) ∧ w'.cell? ⟨gb298, 2, none⟩ = some (.slice A1_2 l1_2.length c1_2) ∧ w'.cell? ⟨gb298, 3, none⟩ = some (.slice A1_3 l1_3.length c1_3)) (ds := []) #[false,false,false,false,false] kr rfl rfl ⟨(blk_cell BK335.out 0).trans rfl, (blk_cell BK335.out 1).trans rfl, (blk_cell BK335.out 2).trans rfl, (blk_cell BK335.out 3).trans rfl, (blk_cell BK298.out 0).trans rfl, (blk_cell BK298.out 1).trans rfl, (blk_cell BK298.out 2).trans rfl, (blk_cell BK298.out 3).trans rfl⟩ (fun hHeld => ?_)
 generalize w60.drew = w65 at HO305 HO308 HO313 HO316 HO322 HO325 HO331 HO334 HO341 HO344 BK297 BK298 BK326 BK335 HB hHeld ⊢
 refine take_ (i := 0) (N := some 40) (v := ?_) (a' := ?_) (bm 5 1) rfl rfl kr qi (Or.inl ⟨by rfl, ?_⟩) hHeld ?_ ?_
 rotate_left
 ·rintro w' ⟨s0, s1, s2, s3, s4, s5, s6, s7⟩
  go_simp
  with_reducible rfl
 rotate_left
 ·simp only [sx]
  rfl
 refine take_ (i := 1) (N := some 41) (v := ?_) (a' := ?_) (bm 5 3) rfl rfl kr qi (Or.inl ⟨by rfl, ?_⟩) hHeld ?_ ?_
 rotate_left
 ·rintro w' ⟨s0, s1, s2, s3, s4, s5, s6, s7⟩
  go_simp
  with_reducible rfl
 rotate_left
 ·simp only [sx]
  rfl
 refine one_ (i := 2) (N := some 42) (bm 5 7) rfl rfl kr (by decide) (fun K hK => ?_)
 refine goes_ Try.func8 kr rfl #[.agg #[.int .i64 a1_0, .int .i64 a1_1, .slice A1_2 l1_2.length c1_2, .slice A1_3 l1_3.length c1_3]] (by rfl) rfl rfl mpw ?_
 with_reducible refine (laws_toValue.calls k a1_0 a1_1 _ _ l1_2 _ _ l1_3 t346 t347 t348 t351 _ ?side1 ?side2 ?side3 ?side4 A62.out).mono ?_
 (case side1 => have X_ := HR1_2; exact cbl)
 (case side2 => exact HC1_2.out)
 (case side3 => have X_ := HR1_3; exact cbl)
 (case side4 => exact HC1_3.out)
 rintro e w66 ⟨v349, v352, rfl, ho0, ho1, hb⟩
 refine ⟨_, rfl, ?_⟩
 have n0_ := am (Kd.R_elder' (by (with_reducible repeat (first | apply Kd.R_alloc | apply Kd.R_drewN | apply Kd.R_drew)); exact HO305.out) (Kd.R_base ho0) hb)
 have n1_ := am (Kd.R_mono (Kd.R_told (Kd.R_told (Kd.R_old (by (with_reducible repeat (first | apply Kd.R_alloc | apply Kd.R_drewN | apply Kd.R_drew)); exact HO308.out) hb) (Kd.R_base ho0)) (Kd.R_base ho1)) (fun _ h_ => h_.1))
 have n2_ := am (Kd.R_elder' (by (with_reducible repeat (first | apply Kd.R_alloc | apply Kd.R_drewN | apply Kd.R_drew)); exact HO313.out) (Kd.R_base ho0) hb)
 have n3_ := am (Kd.R_mono (Kd.R_told (Kd.R_told (Kd.R_old (by (with_reducible repeat (first | apply Kd.R_alloc | apply Kd.R_drewN | apply Kd.R_drew)); exact HO316.out) hb) (Kd.R_base ho0)) (Kd.R_base ho1)) (fun _ h_ => h_.1))
 have n4_ := am (Kd.R_elder' (by (with_reducible repeat (first | apply Kd.R_alloc | apply Kd.R_drewN | apply Kd.R_drew)); exact HO322.out) (Kd.R_base ho0) hb)
 have n5_ := am (Kd.R_mono (Kd.R_told (Kd.R_told (Kd.R_old (by (with_reducible repeat (first | apply Kd.R_alloc | apply Kd.R_drewN | apply Kd.R_drew)); exact HO325.out) hb) (Kd.R_base ho0)) (Kd.R_base ho1)) (fun _ h_ => h_.1))
 have n6_ := am (Kd.R_elder' (by (with_reducible repeat (first | apply Kd.R_alloc | apply Kd.R_drewN | apply Kd.R_drew)); exact HO331.out) (Kd.R_base ho0) hb)
 have n7_ := am (Kd.R_mono (Kd.R_told (Kd.R_told (Kd.R_old (by (with_reducible repeat (first | apply Kd.R_alloc | apply Kd.R_drewN | apply Kd.R_drew)); exact HO334.out) hb) (Kd.R_base ho0)) (Kd.R_base ho1)) (fun _ h_ => h_.1))
 have n8_ := am (Kd.R_elder' (by (with_reducible repeat (first | apply Kd.R_alloc | apply Kd.R_drewN | apply Kd.R_drew)); exact HO341.out) (Kd.R_base ho0) hb)
 have n9_ := am (Kd.R_mono (Kd.R_told (Kd.R_told (Kd.R_old (by (with_reducible repeat (first | apply Kd.R_alloc | apply Kd.R_drewN | apply Kd.R_drew)); exact HO344.out) hb) (Kd.R_base ho0)) (Kd.R_base ho1)) (fun _ h_ => h_.1))
 have n10_ := am (Kd.R_lower (Kd.R_new' (Kd.R_new' (Kd.R_new' (Kd.R_new' (Kd.R_new' ho0 (Kd.R_lt (by (with_reducible repeat (first | apply Kd.R_alloc | apply Kd.R_drewN | apply Kd.R_drew)); exact HO305.out))) (Kd.R_lt (by (with_reducible repeat (first | apply Kd.R_alloc | apply Kd.R_drewN | apply Kd.R_drew)); exact HO313.out))) (Kd.R_lt (by (with_reducible repeat (first | apply Kd.R_alloc | apply Kd.R_drewN | apply Kd.R_drew)); exact HO322.out))) (Kd.R_lt (by (with_reducible repeat (first | apply Kd.R_alloc | apply Kd.R_drewN | apply Kd.R_drew)); exact HO331.out))) (Kd.R_lt (by (with_reducible repeat (first | apply Kd.R_alloc | apply Kd.R_drewN | apply Kd.R_drew)); exact HO341.out))) (below_size blw))
 have n11_ := am (Kd.R_lower (Kd.R_newB (Kd.R_newB (Kd.R_new' (Kd.R_new' (Kd.R_new' (Kd.R_new' (Kd.R_new' (Kd.R_new' (Kd.R_new' (Kd.R_new' (Kd.R_new' (Kd.R_new' ho1 (Kd.R_lt (by (with_reducible repeat (first | apply Kd.R_alloc | apply Kd.R_drewN | apply Kd.R_drew)); exact HO305.out))) (Kd.R_lt (by (with_reducible repeat (first | apply Kd.R_alloc | apply Kd.R_drewN | apply Kd.R_drew)); exact HO308.out))) (Kd.R_lt (by (with_reducible repeat (first | apply Kd.R_alloc | apply Kd.R_drewN | apply Kd.R_drew)); exact HO313.out))) (Kd.R_lt (by (with_reducible repeat (first | apply Kd.R_alloc | apply Kd.R_drewN | apply Kd.R_drew)); exact HO316.out))) (Kd.R_lt (by (with_reducible repeat (first | apply Kd.R_alloc | apply Kd.R_drewN | apply Kd.R_drew)); exact HO322.out))) (Kd.R_lt (by (with_reducible repeat (first | apply Kd.R_alloc | apply Kd.R_drewN | apply Kd.R_drew)); exact HO325.out))) (Kd.R_lt (by (with_reducible repeat (first | apply Kd.R_alloc | apply Kd.R_drewN | apply Kd.R_drew)); exact HO331.out))) (Kd.R_lt (by (with_reducible repeat (first | apply Kd.R_alloc | apply Kd.R_drewN | apply Kd.R_drew)); exact HO334.out))) (Kd.R_lt (by (with_reducible repeat (first | apply Kd.R_alloc | apply Kd.R_drewN | apply Kd.R_drew)); exact HO341.out))) (Kd.R_lt (by (with_reducible repeat (first | apply Kd.R_alloc | apply Kd.R_drewN | apply Kd.R_drew)); exact HO344.out))) (g := gb326) (o := .cells #[.int .i64 t318, .int .i64 t319, .slice Ao39 t320.length co39, .slice Ao40 t323.length co40] 30 (0, 0)) bkw) (g := gb335) (o := .cells #[.int .i64 t327, .int .i64 t328, .slice Ao48 t329.length co48, .slice Ao49 t332.length co49] 30 (0, 0)) bkw) (below_size blw))
 have n12_ := am (blk_below (g := gb297) bkw hb)
 have n13_ := am (blk_below (g := gb298) bkw hb)
 have n14_ := am (blk_below (g := gb326) bkw hb)
 have n15_ := am (blk_below (g := gb335) bkw hb)
 have n16_ := am (below_step blw hb)
 clear HO305
 clear HO308
 clear HO313
 clear HO316
 clear HO322
 clear HO325
 clear HO331
 clear HO334
 clear HO341
 clear HO344
 clear BK297
 clear BK298
 clear BK326
 clear BK335
 clear HB
 revert n0_ n1_ n2_ n3_ n4_ n5_ n6_ n7_ n8_ n9_ n10_ n11_ n12_ n13_ n14_ n15_ n16_
 intro HO305 HO308 HO313 HO316 HO322 HO325 HO331 HO334 HO341 HO344 HO350 HO353 BK297 BK298 BK326 BK335 HB
 (try clear hb)
 (try clear hb2)
 (try clear hk)
 (try clear hi)
 (try clear ho0)
 (try clear ho1)
 obtain ⟨Ao67, co67, eo67⟩ := Kd.R_slice HO350.out
 (first | subst eo67 | (injection eo67 with f1_ f2_ f3_; have f4_ := f1_.symm; have f5_ := f3_.symm; clear f1_ f2_ f3_; subst f4_; subst f5_))
 obtain ⟨Ao68, co68, eo68⟩ := Kd.R_slice HO353.out
 (first | subst eo68 | (injection eo68 with f1_ f2_ f3_; have f4_ := f1_.symm; have f5_ := f3_.symm; clear f1_ f2_ f3_; subst f4_; subst f5_))
 refine hK.out _ _ ⟨(blk_cell BK335.out 0).trans rfl, (blk_cell BK335.out 1).trans rfl, (blk_cell BK335.out 2).trans rfl, (blk_cell BK335.out 3).trans rfl, (blk_cell BK298.out 0).trans rfl, (blk_cell BK298.out 1).trans rfl, (blk_cell BK298.out 2).trans rfl, (blk_cell BK298.out 3).trans rfl⟩ (fun hHeld => ?_)
 clear hK K
 refine norm_ (a' := ?_) ?_ ?_
 rotate_left
 ·show Act.put _ (some 42) _ = _
  simp only [sx]
  rfl
 refine one_ (i := 3) (N := some 43) (bm 5 15) rfl rfl kr (by decide) (fun K hK => ?_)
 refine goes_ Try.func10 kr rfl #[.agg #[.int .i64 t327, .int .i64 t328, .slice Ao48 t329.length co48, .slice Ao49 t332.length co49], .agg #[.int .i64 t346, .int .i64 t347, .slice Ao67 t348.length co67, .slice Ao68 t351.length co68]] (by rfl) rfl rfl mpw ?_
 with_reducible refine (laws_eqValue.calls k t327 t328 _ _ t329 _ _ t332 t346 t347 _ _ t348 _ _ t351 t354 _ ?side1 ?side2 ?side3 ?side4 ?side5 ?side6 ?side7 ?side8 A63.out).mono ?_
 (case side1 => repeat (first | exact (Kd.R_reads' HO331.out).2.2 | (with_reducible refine Kd.C_alloc ?_ _) | (with_reducible refine Kd.C_drewN ?_ _) | (with_reducible refine Kd.C_drew ?_)))
 (case side2 => exact (Kd.R_reads' HO331.out).2.1)
 (case side3 => repeat (first | exact (Kd.R_reads' HO334.out).2.2 | (with_reducible refine Kd.C_alloc ?_ _) | (with_reducible refine Kd.C_drewN ?_ _) | (with_reducible refine Kd.C_drew ?_)))
 (case side4 => exact (Kd.R_reads' HO334.out).2.1)
 (case side5 => repeat (first | exact (Kd.R_reads' HO350.out).2.2 | (with_reducible refine Kd.C_alloc ?_ _) | (with_reducible refine Kd.C_drewN ?_ _) | (with_reducible refine Kd.C_drew ?_)))
 (case side6 => exact (Kd.R_reads' HO350.out).2.1)
 (case side7 => repeat (first | exact (Kd.R_reads' HO353.out).2.2 | (with_reducible refine Kd.C_alloc ?_ _) | (with_reducible refine Kd.C_drewN ?_ _) | (with_reducible refine Kd.C_drew ?_)))
 (case side8 => exact (Kd.R_reads' HO353.out).2.1)
 rintro e w69 ⟨rfl, hb⟩
 refine ⟨_, rfl, ?_⟩
 have n0_ := am (Kd.R_below (by (with_reducible repeat (first | apply Kd.R_alloc | apply Kd.R_drewN | apply Kd.R_drew)); exact HO305.out) hb)
 have n1_ := am (Kd.R_below (by (with_reducible repeat (first | apply Kd.R_alloc | apply Kd.R_drewN | apply Kd.R_drew)); exact HO308.out) hb)
 have n2_ := am (Kd.R_below (by (with_reducible repeat (first | apply Kd.R_alloc | apply Kd.R_drewN | apply Kd.R_drew)); exact HO313.out) hb)
 have n3_ := am (Kd.R_below (by (with_reducible repeat (first | apply Kd.R_alloc | apply Kd.R_drewN | apply Kd.R_drew)); exact HO316.out) hb)
 have n4_ := am (Kd.R_below (by (with_reducible repeat (first | apply Kd.R_alloc | apply Kd.R_drewN | apply Kd.R_drew)); exact HO322.out) hb)
 have n5_ := am (Kd.R_below (by (with_reducible repeat (first | apply Kd.R_alloc | apply Kd.R_drewN | apply Kd.R_drew)); exact HO325.out) hb)
 have n6_ := am (Kd.R_below (by (with_reducible repeat (first | apply Kd.R_alloc | apply Kd.R_drewN | apply Kd.R_drew)); exact HO331.out) hb)
 have n7_ := am (Kd.R_below (by (with_reducible repeat (first | apply Kd.R_alloc | apply Kd.R_drewN | apply Kd.R_drew)); exact HO334.out) hb)
 have n8_ := am (Kd.R_below (by (with_reducible repeat (first | apply Kd.R_alloc | apply Kd.R_drewN | apply Kd.R_drew)); exact HO341.out) hb)
 have n9_ := am (Kd.R_below (by (with_reducible repeat (first | apply Kd.R_alloc | apply Kd.R_drewN | apply Kd.R_drew)); exact HO344.out) hb)
 have n10_ := am (Kd.R_below (by (with_reducible repeat (first | apply Kd.R_alloc | apply Kd.R_drewN | apply Kd.R_drew)); exact HO350.out) hb)
 have n11_ := am (Kd.R_below (by (with_reducible repeat (first | apply Kd.R_alloc | apply Kd.R_drewN | apply Kd.R_drew)); exact HO353.out) hb)
 have n12_ := am (blk_below (g := gb297) bkw hb)
 have n13_ := am (blk_below (g := gb298) bkw hb)
 have n14_ := am (blk_below (g := gb326) bkw hb)
 have n15_ := am (blk_below (g := gb335) bkw hb)
 have n16_ := am (below_step blw hb)
 clear HO305
 clear HO308
 clear HO313
 clear HO316
 clear HO322
 clear HO325
 clear HO331
 clear HO334
 clear HO341
 clear HO344
 clear HO350
 clear HO353
 clear BK297
 clear BK298
 clear BK326
 clear BK335
 clear HB
 revert n0_ n1_ n2_ n3_ n4_ n5_ n6_ n7_ n8_ n9_ n10_ n11_ n12_ n13_ n14_ n15_ n16_
 intro HO305 HO308 HO313 HO316 HO322 HO325 HO331 HO334 HO341 HO344 HO350 HO353 BK297 BK298 BK326 BK335 HB
 (try clear hb)
 (try clear hb2)
 (try clear hk)
 (try clear hi)
 refine hK.out _ _ ⟨(blk_cell BK335.out 0).trans rfl, (blk_cell BK335.out 1).trans rfl, (blk_cell BK335.out 2).trans rfl, (blk_cell BK335.out 3).trans rfl, (blk_cell BK298.out 0).trans rfl, (blk_cell BK298.out 1).trans rfl, (blk_cell BK298.out 2).trans rfl, (blk_cell BK298.out 3).trans rfl⟩ (fun hHeld => ?_)
 clear hK K
 refine norm_ (a' := ?_) ?_ ?_
 rotate_left
 ·show Act.put _ (some 43) _ = _
  simp only [sx]
  rfl
 refine pure_ (i := 4) (N := some 44) (v := ?_) (a' := ?_) (bm 5 31) rfl rfl kr qi (Or.inl ⟨by rfl, ?_⟩) ?_ ?_
 rotate_left
 ·intro w'
  go_simp
  with_reducible rfl
 rotate_left
 ·simp only [sx]
  rfl
 refine done_ kr ?_
 go_upto_if 44 with (fail)
 have H := HC64.out
 clear HC64
 by_cases c70 : t354 = true
 ·subst c70
  have H1 : (some true) = some r := by rw [if_pos rfl] at H; exact H
  clear H
  have H := H1
  clear H1
  obtain rfl := Option.some.inj H
  go_wp2
  go_ret
  exact ⟨rfw, blw⟩
 replace c70 := Bool.eq_false_iff.mpr c70
 subst c70
 have H1 : (some false) = some r := by rw [if_neg (show ¬ (false = true) by decide)] at H; exact H
 clear H
 have H := H1
 clear H1
 obtain rfl := Option.some.inj H
 go_wp2
 go_ret
 exact ⟨rfw, blw⟩

/-- THE ONE PURE STATEMENT of laws_FnExactSameBag. -/
def laws_FnExactSameBag.Pure : Prop := ∀ (a0_0 : Int) (a0_1 : Int) (l0_2 : List ByteArray) (l0_3 : List (S25)) (a1_0 : Int) (a1_1 : Int) (l1_2 : List ByteArray) (l1_3 : List (S25)), W25 (⟨a0_0, a0_1, l0_2, l0_3⟩ : S25) → W25 (⟨a1_0, a1_1, l1_2, l1_3⟩ : S25) → ∃ k, laws_FnExactSameBag.f k a0_0 a0_1 l0_2 l0_3 a1_0 a1_1 l1_2 l1_3 = some true

end Go.Proofs.Ytonimhfahjediaa.Pc
end
section
namespace Go.Proofs.Ytonimhfahjediaa.Pc
open Go.RowKit Go.Proofs.Ytonimhfahjediaa.Ext Go.Proofs.YtonimhfahjediaaW.PrintWords Go.Proofs.YtonimhfahjediaaW.PrintLast Go.Proofs.YtonimhfahjediaaW.PrintMore
attribute [local go_sem] max2_int min2_int max_two min_two max_three min_three max_four min_four   -- for this text's walks alone
set_option linter.unusedVariables false
set_option linter.unusedSimpArgs false

def spec_CountIn.T5 : Bool × List (List Nat × List Nat) := (true, [([], []), ([], []), ([1], [1]), ([], []), ([2, 3], [2, 3]), ([4], [4]), ([], []), ([5, 6], [5, 6]), ([7, 7], [7]), ([0, 8], [0, 8]), ([9, 8, 0, 1, 2, 3, 4, 5, 6, 7, 8, 9], [0, 9])])
def spec_CountIn.B5 : List Nat := [0, 0, 2, 0, 14, 30, 0, 126, 254, 511, 1023]
theorem spec_CountIn.tab5 : rtab .any (opsOf Try.f11 5) = spec_CountIn.T5 := by kernel_rfl
theorem spec_CountIn.bits5 : waitsOk spec_CountIn.T5.2 spec_CountIn.B5 = true := by kernel_rfl
end Go.Proofs.Ytonimhfahjediaa.Pc
end
