/- Printed by a program of this session: what functions of the translation come to, each contract as it stands. No condition. -/
import Derived.Test.YtfbecaplnigmaaaZIsDBSh
import Derived.Test.YtfbecaplnigmaaaZIsDBPx0M
import Derived.Test.YtfbecaplnigmaaaZIsDBPx9M
import Derived.Test.YtfbecaplnigmaaaZIsDBPx11
import Derived.Test.YtfbecaplnigmaaaZIsDBPx12
import Derived.Test.YtfbecaplnigmaaaZIsDBPx21
import Derived.Test.YtfbecaplnigmaaaZIsDBPx22M
import Derived.Test.YtfbecaplnigmaaaZIsDBPx24M
import Derived.Test.YtfbecaplnigmaaaZIsDBWWords
import Derived.Test.YtfbecaplnigmaaaZIsDBWLastM
section
namespace Go.Proofs.Ytfbecaplnigmaaa.Px
open Go.RowKit Go.Proofs.Ytfbecaplnigmaaa.Ext Go.Proofs.YtfbecaplnigmaaaW.PrintWords Go.Proofs.YtfbecaplnigmaaaW.PrintLast Go.Proofs.YtfbecaplnigmaaaW.PrintMore
attribute [local go_sem] max2_int min2_int max_two min_two max_three min_three max_four min_four   -- for this text's walks alone
set_option linter.unusedVariables false
set_option linter.unusedSimpArgs false

/-! ### laws_FnExactIsDB: function 3 -/
def laws_FnExactIsDB.f (k : Nat) (l0_0 : List (S69)) (l1_0 : List (S73)) : Option (Bool) := (laws_szSchema.f k l0_0 1048576).bind fun t414 => (if t414 < 0 then (some true) else ((laws_szDB.f k l1_0 t414).bind fun t415 => (if t415 < 0 then (some true) else ((laws_toSchema.f k l0_0).bind fun t416 => ((laws_toDB.f k l1_0).bind fun t419 => ((spec_IsDB.f k t416 t419).bind fun t422 => ((laws_toSchema.f k l0_0).bind fun t423 => ((laws_toDB.f k l1_0).bind fun t427 => ((impl_IsDB.f k t423 t427).bind fun t431 => (if (t431 != t422) = true then (some false) else ((laws_toSchema.f k l0_0).bind fun t432 => ((laws_eqSchema.f k t423 t432).bind fun t435 => (if t435 = true then ((laws_toDB.f k l1_0).bind fun t436 => ((laws_eqDB.f k t427 t436).bind fun t439 => (if t439 = true then (some true) else (some false)))) else (some false))))))))))))))
set_option maxHeartbeats 8000000 in
set_option maxRecDepth 100000 in
theorem laws_FnExactIsDB.calls (k : Nat) (A0_0 : Option Addr) (c0_0 : Nat) (l0_0 : List (S69)) (A1_0 : Option Addr) (c1_0 : Nat) (l1_0 : List (S73)) (r : Bool) (w : World) (hr0_0 : Kd.C k69 w A0_0 l0_0.length l0_0) (hc0_0 : l0_0.length ≤ c0_0) (hr1_0 : Kd.C k73 w A1_0 l1_0.length l1_0) (hc1_0 : l1_0.length ≤ c1_0) (h : laws_FnExactIsDB.f k l0_0 l1_0 = some r) :
  Calls Try.prog 3 #[.agg #[.slice A0_0 l0_0.length c0_0], .agg #[.slice A1_0 l1_0.length c1_0]] w fun e w' => e = .returned (.bool r) ∧ Below w.heap.size w w' := by
 have hu24 := Try.underlying24
 have hu27 := Try.underlying27
 have hu33 := Try.underlying33
 have hu37 := Try.underlying37
 have HR0_0 := Aside0.mk hr0_0
 have HC0_0 := Aside0.mk hc0_0
 clear hr0_0 hc0_0
 have HR1_0 := Aside0.mk hr1_0
 have HC1_0 := Aside0.mk hc1_0
 clear hr1_0 hc1_0
 have HB := Aside0.mk (Below.refl w.heap.size w)
 have H : ((laws_szSchema.f k l0_0 1048576).bind fun t414 => (if t414 < 0 then (some true) else ((laws_szDB.f k l1_0 t414).bind fun t415 => (if t415 < 0 then (some true) else ((laws_toSchema.f k l0_0).bind fun t416 => ((laws_toDB.f k l1_0).bind fun t419 => ((spec_IsDB.f k t416 t419).bind fun t422 => ((laws_toSchema.f k l0_0).bind fun t423 => ((laws_toDB.f k l1_0).bind fun t427 => ((impl_IsDB.f k t423 t427).bind fun t431 => (if (t431 != t422) = true then (some false) else ((laws_toSchema.f k l0_0).bind fun t432 => ((laws_eqSchema.f k t423 t432).bind fun t435 => (if t435 = true then ((laws_toDB.f k l1_0).bind fun t436 => ((laws_eqDB.f k t427 t436).bind fun t439 => (if t439 = true then (some true) else (some false)))) else (some false))))))))))))))) = some r := h
 clear h
 replace H := Option.bind_eq_some_iff.mp H
 obtain ⟨t414, A30, H⟩ := H
 replace H : (if t414 < 0 then (some true) else ((laws_szDB.f k l1_0 t414).bind fun t415 => (if t415 < 0 then (some true) else ((laws_toSchema.f k l0_0).bind fun t416 => ((laws_toDB.f k l1_0).bind fun t419 => ((spec_IsDB.f k t416 t419).bind fun t422 => ((laws_toSchema.f k l0_0).bind fun t423 => ((laws_toDB.f k l1_0).bind fun t427 => ((impl_IsDB.f k t423 t427).bind fun t431 => (if (t431 != t422) = true then (some false) else ((laws_toSchema.f k l0_0).bind fun t432 => ((laws_eqSchema.f k t423 t432).bind fun t435 => (if t435 = true then ((laws_toDB.f k l1_0).bind fun t436 => ((laws_eqDB.f k t427 t436).bind fun t439 => (if t439 = true then (some true) else (some false)))) else (some false)))))))))))))) = some r := H
 have A3 := Aside0.mk A30
 clear A30
 have HC4 := Aside0.mk H
 clear H
 go_enter Try.func3, Try.ntmps3
 go_upto_if 14 with (first | ((with_reducible refine gate_dst (N := 2) rfl ?_); refine box_event ?hg (N := 2) ?hd (cs := #[.slice A0_0 l0_0.length c0_0]) (t := 24) ?hr ?_; (case hd => rfl); (case hg => rfl); (case hr => exact hrw); intro gb412 hg w5 hbox hb; have n0_ := Aside0.mk (below_step blw hb); have n1_ := Aside0.mk (hbox); have n2_ := Aside0.mk ((by rw [hg]; exact (below_size blw) : w.heap.size ≤ gb412)); have n3_ := n2_; clear HB; revert n0_ n1_ n2_ n3_; intro HB BK412 GW412 GE412; clear hb hbox hg) | ((with_reducible refine gate_dst (N := 3) rfl ?_); refine box_event ?hg (N := 3) ?hd (cs := #[.slice A1_0 l1_0.length c1_0]) (t := 27) ?hr ?_; (case hd => rfl); (case hg => rfl); (case hr => exact hrw); intro gb413 hg w6 hbox hb; have n0_ := Aside0.mk (blk_below (g := gb412) (o := .cells #[.slice A0_0 l0_0.length c0_0] 24 (0, 0)) bkw hb); have n1_ := Aside0.mk (below_step blw hb); have n2_ := Aside0.mk (hbox); have n3_ := Aside0.mk ((by rw [hg]; exact (below_size blw) : w.heap.size ≤ gb413)); have n4_ := n3_; have n5_ := Aside0.mk ((by rw [hg]; exact Nat.ne_of_lt (blk_lt (g := gb412) (o := .cells #[.slice A0_0 l0_0.length c0_0] 24 (0, 0)) bkw) : gb412 ≠ gb413)); have n6_ := Aside0.mk ((by rw [hg]; exact Nat.ne_of_gt (blk_lt (g := gb412) (o := .cells #[.slice A0_0 l0_0.length c0_0] 24 (0, 0)) bkw) : gb413 ≠ gb412)); clear BK412; clear HB; revert n0_ n1_ n2_ n3_ n4_ n5_ n6_; intro BK412 HB BK413 GW413 GE413 NB412_413 NB413_412; clear hb hbox hg; have hnb7 := NB412_413.out; have hnc7 := NB413_412.out; have hcz8_0 : w6.cell? ⟨gb412, 0, none⟩ = some (.slice A0_0 l0_0.length c0_0) := (blk_cell BK412.out 0).trans rfl; have hfz8_0 := blk_frozen BK412.out 0) | ((with_reducible refine gate_callee (f := 4) rfl ?_); refine goesL_ (some 12) rfl rfl Try.func4 kr rfl #[.agg #[.slice A0_0 l0_0.length c0_0], .int .i64 1048576] rfl mpw ?_; (with_reducible refine (laws_szSchema.calls k _ _ l0_0 1048576 t414 _ ?side1 ?side2 A3.out).mono ?_); (case side1 => have X_ := HR0_0; exact cbl); (case side2 => exact HC0_0.out); rintro e w9 ⟨rfl, hb⟩; refine ⟨_, rfl, ?_⟩; have n0_ := Aside0.mk (blk_below (g := gb412) (o := .cells #[.slice A0_0 l0_0.length c0_0] 24 (0, 0)) bkw hb); have n1_ := Aside0.mk (blk_below (g := gb413) (o := .cells #[.slice A1_0 l1_0.length c1_0] 27 (0, 0)) bkw hb); have n2_ := Aside0.mk (below_step blw hb); clear BK412; clear BK413; clear HB; revert n0_ n1_ n2_; intro BK412 BK413 HB; (try clear hb); (try clear hb2); (try clear hk); (try clear hi)))
 have H := HC4.out
 clear HC4
 by_cases c10 : t414 < 0
 ·rw [if_pos c10] at H
  have c10b0 : decide (t414 < 0) = true := decide_eq_true c10
  clear c10
  (first | rw [c10b0] | (simp only [i64_w, i32_w]; rw [c10b0]) | skip)
  obtain rfl := Option.some.inj H
  go_wp2
  go_ret
  exact ⟨rfw, blw⟩
 rw [if_neg c10] at H
 have c10b0 : decide (t414 < 0) = false := decide_eq_false c10
 clear c10
 (first | rw [c10b0] | (simp only [i64_w, i32_w]; rw [c10b0]) | skip)
 replace H := Option.bind_eq_some_iff.mp H
 obtain ⟨t415, A110, H⟩ := H
 replace H : (if t415 < 0 then (some true) else ((laws_toSchema.f k l0_0).bind fun t416 => ((laws_toDB.f k l1_0).bind fun t419 => ((spec_IsDB.f k t416 t419).bind fun t422 => ((laws_toSchema.f k l0_0).bind fun t423 => ((laws_toDB.f k l1_0).bind fun t427 => ((impl_IsDB.f k t423 t427).bind fun t431 => (if (t431 != t422) = true then (some false) else ((laws_toSchema.f k l0_0).bind fun t432 => ((laws_eqSchema.f k t423 t432).bind fun t435 => (if t435 = true then ((laws_toDB.f k l1_0).bind fun t436 => ((laws_eqDB.f k t427 t436).bind fun t439 => (if t439 = true then (some true) else (some false)))) else (some false)))))))))))) = some r := H
 have A11 := Aside0.mk A110
 clear A110
 have HC12 := Aside0.mk H
 clear H
 have hnb13 := NB413_412.out
 have hnc13 := NB412_413.out
 have hcz14_0 : w9.cell? ⟨gb413, 0, none⟩ = some (.slice A1_0 l1_0.length c1_0) := (blk_cell BK413.out 0).trans rfl
 have hfz14_0 := blk_frozen BK413.out 0
 go_upto_if 19 with (first | ((with_reducible refine gate_callee (f := 5) rfl ?_); refine goesL_ (some 17) rfl rfl Try.func5 kr rfl #[.agg #[.slice A1_0 l1_0.length c1_0], .int .i64 t414] rfl mpw ?_; (with_reducible refine (laws_szDB.calls k _ _ l1_0 t414 t415 _ ?side1 ?side2 A11.out).mono ?_); (case side1 => have X_ := HR1_0; exact cbl); (case side2 => exact HC1_0.out); rintro e w15 ⟨rfl, hb⟩; refine ⟨_, rfl, ?_⟩; have n0_ := Aside0.mk (blk_below (g := gb412) (o := .cells #[.slice A0_0 l0_0.length c0_0] 24 (0, 0)) bkw hb); have n1_ := Aside0.mk (blk_below (g := gb413) (o := .cells #[.slice A1_0 l1_0.length c1_0] 27 (0, 0)) bkw hb); have n2_ := Aside0.mk (below_step blw hb); clear BK412; clear BK413; clear HB; revert n0_ n1_ n2_; intro BK412 BK413 HB; (try clear hb); (try clear hb2); (try clear hk); (try clear hi)))
 have H := HC12.out
 clear HC12
 by_cases c16 : t415 < 0
 ·rw [if_pos c16] at H
  have c16b0 : decide (t415 < 0) = true := decide_eq_true c16
  clear c16
  (first | rw [c16b0] | (simp only [i64_w, i32_w]; rw [c16b0]) | skip)
  obtain rfl := Option.some.inj H
  go_wp2
  go_ret
  exact ⟨rfw, blw⟩
 rw [if_neg c16] at H
 have c16b0 : decide (t415 < 0) = false := decide_eq_false c16
 clear c16
 (first | rw [c16b0] | (simp only [i64_w, i32_w]; rw [c16b0]) | skip)
 replace H := Option.bind_eq_some_iff.mp H
 obtain ⟨t416, A170, H⟩ := H
 replace H : ((laws_toDB.f k l1_0).bind fun t419 => ((spec_IsDB.f k t416 t419).bind fun t422 => ((laws_toSchema.f k l0_0).bind fun t423 => ((laws_toDB.f k l1_0).bind fun t427 => ((impl_IsDB.f k t423 t427).bind fun t431 => (if (t431 != t422) = true then (some false) else ((laws_toSchema.f k l0_0).bind fun t432 => ((laws_eqSchema.f k t423 t432).bind fun t435 => (if t435 = true then ((laws_toDB.f k l1_0).bind fun t436 => ((laws_eqDB.f k t427 t436).bind fun t439 => (if t439 = true then (some true) else (some false)))) else (some false)))))))))) = some r := H
 have A17 := Aside0.mk A170
 clear A170
 replace H := Option.bind_eq_some_iff.mp H
 obtain ⟨t419, A180, H⟩ := H
 replace H : ((spec_IsDB.f k t416 t419).bind fun t422 => ((laws_toSchema.f k l0_0).bind fun t423 => ((laws_toDB.f k l1_0).bind fun t427 => ((impl_IsDB.f k t423 t427).bind fun t431 => (if (t431 != t422) = true then (some false) else ((laws_toSchema.f k l0_0).bind fun t432 => ((laws_eqSchema.f k t423 t432).bind fun t435 => (if t435 = true then ((laws_toDB.f k l1_0).bind fun t436 => ((laws_eqDB.f k t427 t436).bind fun t439 => (if t439 = true then (some true) else (some false)))) else (some false))))))))) = some r := H
 have A18 := Aside0.mk A180
 clear A180
 replace H := Option.bind_eq_some_iff.mp H
 obtain ⟨t422, A190, H⟩ := H
 replace H : ((laws_toSchema.f k l0_0).bind fun t423 => ((laws_toDB.f k l1_0).bind fun t427 => ((impl_IsDB.f k t423 t427).bind fun t431 => (if (t431 != t422) = true then (some false) else ((laws_toSchema.f k l0_0).bind fun t432 => ((laws_eqSchema.f k t423 t432).bind fun t435 => (if t435 = true then ((laws_toDB.f k l1_0).bind fun t436 => ((laws_eqDB.f k t427 t436).bind fun t439 => (if t439 = true then (some true) else (some false)))) else (some false)))))))) = some r := H
 have A19 := Aside0.mk A190
 clear A190
 replace H := Option.bind_eq_some_iff.mp H
 obtain ⟨t423, A200, H⟩ := H
 replace H : ((laws_toDB.f k l1_0).bind fun t427 => ((impl_IsDB.f k t423 t427).bind fun t431 => (if (t431 != t422) = true then (some false) else ((laws_toSchema.f k l0_0).bind fun t432 => ((laws_eqSchema.f k t423 t432).bind fun t435 => (if t435 = true then ((laws_toDB.f k l1_0).bind fun t436 => ((laws_eqDB.f k t427 t436).bind fun t439 => (if t439 = true then (some true) else (some false)))) else (some false))))))) = some r := H
 have A20 := Aside0.mk A200
 clear A200
 replace H := Option.bind_eq_some_iff.mp H
 obtain ⟨t427, A210, H⟩ := H
 replace H : ((impl_IsDB.f k t423 t427).bind fun t431 => (if (t431 != t422) = true then (some false) else ((laws_toSchema.f k l0_0).bind fun t432 => ((laws_eqSchema.f k t423 t432).bind fun t435 => (if t435 = true then ((laws_toDB.f k l1_0).bind fun t436 => ((laws_eqDB.f k t427 t436).bind fun t439 => (if t439 = true then (some true) else (some false)))) else (some false)))))) = some r := H
 have A21 := Aside0.mk A210
 clear A210
 replace H := Option.bind_eq_some_iff.mp H
 obtain ⟨t431, A220, H⟩ := H
 replace H : (if (t431 != t422) = true then (some false) else ((laws_toSchema.f k l0_0).bind fun t432 => ((laws_eqSchema.f k t423 t432).bind fun t435 => (if t435 = true then ((laws_toDB.f k l1_0).bind fun t436 => ((laws_eqDB.f k t427 t436).bind fun t439 => (if t439 = true then (some true) else (some false)))) else (some false))))) = some r := H
 have A22 := Aside0.mk A220
 clear A220
 have HC23 := Aside0.mk H
 clear H
 try go_wp2
 have n0_ := Aside0.mk (blk_drew BK412.out)
 have n1_ := Aside0.mk (blk_drew BK413.out)
 have n2_ := Aside0.mk (below_drew1 HB.out)
 clear BK412
 clear BK413
 clear HB
 revert n0_ n1_ n2_
 intro BK412 BK413 HB
 refine start_ (n := 6) (S := fun w' => w'.cell? ⟨gb412, 0, none⟩ = some (.slice A0_0 l0_0.length c0_0) ∧ w'.cell? ⟨gb413, 0, none⟩ = some (.slice A1_0 l1_0.length c1_0)) (ds := []) #[false,false,false,false,false,false] kr rfl rfl ⟨(blk_cell BK412.out 0).trans rfl, (blk_cell BK413.out 0).trans rfl⟩ (fun hHeld => ?_)
 generalize w15.drew = w24 at BK412 BK413 HB hHeld ⊢
 refine take_ (i := 0) (N := some 20) (v := ?_) (a' := ?_) (bm 6 1) rfl rfl kr qi (Or.inl ⟨by rfl, ?_⟩) hHeld ?_ ?_
 rotate_left
 ·rintro w' ⟨s0, s1⟩
  go_simp
  with_reducible rfl
 rotate_left
 ·simp only [sx]
  rfl
 refine take_ (i := 2) (N := some 22) (v := ?_) (a' := ?_) (bm 6 5) rfl rfl kr qi (Or.inl ⟨by rfl, ?_⟩) hHeld ?_ ?_
 rotate_left
 ·rintro w' ⟨s0, s1⟩
  go_simp
  with_reducible rfl
 rotate_left
 ·simp only [sx]
  rfl
 refine one_ (i := 1) (N := some 21) (bm 6 7) rfl rfl kr (by decide) (fun K hK => ?_)
 refine goes_ Try.func7 kr rfl #[.agg #[.slice A0_0 l0_0.length c0_0]] (by rfl) rfl rfl mpw ?_
 with_reducible refine (laws_toSchema.calls k _ _ l0_0 t416 _ ?side1 ?side2 A17.out).mono ?_
 (case side1 => have X_ := HR0_0; exact cbl)
 (case side2 => exact HC0_0.out)
 rintro e w25 ⟨v417, rfl, ho0, hb⟩
 refine ⟨_, rfl, ?_⟩
 have n0_ := Aside0.mk (Kd.R_lower ho0 (below_size blw))
 have n1_ := Aside0.mk (blk_below (g := gb412) (o := .cells #[.slice A0_0 l0_0.length c0_0] 24 (0, 0)) bkw hb)
 have n2_ := Aside0.mk (blk_below (g := gb413) (o := .cells #[.slice A1_0 l1_0.length c1_0] 27 (0, 0)) bkw hb)
 have n3_ := Aside0.mk (below_step blw hb)
 clear BK412
 clear BK413
 clear HB
 revert n0_ n1_ n2_ n3_
 intro HO418 BK412 BK413 HB
 (try clear hb)
 (try clear hb2)
 (try clear hk)
 (try clear hi)
 (try clear ho0)
 refine hK.out _ _ ⟨(blk_cell BK412.out 0).trans rfl, (blk_cell BK413.out 0).trans rfl⟩ (fun hHeld => ?_)
 clear hK K
 refine norm_ (a' := ?_) ?_ ?_
 rotate_left
 ·show Act.put _ (some 21) _ = _
  simp only [sx]
  rfl
 refine one_ (i := 3) (N := some 23) (bm 6 15) rfl rfl kr (by decide) (fun K hK => ?_)
 refine goes_ Try.func8 kr rfl #[.agg #[.slice A1_0 l1_0.length c1_0]] (by rfl) rfl rfl mpw ?_
 with_reducible refine (laws_toDB.calls k _ _ l1_0 t419 _ ?side1 ?side2 A18.out).mono ?_
 (case side1 => have X_ := HR1_0; exact cbl)
 (case side2 => exact HC1_0.out)
 rintro e w26 ⟨v420, rfl, ho0, hb⟩
 refine ⟨_, rfl, ?_⟩
 have n0_ := Aside0.mk (Kd.R_below (by (with_reducible repeat (first | apply Kd.R_alloc | apply Kd.R_drewN | apply Kd.R_drew)); exact HO418.out) hb)
 have n1_ := Aside0.mk (Kd.R_lower ho0 (below_size blw))
 have n2_ := Aside0.mk (blk_below (g := gb412) (o := .cells #[.slice A0_0 l0_0.length c0_0] 24 (0, 0)) bkw hb)
 have n3_ := Aside0.mk (blk_below (g := gb413) (o := .cells #[.slice A1_0 l1_0.length c1_0] 27 (0, 0)) bkw hb)
 have n4_ := Aside0.mk (below_step blw hb)
 clear HO418
 clear BK412
 clear BK413
 clear HB
 revert n0_ n1_ n2_ n3_ n4_
 intro HO418 HO421 BK412 BK413 HB
 (try clear hb)
 (try clear hb2)
 (try clear hk)
 (try clear hi)
 (try clear ho0)
 obtain ⟨Ao27, co27, eo27⟩ := Kd.R_slice HO418.out
 (first | subst eo27 | (injection eo27 with f1_ f2_ f3_; have f4_ := f1_.symm; have f5_ := f3_.symm; clear f1_ f2_ f3_; subst f4_; subst f5_))
 obtain ⟨Ao28, co28, eo28⟩ := Kd.R_slice HO421.out
 (first | subst eo28 | (injection eo28 with f1_ f2_ f3_; have f4_ := f1_.symm; have f5_ := f3_.symm; clear f1_ f2_ f3_; subst f4_; subst f5_))
 refine hK.out _ _ ⟨(blk_cell BK412.out 0).trans rfl, (blk_cell BK413.out 0).trans rfl⟩ (fun hHeld => ?_)
 clear hK K
 refine norm_ (a' := ?_) ?_ ?_
 rotate_left
 ·show Act.put _ (some 23) _ = _
  simp only [sx]
  rfl
 refine one_ (i := 4) (N := some 24) (bm 6 31) rfl rfl kr (by decide) (fun K hK => ?_)
 refine goes_ Try.func6 kr rfl #[.agg #[.slice Ao27 t416.length co27], .agg #[.slice Ao28 t419.length co28]] (by rfl) rfl rfl mpw ?_
 with_reducible refine (spec_IsDB.calls k _ _ t416 _ _ t419 t422 _ ?side1 ?side2 ?side3 ?side4 A19.out).mono ?_
 (case side1 => repeat (first | exact (Kd.R_reads' HO418.out).2.2 | (with_reducible refine Kd.C_alloc ?_ _) | (with_reducible refine Kd.C_drewN ?_ _) | (with_reducible refine Kd.C_drew ?_)))
 (case side2 => exact (Kd.R_reads' HO418.out).2.1)
 (case side3 => repeat (first | exact (Kd.R_reads' HO421.out).2.2 | (with_reducible refine Kd.C_alloc ?_ _) | (with_reducible refine Kd.C_drewN ?_ _) | (with_reducible refine Kd.C_drew ?_)))
 (case side4 => exact (Kd.R_reads' HO421.out).2.1)
 rintro e w29 ⟨rfl, hb⟩
 refine ⟨_, rfl, ?_⟩
 have n0_ := Aside0.mk (Kd.R_below (by (with_reducible repeat (first | apply Kd.R_alloc | apply Kd.R_drewN | apply Kd.R_drew)); exact HO418.out) hb)
 have n1_ := Aside0.mk (Kd.R_below (by (with_reducible repeat (first | apply Kd.R_alloc | apply Kd.R_drewN | apply Kd.R_drew)); exact HO421.out) hb)
 have n2_ := Aside0.mk (blk_below (g := gb412) (o := .cells #[.slice A0_0 l0_0.length c0_0] 24 (0, 0)) bkw hb)
 have n3_ := Aside0.mk (blk_below (g := gb413) (o := .cells #[.slice A1_0 l1_0.length c1_0] 27 (0, 0)) bkw hb)
 have n4_ := Aside0.mk (below_step blw hb)
 clear HO418
 clear HO421
 clear BK412
 clear BK413
 clear HB
 revert n0_ n1_ n2_ n3_ n4_
 intro HO418 HO421 BK412 BK413 HB
 (try clear hb)
 (try clear hb2)
 (try clear hk)
 (try clear hi)
 refine hK.out _ _ ⟨(blk_cell BK412.out 0).trans rfl, (blk_cell BK413.out 0).trans rfl⟩ (fun hHeld => ?_)
 clear hK K
 refine norm_ (a' := ?_) ?_ ?_
 rotate_left
 ·show Act.put _ (some 24) _ = _
  simp only [sx]
  rfl
 refine pure_ (i := 5) (N := some 6) (v := ?_) (a' := ?_) (bm 6 63) rfl rfl kr qi (Or.inl ⟨by rfl, ?_⟩) ?_ ?_
 rotate_left
 ·intro w'
  go_simp
  with_reducible rfl
 rotate_left
 ·simp only [sx]
  rfl
 refine done_ kr ?_
 have hnb30 := NB412_413.out
 have hnc30 := NB413_412.out
 have hcz31_0 : w29.cell? ⟨gb412, 0, none⟩ = some (.slice A0_0 l0_0.length c0_0) := (blk_cell BK412.out 0).trans rfl
 have hfz31_0 := blk_frozen BK412.out 0
 go_upto_if 34 with (first | ((with_reducible refine gate_callee (f := 7) rfl ?_); refine goesL_ (some 26) rfl rfl Try.func7 kr rfl #[.agg #[.slice A0_0 l0_0.length c0_0]] rfl mpw ?_; (with_reducible refine (laws_toSchema.calls k _ _ l0_0 t423 _ ?side1 ?side2 A20.out).mono ?_); (case side1 => have X_ := HR0_0; exact cbl); (case side2 => exact HC0_0.out); rintro e w32 ⟨v424, rfl, ho0, hb⟩; refine ⟨_, rfl, ?_⟩; have n0_ := Aside0.mk (Kd.R_elder' (by (with_reducible repeat (first | apply Kd.R_alloc | apply Kd.R_drewN | apply Kd.R_drew)); exact HO418.out) (Kd.R_base ho0) hb); have n1_ := Aside0.mk (Kd.R_below (by (with_reducible repeat (first | apply Kd.R_alloc | apply Kd.R_drewN | apply Kd.R_drew)); exact HO421.out) hb); have n2_ := Aside0.mk (Kd.R_lower (Kd.R_new' ho0 (Kd.R_lt (by (with_reducible repeat (first | apply Kd.R_alloc | apply Kd.R_drewN | apply Kd.R_drew)); exact HO418.out))) (below_size blw)); have n3_ := Aside0.mk (blk_below (g := gb412) (o := .cells #[.slice A0_0 l0_0.length c0_0] 24 (0, 0)) bkw hb); have n4_ := Aside0.mk (blk_below (g := gb413) (o := .cells #[.slice A1_0 l1_0.length c1_0] 27 (0, 0)) bkw hb); have n5_ := Aside0.mk (below_step blw hb); clear HO418; clear HO421; clear BK412; clear BK413; clear HB; revert n0_ n1_ n2_ n3_ n4_ n5_; intro HO418 HO421 HO425 BK412 BK413 HB; (try clear hb); (try clear hb2); (try clear hk); (try clear hi); (try clear ho0)) | ((with_reducible refine gate_dst (N := 7) rfl ?_); refine box_event ?hg (N := 7) ?hd (cs := #[.slice none 0 0]) (t := 33) ?hr ?_; (case hd => rfl); (case hg => rfl); (case hr => exact hrw); intro gb426 hg w33 hbox hb; have n0_ := Aside0.mk (Kd.R_below (by (with_reducible repeat (first | apply Kd.R_alloc | apply Kd.R_drewN | apply Kd.R_drew)); exact HO418.out) hb); have n1_ := Aside0.mk (Kd.R_below (by (with_reducible repeat (first | apply Kd.R_alloc | apply Kd.R_drewN | apply Kd.R_drew)); exact HO421.out) hb); have n2_ := Aside0.mk (Kd.R_below (by (with_reducible repeat (first | apply Kd.R_alloc | apply Kd.R_drewN | apply Kd.R_drew)); exact HO425.out) hb); have n3_ := Aside0.mk (blk_below (g := gb412) (o := .cells #[.slice A0_0 l0_0.length c0_0] 24 (0, 0)) bkw hb); have n4_ := Aside0.mk (blk_below (g := gb413) (o := .cells #[.slice A1_0 l1_0.length c1_0] 27 (0, 0)) bkw hb); have n5_ := Aside0.mk (below_step blw hb); have n6_ := Aside0.mk (hbox); have n7_ := Aside0.mk ((by rw [hg]; exact (below_size blw) : w.heap.size ≤ gb426)); have n8_ := n7_; have n9_ := Aside0.mk ((by rw [hg]; exact Nat.ne_of_lt (blk_lt (g := gb412) (o := .cells #[.slice A0_0 l0_0.length c0_0] 24 (0, 0)) bkw) : gb412 ≠ gb426)); have n10_ := Aside0.mk ((by rw [hg]; exact Nat.ne_of_gt (blk_lt (g := gb412) (o := .cells #[.slice A0_0 l0_0.length c0_0] 24 (0, 0)) bkw) : gb426 ≠ gb412)); have n11_ := Aside0.mk ((by rw [hg]; exact Nat.ne_of_lt (blk_lt (g := gb413) (o := .cells #[.slice A1_0 l1_0.length c1_0] 27 (0, 0)) bkw) : gb413 ≠ gb426)); have n12_ := Aside0.mk ((by rw [hg]; exact Nat.ne_of_gt (blk_lt (g := gb413) (o := .cells #[.slice A1_0 l1_0.length c1_0] 27 (0, 0)) bkw) : gb426 ≠ gb413)); clear HO418; clear HO421; clear HO425; clear BK412; clear BK413; clear HB; revert n0_ n1_ n2_ n3_ n4_ n5_ n6_ n7_ n8_ n9_ n10_ n11_ n12_; intro HO418 HO421 HO425 BK412 BK413 HB BK426 GW426 GE426 NB412_426 NB426_412 NB413_426 NB426_413; clear hb hbox hg; obtain ⟨Ao34, co34, eo34⟩ := Kd.R_slice HO425.out; subst eo34; have hnb35 := NB426_412.out; have hnc35 := NB412_426.out; have hnb36 := NB426_413.out; have hnc36 := NB413_426.out; have hcz37_0 : w33.cell? ⟨gb426, 0, none⟩ = some (.slice none 0 0) := (blk_cell BK426.out 0).trans rfl; have hfz37_0 := blk_frozen BK426.out 0; have hcz38_0 : w33.cell? ⟨gb413, 0, none⟩ = some (.slice A1_0 l1_0.length c1_0) := (blk_cell BK413.out 0).trans rfl; have hfz38_0 := blk_frozen BK413.out 0) | ((with_reducible refine gate_callee (f := 8) rfl ?_); refine goesL_ (some 28) rfl rfl Try.func8 kr rfl #[.agg #[.slice A1_0 l1_0.length c1_0]] rfl mpw ?_; (with_reducible refine (laws_toDB.calls k _ _ l1_0 t427 _ ?side1 ?side2 A21.out).mono ?_); (case side1 => exact Kd.C_below HR1_0.out blw); (case side2 => exact HC1_0.out); rintro e w39 ⟨v428, rfl, ho0, hb⟩; refine ⟨_, rfl, ?_⟩; have n0_ := Aside0.mk (Kd.R_below (by (with_reducible repeat (first | apply Kd.R_alloc | apply Kd.R_drewN | apply Kd.R_drew)); exact (Kd.R_mono (Kd.R_far (p := ⟨gb426, 0, none⟩) (Kd.R_types HO418.out BK426.out (by decide)) (fun _ hk => hk.2) (.slice Ao34 t423.length co34)) (fun _ h_ => h_.1))) hb); have n1_ := Aside0.mk (Kd.R_elder' (by (with_reducible repeat (first | apply Kd.R_alloc | apply Kd.R_drewN | apply Kd.R_drew)); exact (Kd.R_mono (Kd.R_far (p := ⟨gb426, 0, none⟩) (Kd.R_types HO421.out BK426.out (by decide)) (fun _ hk => hk.2) (.slice Ao34 t423.length co34)) (fun _ h_ => h_.1))) (Kd.R_base ho0) hb); have n2_ := Aside0.mk (Kd.R_below (by (with_reducible repeat (first | apply Kd.R_alloc | apply Kd.R_drewN | apply Kd.R_drew)); exact (Kd.R_mono (Kd.R_far (p := ⟨gb426, 0, none⟩) (Kd.R_types HO425.out BK426.out (by decide)) (fun _ hk => hk.2) (.slice Ao34 t423.length co34)) (fun _ h_ => h_.1))) hb); have n3_ := Aside0.mk (Kd.R_lower (Kd.R_new' ho0 (Kd.R_lt (by (with_reducible repeat (first | apply Kd.R_alloc | apply Kd.R_drewN | apply Kd.R_drew)); exact (Kd.R_mono (Kd.R_far (p := ⟨gb426, 0, none⟩) (Kd.R_types HO421.out BK426.out (by decide)) (fun _ hk => hk.2) (.slice Ao34 t423.length co34)) (fun _ h_ => h_.1))))) (below_size blw)); have n4_ := Aside0.mk (blk_below (g := gb412) (o := .cells #[.slice A0_0 l0_0.length c0_0] 24 (0, 0)) (by (with_reducible repeat (first | refine blk_drewN ?_ _ | refine blk_drew ?_ | refine blk_alloc ?_ _)); refine blk_far ?_ NB412_426.out _; (with_reducible repeat (first | refine blk_drewN ?_ _ | refine blk_drew ?_ | refine blk_alloc ?_ _)); exact BK412.out) hb); have n5_ := Aside0.mk (blk_below (g := gb413) (o := .cells #[.slice A1_0 l1_0.length c1_0] 27 (0, 0)) (by (with_reducible repeat (first | refine blk_drewN ?_ _ | refine blk_drew ?_ | refine blk_alloc ?_ _)); refine blk_far ?_ NB413_426.out _; (with_reducible repeat (first | refine blk_drewN ?_ _ | refine blk_drew ?_ | refine blk_alloc ?_ _)); exact BK413.out) hb); have n6_ := Aside0.mk (blk_below (g := gb426) (o := .cells #[.slice Ao34 t423.length co34] 33 (0, 0)) (by (with_reducible repeat (first | refine blk_drewN ?_ _ | refine blk_drew ?_ | refine blk_alloc ?_ _)); refine blk_put (cs := #[.slice none 0 0]) ?_ 0 _ rfl; (with_reducible repeat (first | refine blk_drewN ?_ _ | refine blk_drew ?_ | refine blk_alloc ?_ _)); exact BK426.out) hb); have n7_ := Aside0.mk (below_step blw hb); clear HO418; clear HO421; clear HO425; clear BK412; clear BK413; clear BK426; clear HB; revert n0_ n1_ n2_ n3_ n4_ n5_ n6_ n7_; intro HO418 HO421 HO425 HO429 BK412 BK413 BK426 HB; (try clear hb); (try clear hb2); (try clear hk); (try clear hi); (try clear ho0)) | ((with_reducible refine gate_dst (N := 8) rfl ?_); refine box_event ?hg (N := 8) ?hd (cs := #[.slice none 0 0]) (t := 37) ?hr ?_; (case hd => rfl); (case hg => rfl); (case hr => exact hrw); intro gb430 hg w40 hbox hb; have n0_ := Aside0.mk (Kd.R_below (by (with_reducible repeat (first | apply Kd.R_alloc | apply Kd.R_drewN | apply Kd.R_drew)); exact HO418.out) hb); have n1_ := Aside0.mk (Kd.R_below (by (with_reducible repeat (first | apply Kd.R_alloc | apply Kd.R_drewN | apply Kd.R_drew)); exact HO421.out) hb); have n2_ := Aside0.mk (Kd.R_below (by (with_reducible repeat (first | apply Kd.R_alloc | apply Kd.R_drewN | apply Kd.R_drew)); exact HO425.out) hb); have n3_ := Aside0.mk (Kd.R_below (by (with_reducible repeat (first | apply Kd.R_alloc | apply Kd.R_drewN | apply Kd.R_drew)); exact HO429.out) hb); have n4_ := Aside0.mk (blk_below (g := gb412) (o := .cells #[.slice A0_0 l0_0.length c0_0] 24 (0, 0)) bkw hb); have n5_ := Aside0.mk (blk_below (g := gb413) (o := .cells #[.slice A1_0 l1_0.length c1_0] 27 (0, 0)) bkw hb); have n6_ := Aside0.mk (blk_below (g := gb426) (o := .cells #[.slice Ao34 t423.length co34] 33 (0, 0)) bkw hb); have n7_ := Aside0.mk (below_step blw hb); have n8_ := Aside0.mk (hbox); have n9_ := Aside0.mk ((by rw [hg]; exact (below_size blw) : w.heap.size ≤ gb430)); have n10_ := n9_; have n11_ := Aside0.mk ((by rw [hg]; exact Nat.ne_of_lt (blk_lt (g := gb412) (o := .cells #[.slice A0_0 l0_0.length c0_0] 24 (0, 0)) bkw) : gb412 ≠ gb430)); have n12_ := Aside0.mk ((by rw [hg]; exact Nat.ne_of_gt (blk_lt (g := gb412) (o := .cells #[.slice A0_0 l0_0.length c0_0] 24 (0, 0)) bkw) : gb430 ≠ gb412)); have n13_ := Aside0.mk ((by rw [hg]; exact Nat.ne_of_lt (blk_lt (g := gb413) (o := .cells #[.slice A1_0 l1_0.length c1_0] 27 (0, 0)) bkw) : gb413 ≠ gb430)); have n14_ := Aside0.mk ((by rw [hg]; exact Nat.ne_of_gt (blk_lt (g := gb413) (o := .cells #[.slice A1_0 l1_0.length c1_0] 27 (0, 0)) bkw) : gb430 ≠ gb413)); have n15_ := Aside0.mk ((by rw [hg]; exact Nat.ne_of_lt (blk_lt (g := gb426) (o := .cells #[.slice Ao34 t423.length co34] 33 (0, 0)) bkw) : gb426 ≠ gb430)); have n16_ := Aside0.mk ((by rw [hg]; exact Nat.ne_of_gt (blk_lt (g := gb426) (o := .cells #[.slice Ao34 t423.length co34] 33 (0, 0)) bkw) : gb430 ≠ gb426)); clear HO418; clear HO421; clear HO425; clear HO429; clear BK412; clear BK413; clear BK426; clear HB; revert n0_ n1_ n2_ n3_ n4_ n5_ n6_ n7_ n8_ n9_ n10_ n11_ n12_ n13_ n14_ n15_ n16_; intro HO418 HO421 HO425 HO429 BK412 BK413 BK426 HB BK430 GW430 GE430 NB412_430 NB430_412 NB413_430 NB430_413 NB426_430 NB430_426; clear hb hbox hg; obtain ⟨Ao41, co41, eo41⟩ := Kd.R_slice HO429.out; subst eo41; have hnb42 := NB430_412.out; have hnc42 := NB412_430.out; have hnb43 := NB430_413.out; have hnc43 := NB413_430.out; have hnb44 := NB430_426.out; have hnc44 := NB426_430.out; have hcz45_0 : w40.cell? ⟨gb430, 0, none⟩ = some (.slice none 0 0) := (blk_cell BK430.out 0).trans rfl; have hfz45_0 := blk_frozen BK430.out 0; have hcz46_0 : w40.cell? ⟨gb426, 0, none⟩ = some (.slice Ao34 t423.length co34) := (blk_cell BK426.out 0).trans rfl; have hfz46_0 := blk_frozen BK426.out 0) | ((with_reducible refine gate_callee (f := 9) rfl ?_); refine goesL_ (some 31) rfl rfl Try.func9 kr rfl #[.agg #[.slice Ao34 t423.length co34], .agg #[.slice Ao41 t427.length co41]] rfl mpw ?_; (with_reducible refine (impl_IsDB.calls k _ _ t423 _ _ t427 t431 _ ?side1 ?side2 ?side3 ?side4 A22.out).mono ?_); (case side1 => refine (Kd.R_reads' (e := 53) (base := w.heap.size) (ok := fun k_ => (True ∧ some k_ ≠ (.slice Ao27 t416.length co27 : Value).ownBlock)) (n := t423.length) (c := co34) ?_).2.2; exact (by (with_reducible repeat (first | apply Kd.R_alloc | apply Kd.R_drewN | apply Kd.R_drew)); exact (Kd.R_mono (Kd.R_far (p := ⟨gb430, 0, none⟩) (Kd.R_types HO425.out BK430.out (by decide)) (fun _ hk => hk.2) (.slice Ao41 t427.length co41)) (fun _ h_ => h_.1)))); (case side2 => exact (Kd.R_reads' HO425.out).2.1); (case side3 => refine (Kd.R_reads' (e := 47) (base := w.heap.size) (ok := fun k_ => (True ∧ some k_ ≠ (.slice Ao28 t419.length co28 : Value).ownBlock)) (n := t427.length) (c := co41) ?_).2.2; exact (by (with_reducible repeat (first | apply Kd.R_alloc | apply Kd.R_drewN | apply Kd.R_drew)); exact (Kd.R_mono (Kd.R_far (p := ⟨gb430, 0, none⟩) (Kd.R_types HO429.out BK430.out (by decide)) (fun _ hk => hk.2) (.slice Ao41 t427.length co41)) (fun _ h_ => h_.1)))); (case side4 => exact (Kd.R_reads' HO429.out).2.1); rintro e w47 ⟨rfl, hb⟩; refine ⟨_, rfl, ?_⟩; have n0_ := Aside0.mk (Kd.R_below (by (with_reducible repeat (first | apply Kd.R_alloc | apply Kd.R_drewN | apply Kd.R_drew)); exact (Kd.R_mono (Kd.R_far (p := ⟨gb430, 0, none⟩) (Kd.R_types HO418.out BK430.out (by decide)) (fun _ hk => hk.2) (.slice Ao41 t427.length co41)) (fun _ h_ => h_.1))) hb); have n1_ := Aside0.mk (Kd.R_below (by (with_reducible repeat (first | apply Kd.R_alloc | apply Kd.R_drewN | apply Kd.R_drew)); exact (Kd.R_mono (Kd.R_far (p := ⟨gb430, 0, none⟩) (Kd.R_types HO421.out BK430.out (by decide)) (fun _ hk => hk.2) (.slice Ao41 t427.length co41)) (fun _ h_ => h_.1))) hb); have n2_ := Aside0.mk (Kd.R_below (by (with_reducible repeat (first | apply Kd.R_alloc | apply Kd.R_drewN | apply Kd.R_drew)); exact (Kd.R_mono (Kd.R_far (p := ⟨gb430, 0, none⟩) (Kd.R_types HO425.out BK430.out (by decide)) (fun _ hk => hk.2) (.slice Ao41 t427.length co41)) (fun _ h_ => h_.1))) hb); have n3_ := Aside0.mk (Kd.R_below (by (with_reducible repeat (first | apply Kd.R_alloc | apply Kd.R_drewN | apply Kd.R_drew)); exact (Kd.R_mono (Kd.R_far (p := ⟨gb430, 0, none⟩) (Kd.R_types HO429.out BK430.out (by decide)) (fun _ hk => hk.2) (.slice Ao41 t427.length co41)) (fun _ h_ => h_.1))) hb); have n4_ := Aside0.mk (blk_below (g := gb412) (o := .cells #[.slice A0_0 l0_0.length c0_0] 24 (0, 0)) (by (with_reducible repeat (first | refine blk_drewN ?_ _ | refine blk_drew ?_ | refine blk_alloc ?_ _)); refine blk_far ?_ NB412_430.out _; (with_reducible repeat (first | refine blk_drewN ?_ _ | refine blk_drew ?_ | refine blk_alloc ?_ _)); exact BK412.out) hb); have n5_ := Aside0.mk (blk_below (g := gb413) (o := .cells #[.slice A1_0 l1_0.length c1_0] 27 (0, 0)) (by (with_reducible repeat (first | refine blk_drewN ?_ _ | refine blk_drew ?_ | refine blk_alloc ?_ _)); refine blk_far ?_ NB413_430.out _; (with_reducible repeat (first | refine blk_drewN ?_ _ | refine blk_drew ?_ | refine blk_alloc ?_ _)); exact BK413.out) hb); have n6_ := Aside0.mk (blk_below (g := gb426) (o := .cells #[.slice Ao34 t423.length co34] 33 (0, 0)) (by (with_reducible repeat (first | refine blk_drewN ?_ _ | refine blk_drew ?_ | refine blk_alloc ?_ _)); refine blk_far ?_ NB426_430.out _; (with_reducible repeat (first | refine blk_drewN ?_ _ | refine blk_drew ?_ | refine blk_alloc ?_ _)); exact BK426.out) hb); have n7_ := Aside0.mk (blk_below (g := gb430) (o := .cells #[.slice Ao41 t427.length co41] 37 (0, 0)) (by (with_reducible repeat (first | refine blk_drewN ?_ _ | refine blk_drew ?_ | refine blk_alloc ?_ _)); refine blk_put (cs := #[.slice none 0 0]) ?_ 0 _ rfl; (with_reducible repeat (first | refine blk_drewN ?_ _ | refine blk_drew ?_ | refine blk_alloc ?_ _)); exact BK430.out) hb); have n8_ := Aside0.mk (below_step blw hb); clear HO418; clear HO421; clear HO425; clear HO429; clear BK412; clear BK413; clear BK426; clear BK430; clear HB; revert n0_ n1_ n2_ n3_ n4_ n5_ n6_ n7_ n8_; intro HO418 HO421 HO425 HO429 BK412 BK413 BK426 BK430 HB; (try clear hb); (try clear hb2); (try clear hk); (try clear hi)))
 have H := HC23.out
 clear HC23
 by_cases c48 : (t431 != t422) = true
 ·rw [if_pos c48] at H
  have c48b0 : (t431 != t422) = true := c48
  (try (have c48b1 : decide (t431 = t422) = false := by simpa using c48))
  (try (have c48b2 : (t431 == t422) = false := by simpa using c48))
  (try (have c48b3 : ¬ (t431 = t422) := by simpa using c48))
  clear c48
  (first | rw [c48b0] | (simp only [i64_w, i32_w]; rw [c48b0]) | (rw [c48b1]; (try simp only [Bool.not_true, Bool.not_false])) | (rw [c48b2]; (try simp only [Bool.not_true, Bool.not_false])) | (rw [c48b3]; (try simp only [Bool.not_true, Bool.not_false])) | skip)
  obtain rfl := Option.some.inj H
  go_wp2
  go_ret
  exact ⟨rfw, blw⟩
 rw [if_neg c48] at H
 have c48b0 : (t431 != t422) = false := by simpa using c48
 (try (have c48b1 : decide (t431 = t422) = true := by simpa using c48))
 (try (have c48b2 : (t431 == t422) = true := by simpa using c48))
 clear c48
 (first | rw [c48b0] | (simp only [i64_w, i32_w]; rw [c48b0]) | (rw [c48b1]; (try simp only [Bool.not_true, Bool.not_false])) | (rw [c48b2]; (try simp only [Bool.not_true, Bool.not_false])) | skip)
 replace H := Option.bind_eq_some_iff.mp H
 obtain ⟨t432, A490, H⟩ := H
 replace H : ((laws_eqSchema.f k t423 t432).bind fun t435 => (if t435 = true then ((laws_toDB.f k l1_0).bind fun t436 => ((laws_eqDB.f k t427 t436).bind fun t439 => (if t439 = true then (some true) else (some false)))) else (some false))) = some r := H
 have A49 := Aside0.mk A490
 clear A490
 replace H := Option.bind_eq_some_iff.mp H
 obtain ⟨t435, A500, H⟩ := H
 replace H : (if t435 = true then ((laws_toDB.f k l1_0).bind fun t436 => ((laws_eqDB.f k t427 t436).bind fun t439 => (if t439 = true then (some true) else (some false)))) else (some false)) = some r := H
 have A50 := Aside0.mk A500
 clear A500
 have HC51 := Aside0.mk H
 clear H
 try go_wp2
 have n0_ := Aside0.mk (Kd.R_drew HO418.out)
 have n1_ := Aside0.mk (Kd.R_drew HO421.out)
 have n2_ := Aside0.mk (Kd.R_drew HO425.out)
 have n3_ := Aside0.mk (Kd.R_drew HO429.out)
 have n4_ := Aside0.mk (blk_drew BK412.out)
 have n5_ := Aside0.mk (blk_drew BK413.out)
 have n6_ := Aside0.mk (blk_drew BK426.out)
 have n7_ := Aside0.mk (blk_drew BK430.out)
 have n8_ := Aside0.mk (below_drew1 HB.out)
 clear HO418
 clear HO421
 clear HO425
 clear HO429
 clear BK412
 clear BK413
 clear BK426
 clear BK430
 clear HB
 revert n0_ n1_ n2_ n3_ n4_ n5_ n6_ n7_ n8_
 intro HO418 HO421 HO425 HO429 BK412 BK413 BK426 BK430 HB
 refine start_ (n := 5) (S := fun w' => w'.cell? ⟨gb426, 0, none⟩ = some (.slice Ao34 t423.length co34) ∧ w'.cell? ⟨gb412, 0, none⟩ = some (.slice A0_0 l0_0.length c0_0)) (ds := []) #[false,false,false,false,false] kr rfl rfl ⟨(blk_cell BK426.out 0).trans rfl, (blk_cell BK412.out 0).trans rfl⟩ (fun hHeld => ?_)
 generalize w47.drew = w52 at HO418 HO421 HO425 HO429 BK412 BK413 BK426 BK430 HB hHeld ⊢
 refine take_ (i := 0) (N := some 35) (v := ?_) (a' := ?_) (bm 5 1) rfl rfl kr qi (Or.inl ⟨by rfl, ?_⟩) hHeld ?_ ?_
 rotate_left
 ·rintro w' ⟨s0, s1⟩
  go_simp
  with_reducible rfl
 rotate_left
 ·simp only [sx]
  rfl
 refine take_ (i := 1) (N := some 36) (v := ?_) (a' := ?_) (bm 5 3) rfl rfl kr qi (Or.inl ⟨by rfl, ?_⟩) hHeld ?_ ?_
 rotate_left
 ·rintro w' ⟨s0, s1⟩
  go_simp
  with_reducible rfl
 rotate_left
 ·simp only [sx]
  rfl
 refine one_ (i := 2) (N := some 37) (bm 5 7) rfl rfl kr (by decide) (fun K hK => ?_)
 refine goes_ Try.func7 kr rfl #[.agg #[.slice A0_0 l0_0.length c0_0]] (by rfl) rfl rfl mpw ?_
 with_reducible refine (laws_toSchema.calls k _ _ l0_0 t432 _ ?side1 ?side2 A49.out).mono ?_
 (case side1 => have X_ := HR0_0; exact cbl)
 (case side2 => exact HC0_0.out)
 rintro e w53 ⟨v433, rfl, ho0, hb⟩
 refine ⟨_, rfl, ?_⟩
 have n0_ := Aside0.mk (Kd.R_elder' (by (with_reducible repeat (first | apply Kd.R_alloc | apply Kd.R_drewN | apply Kd.R_drew)); exact HO418.out) (Kd.R_base ho0) hb)
 have n1_ := Aside0.mk (Kd.R_below (by (with_reducible repeat (first | apply Kd.R_alloc | apply Kd.R_drewN | apply Kd.R_drew)); exact HO421.out) hb)
 have n2_ := Aside0.mk (Kd.R_elder' (by (with_reducible repeat (first | apply Kd.R_alloc | apply Kd.R_drewN | apply Kd.R_drew)); exact HO425.out) (Kd.R_base ho0) hb)
 have n3_ := Aside0.mk (Kd.R_below (by (with_reducible repeat (first | apply Kd.R_alloc | apply Kd.R_drewN | apply Kd.R_drew)); exact HO429.out) hb)
 have n4_ := Aside0.mk (Kd.R_lower (Kd.R_new' (Kd.R_new' ho0 (Kd.R_lt (by (with_reducible repeat (first | apply Kd.R_alloc | apply Kd.R_drewN | apply Kd.R_drew)); exact HO418.out))) (Kd.R_lt (by (with_reducible repeat (first | apply Kd.R_alloc | apply Kd.R_drewN | apply Kd.R_drew)); exact HO425.out))) (below_size blw))
 have n5_ := Aside0.mk (blk_below (g := gb412) (o := .cells #[.slice A0_0 l0_0.length c0_0] 24 (0, 0)) bkw hb)
 have n6_ := Aside0.mk (blk_below (g := gb413) (o := .cells #[.slice A1_0 l1_0.length c1_0] 27 (0, 0)) bkw hb)
 have n7_ := Aside0.mk (blk_below (g := gb426) (o := .cells #[.slice Ao34 t423.length co34] 33 (0, 0)) bkw hb)
 have n8_ := Aside0.mk (blk_below (g := gb430) (o := .cells #[.slice Ao41 t427.length co41] 37 (0, 0)) bkw hb)
 have n9_ := Aside0.mk (below_step blw hb)
 clear HO418
 clear HO421
 clear HO425
 clear HO429
 clear BK412
 clear BK413
 clear BK426
 clear BK430
 clear HB
 revert n0_ n1_ n2_ n3_ n4_ n5_ n6_ n7_ n8_ n9_
 intro HO418 HO421 HO425 HO429 HO434 BK412 BK413 BK426 BK430 HB
 (try clear hb)
 (try clear hb2)
 (try clear hk)
 (try clear hi)
 (try clear ho0)
 obtain ⟨Ao54, co54, eo54⟩ := Kd.R_slice HO434.out
 (first | subst eo54 | (injection eo54 with f1_ f2_ f3_; have f4_ := f1_.symm; have f5_ := f3_.symm; clear f1_ f2_ f3_; subst f4_; subst f5_))
 refine hK.out _ _ ⟨(blk_cell BK426.out 0).trans rfl, (blk_cell BK412.out 0).trans rfl⟩ (fun hHeld => ?_)
 clear hK K
 refine norm_ (a' := ?_) ?_ ?_
 rotate_left
 ·show Act.put _ (some 37) _ = _
  simp only [sx]
  rfl
 refine one_ (i := 3) (N := some 38) (bm 5 15) rfl rfl kr (by decide) (fun K hK => ?_)
 refine goes_ Try.func10 kr rfl #[.agg #[.slice Ao34 t423.length co34], .agg #[.slice Ao54 t432.length co54]] (by rfl) rfl rfl mpw ?_
 with_reducible refine (laws_eqSchema.calls k _ _ t423 _ _ t432 t435 _ ?side1 ?side2 ?side3 ?side4 A50.out).mono ?_
 (case side1 => repeat (first | exact (Kd.R_reads' HO425.out).2.2 | (with_reducible refine Kd.C_alloc ?_ _) | (with_reducible refine Kd.C_drewN ?_ _) | (with_reducible refine Kd.C_drew ?_)))
 (case side2 => exact (Kd.R_reads' HO425.out).2.1)
 (case side3 => repeat (first | exact (Kd.R_reads' HO434.out).2.2 | (with_reducible refine Kd.C_alloc ?_ _) | (with_reducible refine Kd.C_drewN ?_ _) | (with_reducible refine Kd.C_drew ?_)))
 (case side4 => exact (Kd.R_reads' HO434.out).2.1)
 rintro e w55 ⟨rfl, hb⟩
 refine ⟨_, rfl, ?_⟩
 have n0_ := Aside0.mk (Kd.R_below (by (with_reducible repeat (first | apply Kd.R_alloc | apply Kd.R_drewN | apply Kd.R_drew)); exact HO418.out) hb)
 have n1_ := Aside0.mk (Kd.R_below (by (with_reducible repeat (first | apply Kd.R_alloc | apply Kd.R_drewN | apply Kd.R_drew)); exact HO421.out) hb)
 have n2_ := Aside0.mk (Kd.R_below (by (with_reducible repeat (first | apply Kd.R_alloc | apply Kd.R_drewN | apply Kd.R_drew)); exact HO425.out) hb)
 have n3_ := Aside0.mk (Kd.R_below (by (with_reducible repeat (first | apply Kd.R_alloc | apply Kd.R_drewN | apply Kd.R_drew)); exact HO429.out) hb)
 have n4_ := Aside0.mk (Kd.R_below (by (with_reducible repeat (first | apply Kd.R_alloc | apply Kd.R_drewN | apply Kd.R_drew)); exact HO434.out) hb)
 have n5_ := Aside0.mk (blk_below (g := gb412) (o := .cells #[.slice A0_0 l0_0.length c0_0] 24 (0, 0)) bkw hb)
 have n6_ := Aside0.mk (blk_below (g := gb413) (o := .cells #[.slice A1_0 l1_0.length c1_0] 27 (0, 0)) bkw hb)
 have n7_ := Aside0.mk (blk_below (g := gb426) (o := .cells #[.slice Ao34 t423.length co34] 33 (0, 0)) bkw hb)
 have n8_ := Aside0.mk (blk_below (g := gb430) (o := .cells #[.slice Ao41 t427.length co41] 37 (0, 0)) bkw hb)
 have n9_ := Aside0.mk (below_step blw hb)
 clear HO418
 clear HO421
 clear HO425
 clear HO429
 clear HO434
 clear BK412
 clear BK413
 clear BK426
 clear BK430
 clear HB
 revert n0_ n1_ n2_ n3_ n4_ n5_ n6_ n7_ n8_ n9_
 intro HO418 HO421 HO425 HO429 HO434 BK412 BK413 BK426 BK430 HB
 (try clear hb)
 (try clear hb2)
 (try clear hk)
 (try clear hi)
 refine hK.out _ _ ⟨(blk_cell BK426.out 0).trans rfl, (blk_cell BK412.out 0).trans rfl⟩ (fun hHeld => ?_)
 clear hK K
 refine norm_ (a' := ?_) ?_ ?_
 rotate_left
 ·show Act.put _ (some 38) _ = _
  simp only [sx]
  rfl
 refine pure_ (i := 4) (N := some 39) (v := ?_) (a' := ?_) (bm 5 31) rfl rfl kr qi (Or.inl ⟨by rfl, ?_⟩) ?_ ?_
 rotate_left
 ·intro w'
  go_simp
  with_reducible rfl
 rotate_left
 ·simp only [sx]
  rfl
 refine done_ kr ?_
 go_upto_if 39 with (fail)
 have H := HC51.out
 clear HC51
 by_cases c56 : t435 = true
 case neg =>
  replace c56 := Bool.eq_false_iff.mpr c56
  subst c56
  have H1 : (some false) = some r := by rw [if_neg (show ¬ (false = true) by decide)] at H; exact H
  clear H
  have H := H1
  clear H1
  obtain rfl := Option.some.inj H
  go_wp2
  go_ret
  exact ⟨rfw, blw⟩
 subst c56
 have H1 : ((laws_toDB.f k l1_0).bind fun t436 => ((laws_eqDB.f k t427 t436).bind fun t439 => (if t439 = true then (some true) else (some false)))) = some r := by rw [if_pos rfl] at H; exact H
 clear H
 have H := H1
 clear H1
 replace H := Option.bind_eq_some_iff.mp H
 obtain ⟨t436, A570, H⟩ := H
 replace H : ((laws_eqDB.f k t427 t436).bind fun t439 => (if t439 = true then (some true) else (some false))) = some r := H
 have A57 := Aside0.mk A570
 clear A570
 replace H := Option.bind_eq_some_iff.mp H
 obtain ⟨t439, A580, H⟩ := H
 replace H : (if t439 = true then (some true) else (some false)) = some r := H
 have A58 := Aside0.mk A580
 clear A580
 have HC59 := Aside0.mk H
 clear H
 try go_wp2
 have n0_ := Aside0.mk (Kd.R_drew HO418.out)
 have n1_ := Aside0.mk (Kd.R_drew HO421.out)
 have n2_ := Aside0.mk (Kd.R_drew HO425.out)
 have n3_ := Aside0.mk (Kd.R_drew HO429.out)
 have n4_ := Aside0.mk (Kd.R_drew HO434.out)
 have n5_ := Aside0.mk (blk_drew BK412.out)
 have n6_ := Aside0.mk (blk_drew BK413.out)
 have n7_ := Aside0.mk (blk_drew BK426.out)
 have n8_ := Aside0.mk (blk_drew BK430.out)
 have n9_ := Aside0.mk (below_drew1 HB.out)
 clear HO418
 clear HO421
 clear HO425
 clear HO429
 clear HO434
 clear BK412
 clear BK413
 clear BK426
 clear BK430
 clear HB
 revert n0_ n1_ n2_ n3_ n4_ n5_ n6_ n7_ n8_ n9_
 intro HO418 HO421 HO425 HO429 HO434 BK412 BK413 BK426 BK430 HB
 refine start_ (n := 5) (S := fun w' => w'.cell? ⟨gb430, 0, none⟩ = some (.slice Ao41 t427.length co41) ∧ w'.cell? ⟨gb413, 0, none⟩ = some (.slice A1_0 l1_0.length c1_0)) (ds := []) #[false,false,false,false,false] kr rfl rfl ⟨(blk_cell BK430.out 0).trans rfl, (blk_cell BK413.out 0).trans rfl⟩ (fun hHeld => ?_)
 generalize w55.drew = w60 at HO418 HO421 HO425 HO429 HO434 BK412 BK413 BK426 BK430 HB hHeld ⊢
 refine take_ (i := 0) (N := some 40) (v := ?_) (a' := ?_) (bm 5 1) rfl rfl kr qi (Or.inl ⟨by rfl, ?_⟩) hHeld ?_ ?_
 rotate_left
 ·rintro w' ⟨s0, s1⟩
  go_simp
  with_reducible rfl
 rotate_left
 ·simp only [sx]
  rfl
 refine take_ (i := 1) (N := some 41) (v := ?_) (a' := ?_) (bm 5 3) rfl rfl kr qi (Or.inl ⟨by rfl, ?_⟩) hHeld ?_ ?_
 rotate_left
 ·rintro w' ⟨s0, s1⟩
  go_simp
  with_reducible rfl
 rotate_left
 ·simp only [sx]
  rfl
 refine one_ (i := 2) (N := some 42) (bm 5 7) rfl rfl kr (by decide) (fun K hK => ?_)
 refine goes_ Try.func8 kr rfl #[.agg #[.slice A1_0 l1_0.length c1_0]] (by rfl) rfl rfl mpw ?_
 with_reducible refine (laws_toDB.calls k _ _ l1_0 t436 _ ?side1 ?side2 A57.out).mono ?_
 (case side1 => have X_ := HR1_0; exact cbl)
 (case side2 => exact HC1_0.out)
 rintro e w61 ⟨v437, rfl, ho0, hb⟩
 refine ⟨_, rfl, ?_⟩
 have n0_ := Aside0.mk (Kd.R_below (by (with_reducible repeat (first | apply Kd.R_alloc | apply Kd.R_drewN | apply Kd.R_drew)); exact HO418.out) hb)
 have n1_ := Aside0.mk (Kd.R_elder' (by (with_reducible repeat (first | apply Kd.R_alloc | apply Kd.R_drewN | apply Kd.R_drew)); exact HO421.out) (Kd.R_base ho0) hb)
 have n2_ := Aside0.mk (Kd.R_below (by (with_reducible repeat (first | apply Kd.R_alloc | apply Kd.R_drewN | apply Kd.R_drew)); exact HO425.out) hb)
 have n3_ := Aside0.mk (Kd.R_elder' (by (with_reducible repeat (first | apply Kd.R_alloc | apply Kd.R_drewN | apply Kd.R_drew)); exact HO429.out) (Kd.R_base ho0) hb)
 have n4_ := Aside0.mk (Kd.R_below (by (with_reducible repeat (first | apply Kd.R_alloc | apply Kd.R_drewN | apply Kd.R_drew)); exact HO434.out) hb)
 have n5_ := Aside0.mk (Kd.R_lower (Kd.R_new' (Kd.R_new' ho0 (Kd.R_lt (by (with_reducible repeat (first | apply Kd.R_alloc | apply Kd.R_drewN | apply Kd.R_drew)); exact HO421.out))) (Kd.R_lt (by (with_reducible repeat (first | apply Kd.R_alloc | apply Kd.R_drewN | apply Kd.R_drew)); exact HO429.out))) (below_size blw))
 have n6_ := Aside0.mk (blk_below (g := gb412) (o := .cells #[.slice A0_0 l0_0.length c0_0] 24 (0, 0)) bkw hb)
 have n7_ := Aside0.mk (blk_below (g := gb413) (o := .cells #[.slice A1_0 l1_0.length c1_0] 27 (0, 0)) bkw hb)
 have n8_ := Aside0.mk (blk_below (g := gb426) (o := .cells #[.slice Ao34 t423.length co34] 33 (0, 0)) bkw hb)
 have n9_ := Aside0.mk (blk_below (g := gb430) (o := .cells #[.slice Ao41 t427.length co41] 37 (0, 0)) bkw hb)
 have n10_ := Aside0.mk (below_step blw hb)
 clear HO418
 clear HO421
 clear HO425
 clear HO429
 clear HO434
 clear BK412
 clear BK413
 clear BK426
 clear BK430
 clear HB
 revert n0_ n1_ n2_ n3_ n4_ n5_ n6_ n7_ n8_ n9_ n10_
 intro HO418 HO421 HO425 HO429 HO434 HO438 BK412 BK413 BK426 BK430 HB
 (try clear hb)
 (try clear hb2)
 (try clear hk)
 (try clear hi)
 (try clear ho0)
 obtain ⟨Ao62, co62, eo62⟩ := Kd.R_slice HO438.out
 (first | subst eo62 | (injection eo62 with f1_ f2_ f3_; have f4_ := f1_.symm; have f5_ := f3_.symm; clear f1_ f2_ f3_; subst f4_; subst f5_))
 refine hK.out _ _ ⟨(blk_cell BK430.out 0).trans rfl, (blk_cell BK413.out 0).trans rfl⟩ (fun hHeld => ?_)
 clear hK K
 refine norm_ (a' := ?_) ?_ ?_
 rotate_left
 ·show Act.put _ (some 42) _ = _
  simp only [sx]
  rfl
 refine one_ (i := 3) (N := some 43) (bm 5 15) rfl rfl kr (by decide) (fun K hK => ?_)
 refine goes_ Try.func11 kr rfl #[.agg #[.slice Ao41 t427.length co41], .agg #[.slice Ao62 t436.length co62]] (by rfl) rfl rfl mpw ?_
 with_reducible refine (laws_eqDB.calls k _ _ t427 _ _ t436 t439 _ ?side1 ?side2 ?side3 ?side4 A58.out).mono ?_
 (case side1 => repeat (first | exact (Kd.R_reads' HO429.out).2.2 | (with_reducible refine Kd.C_alloc ?_ _) | (with_reducible refine Kd.C_drewN ?_ _) | (with_reducible refine Kd.C_drew ?_)))
 (case side2 => exact (Kd.R_reads' HO429.out).2.1)
 (case side3 => repeat (first | exact (Kd.R_reads' HO438.out).2.2 | (with_reducible refine Kd.C_alloc ?_ _) | (with_reducible refine Kd.C_drewN ?_ _) | (with_reducible refine Kd.C_drew ?_)))
 (case side4 => exact (Kd.R_reads' HO438.out).2.1)
 rintro e w63 ⟨rfl, hb⟩
 refine ⟨_, rfl, ?_⟩
 have n0_ := Aside0.mk (Kd.R_below (by (with_reducible repeat (first | apply Kd.R_alloc | apply Kd.R_drewN | apply Kd.R_drew)); exact HO418.out) hb)
 have n1_ := Aside0.mk (Kd.R_below (by (with_reducible repeat (first | apply Kd.R_alloc | apply Kd.R_drewN | apply Kd.R_drew)); exact HO421.out) hb)
 have n2_ := Aside0.mk (Kd.R_below (by (with_reducible repeat (first | apply Kd.R_alloc | apply Kd.R_drewN | apply Kd.R_drew)); exact HO425.out) hb)
 have n3_ := Aside0.mk (Kd.R_below (by (with_reducible repeat (first | apply Kd.R_alloc | apply Kd.R_drewN | apply Kd.R_drew)); exact HO429.out) hb)
 have n4_ := Aside0.mk (Kd.R_below (by (with_reducible repeat (first | apply Kd.R_alloc | apply Kd.R_drewN | apply Kd.R_drew)); exact HO434.out) hb)
 have n5_ := Aside0.mk (Kd.R_below (by (with_reducible repeat (first | apply Kd.R_alloc | apply Kd.R_drewN | apply Kd.R_drew)); exact HO438.out) hb)
 have n6_ := Aside0.mk (blk_below (g := gb412) (o := .cells #[.slice A0_0 l0_0.length c0_0] 24 (0, 0)) bkw hb)
 have n7_ := Aside0.mk (blk_below (g := gb413) (o := .cells #[.slice A1_0 l1_0.length c1_0] 27 (0, 0)) bkw hb)
 have n8_ := Aside0.mk (blk_below (g := gb426) (o := .cells #[.slice Ao34 t423.length co34] 33 (0, 0)) bkw hb)
 have n9_ := Aside0.mk (blk_below (g := gb430) (o := .cells #[.slice Ao41 t427.length co41] 37 (0, 0)) bkw hb)
 have n10_ := Aside0.mk (below_step blw hb)
 clear HO418
 clear HO421
 clear HO425
 clear HO429
 clear HO434
 clear HO438
 clear BK412
 clear BK413
 clear BK426
 clear BK430
 clear HB
 revert n0_ n1_ n2_ n3_ n4_ n5_ n6_ n7_ n8_ n9_ n10_
 intro HO418 HO421 HO425 HO429 HO434 HO438 BK412 BK413 BK426 BK430 HB
 (try clear hb)
 (try clear hb2)
 (try clear hk)
 (try clear hi)
 refine hK.out _ _ ⟨(blk_cell BK430.out 0).trans rfl, (blk_cell BK413.out 0).trans rfl⟩ (fun hHeld => ?_)
 clear hK K
 refine norm_ (a' := ?_) ?_ ?_
 rotate_left
 ·show Act.put _ (some 43) _ = _
  simp only [sx]
  rfl
 refine pure_ (i := 4) (N := some 44) (v := ?_) (a' := ?_) (bm 5 31) rfl rfl kr qi (Or.inl ⟨by rfl, ?_⟩) ?_ ?_
 rotate_left
 ·intro w'
  go_simp
  with_reducible rfl
 rotate_left
 ·simp only [sx]
  rfl
 refine done_ kr ?_
 go_upto_if 44 with (fail)
 have H := HC59.out
 clear HC59
 by_cases c64 : t439 = true
 ·subst c64
  have H1 : (some true) = some r := by rw [if_pos rfl] at H; exact H
  clear H
  have H := H1
  clear H1
  obtain rfl := Option.some.inj H
  go_wp2
  go_ret
  exact ⟨rfw, blw⟩
 replace c64 := Bool.eq_false_iff.mpr c64
 subst c64
 have H1 : (some false) = some r := by rw [if_neg (show ¬ (false = true) by decide)] at H; exact H
 clear H
 have H := H1
 clear H1
 obtain rfl := Option.some.inj H
 go_wp2
 go_ret
 exact ⟨rfw, blw⟩

/-- THE ONE PURE STATEMENT of laws_FnExactIsDB. -/
def laws_FnExactIsDB.Pure : Prop := ∀ (l0_0 : List (S69)) (l1_0 : List (S73)), W24 (⟨l0_0⟩ : S24) → W27 (⟨l1_0⟩ : S27) → ∃ k, laws_FnExactIsDB.f k l0_0 l1_0 = some true

end Go.Proofs.Ytfbecaplnigmaaa.Px
end
section
namespace Go.Proofs.Ytfbecaplnigmaaa.Pl
open Go.RowKit Go.Proofs.YtfbecaplnigmaaaW.PrintWords
set_option linter.unusedVariables false
theorem Ev.up {α : Type} {g : Nat → Option α} {r : α} (h : Ev (fun k => g (k + 1)) r) : Ev g r := Ev.step (f := fun k => g (k + 1)) (fun _ => rfl) h
theorem Ev.pos {α : Type} {A B : Nat → Option α} {r : α} {c : Prop} [Decidable c] (hc : c) (h : Ev A r) : Ev (fun n => if c then A n else B n) r :=
  Ev.congr (f := A) (fun k => by rw [if_pos hc]) h
theorem Ev.neg {α : Type} {A B : Nat → Option α} {r : α} {c : Prop} [Decidable c] (hc : ¬ c) (h : Ev B r) : Ev (fun n => if c then A n else B n) r :=
  Ev.congr (f := B) (fun k => by rw [if_neg hc]) h
theorem Ev.cases {α : Type} {A B : Nat → Option α} {r : α} {c : Prop} [Decidable c] (h1 : c → Ev A r) (h2 : ¬ c → Ev B r) : Ev (fun n => if c then A n else B n) r := by
  by_cases hc : c
  · exact Ev.pos hc (h1 hc)
  · exact Ev.neg hc (h2 hc)
theorem Ev.eq {α : Type} {g : Nat → Option α} {r r' : α} (h : Ev g r) (e : r = r') : Ev g r' := e ▸ h
theorem Ev.const {α : Type} {a r : α} (e : a = r) : Ev (fun _ => some a) r := by subst e; exact Ev.now _
/-- A call without rounds. -/
theorem Ev.fix {α β : Type} {g : Option α} {a : α} {f : Nat → α → Option β} {r : β} (hg : g = some a) (h : Ev (fun n => f n a) r) : Ev (fun n => g.bind (f n)) r := by subst hg; exact h
theorem w1 {i n : Nat} (h : i < n) (hn : n ≤ maxLen) : wrap64 ((i : Int) + 1) = ((i + 1 : Nat) : Int) := by
  have : n ≤ 9223372036854775807 := hn
  unfold wrap64
  omega
theorem w1' {i n : Nat} (h : i < n) (hn : n ≤ 1048576) : wrap64 ((i : Int) + 1) = ((i + 1 : Nat) : Int) := w1 h (by unfold maxLen; omega)
theorem w64 {a : Int} (h : -9223372036854775808 ≤ a) (h2 : a ≤ 9223372036854775807) : wrap64 a = a := by unfold wrap64; omega
theorem wf64 {a : Int} (h : (Lit.int .i64 a).wf = true) : -9223372036854775808 ≤ a ∧ a ≤ 9223372036854775807 := by
  have h1 := of_decide_eq_true ((Bool.and_eq_true _ _).mp h).1
  have h2 := of_decide_eq_true ((Bool.and_eq_true _ _).mp h).2
  exact ⟨h1, h2⟩
/-- What is left of a budget, or -1. -/
def cut (n : Nat) (left : Int) : Int := if (n : Int) ≤ left then left - n else -1
theorem cut_zero {left : Int} (h : 0 ≤ left) : cut 0 left = left := by unfold cut; rw [if_pos (by omega)]; omega
theorem cut_neg {n : Nat} {left : Int} : cut n left < 0 ↔ ¬ ((n : Int) ≤ left) := by
  unfold cut
  split <;> omega
theorem cut_le {n : Nat} {left : Int} (h : 0 ≤ left) : cut n left ≤ left := by unfold cut; split <;> omega
theorem cut_add {m n : Nat} {left : Int} (h : 0 ≤ cut m left) : cut n (cut m left) = cut (m + n) left := by
  unfold cut at *
  split at h
  · rename_i h1
    simp only [if_pos h1]
    by_cases h2 : (n : Int) ≤ left - m
    · rw [if_pos h2, if_pos (by omega)]; omega
    · rw [if_neg h2, if_neg (by omega)]
  · omega
theorem cut_add' {m n : Nat} {left : Int} (h : cut m left < 0) : cut (m + n) left = -1 := by
  have := cut_neg.1 h
  unfold cut
  rw [if_neg (by omega)]
/-- 'left -= n; if left < 0 { return -1 }' -/
theorem cut_sub {n : Nat} {left : Int} (h : 0 ≤ left) (hl : left ≤ 1048576) (hn : n ≤ maxLen) : (wrap64 (left - (n : Int)) < 0 ↔ cut n left < 0) ∧ (0 ≤ cut n left → wrap64 (left - (n : Int)) = cut n left) := by
  have hn' : n ≤ 9223372036854775807 := hn
  have e : wrap64 (left - (n : Int)) = left - n := w64 (by omega) (by omega)
  rw [e, cut_neg]
  unfold cut
  constructor
  · omega
  · intro h2
    split at h2
    · rename_i h3; rw [if_pos h3]
    · omega
def sumF (W : Nat → Nat) : Nat → Nat → Nat
  | _, 0 => 0
  | i, m + 1 => W i + sumF W (i + 1) m
theorem sz_loop (n : Nat) (X : Nat → Nat → Int → Option Int) (L : Nat → Int → Nat → Option Int) (W : Nat → Nat)
    (h1 : ∀ k left i, i < n → L (k + 1) left i = (X k i left).bind fun t => if t < 0 then some (-1) else L k t (i + 1))
    (h2 : ∀ k left, L (k + 1) left n = some left)
    (hX : ∀ i left, i < n → 0 ≤ left → left ≤ 1048576 → Ev (fun k => X k i left) (cut (W i) left)) :
    ∀ m i left, i + m = n → 0 ≤ left → left ≤ 1048576 → Ev (fun k => L k left i) (cut (sumF W i m) left) := by
  intro m
  induction m with
  | zero =>
    intro i left hi h0 hl
    obtain rfl : i = n := by omega
    refine Ev.step (h2 · left) ?_
    exact Ev.const (cut_zero h0).symm
  | succ m ih =>
    intro i left hi h0 hl
    refine Ev.step (fun k => h1 k left i (by omega)) (Ev.bind (hX i left (by omega) h0 hl) ?_)
    by_cases hc : cut (W i) left < 0
    · exact Ev.pos hc (Ev.const (cut_add' hc).symm)
    · refine Ev.neg hc (Ev.eq (ih (i + 1) _ (by omega) (by omega) ?_) (cut_add (by omega)))
      have := cut_le (n := W i) h0
      omega
theorem sz_loop' (n : Nat) (L : Nat → Int → Nat → Option Int) (W : Nat → Nat)
    (h1 : ∀ k left i, i < n → 0 ≤ left → left ≤ 1048576 → L (k + 1) left i = if cut (W i) left < 0 then some (-1) else L k (cut (W i) left) (i + 1))
    (h2 : ∀ k left, L (k + 1) left n = some left) :
    ∀ m i left, i + m = n → 0 ≤ left → left ≤ 1048576 → Ev (fun k => L k left i) (cut (sumF W i m) left) := by
  intro m
  induction m with
  | zero =>
    intro i left hi h0 hl
    obtain rfl : i = n := by omega
    refine Ev.step (h2 · left) ?_
    exact Ev.const (cut_zero h0).symm
  | succ m ih =>
    intro i left hi h0 hl
    refine Ev.step (fun k => h1 k left i (by omega) h0 hl) ?_
    by_cases hc : cut (W i) left < 0
    · exact Ev.pos hc (Ev.const (cut_add' hc).symm)
    · refine Ev.neg hc (Ev.eq (ih (i + 1) _ (by omega) (by omega) ?_) (cut_add (by omega)))
      have := cut_le (n := W i) h0
      omega
theorem Ev.map {α β : Type} {g : Nat → Option α} {a : α} (f : α → β) (h : Ev g a) : Ev (fun k => (g k).map f) (f a) := by
  obtain ⟨K, hK⟩ := h
  exact ⟨K, fun k hk => by show (g k).map f = _; rw [hK k hk]; rfl⟩
theorem to_loop {α : Type} (n : Nat) (X : Nat → Nat → Option α) (L : Nat → List α → Nat → Option (List α)) (v : Nat → α)
    (h1 : ∀ k out i, i < n → out.length = n → L (k + 1) out i = (X k i).bind fun t => L k (out.set i t) (i + 1))
    (h2 : ∀ k out, L (k + 1) out n = some out)
    (hX : ∀ i, i < n → Ev (fun k => X k i) (v i)) :
    ∀ m i out, i + m = n → out.length = n → Ev (fun k => L k out i) (out.take i ++ (List.range' i m).map v) := by
  intro m
  induction m with
  | zero =>
    intro i out hi hl
    obtain rfl : i = n := by omega
    refine Ev.step (h2 · out) (Ev.const ?_)
    simp [← hl]
  | succ m ih =>
    intro i out hi hl
    refine Ev.step (fun k => h1 k out i (by omega) hl) (Ev.bind (hX i (by omega)) ?_)
    refine Ev.eq (ih (i + 1) (out.set i (v i)) (by omega) (by simpa using hl)) ?_
    rw [List.range'_succ, List.map_cons, List.take_succ_eq_append_getElem (by simp; omega)]
    simp [List.take_set_of_le]
theorem eq_loop (n : Nat) (X : Nat → Nat → Option Bool) (L : Nat → Nat → Option Bool)
    (h1 : ∀ k i, i < n → L (k + 1) i = (X k i).bind fun t => if t = true then L k (i + 1) else some false)
    (h2 : ∀ k, L (k + 1) n = some true)
    (hX : ∀ i, i < n → Ev (fun k => X k i) true) :
    ∀ m i, i + m = n → Ev (fun k => L k i) true := by
  intro m
  induction m with
  | zero =>
    intro i hi
    obtain rfl : i = n := by omega
    exact Ev.step h2 (Ev.now _)
  | succ m ih =>
    intro i hi
    exact Ev.step (fun k => h1 k i (by omega)) (Ev.bind (hX i (by omega)) (Ev.pos rfl (ih (i + 1) (by omega))))
/-- A loop that gathers. -/
theorem fold_loop {σ τ ρ : Type} (n : Nat) (X : Nat → Nat → Option τ) (L : Nat → σ → Nat → Option ρ) (g : σ → τ → σ) (v : Nat → τ) (fin : σ → ρ)
    (h1 : ∀ k s i, i < n → L (k + 1) s i = (X k i).bind fun t => L k (g s t) (i + 1))
    (h2 : ∀ k s, L (k + 1) s n = some (fin s))
    (hX : ∀ i, i < n → Ev (fun k => X k i) (v i)) :
    ∀ m i s, i + m = n → Ev (fun k => L k s i) (fin ((List.range' i m).foldl (fun s i => g s (v i)) s)) := by
  intro m
  induction m with
  | zero =>
    intro i s hi
    obtain rfl : i = n := by omega
    exact Ev.step (h2 · s) (Ev.now _)
  | succ m ih =>
    intro i s hi
    refine Ev.step (fun k => h1 k s i (by omega)) (Ev.bind (hX i (by omega)) ?_)
    rw [List.range'_succ, List.foldl_cons]
    exact ih (i + 1) (g s (v i)) (by omega)
theorem range_map_getElem {α β : Type} (f : α → β) (d : α) (xs : List α) : (List.range' 0 xs.length).map (fun i => f (xs.getD i d)) = xs.map f := by
  apply List.ext_getElem
  · simp
  · intro i h1 h2
    simp at h1
    simp [h1]
theorem sumF_list {α : Type} (f : α → Nat) (d : α) (xs : List α) : ∀ m i, i + m = xs.length → sumF (fun i => f (xs.getD i d)) i m = ((xs.drop i).map f).sum := by
  intro m
  induction m with
  | zero => intro i hi; simp [sumF, List.drop_of_length_le (show xs.length ≤ i by omega)]
  | succ m ih =>
    intro i hi
    have hlt : i < xs.length := by omega
    rw [List.drop_eq_getElem_cons hlt, List.map_cons, List.sum_cons, sumF, ih (i + 1) (by omega)]
    simp [List.getD_eq_getElem?_getD, hlt]
theorem foldl_range {α σ : Type} (g : σ → α → σ) (d : α) (xs : List α) (s : σ) : (List.range' 0 xs.length).foldl (fun s i => g s (xs.getD i d)) s = xs.foldl g s := by
  have h : xs = (List.range' 0 xs.length).map (fun i => xs.getD i d) := by
    have := range_map_getElem (fun x => x) d xs
    simpa using this.symm
  conv => rhs; rw [h, List.foldl_map]
def szs (xs : List ByteArray) : Nat := (xs.map ByteArray.size).sum
def wts (xs : List ByteArray) : Nat := xs.length + szs xs
theorem rdOf_str (xs : List ByteArray) (i : Nat) : rdOf ByteArray.empty xs (i : Int) = xs.getD i ByteArray.empty := by simp [rdOf]
theorem mem_getD {α : Type} (xs : List α) (d : α) (i : Nat) (h : i < xs.length) : xs.getD i d ∈ xs := by
  simp [List.getD_eq_getElem?_getD, h]
theorem sum_le_of_mem {α : Type} (f : α → Nat) {xs : List α} {x : α} (h : x ∈ xs) : f x ≤ (xs.map f).sum := by
  induction xs with
  | nil => cases h
  | cons y ys ih =>
    rcases List.mem_cons.1 h with rfl | h
    · simp
    · have := ih h
      simp
      omega
theorem fold_wrap {α : Type} (f : α → Nat) : ∀ (xs : List α) (s : Nat), s + (xs.map f).sum ≤ 9223372036854775807 → xs.foldl (fun (s : Int) y => wrap64 (s + (f y : Int))) (s : Int) = ((s + (xs.map f).sum : Nat) : Int)
  | [], s, _ => by simp
  | x :: xs, s, h => by
    rw [List.map_cons, List.sum_cons] at h
    rw [List.foldl_cons, w64 (a := (s : Int) + (f x : Int)) (by omega) (by omega), List.map_cons, List.sum_cons, ← Nat.add_assoc]
    have := fold_wrap f xs (s + f x) (by omega)
    rw [← this]
    simp
/-- Two texts with rounds come to the same. -/
def Same {α : Type} (f g : Nat → Option α) : Prop := ∃ r, Ev f r ∧ Ev g r
theorem Same.ret {α : Type} {a b : α} (h : a = b) : Same (fun _ => some a) (fun _ => some b) := ⟨a, Ev.now a, Ev.const h.symm⟩
theorem Same.symm {α : Type} {f g : Nat → Option α} (h : Same f g) : Same g f := let ⟨r, a, b⟩ := h; ⟨r, b, a⟩
theorem Same.bind {α β : Type} {f g : Nat → Option α} {F G : Nat → α → Option β} (h : Same f g) (k : ∀ r, Ev f r → Ev g r → Same (F · r) (G · r)) : Same (fun n => (f n).bind (F n)) (fun n => (g n).bind (G n)) := by
  obtain ⟨r, a, b⟩ := h
  obtain ⟨s, c, d⟩ := k r a b
  exact ⟨s, Ev.bind a c, Ev.bind b d⟩
theorem Same.bindL {α β : Type} {f : Nat → Option α} {F : Nat → α → Option β} {g : Nat → Option β} {a : α} (h : Ev f a) (k : Same (F · a) g) : Same (fun n => (f n).bind (F n)) g := by
  obtain ⟨s, c, d⟩ := k
  exact ⟨s, Ev.bind h c, d⟩
theorem Same.bindR {α β : Type} {f : Nat → Option α} {F : Nat → α → Option β} {g : Nat → Option β} {a : α} (h : Ev f a) (k : Same g (F · a)) : Same g (fun n => (f n).bind (F n)) := (Same.bindL h k.symm).symm
theorem Same.posL {α : Type} {A B g : Nat → Option α} {c : Prop} [Decidable c] (hc : c) (h : Same A g) : Same (fun n => if c then A n else B n) g := let ⟨r, a, b⟩ := h; ⟨r, Ev.pos hc a, b⟩
theorem Same.negL {α : Type} {A B g : Nat → Option α} {c : Prop} [Decidable c] (hc : ¬ c) (h : Same B g) : Same (fun n => if c then A n else B n) g := let ⟨r, a, b⟩ := h; ⟨r, Ev.neg hc a, b⟩
theorem Same.posR {α : Type} {A B g : Nat → Option α} {c : Prop} [Decidable c] (hc : c) (h : Same g A) : Same g (fun n => if c then A n else B n) := let ⟨r, a, b⟩ := h; ⟨r, a, Ev.pos hc b⟩
theorem Same.negR {α : Type} {A B g : Nat → Option α} {c : Prop} [Decidable c] (hc : ¬ c) (h : Same g B) : Same g (fun n => if c then A n else B n) := let ⟨r, a, b⟩ := h; ⟨r, a, Ev.neg hc b⟩
theorem Same.pos {α : Type} {A B C D : Nat → Option α} {c d : Prop} [Decidable c] [Decidable d] (hc : c) (hd : d) (h : Same A C) : Same (fun n => if c then A n else B n) (fun n => if d then C n else D n) := Same.posL hc (Same.posR hd h)
theorem Same.neg {α : Type} {A B C D : Nat → Option α} {c d : Prop} [Decidable c] [Decidable d] (hc : ¬ c) (hd : ¬ d) (h : Same B D) : Same (fun n => if c then A n else B n) (fun n => if d then C n else D n) := Same.negL hc (Same.negR hd h)
theorem Same.ite {α : Type} {A B C D : Nat → Option α} {c d : Prop} [Decidable c] [Decidable d] (e : c ↔ d) (h1 : c → Same A C) (h2 : ¬ c → Same B D) : Same (fun n => if c then A n else B n) (fun n => if d then C n else D n) := by
  by_cases hc : c
  · exact Same.pos hc (e.1 hc) (h1 hc)
  · exact Same.neg hc (fun h => hc (e.2 h)) (h2 hc)
theorem Same.casesL {α : Type} {A B g : Nat → Option α} {c : Prop} [Decidable c] (h1 : c → Same A g) (h2 : ¬ c → Same B g) : Same (fun n => if c then A n else B n) g := by
  by_cases hc : c
  · exact Same.posL hc (h1 hc)
  · exact Same.negL hc (h2 hc)
theorem Same.up {α : Type} {f g : Nat → Option α} (h : Same (fun k => f (k + 1)) (fun k => g (k + 1))) : Same f g := let ⟨r, a, b⟩ := h; ⟨r, Ev.up a, Ev.up b⟩
theorem Same.upL {α : Type} {f g : Nat → Option α} (h : Same (fun k => f (k + 1)) g) : Same f g := let ⟨r, a, b⟩ := h; ⟨r, Ev.up a, b⟩
theorem Same.upR {α : Type} {f g : Nat → Option α} (h : Same f (fun k => g (k + 1))) : Same f g := let ⟨r, a, b⟩ := h; ⟨r, a, Ev.up b⟩
/-- A loop over an index, on both sides, with one state. -/
theorem Same.loop {σ ρ : Type} (n : Nat) (L M : Nat → σ → Nat → Option ρ) (hend : ∀ s, Same (fun k => L k s n) (fun k => M k s n))
    (hstep : ∀ i s, i < n → (∀ s', Same (fun k => L k s' (i + 1)) (fun k => M k s' (i + 1))) → Same (fun k => L k s i) (fun k => M k s i)) : ∀ s, Same (fun k => L k s 0) (fun k => M k s 0) := by
  suffices h : ∀ m i s, i + m = n → Same (fun k => L k s i) (fun k => M k s i) from fun s => h n 0 s (by omega)
  intro m
  induction m with
  | zero => intro i s hi; obtain rfl : i = n := by omega
            exact hend s
  | succ m ih => intro i s hi; exact hstep i s (by omega) (fun s' => ih (i + 1) s' (by omega))
/-- .. without a state. -/
theorem Same.loop0 {ρ : Type} (n : Nat) (L M : Nat → Nat → Option ρ) (hend : Same (fun k => L k n) (fun k => M k n))
    (hstep : ∀ i, i < n → Same (fun k => L k (i + 1)) (fun k => M k (i + 1)) → Same (fun k => L k i) (fun k => M k i)) : Same (fun k => L k 0) (fun k => M k 0) := by
  suffices h : ∀ m i, i + m = n → Same (fun k => L k i) (fun k => M k i) from h n 0 (by omega)
  intro m
  induction m with
  | zero => intro i hi; obtain rfl : i = n := by omega
            exact hend
  | succ m ih => intro i hi; exact hstep i (by omega) (ih (i + 1) (by omega))
theorem mx_eq (a b : Int) : mx a b = if a > b then a else b := by unfold mx; split <;> split <;> omega
/-- Does one of a list say yes, in order; else what stands at the end. -/
theorem any_ev {α : Type} (xs : List α) (d : α) (P : α → Bool) (fin : Bool) (L X : Nat → Nat → Option Bool)
    (h1 : ∀ k i, i < xs.length → L (k + 1) i = (X k i).bind fun t => if t = true then some true else L k (i + 1))
    (hend : Ev (fun k => L k xs.length) fin) (hX : ∀ i, i < xs.length → Ev (fun k => X k i) (P (xs.getD i d))) : Ev (fun k => L k 0) (xs.any P || fin) := by
  suffices h : ∀ m i, i + m = xs.length → Ev (fun k => L k i) ((xs.drop i).any P || fin) from by simpa using h xs.length 0 (by omega)
  intro m
  induction m with
  | zero =>
    intro i hi
    obtain rfl : i = xs.length := by omega
    simpa using hend
  | succ m ih =>
    intro i hi
    have hlt : i < xs.length := by omega
    refine Ev.step (fun k => h1 k i hlt) (Ev.bind (hX i hlt) ?_)
    rw [List.drop_eq_getElem_cons hlt, List.any_cons, show xs.getD i d = xs[i] by simp [List.getD_eq_getElem?_getD, hlt]]
    cases hp : P xs[i]
    · exact Ev.neg (by simp) (by simpa using ih (i + 1) (by omega))
    · exact Ev.pos rfl (Ev.const (by simp))
/-- Do all of a list say yes, in order; then what stands at the end. -/
theorem all_ev {α : Type} (xs : List α) (d : α) (P : α → Bool) (fin : Bool) (L X : Nat → Nat → Option Bool)
    (h1 : ∀ k i, i < xs.length → L (k + 1) i = (X k i).bind fun t => if t = true then L k (i + 1) else some false)
    (hend : Ev (fun k => L k xs.length) fin) (hX : ∀ i, i < xs.length → Ev (fun k => X k i) (P (xs.getD i d))) : Ev (fun k => L k 0) (xs.all P && fin) := by
  suffices h : ∀ m i, i + m = xs.length → Ev (fun k => L k i) ((xs.drop i).all P && fin) from by simpa using h xs.length 0 (by omega)
  intro m
  induction m with
  | zero =>
    intro i hi
    obtain rfl : i = xs.length := by omega
    simpa using hend
  | succ m ih =>
    intro i hi
    have hlt : i < xs.length := by omega
    refine Ev.step (fun k => h1 k i hlt) (Ev.bind (hX i hlt) ?_)
    rw [List.drop_eq_getElem_cons hlt, List.all_cons, show xs.getD i d = xs[i] by simp [List.getD_eq_getElem?_getD, hlt]]
    cases hp : P xs[i]
    · exact Ev.neg (by simp) (Ev.const (by simp))
    · exact Ev.pos rfl (by simpa using ih (i + 1) (by omega))
end Go.Proofs.Ytfbecaplnigmaaa.Pl
end
section
namespace Go.Proofs.Ytfbecaplnigmaaa.Px
open Go.RowKit Go.Proofs.YtfbecaplnigmaaaW.PrintWords Go.Proofs.Ytfbecaplnigmaaa.Pl
set_option linter.unusedVariables false
set_option linter.unusedSimpArgs false
theorem szStringS_ev (xs : List ByteArray) (hx : xs.length ≤ maxLen ∧ ∀ y ∈ xs, y.size ≤ maxLen) (left : Int) (h0 : 0 ≤ left) (hl : left ≤ 1048576) : Ev (fun k => laws_szStringS.f k xs left) (cut (wts xs) left) := by
  simp only [laws_szStringS.f]
  have hs := cut_sub (n := xs.length) h0 hl hx.1
  by_cases hc : cut xs.length left < 0
  · exact Ev.pos (hs.1.2 hc) (Ev.const (cut_add' hc).symm)
  · refine Ev.neg (fun h => hc (hs.1.1 h)) ?_
    rw [hs.2 (by omega)]
    have hl2 := cut_le (n := xs.length) h0
    have hw := sz_loop' xs.length (fun k left i => laws_szStringS.l0 k xs left (i : Int)) (fun i => (xs.getD i ByteArray.empty).size) (fun k left i hi h0 hl => by
      have hz := cut_sub (n := (xs.getD i ByteArray.empty).size) h0 hl (hx.2 _ (mem_getD xs _ i hi))
      simp only [laws_szStringS.l0, rdOf_str]
      rw [if_pos (by omega), if_pos (by omega)]
      by_cases hc : cut (xs.getD i ByteArray.empty).size left < 0
      · rw [if_pos (hz.1.2 hc), if_pos hc]
      · rw [if_neg (fun h => hc (hz.1.1 h)), if_neg hc, hz.2 (by omega), w1 hi hx.1]) (fun k left => by simp only [laws_szStringS.l0]; rw [if_neg (by omega)]) xs.length 0 _ (by omega) (show 0 ≤ cut xs.length left by omega) (by omega)
    refine Ev.eq hw ?_
    rw [cut_add (by omega), sumF_list ByteArray.size ByteArray.empty xs xs.length 0 (by omega)]
    rfl
theorem toStringS_ev (xs : List ByteArray) (hx : xs.length ≤ 1048576) : Ev (fun k => laws_toStringS.f k xs) xs := by
  simp only [laws_toStringS.f]
  refine Ev.pos (by omega) (Ev.pos (by omega) ?_)
  have hw := to_loop xs.length (fun k i => some (xs.getD i ByteArray.empty)) (fun k out i => laws_toStringS.l0 k xs out (i : Int)) (fun i => xs.getD i ByteArray.empty) (fun k out i hi hl => by
    simp only [laws_toStringS.l0, rdOf_str]
    rw [if_pos (by omega), if_pos (by omega), if_pos (by omega), w1' hi hx]
    rfl) (fun k out => by simp only [laws_toStringS.l0]; rw [if_neg (by omega)]) (fun i hi => Ev.now _) xs.length 0 (List.replicate ((xs.length : Int)).toNat (⟨#[]⟩ : ByteArray)) (by omega) (by simp)
  refine Ev.eq hw ?_
  rw [List.take_zero, List.nil_append, range_map_getElem (fun x => x) ByteArray.empty xs, List.map_id']
theorem eqStringS_ev (xs : List ByteArray) (hx : xs.length ≤ 1048576) : Ev (fun k => laws_eqStringS.f k xs xs) true := by
  simp only [laws_eqStringS.f]
  refine Ev.pos (by simp) ?_
  exact eq_loop xs.length (fun k i => some true) (fun k i => laws_eqStringS.l0 k xs xs (i : Int)) (fun k i hi => by
    simp only [laws_eqStringS.l0]
    rw [if_pos (by omega), if_pos (by omega), if_pos (by omega), w1' hi hx]
    simp) (fun k => by simp only [laws_eqStringS.l0]; rw [if_neg (by omega)]) (fun i hi => Ev.now _) xs.length 0 (by omega)
end Go.Proofs.Ytfbecaplnigmaaa.Px
end
section
namespace Go.Proofs.Ytfbecaplnigmaaa.Px
open Go.RowKit Go.Proofs.YtfbecaplnigmaaaW.PrintWords Go.Proofs.Ytfbecaplnigmaaa.Pl
set_option linter.unusedVariables false
set_option linter.unusedSimpArgs false
mutual
def wtValue : S105 → Nat
  | ⟨x0, x1, x2, x3⟩ => wts x2 + (x3.length + wtValueS x3)
def wtValueS : List S105 → Nat
  | [] => 0
  | x :: r => wtValue x + wtValueS r
end
mutual
def cvValue : S105 → S56
  | ⟨x0, x1, x2, x3⟩ => ⟨x0, x1, x2, (cvValueS x3)⟩
def cvValueS : List S105 → List S56
  | [] => []
  | x :: r => cvValue x :: cvValueS r
end
theorem wtValueS_sum (xs : List S105) : wtValueS xs = (xs.map wtValue).sum := by
  induction xs with
  | nil => rfl
  | cons x r ih => simp [wtValueS, ih]
theorem cvValueS_map (xs : List S105) : cvValueS xs = xs.map cvValue := by
  induction xs with
  | nil => rfl
  | cons x r ih => simp [cvValueS, ih]
theorem wtValue_eq (x : S105) : wtValue x = wts x.f2 + (x.f3.length + wtValueS x.f3) := by cases x; simp only [wtValue]
theorem cvValue_eq (x : S105) : cvValue x = ⟨x.f0, x.f1, x.f2, (cvValueS x.f3)⟩ := by cases x; simp only [cvValue]
theorem indValueL {P : S105 → Prop} (h : ∀ x, (∀ y ∈ x.f3, P y) → P x) : ∀ x, P x
  | ⟨x0, x1, x2, x3⟩ => h _ (fun y hy => indValueL h y)
termination_by x => SizeOf.sizeOf x
decreasing_by
  have := List.sizeOf_lt_of_mem hy
  simp at this ⊢
  omega
theorem indValueI {P : S56 → Prop} (h : ∀ x, (∀ y ∈ x.f3, P y) → P x) : ∀ x, P x
  | ⟨x0, x1, x2, x3⟩ => h _ (fun y hy => indValueI h y)
termination_by x => SizeOf.sizeOf x
decreasing_by
  have := List.sizeOf_lt_of_mem hy
  simp at this ⊢
  omega
inductive SmValue : S56 → Prop
  | mk {x : S56} : ((Lit.int .i64 x.f0).wf = true) → ((Lit.int .i64 x.f1).wf = true) → ((x.f2.length ≤ 1048576 ∧ ∀ y ∈ x.f2, y.size ≤ 1048576)) → x.f3.length ≤ 1048576 → (∀ y ∈ x.f3, SmValue y) → SmValue x
theorem SmValue.p0 {x : S56} (h : SmValue x) : (Lit.int .i64 x.f0).wf = true := by cases h; assumption
theorem SmValue.p1 {x : S56} (h : SmValue x) : (Lit.int .i64 x.f1).wf = true := by cases h; assumption
theorem SmValue.p2 {x : S56} (h : SmValue x) : (x.f2.length ≤ 1048576 ∧ ∀ y ∈ x.f2, y.size ≤ 1048576) := by cases h; assumption
theorem SmValue.p3 {x : S56} (h : SmValue x) : x.f3.length ≤ 1048576 ∧ ∀ y ∈ x.f3, SmValue y := by cases h; constructor <;> assumption
theorem etaValue (x : S56) : (⟨x.f0, x.f1, x.f2, x.f3⟩ : S56) = x := by obtain ⟨_, _, _, _⟩ := x; rfl
mutual
def ndValue : S56 → Nat
  | ⟨x0, x1, x2, x3⟩ => 1 + ndValueS x3
def ndValueS : List S56 → Nat
  | [] => 0
  | x :: r => ndValue x + ndValueS r
end
theorem ndValueS_sum (xs : List S56) : ndValueS xs = (xs.map ndValue).sum := by
  induction xs with
  | nil => rfl
  | cons x r ih => simp [ndValueS, ih]
theorem ndValue_eq (x : S56) : ndValue x = 1 + (x.f3.map ndValue).sum := by cases x; simp only [ndValue, ndValueS_sum]
theorem ndValue_cv : ∀ x : S105, ndValue (cvValue x) ≤ wtValue x + 1 := by
  refine indValueL fun x ih => ?_
  rw [ndValue_eq, cvValue_eq, wtValue_eq]
  have hL : ∀ l : List S105, (∀ y ∈ l, ndValue (cvValue y) ≤ wtValue y + 1) → ((l.map cvValue).map ndValue).sum ≤ l.length + (l.map wtValue).sum := by
    intro l
    induction l with
    | nil => intro _; simp
    | cons y r ih2 =>
      intro h
      have h1 := h y (List.mem_cons_self ..)
      have h2 := ih2 (fun z hz => h z (List.mem_cons_of_mem _ hz))
      simp only [List.map_cons, List.sum_cons, List.length_cons] at h2 ⊢
      omega
  have := hL x.f3 ih
  (try dsimp only)
  rw [cvValueS_map, wtValueS_sum]
  omega
theorem smValue_of : ∀ x : S105, W105 x → wtValue x ≤ 1048576 → SmValue (cvValue x) := by
  refine indValueL fun x ih hw hw2 => ?_
  have hb := hw2
  rw [wtValue_eq] at hb
  rw [cvValue_eq]
  exact SmValue.mk (hw.p0) (hw.p1) (⟨by (try dsimp only); unfold wts at hb; omega, fun y hy => by (try dsimp only at hy); have := sum_le_of_mem ByteArray.size hy; unfold wts szs at hb; omega⟩) (by (try dsimp only); rw [cvValueS_map, List.length_map]; omega) (fun z hz => by
      (try dsimp only at hz)
      rw [cvValueS_map] at hz
      obtain ⟨y, hy, rfl⟩ := List.mem_map.1 hz
      exact ih y hy (hw.p3.2 y hy) (by have := sum_le_of_mem wtValue hy; rw [← wtValueS_sum] at this; omega))
theorem szValueS_of (xs : List S105) (hx : xs.length ≤ maxLen) (h : ∀ y ∈ xs, ∀ left : Int, 0 ≤ left → left ≤ 1048576 → Ev (fun k => laws_szValue.f k (y.f0) (y.f1) (y.f2) (y.f3) left) (cut (wtValue y) left)) (left : Int) (h0 : 0 ≤ left) (hl : left ≤ 1048576) : Ev (fun k => laws_szValueS.f k xs left) (cut (xs.length + wtValueS xs) left) := by
  refine Ev.up ?_
  simp only [laws_szValueS.f]
  have hs := cut_sub (n := xs.length) h0 hl hx
  by_cases hc : cut xs.length left < 0
  · exact Ev.pos (hs.1.2 hc) (Ev.const (cut_add' hc).symm)
  · refine Ev.neg (fun h => hc (hs.1.1 h)) ?_
    rw [hs.2 (by omega)]
    have hl2 := cut_le (n := xs.length) h0
    have hw := sz_loop xs.length (fun k i left => laws_szValue.f k ((rd_T105 xs (i : Int)).f0) ((rd_T105 xs (i : Int)).f1) ((rd_T105 xs (i : Int)).f2) ((rd_T105 xs (i : Int)).f3) left) (fun k left i => laws_szValueS.l0 k xs left (i : Int)) (fun i => wtValue (xs.getD i z105)) (fun k left i hi => by
      simp only [laws_szValueS.l0]
      rw [if_pos (by omega), if_pos (by omega), w1 hi hx]) (fun k left => by simp only [laws_szValueS.l0]; rw [if_neg (by omega)]) (fun i left hi h0 hl => h _ (mem_getD xs z105 i hi) left h0 hl) xs.length 0 _ (by omega) (show 0 ≤ cut xs.length left by omega) (by omega)
    refine Ev.eq hw ?_
    rw [cut_add (by omega), sumF_list wtValue z105 xs xs.length 0 (by omega), wtValueS_sum]
    rfl
theorem szValue_ev : ∀ x : S105, W105 x → ∀ left : Int, 0 ≤ left → left ≤ 1048576 → Ev (fun k => laws_szValue.f k (x.f0) (x.f1) (x.f2) (x.f3) left) (cut (wtValue x) left) := by
  refine indValueL fun x ih hw left h0 hl => ?_
  refine Ev.up ?_
  simp only [laws_szValue.f]
  rw [wtValue_eq]
  have hb0 : (0 : Int) ≤ left ∧ left ≤ 1048576 := ⟨h0, hl⟩
  refine Ev.bind (szStringS_ev x.f2 hw.p2 _ hb0.1 hb0.2) ?_
  by_cases hc0 : cut (wts x.f2) left < 0
  · refine Ev.pos hc0 (Ev.const ?_)
    have hn : cut (wts x.f2) left < 0 := hc0
    have hn : cut (wts x.f2 + (x.f3.length + wtValueS x.f3)) left < 0 := by rw [cut_add' hn]; omega
    have hv := cut_neg.1 hn; unfold cut; rw [if_neg hv]
  refine Ev.neg hc0 ?_
  have hb1 : (0 : Int) ≤ cut (wts x.f2) left ∧ cut (wts x.f2) left ≤ 1048576 := ⟨by omega, by have := cut_le (n := wts x.f2) h0; omega⟩
  refine Ev.bind (szValueS_of x.f3 hw.p3.1 (fun y hy => ih y hy (hw.p3.2 y hy)) _ hb1.1 hb1.2) ?_
  by_cases hc1 : cut ((x.f3.length + wtValueS x.f3)) (cut (wts x.f2) left) < 0
  · refine Ev.pos hc1 (Ev.const ?_)
    have hn : cut (wts x.f2 + (x.f3.length + wtValueS x.f3)) left < 0 := by rw [← cut_add (by omega)]; exact hc1
    have hv := cut_neg.1 hn; unfold cut; rw [if_neg hv]
  refine Ev.neg hc1 ?_
  rw [cut_add (by omega)] at hc1 ⊢
  have hb2 : (0 : Int) ≤ cut (wts x.f2 + (x.f3.length + wtValueS x.f3)) left ∧ cut (wts x.f2 + (x.f3.length + wtValueS x.f3)) left ≤ 1048576 := ⟨by omega, by have := cut_le (n := wts x.f2 + (x.f3.length + wtValueS x.f3)) h0; omega⟩
  exact Ev.const rfl
theorem toValueS_of (xs : List S105) (hx : xs.length ≤ 1048576) (h : ∀ y ∈ xs, Ev (fun k => laws_toValue.f k (y.f0) (y.f1) (y.f2) (y.f3)) ((cvValue y).f0, (cvValue y).f1, (cvValue y).f2, (cvValue y).f3)) : Ev (fun k => laws_toValueS.f k xs) (cvValueS xs) := by
  refine Ev.up ?_
  simp only [laws_toValueS.f]
  refine Ev.pos (by omega) (Ev.pos (by omega) ?_)
  have hw := to_loop xs.length (fun k i => (laws_toValue.f k ((rd_T105 xs (i : Int)).f0) ((rd_T105 xs (i : Int)).f1) ((rd_T105 xs (i : Int)).f2) ((rd_T105 xs (i : Int)).f3)).map fun t => (⟨t.1, t.2.1, t.2.2.1, t.2.2.2⟩ : S56)) (fun k out i => laws_toValueS.l0 k xs out (i : Int)) (fun i => cvValue (xs.getD i z105)) (fun k out i hi hl => by
    simp only [laws_toValueS.l0]
    rw [if_pos (by omega), if_pos (by omega)]
    rcases laws_toValue.f k ((rd_T105 xs (i : Int)).f0) ((rd_T105 xs (i : Int)).f1) ((rd_T105 xs (i : Int)).f2) ((rd_T105 xs (i : Int)).f3) with _ | t
    · rfl
    · simp only [Option.map_some, Option.bind_some]
      rw [if_pos (by omega), w1' hi hx]
      rfl) (fun k out => by simp only [laws_toValueS.l0]; rw [if_neg (by omega)]) (fun i hi => Ev.eq (Ev.map (fun t => (⟨t.1, t.2.1, t.2.2.1, t.2.2.2⟩ : S56)) (h _ (mem_getD xs z105 i hi))) (etaValue _)) xs.length 0 (List.replicate ((xs.length : Int)).toNat z56) (by omega) (by simp)
  refine Ev.eq hw ?_
  rw [List.take_zero, List.nil_append, range_map_getElem cvValue z105 xs, cvValueS_map]
theorem toValue_ev : ∀ x : S105, wtValue x ≤ 1048576 → Ev (fun k => laws_toValue.f k (x.f0) (x.f1) (x.f2) (x.f3)) ((cvValue x).f0, (cvValue x).f1, (cvValue x).f2, (cvValue x).f3) := by
  refine indValueL fun x ih hw2 => ?_
  refine Ev.up ?_
  simp only [laws_toValue.f]
  have hb := hw2
  rw [wtValue_eq] at hb
  refine Ev.bind (toStringS_ev x.f2 (by unfold wts at hb; omega)) ?_
  refine Ev.bind (toValueS_of x.f3 (by omega) (fun y hy => ih y hy (by have := sum_le_of_mem wtValue hy; rw [← wtValueS_sum] at this; omega))) ?_
  exact Ev.const (by rw [cvValue_eq])
theorem eqValueS_of (xs : List S56) (hx : xs.length ≤ 1048576) (h : ∀ y ∈ xs, Ev (fun k => laws_eqValue.f k (y.f0) (y.f1) (y.f2) (y.f3) (y.f0) (y.f1) (y.f2) (y.f3)) true) : Ev (fun k => laws_eqValueS.f k xs xs) true := by
  refine Ev.up ?_
  simp only [laws_eqValueS.f]
  refine Ev.pos (by simp) ?_
  exact eq_loop xs.length (fun k i => laws_eqValue.f k ((rd_T56 xs (i : Int)).f0) ((rd_T56 xs (i : Int)).f1) ((rd_T56 xs (i : Int)).f2) ((rd_T56 xs (i : Int)).f3) ((rd_T56 xs (i : Int)).f0) ((rd_T56 xs (i : Int)).f1) ((rd_T56 xs (i : Int)).f2) ((rd_T56 xs (i : Int)).f3)) (fun k i => laws_eqValueS.l0 k xs xs (i : Int)) (fun k i hi => by
    simp only [laws_eqValueS.l0]
    rw [if_pos (by omega), if_pos (by omega), if_pos (by omega), w1' hi hx]) (fun k => by simp only [laws_eqValueS.l0]; rw [if_neg (by omega)]) (fun i hi => h _ (mem_getD xs z56 i hi)) xs.length 0 (by omega)
theorem eqValue_ev : ∀ x : S56, SmValue x → Ev (fun k => laws_eqValue.f k (x.f0) (x.f1) (x.f2) (x.f3) (x.f0) (x.f1) (x.f2) (x.f3)) true := by
  refine indValueI fun x ih hs => ?_
  refine Ev.up ?_
  simp only [laws_eqValue.f]
  refine Ev.pos (by simp) ?_
  refine Ev.pos (by simp) ?_
  refine Ev.bind (eqStringS_ev x.f2 hs.p2.1) (Ev.pos (by simp) ?_)
  refine Ev.bind (eqValueS_of x.f3 hs.p3.1 (fun y hy => ih y hy (hs.p3.2 y hy))) (Ev.pos (by simp) ?_)
  exact Ev.now _
end Go.Proofs.Ytfbecaplnigmaaa.Px
end
