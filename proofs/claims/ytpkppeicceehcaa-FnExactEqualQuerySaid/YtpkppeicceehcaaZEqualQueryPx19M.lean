/- Printed by a program of this session: what functions of the translation come to, each contract as it stands. No condition. -/
import Derived.Test.YtpkppeicceehcaaZEqualQuerySh
import Derived.Test.YtpkppeicceehcaaZEqualQueryPx0
import Derived.Test.YtpkppeicceehcaaZEqualQueryPx4
import Derived.Test.YtpkppeicceehcaaZEqualQueryPx7
import Derived.Test.YtpkppeicceehcaaZEqualQueryPx11
import Derived.Test.YtpkppeicceehcaaZEqualQueryPx15
import Derived.Test.YtpkppeicceehcaaZEqualQueryPx18
import Derived.Test.YtpkppeicceehcaaZEqualQueryWWords
import Derived.Test.YtpkppeicceehcaaZEqualQueryWLastM
import Derived.Test.YtpkppeicceehcaaZEqualQueryPx2M
import Derived.Test.YtpkppeicceehcaaZEqualQueryPx5
import Derived.Test.YtpkppeicceehcaaZEqualQueryPx8M
import Derived.Test.YtpkppeicceehcaaZEqualQueryPx1M
import Derived.Test.YtpkppeicceehcaaZEqualQueryPx16M
section
namespace Go.Proofs.Ytpkppeicceehcaa.Px
open Go.RowKit Go.Proofs.Ytpkppeicceehcaa.Ext Go.Proofs.YtpkppeicceehcaaW.PrintWords Go.Proofs.YtpkppeicceehcaaW.PrintLast Go.Proofs.YtpkppeicceehcaaW.PrintMore
attribute [local go_sem] max2_int min2_int max_two min_two max_three min_three max_four min_four   -- for this text's walks alone
set_option linter.unusedVariables false
set_option linter.unusedSimpArgs false

/-! ### laws_FnExactEqualQuery: function 5 -/
def laws_FnExactEqualQuery.f (k : Nat) (l0_0 : List (S73)) (l1_0 : List (S73)) : Option (Bool) := (laws_szQuery.f k l0_0 1048576).bind fun t492 => (if t492 < 0 then (some true) else ((laws_szQuery.f k l1_0 t492).bind fun t493 => (if t493 < 0 then (some true) else ((laws_toQuery.f k l0_0).bind fun t494 => ((laws_toQuery.f k l1_0).bind fun t497 => ((spec_EqualQuery.f k t494 t497).bind fun t500 => ((laws_toQuery.f k l0_0).bind fun t501 => ((laws_toQuery.f k l1_0).bind fun t505 => ((impl_EqualQuery.f k t501 t505).bind fun t509 => (if (t509 != t500) = true then (some false) else ((laws_toQuery.f k l0_0).bind fun t510 => ((laws_eqQuery.f k t501 t510).bind fun t513 => (if t513 = true then ((laws_toQuery.f k l1_0).bind fun t514 => ((laws_eqQuery.f k t505 t514).bind fun t517 => (if t517 = true then (some true) else (some false)))) else (some false))))))))))))))
set_option maxHeartbeats 8000000 in
set_option maxRecDepth 100000 in
theorem laws_FnExactEqualQuery.calls (k : Nat) (A0_0 : Option Addr) (c0_0 : Nat) (l0_0 : List (S73)) (A1_0 : Option Addr) (c1_0 : Nat) (l1_0 : List (S73)) (r : Bool) (w : World) (hr0_0 : Kd.C k73 w A0_0 l0_0.length l0_0) (hc0_0 : l0_0.length ≤ c0_0) (hr1_0 : Kd.C k73 w A1_0 l1_0.length l1_0) (hc1_0 : l1_0.length ≤ c1_0) (h : laws_FnExactEqualQuery.f k l0_0 l1_0 = some r) :
  Calls Try.prog 5 #[.agg #[.slice A0_0 l0_0.length c0_0], .agg #[.slice A1_0 l1_0.length c1_0]] w fun e w' => e = .returned (.bool r) ∧ Below w.heap.size w w' := by
 have hu24 := Try.underlying24
 have hu29 := Try.underlying29
 have HR0_0 := am hr0_0
 have HC0_0 := am hc0_0
 clear hr0_0 hc0_0
 have HR1_0 := am hr1_0
 have HC1_0 := am hc1_0
 clear hr1_0 hc1_0
 have HB := am (Below.refl w.heap.size w)
 have H : ((laws_szQuery.f k l0_0 1048576).bind fun t492 => (if t492 < 0 then (some true) else ((laws_szQuery.f k l1_0 t492).bind fun t493 => (if t493 < 0 then (some true) else ((laws_toQuery.f k l0_0).bind fun t494 => ((laws_toQuery.f k l1_0).bind fun t497 => ((spec_EqualQuery.f k t494 t497).bind fun t500 => ((laws_toQuery.f k l0_0).bind fun t501 => ((laws_toQuery.f k l1_0).bind fun t505 => ((impl_EqualQuery.f k t501 t505).bind fun t509 => (if (t509 != t500) = true then (some false) else ((laws_toQuery.f k l0_0).bind fun t510 => ((laws_eqQuery.f k t501 t510).bind fun t513 => (if t513 = true then ((laws_toQuery.f k l1_0).bind fun t514 => ((laws_eqQuery.f k t505 t514).bind fun t517 => (if t517 = true then (some true) else (some false)))) else (some false))))))))))))))) = some r := h
 clear h
 replace H := Option.bind_eq_some_iff.mp H
 obtain ⟨t492, A30, H⟩ := H
 replace H : (if t492 < 0 then (some true) else ((laws_szQuery.f k l1_0 t492).bind fun t493 => (if t493 < 0 then (some true) else ((laws_toQuery.f k l0_0).bind fun t494 => ((laws_toQuery.f k l1_0).bind fun t497 => ((spec_EqualQuery.f k t494 t497).bind fun t500 => ((laws_toQuery.f k l0_0).bind fun t501 => ((laws_toQuery.f k l1_0).bind fun t505 => ((impl_EqualQuery.f k t501 t505).bind fun t509 => (if (t509 != t500) = true then (some false) else ((laws_toQuery.f k l0_0).bind fun t510 => ((laws_eqQuery.f k t501 t510).bind fun t513 => (if t513 = true then ((laws_toQuery.f k l1_0).bind fun t514 => ((laws_eqQuery.f k t505 t514).bind fun t517 => (if t517 = true then (some true) else (some false)))) else (some false)))))))))))))) = some r := H
 have A3 := am A30
 clear A30
 have HC4 := am H
 clear H
 go_enter Try.func5, Try.ntmps5
 go_upto_if 14 with (first | ((with_reducible refine gate_dst (N := 2) rfl ?_); refine box_event ?hg (N := 2) ?hd (cs := #[.slice A0_0 l0_0.length c0_0]) (t := 24) ?hr ?_; (case hd => rfl); (case hg => rfl); (case hr => exact hrw); intro gb490 hg w5 hbox hb; have n0_ := am (below_step blw hb); have n1_ := am (hbox); have n2_ := am ((by rw [hg]; exact (below_size blw) : w.heap.size ≤ gb490)); have n3_ := n2_; clear HB; revert n0_ n1_ n2_ n3_; intro HB BK490 GW490 GE490; clear hb hbox hg) | ((with_reducible refine gate_dst (N := 3) rfl ?_); refine box_event ?hg (N := 3) ?hd (cs := #[.slice A1_0 l1_0.length c1_0]) (t := 24) ?hr ?_; (case hd => rfl); (case hg => rfl); (case hr => exact hrw); intro gb491 hg w6 hbox hb; have n0_ := am (blk_below (g := gb490) bkw hb); have n1_ := am (below_step blw hb); have n2_ := am (hbox); have n3_ := am ((by rw [hg]; exact (below_size blw) : w.heap.size ≤ gb491)); have n4_ := n3_; have n5_ := am ((by rw [hg]; exact Nat.ne_of_lt (blk_lt (g := gb490) bkw) : gb490 ≠ gb491)); have n6_ := am ((by rw [hg]; exact Nat.ne_of_gt (blk_lt (g := gb490) bkw) : gb491 ≠ gb490)); clear BK490; clear HB; revert n0_ n1_ n2_ n3_ n4_ n5_ n6_; intro BK490 HB BK491 GW491 GE491 NB490_491 NB491_490; clear hb hbox hg; have hnb7 := NB490_491.out; have hnc7 := NB491_490.out; have hcz8_0 : w6.cell? ⟨gb490, 0, none⟩ = some (.slice A0_0 l0_0.length c0_0) := (blk_cell BK490.out 0).trans rfl; have hfz8_0 := blk_frozen BK490.out 0) | ((with_reducible refine gate_callee (f := 6) rfl ?_); refine goesL_ (some 12) rfl rfl Try.func6 kr rfl #[.agg #[.slice A0_0 l0_0.length c0_0], .int .i64 1048576] rfl mpw ?_; (with_reducible refine (laws_szQuery.calls k _ _ l0_0 1048576 t492 _ ?side1 ?side2 A3.out).mono ?_); (case side1 => have X_ := HR0_0; exact cbl); (case side2 => exact HC0_0.out); rintro e w9 ⟨rfl, hb⟩; refine ⟨_, rfl, ?_⟩; have n0_ := am (blk_below (g := gb490) bkw hb); have n1_ := am (blk_below (g := gb491) bkw hb); have n2_ := am (below_step blw hb); clear BK490; clear BK491; clear HB; revert n0_ n1_ n2_; intro BK490 BK491 HB; (try clear hb); (try clear hb2); (try clear hk); (try clear hi)))
 have H := HC4.out
 clear HC4
 by_cases c10 : t492 < 0
 ·rw [if_pos c10] at H
  have c10b0 : decide (t492 < 0) = true := decide_eq_true c10
  clear c10
  (first | rw [c10b0] | (simp only [i64_w, i32_w]; rw [c10b0]) | skip)
  obtain rfl := Option.some.inj H
  go_wp2
  go_ret
  exact ⟨rfw, blw⟩
 rw [if_neg c10] at H
 have c10b0 : decide (t492 < 0) = false := decide_eq_false c10
 clear c10
 (first | rw [c10b0] | (simp only [i64_w, i32_w]; rw [c10b0]) | skip)
 replace H := Option.bind_eq_some_iff.mp H
 obtain ⟨t493, A110, H⟩ := H
 replace H : (if t493 < 0 then (some true) else ((laws_toQuery.f k l0_0).bind fun t494 => ((laws_toQuery.f k l1_0).bind fun t497 => ((spec_EqualQuery.f k t494 t497).bind fun t500 => ((laws_toQuery.f k l0_0).bind fun t501 => ((laws_toQuery.f k l1_0).bind fun t505 => ((impl_EqualQuery.f k t501 t505).bind fun t509 => (if (t509 != t500) = true then (some false) else ((laws_toQuery.f k l0_0).bind fun t510 => ((laws_eqQuery.f k t501 t510).bind fun t513 => (if t513 = true then ((laws_toQuery.f k l1_0).bind fun t514 => ((laws_eqQuery.f k t505 t514).bind fun t517 => (if t517 = true then (some true) else (some false)))) else (some false)))))))))))) = some r := H
 have A11 := am A110
 clear A110
 have HC12 := am H
 clear H
 have hnb13 := NB491_490.out
 have hnc13 := NB490_491.out
 have hcz14_0 : w9.cell? ⟨gb491, 0, none⟩ = some (.slice A1_0 l1_0.length c1_0) := (blk_cell BK491.out 0).trans rfl
 have hfz14_0 := blk_frozen BK491.out 0
 go_upto_if 19 with (first | ((with_reducible refine gate_callee (f := 6) rfl ?_); refine goesL_ (some 17) rfl rfl Try.func6 kr rfl #[.agg #[.slice A1_0 l1_0.length c1_0], .int .i64 t492] rfl mpw ?_; (with_reducible refine (laws_szQuery.calls k _ _ l1_0 t492 t493 _ ?side1 ?side2 A11.out).mono ?_); (case side1 => have X_ := HR1_0; exact cbl); (case side2 => exact HC1_0.out); rintro e w15 ⟨rfl, hb⟩; refine ⟨_, rfl, ?_⟩; have n0_ := am (blk_below (g := gb490) bkw hb); have n1_ := am (blk_below (g := gb491) bkw hb); have n2_ := am (below_step blw hb); clear BK490; clear BK491; clear HB; revert n0_ n1_ n2_; intro BK490 BK491 HB; (try clear hb); (try clear hb2); (try clear hk); (try clear hi)))
 have H := HC12.out
 clear HC12
 by_cases c16 : t493 < 0
 ·rw [if_pos c16] at H
  have c16b0 : decide (t493 < 0) = true := decide_eq_true c16
  clear c16
  (first | rw [c16b0] | (simp only [i64_w, i32_w]; rw [c16b0]) | skip)
  obtain rfl := Option.some.inj H
  go_wp2
  go_ret
  exact ⟨rfw, blw⟩
 rw [if_neg c16] at H
 have c16b0 : decide (t493 < 0) = false := decide_eq_false c16
 clear c16
 (first | rw [c16b0] | (simp only [i64_w, i32_w]; rw [c16b0]) | skip)
 replace H := Option.bind_eq_some_iff.mp H
 obtain ⟨t494, A170, H⟩ := H
 replace H : ((laws_toQuery.f k l1_0).bind fun t497 => ((spec_EqualQuery.f k t494 t497).bind fun t500 => ((laws_toQuery.f k l0_0).bind fun t501 => ((laws_toQuery.f k l1_0).bind fun t505 => ((impl_EqualQuery.f k t501 t505).bind fun t509 => (if (t509 != t500) = true then (some false) else ((laws_toQuery.f k l0_0).bind fun t510 => ((laws_eqQuery.f k t501 t510).bind fun t513 => (if t513 = true then ((laws_toQuery.f k l1_0).bind fun t514 => ((laws_eqQuery.f k t505 t514).bind fun t517 => (if t517 = true then (some true) else (some false)))) else (some false)))))))))) = some r := H
 have A17 := am A170
 clear A170
 replace H := Option.bind_eq_some_iff.mp H
 obtain ⟨t497, A180, H⟩ := H
 replace H : ((spec_EqualQuery.f k t494 t497).bind fun t500 => ((laws_toQuery.f k l0_0).bind fun t501 => ((laws_toQuery.f k l1_0).bind fun t505 => ((impl_EqualQuery.f k t501 t505).bind fun t509 => (if (t509 != t500) = true then (some false) else ((laws_toQuery.f k l0_0).bind fun t510 => ((laws_eqQuery.f k t501 t510).bind fun t513 => (if t513 = true then ((laws_toQuery.f k l1_0).bind fun t514 => ((laws_eqQuery.f k t505 t514).bind fun t517 => (if t517 = true then (some true) else (some false)))) else (some false))))))))) = some r := H
 have A18 := am A180
 clear A180
 replace H := Option.bind_eq_some_iff.mp H
 obtain ⟨t500, A190, H⟩ := H
 replace H : ((laws_toQuery.f k l0_0).bind fun t501 => ((laws_toQuery.f k l1_0).bind fun t505 => ((impl_EqualQuery.f k t501 t505).bind fun t509 => (if (t509 != t500) = true then (some false) else ((laws_toQuery.f k l0_0).bind fun t510 => ((laws_eqQuery.f k t501 t510).bind fun t513 => (if t513 = true then ((laws_toQuery.f k l1_0).bind fun t514 => ((laws_eqQuery.f k t505 t514).bind fun t517 => (if t517 = true then (some true) else (some false)))) else (some false)))))))) = some r := H
 have A19 := am A190
 clear A190
 replace H := Option.bind_eq_some_iff.mp H
 obtain ⟨t501, A200, H⟩ := H
 replace H : ((laws_toQuery.f k l1_0).bind fun t505 => ((impl_EqualQuery.f k t501 t505).bind fun t509 => (if (t509 != t500) = true then (some false) else ((laws_toQuery.f k l0_0).bind fun t510 => ((laws_eqQuery.f k t501 t510).bind fun t513 => (if t513 = true then ((laws_toQuery.f k l1_0).bind fun t514 => ((laws_eqQuery.f k t505 t514).bind fun t517 => (if t517 = true then (some true) else (some false)))) else (some false))))))) = some r := H
 have A20 := am A200
 clear A200
 replace H := Option.bind_eq_some_iff.mp H
 obtain ⟨t505, A210, H⟩ := H
 replace H : ((impl_EqualQuery.f k t501 t505).bind fun t509 => (if (t509 != t500) = true then (some false) else ((laws_toQuery.f k l0_0).bind fun t510 => ((laws_eqQuery.f k t501 t510).bind fun t513 => (if t513 = true then ((laws_toQuery.f k l1_0).bind fun t514 => ((laws_eqQuery.f k t505 t514).bind fun t517 => (if t517 = true then (some true) else (some false)))) else (some false)))))) = some r := H
 have A21 := am A210
 clear A210
 replace H := Option.bind_eq_some_iff.mp H
 obtain ⟨t509, A220, H⟩ := H
 replace H : (if (t509 != t500) = true then (some false) else ((laws_toQuery.f k l0_0).bind fun t510 => ((laws_eqQuery.f k t501 t510).bind fun t513 => (if t513 = true then ((laws_toQuery.f k l1_0).bind fun t514 => ((laws_eqQuery.f k t505 t514).bind fun t517 => (if t517 = true then (some true) else (some false)))) else (some false))))) = some r := H
 have A22 := am A220
 clear A220
 have HC23 := am H
 clear H
 try go_wp2
 have n0_ := am (blk_drew BK490.out)
 have n1_ := am (blk_drew BK491.out)
 have n2_ := am (below_drew1 HB.out)
 clear BK490
 clear BK491
 clear HB
 revert n0_ n1_ n2_
 intro BK490 BK491 HB
 refine start_ (n := 6) (S := fun w' => w'.cell? ⟨gb490, 0, none⟩ = some (.slice A0_0 l0_0.length c0_0) ∧ w'.cell? ⟨gb491, 0, none⟩ = some (.slice A1_0 l1_0.length c1_0)) (ds := []) #[false,false,false,false,false,false] kr rfl rfl ⟨(blk_cell BK490.out 0).trans rfl, (blk_cell BK491.out 0).trans rfl⟩ (fun hHeld => ?_)
 generalize w15.drew = w24 at BK490 BK491 HB hHeld ⊢
 refine take_ (i := 0) (N := some 20) (v := ?_) (a' := ?_) (bm 6 1) rfl rfl kr qi (Or.inl ⟨by rfl, ?_⟩) hHeld ?_ ?_
 rotate_left
 ·rintro w' ⟨s0, s1⟩
  go_simp
  with_reducible rfl
 rotate_left
 ·simp only [sx]
  rfl
 refine take_ (i := 2) (N := some 22) (v := ?_) (a' := ?_) (bm 6 5) rfl rfl kr qi (Or.inl ⟨by rfl, ?_⟩) hHeld ?_ ?_
 rotate_left
 ·rintro w' ⟨s0, s1⟩
  go_simp
  with_reducible rfl
 rotate_left
 ·simp only [sx]
  rfl
 refine one_ (i := 1) (N := some 21) (bm 6 7) rfl rfl kr (by decide) (fun K hK => ?_)
 refine goes_ Try.func8 kr rfl #[.agg #[.slice A0_0 l0_0.length c0_0]] (by rfl) rfl rfl mpw ?_
 with_reducible refine (laws_toQuery.calls k _ _ l0_0 t494 _ ?side1 ?side2 A17.out).mono ?_
 (case side1 => have X_ := HR0_0; exact cbl)
 (case side2 => exact HC0_0.out)
 rintro e w25 ⟨v495, rfl, ho0, hb⟩
 refine ⟨_, rfl, ?_⟩
 have n0_ := am (Kd.R_lower ho0 (below_size blw))
 have n1_ := am (blk_below (g := gb490) bkw hb)
 have n2_ := am (blk_below (g := gb491) bkw hb)
 have n3_ := am (below_step blw hb)
 clear BK490
 clear BK491
 clear HB
 revert n0_ n1_ n2_ n3_
 intro HO496 BK490 BK491 HB
 (try clear hb)
 (try clear hb2)
 (try clear hk)
 (try clear hi)
 (try clear ho0)
 refine hK.out _ _ ⟨(blk_cell BK490.out 0).trans rfl, (blk_cell BK491.out 0).trans rfl⟩ (fun hHeld => ?_)
 clear hK K
 refine norm_ (a' := ?_) ?_ ?_
 rotate_left
 ·show Act.put _ (some 21) _ = _
  simp only [sx]
  rfl
 refine one_ (i := 3) (N := some 23) (bm 6 15) rfl rfl kr (by decide) (fun K hK => ?_)
 refine goes_ Try.func8 kr rfl #[.agg #[.slice A1_0 l1_0.length c1_0]] (by rfl) rfl rfl mpw ?_
 with_reducible refine (laws_toQuery.calls k _ _ l1_0 t497 _ ?side1 ?side2 A18.out).mono ?_
 (case side1 => have X_ := HR1_0; exact cbl)
 (case side2 => exact HC1_0.out)
 rintro e w26 ⟨v498, rfl, ho0, hb⟩
 refine ⟨_, rfl, ?_⟩
 have n0_ := am (Kd.R_elder' (by (with_reducible repeat (first | apply Kd.R_alloc | apply Kd.R_drewN | apply Kd.R_drew)); exact HO496.out) (Kd.R_base ho0) hb)
 have n1_ := am (Kd.R_lower (Kd.R_new' ho0 (Kd.R_lt (by (with_reducible repeat (first | apply Kd.R_alloc | apply Kd.R_drewN | apply Kd.R_drew)); exact HO496.out))) (below_size blw))
 have n2_ := am (blk_below (g := gb490) bkw hb)
 have n3_ := am (blk_below (g := gb491) bkw hb)
 have n4_ := am (below_step blw hb)
 clear HO496
 clear BK490
 clear BK491
 clear HB
 revert n0_ n1_ n2_ n3_ n4_
 intro HO496 HO499 BK490 BK491 HB
 (try clear hb)
 (try clear hb2)
 (try clear hk)
 (try clear hi)
 (try clear ho0)
 obtain ⟨Ao27, co27, eo27⟩ := Kd.R_slice HO496.out
 (first | subst eo27 | (injection eo27 with f1_ f2_ f3_; have f4_ := f1_.symm; have f5_ := f3_.symm; clear f1_ f2_ f3_; subst f4_; subst f5_))
 obtain ⟨Ao28, co28, eo28⟩ := Kd.R_slice HO499.out
 (first | subst eo28 | (injection eo28 with f1_ f2_ f3_; have f4_ := f1_.symm; have f5_ := f3_.symm; clear f1_ f2_ f3_; subst f4_; subst f5_))
 refine hK.out _ _ ⟨(blk_cell BK490.out 0).trans rfl, (blk_cell BK491.out 0).trans rfl⟩ (fun hHeld => ?_)
 clear hK K
 refine norm_ (a' := ?_) ?_ ?_
 rotate_left
 ·show Act.put _ (some 23) _ = _
  simp only [sx]
  rfl
 refine one_ (i := 4) (N := some 24) (bm 6 31) rfl rfl kr (by decide) (fun K hK => ?_)
 refine goes_ Try.func13 kr rfl #[.agg #[.slice Ao27 t494.length co27], .agg #[.slice Ao28 t497.length co28]] (by rfl) rfl rfl mpw ?_
 with_reducible refine (spec_EqualQuery.calls k _ _ t494 _ _ t497 t500 _ ?side1 ?side2 ?side3 ?side4 A19.out).mono ?_
 (case side1 => repeat (first | exact (Kd.R_reads' HO496.out).2.2 | (with_reducible refine Kd.C_alloc ?_ _) | (with_reducible refine Kd.C_drewN ?_ _) | (with_reducible refine Kd.C_drew ?_)))
 (case side2 => exact (Kd.R_reads' HO496.out).2.1)
 (case side3 => repeat (first | exact (Kd.R_reads' HO499.out).2.2 | (with_reducible refine Kd.C_alloc ?_ _) | (with_reducible refine Kd.C_drewN ?_ _) | (with_reducible refine Kd.C_drew ?_)))
 (case side4 => exact (Kd.R_reads' HO499.out).2.1)
 rintro e w29 ⟨rfl, hb⟩
 refine ⟨_, rfl, ?_⟩
 have n0_ := am (Kd.R_below (by (with_reducible repeat (first | apply Kd.R_alloc | apply Kd.R_drewN | apply Kd.R_drew)); exact HO496.out) hb)
 have n1_ := am (Kd.R_below (by (with_reducible repeat (first | apply Kd.R_alloc | apply Kd.R_drewN | apply Kd.R_drew)); exact HO499.out) hb)
 have n2_ := am (blk_below (g := gb490) bkw hb)
 have n3_ := am (blk_below (g := gb491) bkw hb)
 have n4_ := am (below_step blw hb)
 clear HO496
 clear HO499
 clear BK490
 clear BK491
 clear HB
 revert n0_ n1_ n2_ n3_ n4_
 intro HO496 HO499 BK490 BK491 HB
 (try clear hb)
 (try clear hb2)
 (try clear hk)
 (try clear hi)
 refine hK.out _ _ ⟨(blk_cell BK490.out 0).trans rfl, (blk_cell BK491.out 0).trans rfl⟩ (fun hHeld => ?_)
 clear hK K
 refine norm_ (a' := ?_) ?_ ?_
 rotate_left
 ·show Act.put _ (some 24) _ = _
  simp only [sx]
  rfl
 refine pure_ (i := 5) (N := some 6) (v := ?_) (a' := ?_) (bm 6 63) rfl rfl kr qi (Or.inl ⟨by rfl, ?_⟩) ?_ ?_
 rotate_left
 ·intro w'
  go_simp
  with_reducible rfl
 rotate_left
 ·simp only [sx]
  rfl
 refine done_ kr ?_
 have hnb30 := NB490_491.out
 have hnc30 := NB491_490.out
 have hcz31_0 : w29.cell? ⟨gb490, 0, none⟩ = some (.slice A0_0 l0_0.length c0_0) := (blk_cell BK490.out 0).trans rfl
 have hfz31_0 := blk_frozen BK490.out 0
 go_upto_if 34 with (first | ((with_reducible refine gate_callee (f := 8) rfl ?_); refine goesL_ (some 26) rfl rfl Try.func8 kr rfl #[.agg #[.slice A0_0 l0_0.length c0_0]] rfl mpw ?_; (with_reducible refine (laws_toQuery.calls k _ _ l0_0 t501 _ ?side1 ?side2 A20.out).mono ?_); (case side1 => have X_ := HR0_0; exact cbl); (case side2 => exact HC0_0.out); rintro e w32 ⟨v502, rfl, ho0, hb⟩; refine ⟨_, rfl, ?_⟩; have n0_ := am (Kd.R_elder' (by (with_reducible repeat (first | apply Kd.R_alloc | apply Kd.R_drewN | apply Kd.R_drew)); exact HO496.out) (Kd.R_base ho0) hb); have n1_ := am (Kd.R_elder' (by (with_reducible repeat (first | apply Kd.R_alloc | apply Kd.R_drewN | apply Kd.R_drew)); exact HO499.out) (Kd.R_base ho0) hb); have n2_ := am (Kd.R_lower (Kd.R_new' (Kd.R_new' ho0 (Kd.R_lt (by (with_reducible repeat (first | apply Kd.R_alloc | apply Kd.R_drewN | apply Kd.R_drew)); exact HO496.out))) (Kd.R_lt (by (with_reducible repeat (first | apply Kd.R_alloc | apply Kd.R_drewN | apply Kd.R_drew)); exact HO499.out))) (below_size blw)); have n3_ := am (blk_below (g := gb490) bkw hb); have n4_ := am (blk_below (g := gb491) bkw hb); have n5_ := am (below_step blw hb); clear HO496; clear HO499; clear BK490; clear BK491; clear HB; revert n0_ n1_ n2_ n3_ n4_ n5_; intro HO496 HO499 HO503 BK490 BK491 HB; (try clear hb); (try clear hb2); (try clear hk); (try clear hi); (try clear ho0)) | ((with_reducible refine gate_dst (N := 7) rfl ?_); refine box_event ?hg (N := 7) ?hd (cs := #[.slice none 0 0]) (t := 29) ?hr ?_; (case hd => rfl); (case hg => rfl); (case hr => exact hrw); intro gb504 hg w33 hbox hb; have n0_ := am (Kd.R_below (by (with_reducible repeat (first | apply Kd.R_alloc | apply Kd.R_drewN | apply Kd.R_drew)); exact HO496.out) hb); have n1_ := am (Kd.R_below (by (with_reducible repeat (first | apply Kd.R_alloc | apply Kd.R_drewN | apply Kd.R_drew)); exact HO499.out) hb); have n2_ := am (Kd.R_below (by (with_reducible repeat (first | apply Kd.R_alloc | apply Kd.R_drewN | apply Kd.R_drew)); exact HO503.out) hb); have n3_ := am (blk_below (g := gb490) bkw hb); have n4_ := am (blk_below (g := gb491) bkw hb); have n5_ := am (below_step blw hb); have n6_ := am (hbox); have n7_ := am ((by rw [hg]; exact (below_size blw) : w.heap.size ≤ gb504)); have n8_ := n7_; have n9_ := am ((by rw [hg]; exact Nat.ne_of_lt (blk_lt (g := gb490) bkw) : gb490 ≠ gb504)); have n10_ := am ((by rw [hg]; exact Nat.ne_of_gt (blk_lt (g := gb490) bkw) : gb504 ≠ gb490)); have n11_ := am ((by rw [hg]; exact Nat.ne_of_lt (blk_lt (g := gb491) bkw) : gb491 ≠ gb504)); have n12_ := am ((by rw [hg]; exact Nat.ne_of_gt (blk_lt (g := gb491) bkw) : gb504 ≠ gb491)); clear HO496; clear HO499; clear HO503; clear BK490; clear BK491; clear HB; revert n0_ n1_ n2_ n3_ n4_ n5_ n6_ n7_ n8_ n9_ n10_ n11_ n12_; intro HO496 HO499 HO503 BK490 BK491 HB BK504 GW504 GE504 NB490_504 NB504_490 NB491_504 NB504_491; clear hb hbox hg; obtain ⟨Ao34, co34, eo34⟩ := Kd.R_slice HO503.out; subst eo34; have hnb35 := NB504_490.out; have hnc35 := NB490_504.out; have hnb36 := NB504_491.out; have hnc36 := NB491_504.out; have hcz37_0 : w33.cell? ⟨gb504, 0, none⟩ = some (.slice none 0 0) := (blk_cell BK504.out 0).trans rfl; have hfz37_0 := blk_frozen BK504.out 0; have hcz38_0 : w33.cell? ⟨gb491, 0, none⟩ = some (.slice A1_0 l1_0.length c1_0) := (blk_cell BK491.out 0).trans rfl; have hfz38_0 := blk_frozen BK491.out 0) | ((with_reducible refine gate_callee (f := 8) rfl ?_); refine goesL_ (some 28) rfl rfl Try.func8 kr rfl #[.agg #[.slice A1_0 l1_0.length c1_0]] rfl mpw ?_; (with_reducible refine (laws_toQuery.calls k _ _ l1_0 t505 _ ?side1 ?side2 A21.out).mono ?_); (case side1 => exact Kd.C_below HR1_0.out blw); (case side2 => exact HC1_0.out); rintro e w39 ⟨v506, rfl, ho0, hb⟩; refine ⟨_, rfl, ?_⟩; have n0_ := am (Kd.R_elder' (by (with_reducible repeat (first | apply Kd.R_alloc | apply Kd.R_drewN | apply Kd.R_drew)); exact (Kd.R_mono (Kd.R_far (p := ⟨gb504, 0, none⟩) (Kd.R_types HO496.out BK504.out (by decide)) (fun _ hk => hk.2) (.slice Ao34 t501.length co34)) (fun _ h_ => h_.1))) (Kd.R_base ho0) hb); have n1_ := am (Kd.R_elder' (by (with_reducible repeat (first | apply Kd.R_alloc | apply Kd.R_drewN | apply Kd.R_drew)); exact (Kd.R_mono (Kd.R_far (p := ⟨gb504, 0, none⟩) (Kd.R_types HO499.out BK504.out (by decide)) (fun _ hk => hk.2) (.slice Ao34 t501.length co34)) (fun _ h_ => h_.1))) (Kd.R_base ho0) hb); have n2_ := am (Kd.R_elder' (by (with_reducible repeat (first | apply Kd.R_alloc | apply Kd.R_drewN | apply Kd.R_drew)); exact (Kd.R_mono (Kd.R_far (p := ⟨gb504, 0, none⟩) (Kd.R_types HO503.out BK504.out (by decide)) (fun _ hk => hk.2) (.slice Ao34 t501.length co34)) (fun _ h_ => h_.1))) (Kd.R_base ho0) hb); have n3_ := am (Kd.R_lower (Kd.R_new' (Kd.R_new' (Kd.R_new' ho0 (Kd.R_lt (by (with_reducible repeat (first | apply Kd.R_alloc | apply Kd.R_drewN | apply Kd.R_drew)); exact (Kd.R_mono (Kd.R_far (p := ⟨gb504, 0, none⟩) (Kd.R_types HO496.out BK504.out (by decide)) (fun _ hk => hk.2) (.slice Ao34 t501.length co34)) (fun _ h_ => h_.1))))) (Kd.R_lt (by (with_reducible repeat (first | apply Kd.R_alloc | apply Kd.R_drewN | apply Kd.R_drew)); exact (Kd.R_mono (Kd.R_far (p := ⟨gb504, 0, none⟩) (Kd.R_types HO499.out BK504.out (by decide)) (fun _ hk => hk.2) (.slice Ao34 t501.length co34)) (fun _ h_ => h_.1))))) (Kd.R_lt (by (with_reducible repeat (first | apply Kd.R_alloc | apply Kd.R_drewN | apply Kd.R_drew)); exact (Kd.R_mono (Kd.R_far (p := ⟨gb504, 0, none⟩) (Kd.R_types HO503.out BK504.out (by decide)) (fun _ hk => hk.2) (.slice Ao34 t501.length co34)) (fun _ h_ => h_.1))))) (below_size blw)); have n4_ := am (blk_below (g := gb490) (o := .cells #[.slice A0_0 l0_0.length c0_0] 24 (0, 0)) (by (with_reducible repeat (first | refine blk_drewN ?_ _ | refine blk_drew ?_ | refine blk_alloc ?_ _)); refine blk_far ?_ NB490_504.out _; (with_reducible repeat (first | refine blk_drewN ?_ _ | refine blk_drew ?_ | refine blk_alloc ?_ _)); exact BK490.out) hb); have n5_ := am (blk_below (g := gb491) (o := .cells #[.slice A1_0 l1_0.length c1_0] 24 (0, 0)) (by (with_reducible repeat (first | refine blk_drewN ?_ _ | refine blk_drew ?_ | refine blk_alloc ?_ _)); refine blk_far ?_ NB491_504.out _; (with_reducible repeat (first | refine blk_drewN ?_ _ | refine blk_drew ?_ | refine blk_alloc ?_ _)); exact BK491.out) hb); have n6_ := am (blk_below (g := gb504) (o := .cells #[.slice Ao34 t501.length co34] 29 (0, 0)) (by (with_reducible repeat (first | refine blk_drewN ?_ _ | refine blk_drew ?_ | refine blk_alloc ?_ _)); refine blk_put (cs := #[.slice none 0 0]) ?_ 0 _ rfl; (with_reducible repeat (first | refine blk_drewN ?_ _ | refine blk_drew ?_ | refine blk_alloc ?_ _)); exact BK504.out) hb); have n7_ := am (below_step blw hb); clear HO496; clear HO499; clear HO503; clear BK490; clear BK491; clear BK504; clear HB; revert n0_ n1_ n2_ n3_ n4_ n5_ n6_ n7_; intro HO496 HO499 HO503 HO507 BK490 BK491 BK504 HB; (try clear hb); (try clear hb2); (try clear hk); (try clear hi); (try clear ho0)) | ((with_reducible refine gate_dst (N := 8) rfl ?_); refine box_event ?hg (N := 8) ?hd (cs := #[.slice none 0 0]) (t := 29) ?hr ?_; (case hd => rfl); (case hg => rfl); (case hr => exact hrw); intro gb508 hg w40 hbox hb; have n0_ := am (Kd.R_below (by (with_reducible repeat (first | apply Kd.R_alloc | apply Kd.R_drewN | apply Kd.R_drew)); exact HO496.out) hb); have n1_ := am (Kd.R_below (by (with_reducible repeat (first | apply Kd.R_alloc | apply Kd.R_drewN | apply Kd.R_drew)); exact HO499.out) hb); have n2_ := am (Kd.R_below (by (with_reducible repeat (first | apply Kd.R_alloc | apply Kd.R_drewN | apply Kd.R_drew)); exact HO503.out) hb); have n3_ := am (Kd.R_below (by (with_reducible repeat (first | apply Kd.R_alloc | apply Kd.R_drewN | apply Kd.R_drew)); exact HO507.out) hb); have n4_ := am (blk_below (g := gb490) bkw hb); have n5_ := am (blk_below (g := gb491) bkw hb); have n6_ := am (blk_below (g := gb504) bkw hb); have n7_ := am (below_step blw hb); have n8_ := am (hbox); have n9_ := am ((by rw [hg]; exact (below_size blw) : w.heap.size ≤ gb508)); have n10_ := n9_; have n11_ := am ((by rw [hg]; exact Nat.ne_of_lt (blk_lt (g := gb490) bkw) : gb490 ≠ gb508)); have n12_ := am ((by rw [hg]; exact Nat.ne_of_gt (blk_lt (g := gb490) bkw) : gb508 ≠ gb490)); have n13_ := am ((by rw [hg]; exact Nat.ne_of_lt (blk_lt (g := gb491) bkw) : gb491 ≠ gb508)); have n14_ := am ((by rw [hg]; exact Nat.ne_of_gt (blk_lt (g := gb491) bkw) : gb508 ≠ gb491)); have n15_ := am ((by rw [hg]; exact Nat.ne_of_lt (blk_lt (g := gb504) bkw) : gb504 ≠ gb508)); have n16_ := am ((by rw [hg]; exact Nat.ne_of_gt (blk_lt (g := gb504) bkw) : gb508 ≠ gb504)); clear HO496; clear HO499; clear HO503; clear HO507; clear BK490; clear BK491; clear BK504; clear HB; revert n0_ n1_ n2_ n3_ n4_ n5_ n6_ n7_ n8_ n9_ n10_ n11_ n12_ n13_ n14_ n15_ n16_; intro HO496 HO499 HO503 HO507 BK490 BK491 BK504 HB BK508 GW508 GE508 NB490_508 NB508_490 NB491_508 NB508_491 NB504_508 NB508_504; clear hb hbox hg; obtain ⟨Ao41, co41, eo41⟩ := Kd.R_slice HO507.out; subst eo41; have hnb42 := NB508_490.out; have hnc42 := NB490_508.out; have hnb43 := NB508_491.out; have hnc43 := NB491_508.out; have hnb44 := NB508_504.out; have hnc44 := NB504_508.out; have hcz45_0 : w40.cell? ⟨gb508, 0, none⟩ = some (.slice none 0 0) := (blk_cell BK508.out 0).trans rfl; have hfz45_0 := blk_frozen BK508.out 0; have hcz46_0 : w40.cell? ⟨gb504, 0, none⟩ = some (.slice Ao34 t501.length co34) := (blk_cell BK504.out 0).trans rfl; have hfz46_0 := blk_frozen BK504.out 0) | ((with_reducible refine gate_callee (f := 14) rfl ?_); refine goesL_ (some 31) rfl rfl Try.func14 kr rfl #[.agg #[.slice Ao34 t501.length co34], .agg #[.slice Ao41 t505.length co41]] rfl mpw ?_; (with_reducible refine (impl_EqualQuery.calls k _ _ t501 _ _ t505 t509 _ ?side1 ?side2 ?side3 ?side4 A22.out).mono ?_); (case side1 => refine (Kd.R_reads' (e := 49) (base := w.heap.size) (ok := fun k_ => (((True ∧ some k_ ≠ (.slice Ao27 t494.length co27 : Value).ownBlock) ∧ some k_ ≠ (.slice Ao28 t497.length co28 : Value).ownBlock) ∧ some k_ ≠ (.slice Ao41 t505.length co41 : Value).ownBlock)) (n := t501.length) (c := co34) ?_).2.2; exact (by (with_reducible repeat (first | apply Kd.R_alloc | apply Kd.R_drewN | apply Kd.R_drew)); exact (Kd.R_mono (Kd.R_far (p := ⟨gb508, 0, none⟩) (Kd.R_types HO503.out BK508.out (by decide)) (fun _ hk => hk.2) (.slice Ao41 t505.length co41)) (fun _ h_ => h_.1)))); (case side2 => exact (Kd.R_reads' HO503.out).2.1); (case side3 => refine (Kd.R_reads' (e := 49) (base := w.heap.size) (ok := fun k_ => (((True ∧ some k_ ≠ (.slice Ao27 t494.length co27 : Value).ownBlock) ∧ some k_ ≠ (.slice Ao28 t497.length co28 : Value).ownBlock) ∧ some k_ ≠ (.slice Ao34 t501.length co34 : Value).ownBlock)) (n := t505.length) (c := co41) ?_).2.2; exact (by (with_reducible repeat (first | apply Kd.R_alloc | apply Kd.R_drewN | apply Kd.R_drew)); exact (Kd.R_mono (Kd.R_far (p := ⟨gb508, 0, none⟩) (Kd.R_types HO507.out BK508.out (by decide)) (fun _ hk => hk.2) (.slice Ao41 t505.length co41)) (fun _ h_ => h_.1)))); (case side4 => exact (Kd.R_reads' HO507.out).2.1); rintro e w47 ⟨rfl, hb⟩; refine ⟨_, rfl, ?_⟩; have n0_ := am (Kd.R_below (by (with_reducible repeat (first | apply Kd.R_alloc | apply Kd.R_drewN | apply Kd.R_drew)); exact (Kd.R_mono (Kd.R_far (p := ⟨gb508, 0, none⟩) (Kd.R_types HO496.out BK508.out (by decide)) (fun _ hk => hk.2) (.slice Ao41 t505.length co41)) (fun _ h_ => h_.1))) hb); have n1_ := am (Kd.R_below (by (with_reducible repeat (first | apply Kd.R_alloc | apply Kd.R_drewN | apply Kd.R_drew)); exact (Kd.R_mono (Kd.R_far (p := ⟨gb508, 0, none⟩) (Kd.R_types HO499.out BK508.out (by decide)) (fun _ hk => hk.2) (.slice Ao41 t505.length co41)) (fun _ h_ => h_.1))) hb); have n2_ := am (Kd.R_below (by (with_reducible repeat (first | apply Kd.R_alloc | apply Kd.R_drewN | apply Kd.R_drew)); exact (Kd.R_mono (Kd.R_far (p := ⟨gb508, 0, none⟩) (Kd.R_types HO503.out BK508.out (by decide)) (fun _ hk => hk.2) (.slice Ao41 t505.length co41)) (fun _ h_ => h_.1))) hb); have n3_ := am (Kd.R_below (by (with_reducible repeat (first | apply Kd.R_alloc | apply Kd.R_drewN | apply Kd.R_drew)); exact (Kd.R_mono (Kd.R_far (p := ⟨gb508, 0, none⟩) (Kd.R_types HO507.out BK508.out (by decide)) (fun _ hk => hk.2) (.slice Ao41 t505.length co41)) (fun _ h_ => h_.1))) hb); have n4_ := am (blk_below (g := gb490) (o := .cells #[.slice A0_0 l0_0.length c0_0] 24 (0, 0)) (by (with_reducible repeat (first | refine blk_drewN ?_ _ | refine blk_drew ?_ | refine blk_alloc ?_ _)); refine blk_far ?_ NB490_508.out _; (with_reducible repeat (first | refine blk_drewN ?_ _ | refine blk_drew ?_ | refine blk_alloc ?_ _)); exact BK490.out) hb); have n5_ := am (blk_below (g := gb491) (o := .cells #[.slice A1_0 l1_0.length c1_0] 24 (0, 0)) (by (with_reducible repeat (first | refine blk_drewN ?_ _ | refine blk_drew ?_ | refine blk_alloc ?_ _)); refine blk_far ?_ NB491_508.out _; (with_reducible repeat (first | refine blk_drewN ?_ _ | refine blk_drew ?_ | refine blk_alloc ?_ _)); exact BK491.out) hb); have n6_ := am (blk_below (g := gb504) (o := .cells #[.slice Ao34 t501.length co34] 29 (0, 0)) (by (with_reducible repeat (first | refine blk_drewN ?_ _ | refine blk_drew ?_ | refine blk_alloc ?_ _)); refine blk_far ?_ NB504_508.out _; (with_reducible repeat (first | refine blk_drewN ?_ _ | refine blk_drew ?_ | refine blk_alloc ?_ _)); exact BK504.out) hb); have n7_ := am (blk_below (g := gb508) (o := .cells #[.slice Ao41 t505.length co41] 29 (0, 0)) (by (with_reducible repeat (first | refine blk_drewN ?_ _ | refine blk_drew ?_ | refine blk_alloc ?_ _)); refine blk_put (cs := #[.slice none 0 0]) ?_ 0 _ rfl; (with_reducible repeat (first | refine blk_drewN ?_ _ | refine blk_drew ?_ | refine blk_alloc ?_ _)); exact BK508.out) hb); have n8_ := am (below_step blw hb); clear HO496; clear HO499; clear HO503; clear HO507; clear BK490; clear BK491; clear BK504; clear BK508; clear HB; revert n0_ n1_ n2_ n3_ n4_ n5_ n6_ n7_ n8_; intro HO496 HO499 HO503 HO507 BK490 BK491 BK504 BK508 HB; (try clear hb); (try clear hb2); (try clear hk); (try clear hi)))
 have H := HC23.out
 clear HC23
 by_cases c48 : (t509 != t500) = true
 ·rw [if_pos c48] at H
  have c48b0 : (t509 != t500) = true := c48
  (try (have c48b1 : decide (t509 = t500) = false := by simpa using c48))
  (try (have c48b2 : (t509 == t500) = false := by simpa using c48))
  (try (have c48b3 : ¬ (t509 = t500) := by simpa using c48))
  clear c48
  (first | rw [c48b0] | (simp only [i64_w, i32_w]; rw [c48b0]) | (rw [c48b1]; (try simp only [Bool.not_true, Bool.not_false])) | (rw [c48b2]; (try simp only [Bool.not_true, Bool.not_false])) | (rw [c48b3]; (try simp only [Bool.not_true, Bool.not_false])) | skip)
  obtain rfl := Option.some.inj H
  go_wp2
  go_ret
  exact ⟨rfw, blw⟩
 rw [if_neg c48] at H
 have c48b0 : (t509 != t500) = false := by simpa using c48
 (try (have c48b1 : decide (t509 = t500) = true := by simpa using c48))
 (try (have c48b2 : (t509 == t500) = true := by simpa using c48))
 clear c48
 (first | rw [c48b0] | (simp only [i64_w, i32_w]; rw [c48b0]) | (rw [c48b1]; (try simp only [Bool.not_true, Bool.not_false])) | (rw [c48b2]; (try simp only [Bool.not_true, Bool.not_false])) | skip)
 replace H := Option.bind_eq_some_iff.mp H
 obtain ⟨t510, A490, H⟩ := H
 replace H : ((laws_eqQuery.f k t501 t510).bind fun t513 => (if t513 = true then ((laws_toQuery.f k l1_0).bind fun t514 => ((laws_eqQuery.f k t505 t514).bind fun t517 => (if t517 = true then (some true) else (some false)))) else (some false))) = some r := H
 have A49 := am A490
 clear A490
 replace H := Option.bind_eq_some_iff.mp H
 obtain ⟨t513, A500, H⟩ := H
 replace H : (if t513 = true then ((laws_toQuery.f k l1_0).bind fun t514 => ((laws_eqQuery.f k t505 t514).bind fun t517 => (if t517 = true then (some true) else (some false)))) else (some false)) = some r := H
 have A50 := am A500
 clear A500
 have HC51 := am H
 clear H
 try go_wp2
 have n0_ := am (Kd.R_drew HO496.out)
 have n1_ := am (Kd.R_drew HO499.out)
 have n2_ := am (Kd.R_drew HO503.out)
 have n3_ := am (Kd.R_drew HO507.out)
 have n4_ := am (blk_drew BK490.out)
 have n5_ := am (blk_drew BK491.out)
 have n6_ := am (blk_drew BK504.out)
 have n7_ := am (blk_drew BK508.out)
 have n8_ := am (below_drew1 HB.out)
 clear HO496
 clear HO499
 clear HO503
 clear HO507
 clear BK490
 clear BK491
 clear BK504
 clear BK508
 clear HB
 revert n0_ n1_ n2_ n3_ n4_ n5_ n6_ n7_ n8_
 intro HO496 HO499 HO503 HO507 BK490 BK491 BK504 BK508 HB
 refine start_ (n := 5) (S := fun w' => w'.cell? ⟨gb504, 0, none⟩ = some (.slice Ao34 t501.length co34) ∧ w'.cell? ⟨gb490, 0, none⟩ = some (.slice A0_0 l0_0.length c0_0)) (ds := []) #[false,false,false,false,false] kr rfl rfl ⟨(blk_cell BK504.out 0).trans rfl, (blk_cell BK490.out 0).trans rfl⟩ (fun hHeld => ?_)
 generalize w47.drew = w52 at HO496 HO499 HO503 HO507 BK490 BK491 BK504 BK508 HB hHeld ⊢
 refine take_ (i := 0) (N := some 35) (v := ?_) (a' := ?_) (bm 5 1) rfl rfl kr qi (Or.inl ⟨by rfl, ?_⟩) hHeld ?_ ?_
 rotate_left
 ·rintro w' ⟨s0, s1⟩
  go_simp
  with_reducible rfl
 rotate_left
 ·simp only [sx]
  rfl
 refine take_ (i := 1) (N := some 36) (v := ?_) (a' := ?_) (bm 5 3) rfl rfl kr qi (Or.inl ⟨by rfl, ?_⟩) hHeld ?_ ?_
 rotate_left
 ·rintro w' ⟨s0, s1⟩
  go_simp
  with_reducible rfl
 rotate_left
 ·simp only [sx]
  rfl
 refine one_ (i := 2) (N := some 37) (bm 5 7) rfl rfl kr (by decide) (fun K hK => ?_)
 refine goes_ Try.func8 kr rfl #[.agg #[.slice A0_0 l0_0.length c0_0]] (by rfl) rfl rfl mpw ?_
 with_reducible refine (laws_toQuery.calls k _ _ l0_0 t510 _ ?side1 ?side2 A49.out).mono ?_
 (case side1 => have X_ := HR0_0; exact cbl)
 (case side2 => exact HC0_0.out)
 rintro e w53 ⟨v511, rfl, ho0, hb⟩
 refine ⟨_, rfl, ?_⟩
 have n0_ := am (Kd.R_elder' (by (with_reducible repeat (first | apply Kd.R_alloc | apply Kd.R_drewN | apply Kd.R_drew)); exact HO496.out) (Kd.R_base ho0) hb)
 have n1_ := am (Kd.R_elder' (by (with_reducible repeat (first | apply Kd.R_alloc | apply Kd.R_drewN | apply Kd.R_drew)); exact HO499.out) (Kd.R_base ho0) hb)
 have n2_ := am (Kd.R_elder' (by (with_reducible repeat (first | apply Kd.R_alloc | apply Kd.R_drewN | apply Kd.R_drew)); exact HO503.out) (Kd.R_base ho0) hb)
 have n3_ := am (Kd.R_elder' (by (with_reducible repeat (first | apply Kd.R_alloc | apply Kd.R_drewN | apply Kd.R_drew)); exact HO507.out) (Kd.R_base ho0) hb)
 have n4_ := am (Kd.R_lower (Kd.R_new' (Kd.R_new' (Kd.R_new' (Kd.R_new' ho0 (Kd.R_lt (by (with_reducible repeat (first | apply Kd.R_alloc | apply Kd.R_drewN | apply Kd.R_drew)); exact HO496.out))) (Kd.R_lt (by (with_reducible repeat (first | apply Kd.R_alloc | apply Kd.R_drewN | apply Kd.R_drew)); exact HO499.out))) (Kd.R_lt (by (with_reducible repeat (first | apply Kd.R_alloc | apply Kd.R_drewN | apply Kd.R_drew)); exact HO503.out))) (Kd.R_lt (by (with_reducible repeat (first | apply Kd.R_alloc | apply Kd.R_drewN | apply Kd.R_drew)); exact HO507.out))) (below_size blw))
 have n5_ := am (blk_below (g := gb490) bkw hb)
 have n6_ := am (blk_below (g := gb491) bkw hb)
 have n7_ := am (blk_below (g := gb504) bkw hb)
 have n8_ := am (blk_below (g := gb508) bkw hb)
 have n9_ := am (below_step blw hb)
 clear HO496
 clear HO499
 clear HO503
 clear HO507
 clear BK490
 clear BK491
 clear BK504
 clear BK508
 clear HB
 revert n0_ n1_ n2_ n3_ n4_ n5_ n6_ n7_ n8_ n9_
 intro HO496 HO499 HO503 HO507 HO512 BK490 BK491 BK504 BK508 HB
 (try clear hb)
 (try clear hb2)
 (try clear hk)
 (try clear hi)
 (try clear ho0)
 obtain ⟨Ao54, co54, eo54⟩ := Kd.R_slice HO512.out
 (first | subst eo54 | (injection eo54 with f1_ f2_ f3_; have f4_ := f1_.symm; have f5_ := f3_.symm; clear f1_ f2_ f3_; subst f4_; subst f5_))
 refine hK.out _ _ ⟨(blk_cell BK504.out 0).trans rfl, (blk_cell BK490.out 0).trans rfl⟩ (fun hHeld => ?_)
 clear hK K
 refine norm_ (a' := ?_) ?_ ?_
 rotate_left
 ·show Act.put _ (some 37) _ = _
  simp only [sx]
  rfl
 refine one_ (i := 3) (N := some 38) (bm 5 15) rfl rfl kr (by decide) (fun K hK => ?_)
 refine goes_ Try.func10 kr rfl #[.agg #[.slice Ao34 t501.length co34], .agg #[.slice Ao54 t510.length co54]] (by rfl) rfl rfl mpw ?_
 with_reducible refine (laws_eqQuery.calls k _ _ t501 _ _ t510 t513 _ ?side1 ?side2 ?side3 ?side4 A50.out).mono ?_
 (case side1 => repeat (first | exact (Kd.R_reads' HO503.out).2.2 | (with_reducible refine Kd.C_alloc ?_ _) | (with_reducible refine Kd.C_drewN ?_ _) | (with_reducible refine Kd.C_drew ?_)))
 (case side2 => exact (Kd.R_reads' HO503.out).2.1)
 (case side3 => repeat (first | exact (Kd.R_reads' HO512.out).2.2 | (with_reducible refine Kd.C_alloc ?_ _) | (with_reducible refine Kd.C_drewN ?_ _) | (with_reducible refine Kd.C_drew ?_)))
 (case side4 => exact (Kd.R_reads' HO512.out).2.1)
 rintro e w55 ⟨rfl, hb⟩
 refine ⟨_, rfl, ?_⟩
 have n0_ := am (Kd.R_below (by (with_reducible repeat (first | apply Kd.R_alloc | apply Kd.R_drewN | apply Kd.R_drew)); exact HO496.out) hb)
 have n1_ := am (Kd.R_below (by (with_reducible repeat (first | apply Kd.R_alloc | apply Kd.R_drewN | apply Kd.R_drew)); exact HO499.out) hb)
 have n2_ := am (Kd.R_below (by (with_reducible repeat (first | apply Kd.R_alloc | apply Kd.R_drewN | apply Kd.R_drew)); exact HO503.out) hb)
 have n3_ := am (Kd.R_below (by (with_reducible repeat (first | apply Kd.R_alloc | apply Kd.R_drewN | apply Kd.R_drew)); exact HO507.out) hb)
 have n4_ := am (Kd.R_below (by (with_reducible repeat (first | apply Kd.R_alloc | apply Kd.R_drewN | apply Kd.R_drew)); exact HO512.out) hb)
 have n5_ := am (blk_below (g := gb490) bkw hb)
 have n6_ := am (blk_below (g := gb491) bkw hb)
 have n7_ := am (blk_below (g := gb504) bkw hb)
 have n8_ := am (blk_below (g := gb508) bkw hb)
 have n9_ := am (below_step blw hb)
 clear HO496
 clear HO499
 clear HO503
 clear HO507
 clear HO512
 clear BK490
 clear BK491
 clear BK504
 clear BK508
 clear HB
 revert n0_ n1_ n2_ n3_ n4_ n5_ n6_ n7_ n8_ n9_
 intro HO496 HO499 HO503 HO507 HO512 BK490 BK491 BK504 BK508 HB
 (try clear hb)
 (try clear hb2)
 (try clear hk)
 (try clear hi)
 refine hK.out _ _ ⟨(blk_cell BK504.out 0).trans rfl, (blk_cell BK490.out 0).trans rfl⟩ (fun hHeld => ?_)
 clear hK K
 refine norm_ (a' := ?_) ?_ ?_
 rotate_left
 ·show Act.put _ (some 38) _ = _
  simp only [sx]
  rfl
 refine pure_ (i := 4) (N := some 39) (v := ?_) (a' := ?_) (bm 5 31) rfl rfl kr qi (Or.inl ⟨by rfl, ?_⟩) ?_ ?_
 rotate_left
 ·intro w'
  go_simp
  with_reducible rfl
 rotate_left
 ·simp only [sx]
  rfl
 refine done_ kr ?_
 go_upto_if 39 with (fail)
 have H := HC51.out
 clear HC51
 by_cases c56 : t513 = true
 case neg =>
  replace c56 := Bool.eq_false_iff.mpr c56
  subst c56
  have H1 : (some false) = some r := by rw [if_neg (show ¬ (false = true) by decide)] at H; exact H
  clear H
  have H := H1
  clear H1
  obtain rfl := Option.some.inj H
  go_wp2
  go_ret
  exact ⟨rfw, blw⟩
 subst c56
 have H1 : ((laws_toQuery.f k l1_0).bind fun t514 => ((laws_eqQuery.f k t505 t514).bind fun t517 => (if t517 = true then (some true) else (some false)))) = some r := by rw [if_pos rfl] at H; exact H
 clear H
 have H := H1
 clear H1
 replace H := Option.bind_eq_some_iff.mp H
 obtain ⟨t514, A570, H⟩ := H
 replace H : ((laws_eqQuery.f k t505 t514).bind fun t517 => (if t517 = true then (some true) else (some false))) = some r := H
 have A57 := am A570
 clear A570
 replace H := Option.bind_eq_some_iff.mp H
 obtain ⟨t517, A580, H⟩ := H
 replace H : (if t517 = true then (some true) else (some false)) = some r := H
 have A58 := am A580
 clear A580
 have HC59 := am H
 clear H
 try go_wp2
 have n0_ := am (Kd.R_drew HO496.out)
 have n1_ := am (Kd.R_drew HO499.out)
 have n2_ := am (Kd.R_drew HO503.out)
 have n3_ := am (Kd.R_drew HO507.out)
 have n4_ := am (Kd.R_drew HO512.out)
 have n5_ := am (blk_drew BK490.out)
 have n6_ := am (blk_drew BK491.out)
 have n7_ := am (blk_drew BK504.out)
 have n8_ := am (blk_drew BK508.out)
 have n9_ := am (below_drew1 HB.out)
 clear HO496
 clear HO499
 clear HO503
 clear HO507
 clear HO512
 clear BK490
 clear BK491
 clear BK504
 clear BK508
 clear HB
 revert n0_ n1_ n2_ n3_ n4_ n5_ n6_ n7_ n8_ n9_
 intro HO496 HO499 HO503 HO507 HO512 BK490 BK491 BK504 BK508 HB
 refine start_ (n := 5) (S := fun w' => w'.cell? ⟨gb508, 0, none⟩ = some (.slice Ao41 t505.length co41) ∧ w'.cell? ⟨gb491, 0, none⟩ = some (.slice A1_0 l1_0.length c1_0)) (ds := []) #[false,false,false,false,false] kr rfl rfl ⟨(blk_cell BK508.out 0).trans rfl, (blk_cell BK491.out 0).trans rfl⟩ (fun hHeld => ?_)
 generalize w55.drew = w60 at HO496 HO499 HO503 HO507 HO512 BK490 BK491 BK504 BK508 HB hHeld ⊢
 refine take_ (i := 0) (N := some 40) (v := ?_) (a' := ?_) (bm 5 1) rfl rfl kr qi (Or.inl ⟨by rfl, ?_⟩) hHeld ?_ ?_
 rotate_left
 ·rintro w' ⟨s0, s1⟩
  go_simp
  with_reducible rfl
 rotate_left
 ·simp only [sx]
  rfl
 refine take_ (i := 1) (N := some 41) (v := ?_) (a' := ?_) (bm 5 3) rfl rfl kr qi (Or.inl ⟨by rfl, ?_⟩) hHeld ?_ ?_
 rotate_left
 ·rintro w' ⟨s0, s1⟩
  go_simp
  with_reducible rfl
 rotate_left
 ·simp only [sx]
  rfl
 refine one_ (i := 2) (N := some 42) (bm 5 7) rfl rfl kr (by decide) (fun K hK => ?_)
 refine goes_ Try.func8 kr rfl #[.agg #[.slice A1_0 l1_0.length c1_0]] (by rfl) rfl rfl mpw ?_
 with_reducible refine (laws_toQuery.calls k _ _ l1_0 t514 _ ?side1 ?side2 A57.out).mono ?_
 (case side1 => have X_ := HR1_0; exact cbl)
 (case side2 => exact HC1_0.out)
 rintro e w61 ⟨v515, rfl, ho0, hb⟩
 refine ⟨_, rfl, ?_⟩
 have n0_ := am (Kd.R_elder' (by (with_reducible repeat (first | apply Kd.R_alloc | apply Kd.R_drewN | apply Kd.R_drew)); exact HO496.out) (Kd.R_base ho0) hb)
 have n1_ := am (Kd.R_elder' (by (with_reducible repeat (first | apply Kd.R_alloc | apply Kd.R_drewN | apply Kd.R_drew)); exact HO499.out) (Kd.R_base ho0) hb)
 have n2_ := am (Kd.R_elder' (by (with_reducible repeat (first | apply Kd.R_alloc | apply Kd.R_drewN | apply Kd.R_drew)); exact HO503.out) (Kd.R_base ho0) hb)
 have n3_ := am (Kd.R_elder' (by (with_reducible repeat (first | apply Kd.R_alloc | apply Kd.R_drewN | apply Kd.R_drew)); exact HO507.out) (Kd.R_base ho0) hb)
 have n4_ := am (Kd.R_elder' (by (with_reducible repeat (first | apply Kd.R_alloc | apply Kd.R_drewN | apply Kd.R_drew)); exact HO512.out) (Kd.R_base ho0) hb)
 have n5_ := am (Kd.R_lower (Kd.R_new' (Kd.R_new' (Kd.R_new' (Kd.R_new' (Kd.R_new' ho0 (Kd.R_lt (by (with_reducible repeat (first | apply Kd.R_alloc | apply Kd.R_drewN | apply Kd.R_drew)); exact HO496.out))) (Kd.R_lt (by (with_reducible repeat (first | apply Kd.R_alloc | apply Kd.R_drewN | apply Kd.R_drew)); exact HO499.out))) (Kd.R_lt (by (with_reducible repeat (first | apply Kd.R_alloc | apply Kd.R_drewN | apply Kd.R_drew)); exact HO503.out))) (Kd.R_lt (by (with_reducible repeat (first | apply Kd.R_alloc | apply Kd.R_drewN | apply Kd.R_drew)); exact HO507.out))) (Kd.R_lt (by (with_reducible repeat (first | apply Kd.R_alloc | apply Kd.R_drewN | apply Kd.R_drew)); exact HO512.out))) (below_size blw))
 have n6_ := am (blk_below (g := gb490) bkw hb)
 have n7_ := am (blk_below (g := gb491) bkw hb)
 have n8_ := am (blk_below (g := gb504) bkw hb)
 have n9_ := am (blk_below (g := gb508) bkw hb)
 have n10_ := am (below_step blw hb)
 clear HO496
 clear HO499
 clear HO503
 clear HO507
 clear HO512
 clear BK490
 clear BK491
 clear BK504
 clear BK508
 clear HB
 revert n0_ n1_ n2_ n3_ n4_ n5_ n6_ n7_ n8_ n9_ n10_
 intro HO496 HO499 HO503 HO507 HO512 HO516 BK490 BK491 BK504 BK508 HB
 (try clear hb)
 (try clear hb2)
 (try clear hk)
 (try clear hi)
 (try clear ho0)
 obtain ⟨Ao62, co62, eo62⟩ := Kd.R_slice HO516.out
 (first | subst eo62 | (injection eo62 with f1_ f2_ f3_; have f4_ := f1_.symm; have f5_ := f3_.symm; clear f1_ f2_ f3_; subst f4_; subst f5_))
 refine hK.out _ _ ⟨(blk_cell BK508.out 0).trans rfl, (blk_cell BK491.out 0).trans rfl⟩ (fun hHeld => ?_)
 clear hK K
 refine norm_ (a' := ?_) ?_ ?_
 rotate_left
 ·show Act.put _ (some 42) _ = _
  simp only [sx]
  rfl
 refine one_ (i := 3) (N := some 43) (bm 5 15) rfl rfl kr (by decide) (fun K hK => ?_)
 refine goes_ Try.func10 kr rfl #[.agg #[.slice Ao41 t505.length co41], .agg #[.slice Ao62 t514.length co62]] (by rfl) rfl rfl mpw ?_
 with_reducible refine (laws_eqQuery.calls k _ _ t505 _ _ t514 t517 _ ?side1 ?side2 ?side3 ?side4 A58.out).mono ?_
 (case side1 => repeat (first | exact (Kd.R_reads' HO507.out).2.2 | (with_reducible refine Kd.C_alloc ?_ _) | (with_reducible refine Kd.C_drewN ?_ _) | (with_reducible refine Kd.C_drew ?_)))
 (case side2 => exact (Kd.R_reads' HO507.out).2.1)
 (case side3 => repeat (first | exact (Kd.R_reads' HO516.out).2.2 | (with_reducible refine Kd.C_alloc ?_ _) | (with_reducible refine Kd.C_drewN ?_ _) | (with_reducible refine Kd.C_drew ?_)))
 (case side4 => exact (Kd.R_reads' HO516.out).2.1)
 rintro e w63 ⟨rfl, hb⟩
 refine ⟨_, rfl, ?_⟩
 have n0_ := am (Kd.R_below (by (with_reducible repeat (first | apply Kd.R_alloc | apply Kd.R_drewN | apply Kd.R_drew)); exact HO496.out) hb)
 have n1_ := am (Kd.R_below (by (with_reducible repeat (first | apply Kd.R_alloc | apply Kd.R_drewN | apply Kd.R_drew)); exact HO499.out) hb)
 have n2_ := am (Kd.R_below (by (with_reducible repeat (first | apply Kd.R_alloc | apply Kd.R_drewN | apply Kd.R_drew)); exact HO503.out) hb)
 have n3_ := am (Kd.R_below (by (with_reducible repeat (first | apply Kd.R_alloc | apply Kd.R_drewN | apply Kd.R_drew)); exact HO507.out) hb)
 have n4_ := am (Kd.R_below (by (with_reducible repeat (first | apply Kd.R_alloc | apply Kd.R_drewN | apply Kd.R_drew)); exact HO512.out) hb)
 have n5_ := am (Kd.R_below (by (with_reducible repeat (first | apply Kd.R_alloc | apply Kd.R_drewN | apply Kd.R_drew)); exact HO516.out) hb)
 have n6_ := am (blk_below (g := gb490) bkw hb)
 have n7_ := am (blk_below (g := gb491) bkw hb)
 have n8_ := am (blk_below (g := gb504) bkw hb)
 have n9_ := am (blk_below (g := gb508) bkw hb)
 have n10_ := am (below_step blw hb)
 clear HO496
 clear HO499
 clear HO503
 clear HO507
 clear HO512
 clear HO516
 clear BK490
 clear BK491
 clear BK504
 clear BK508
 clear HB
 revert n0_ n1_ n2_ n3_ n4_ n5_ n6_ n7_ n8_ n9_ n10_
 intro HO496 HO499 HO503 HO507 HO512 HO516 BK490 BK491 BK504 BK508 HB
 (try clear hb)
 (try clear hb2)
 (try clear hk)
 (try clear hi)
 refine hK.out _ _ ⟨(blk_cell BK508.out 0).trans rfl, (blk_cell BK491.out 0).trans rfl⟩ (fun hHeld => ?_)
 clear hK K
 refine norm_ (a' := ?_) ?_ ?_
 rotate_left
 ·show Act.put _ (some 43) _ = _
  simp only [sx]
  rfl
 refine pure_ (i := 4) (N := some 44) (v := ?_) (a' := ?_) (bm 5 31) rfl rfl kr qi (Or.inl ⟨by rfl, ?_⟩) ?_ ?_
 rotate_left
 ·intro w'
  go_simp
  with_reducible rfl
 rotate_left
 ·simp only [sx]
  rfl
 refine done_ kr ?_
 go_upto_if 44 with (fail)
 have H := HC59.out
 clear HC59
 by_cases c64 : t517 = true
 ·subst c64
  have H1 : (some true) = some r := by rw [if_pos rfl] at H; exact H
  clear H
  have H := H1
  clear H1
  obtain rfl := Option.some.inj H
  go_wp2
  go_ret
  exact ⟨rfw, blw⟩
 replace c64 := Bool.eq_false_iff.mpr c64
 subst c64
 have H1 : (some false) = some r := by rw [if_neg (show ¬ (false = true) by decide)] at H; exact H
 clear H
 have H := H1
 clear H1
 obtain rfl := Option.some.inj H
 go_wp2
 go_ret
 exact ⟨rfw, blw⟩

/-- THE ONE PURE STATEMENT of laws_FnExactEqualQuery. -/
def laws_FnExactEqualQuery.Pure : Prop := ∀ (l0_0 : List (S73)) (l1_0 : List (S73)), W24 (⟨l0_0⟩ : S24) → W24 (⟨l1_0⟩ : S24) → ∃ k, laws_FnExactEqualQuery.f k l0_0 l1_0 = some true

end Go.Proofs.Ytpkppeicceehcaa.Px
end
section
namespace Go.Proofs.Ytpkppeicceehcaa.Pl
open Go.RowKit Go.Proofs.YtpkppeicceehcaaW.PrintWords
set_option linter.unusedVariables false
theorem Ev.up {α : Type} {g : Nat → Option α} {r : α} (h : Ev (fun k => g (k + 1)) r) : Ev g r := Ev.step (f := fun k => g (k + 1)) (fun _ => rfl) h
theorem Ev.pos {α : Type} {A B : Nat → Option α} {r : α} {c : Prop} [Decidable c] (hc : c) (h : Ev A r) : Ev (fun n => if c then A n else B n) r :=
  Ev.congr (f := A) (fun k => by rw [if_pos hc]) h
theorem Ev.neg {α : Type} {A B : Nat → Option α} {r : α} {c : Prop} [Decidable c] (hc : ¬ c) (h : Ev B r) : Ev (fun n => if c then A n else B n) r :=
  Ev.congr (f := B) (fun k => by rw [if_neg hc]) h
theorem Ev.cases {α : Type} {A B : Nat → Option α} {r : α} {c : Prop} [Decidable c] (h1 : c → Ev A r) (h2 : ¬ c → Ev B r) : Ev (fun n => if c then A n else B n) r := by
  by_cases hc : c
  · exact Ev.pos hc (h1 hc)
  · exact Ev.neg hc (h2 hc)
theorem Ev.eq {α : Type} {g : Nat → Option α} {r r' : α} (h : Ev g r) (e : r = r') : Ev g r' := e ▸ h
theorem Ev.const {α : Type} {a r : α} (e : a = r) : Ev (fun _ => some a) r := by subst e; exact Ev.now _
/-- A call without rounds. -/
theorem Ev.fix {α β : Type} {g : Option α} {a : α} {f : Nat → α → Option β} {r : β} (hg : g = some a) (h : Ev (fun n => f n a) r) : Ev (fun n => g.bind (f n)) r := by subst hg; exact h
theorem w1 {i n : Nat} (h : i < n) (hn : n ≤ maxLen) : wrap64 ((i : Int) + 1) = ((i + 1 : Nat) : Int) := by
  have : n ≤ 9223372036854775807 := hn
  unfold wrap64
  omega
theorem w1' {i n : Nat} (h : i < n) (hn : n ≤ 1048576) : wrap64 ((i : Int) + 1) = ((i + 1 : Nat) : Int) := w1 h (by unfold maxLen; omega)
theorem w64 {a : Int} (h : -9223372036854775808 ≤ a) (h2 : a ≤ 9223372036854775807) : wrap64 a = a := by unfold wrap64; omega
/-- What is left of a budget, or -1. -/
def cut (n : Nat) (left : Int) : Int := if (n : Int) ≤ left then left - n else -1
theorem cut_zero {left : Int} (h : 0 ≤ left) : cut 0 left = left := by unfold cut; rw [if_pos (by omega)]; omega
theorem cut_neg {n : Nat} {left : Int} : cut n left < 0 ↔ ¬ ((n : Int) ≤ left) := by
  unfold cut
  split <;> omega
theorem cut_le {n : Nat} {left : Int} (h : 0 ≤ left) : cut n left ≤ left := by unfold cut; split <;> omega
theorem cut_add {m n : Nat} {left : Int} (h : 0 ≤ cut m left) : cut n (cut m left) = cut (m + n) left := by
  unfold cut at *
  split at h
  · rename_i h1
    simp only [if_pos h1]
    by_cases h2 : (n : Int) ≤ left - m
    · rw [if_pos h2, if_pos (by omega)]; omega
    · rw [if_neg h2, if_neg (by omega)]
  · omega
theorem cut_add' {m n : Nat} {left : Int} (h : cut m left < 0) : cut (m + n) left = -1 := by
  have := cut_neg.1 h
  unfold cut
  rw [if_neg (by omega)]
/-- 'left -= n; if left < 0 { return -1 }' -/
theorem cut_sub {n : Nat} {left : Int} (h : 0 ≤ left) (hl : left ≤ 1048576) (hn : n ≤ maxLen) : (wrap64 (left - (n : Int)) < 0 ↔ cut n left < 0) ∧ (0 ≤ cut n left → wrap64 (left - (n : Int)) = cut n left) := by
  have hn' : n ≤ 9223372036854775807 := hn
  have e : wrap64 (left - (n : Int)) = left - n := w64 (by omega) (by omega)
  rw [e, cut_neg]
  unfold cut
  constructor
  · omega
  · intro h2
    split at h2
    · rename_i h3; rw [if_pos h3]
    · omega
def sumF (W : Nat → Nat) : Nat → Nat → Nat
  | _, 0 => 0
  | i, m + 1 => W i + sumF W (i + 1) m
theorem sz_loop (n : Nat) (X : Nat → Nat → Int → Option Int) (L : Nat → Int → Nat → Option Int) (W : Nat → Nat)
    (h1 : ∀ k left i, i < n → L (k + 1) left i = (X k i left).bind fun t => if t < 0 then some (-1) else L k t (i + 1))
    (h2 : ∀ k left, L (k + 1) left n = some left)
    (hX : ∀ i left, i < n → 0 ≤ left → left ≤ 1048576 → Ev (fun k => X k i left) (cut (W i) left)) :
    ∀ m i left, i + m = n → 0 ≤ left → left ≤ 1048576 → Ev (fun k => L k left i) (cut (sumF W i m) left) := by
  intro m
  induction m with
  | zero =>
    intro i left hi h0 hl
    obtain rfl : i = n := by omega
    refine Ev.step (h2 · left) ?_
    exact Ev.const (cut_zero h0).symm
  | succ m ih =>
    intro i left hi h0 hl
    refine Ev.step (fun k => h1 k left i (by omega)) (Ev.bind (hX i left (by omega) h0 hl) ?_)
    by_cases hc : cut (W i) left < 0
    · exact Ev.pos hc (Ev.const (cut_add' hc).symm)
    · refine Ev.neg hc (Ev.eq (ih (i + 1) _ (by omega) (by omega) ?_) (cut_add (by omega)))
      have := cut_le (n := W i) h0
      omega
theorem sz_loop' (n : Nat) (L : Nat → Int → Nat → Option Int) (W : Nat → Nat)
    (h1 : ∀ k left i, i < n → 0 ≤ left → left ≤ 1048576 → L (k + 1) left i = if cut (W i) left < 0 then some (-1) else L k (cut (W i) left) (i + 1))
    (h2 : ∀ k left, L (k + 1) left n = some left) :
    ∀ m i left, i + m = n → 0 ≤ left → left ≤ 1048576 → Ev (fun k => L k left i) (cut (sumF W i m) left) := by
  intro m
  induction m with
  | zero =>
    intro i left hi h0 hl
    obtain rfl : i = n := by omega
    refine Ev.step (h2 · left) ?_
    exact Ev.const (cut_zero h0).symm
  | succ m ih =>
    intro i left hi h0 hl
    refine Ev.step (fun k => h1 k left i (by omega) h0 hl) ?_
    by_cases hc : cut (W i) left < 0
    · exact Ev.pos hc (Ev.const (cut_add' hc).symm)
    · refine Ev.neg hc (Ev.eq (ih (i + 1) _ (by omega) (by omega) ?_) (cut_add (by omega)))
      have := cut_le (n := W i) h0
      omega
theorem Ev.map {α β : Type} {g : Nat → Option α} {a : α} (f : α → β) (h : Ev g a) : Ev (fun k => (g k).map f) (f a) := by
  obtain ⟨K, hK⟩ := h
  exact ⟨K, fun k hk => by show (g k).map f = _; rw [hK k hk]; rfl⟩
theorem to_loop {α : Type} (n : Nat) (X : Nat → Nat → Option α) (L : Nat → List α → Nat → Option (List α)) (v : Nat → α)
    (h1 : ∀ k out i, i < n → out.length = n → L (k + 1) out i = (X k i).bind fun t => L k (out.set i t) (i + 1))
    (h2 : ∀ k out, L (k + 1) out n = some out)
    (hX : ∀ i, i < n → Ev (fun k => X k i) (v i)) :
    ∀ m i out, i + m = n → out.length = n → Ev (fun k => L k out i) (out.take i ++ (List.range' i m).map v) := by
  intro m
  induction m with
  | zero =>
    intro i out hi hl
    obtain rfl : i = n := by omega
    refine Ev.step (h2 · out) (Ev.const ?_)
    simp [← hl]
  | succ m ih =>
    intro i out hi hl
    refine Ev.step (fun k => h1 k out i (by omega) hl) (Ev.bind (hX i (by omega)) ?_)
    refine Ev.eq (ih (i + 1) (out.set i (v i)) (by omega) (by simpa using hl)) ?_
    rw [List.range'_succ, List.map_cons, List.take_succ_eq_append_getElem (by simp; omega)]
    simp [List.take_set_of_le]
theorem eq_loop (n : Nat) (X : Nat → Nat → Option Bool) (L : Nat → Nat → Option Bool)
    (h1 : ∀ k i, i < n → L (k + 1) i = (X k i).bind fun t => if t = true then L k (i + 1) else some false)
    (h2 : ∀ k, L (k + 1) n = some true)
    (hX : ∀ i, i < n → Ev (fun k => X k i) true) :
    ∀ m i, i + m = n → Ev (fun k => L k i) true := by
  intro m
  induction m with
  | zero =>
    intro i hi
    obtain rfl : i = n := by omega
    exact Ev.step h2 (Ev.now _)
  | succ m ih =>
    intro i hi
    exact Ev.step (fun k => h1 k i (by omega)) (Ev.bind (hX i (by omega)) (Ev.pos rfl (ih (i + 1) (by omega))))
theorem range_map_getElem {α β : Type} (f : α → β) (d : α) (xs : List α) : (List.range' 0 xs.length).map (fun i => f (xs.getD i d)) = xs.map f := by
  apply List.ext_getElem
  · simp
  · intro i h1 h2
    simp at h1
    simp [h1]
theorem sumF_list {α : Type} (f : α → Nat) (d : α) (xs : List α) : ∀ m i, i + m = xs.length → sumF (fun i => f (xs.getD i d)) i m = ((xs.drop i).map f).sum := by
  intro m
  induction m with
  | zero => intro i hi; simp [sumF, List.drop_of_length_le (show xs.length ≤ i by omega)]
  | succ m ih =>
    intro i hi
    have hlt : i < xs.length := by omega
    rw [List.drop_eq_getElem_cons hlt, List.map_cons, List.sum_cons, sumF, ih (i + 1) (by omega)]
    simp [List.getD_eq_getElem?_getD, hlt]
def szs (xs : List ByteArray) : Nat := (xs.map ByteArray.size).sum
def wts (xs : List ByteArray) : Nat := xs.length + szs xs
theorem rdOf_str (xs : List ByteArray) (i : Nat) : rdOf ByteArray.empty xs (i : Int) = xs.getD i ByteArray.empty := by simp [rdOf]
theorem mem_getD {α : Type} (xs : List α) (d : α) (i : Nat) (h : i < xs.length) : xs.getD i d ∈ xs := by
  simp [List.getD_eq_getElem?_getD, h]
theorem sum_le_of_mem {α : Type} (f : α → Nat) {xs : List α} {x : α} (h : x ∈ xs) : f x ≤ (xs.map f).sum := by
  induction xs with
  | nil => cases h
  | cons y ys ih =>
    rcases List.mem_cons.1 h with rfl | h
    · simp
    · have := ih h
      simp
      omega
/-- Two texts with rounds come to the same. -/
def Same {α : Type} (f g : Nat → Option α) : Prop := ∃ r, Ev f r ∧ Ev g r
theorem Same.ret {α : Type} {a b : α} (h : a = b) : Same (fun _ => some a) (fun _ => some b) := ⟨a, Ev.now a, Ev.const h.symm⟩
theorem Same.symm {α : Type} {f g : Nat → Option α} (h : Same f g) : Same g f := let ⟨r, a, b⟩ := h; ⟨r, b, a⟩
theorem Same.bind {α β : Type} {f g : Nat → Option α} {F G : Nat → α → Option β} (h : Same f g) (k : ∀ r, Ev f r → Ev g r → Same (F · r) (G · r)) : Same (fun n => (f n).bind (F n)) (fun n => (g n).bind (G n)) := by
  obtain ⟨r, a, b⟩ := h
  obtain ⟨s, c, d⟩ := k r a b
  exact ⟨s, Ev.bind a c, Ev.bind b d⟩
theorem Same.posL {α : Type} {A B g : Nat → Option α} {c : Prop} [Decidable c] (hc : c) (h : Same A g) : Same (fun n => if c then A n else B n) g := let ⟨r, a, b⟩ := h; ⟨r, Ev.pos hc a, b⟩
theorem Same.negL {α : Type} {A B g : Nat → Option α} {c : Prop} [Decidable c] (hc : ¬ c) (h : Same B g) : Same (fun n => if c then A n else B n) g := let ⟨r, a, b⟩ := h; ⟨r, Ev.neg hc a, b⟩
theorem Same.posR {α : Type} {A B g : Nat → Option α} {c : Prop} [Decidable c] (hc : c) (h : Same g A) : Same g (fun n => if c then A n else B n) := let ⟨r, a, b⟩ := h; ⟨r, a, Ev.pos hc b⟩
theorem Same.negR {α : Type} {A B g : Nat → Option α} {c : Prop} [Decidable c] (hc : ¬ c) (h : Same g B) : Same g (fun n => if c then A n else B n) := let ⟨r, a, b⟩ := h; ⟨r, a, Ev.neg hc b⟩
theorem Same.pos {α : Type} {A B C D : Nat → Option α} {c d : Prop} [Decidable c] [Decidable d] (hc : c) (hd : d) (h : Same A C) : Same (fun n => if c then A n else B n) (fun n => if d then C n else D n) := Same.posL hc (Same.posR hd h)
theorem Same.neg {α : Type} {A B C D : Nat → Option α} {c d : Prop} [Decidable c] [Decidable d] (hc : ¬ c) (hd : ¬ d) (h : Same B D) : Same (fun n => if c then A n else B n) (fun n => if d then C n else D n) := Same.negL hc (Same.negR hd h)
theorem Same.ite {α : Type} {A B C D : Nat → Option α} {c d : Prop} [Decidable c] [Decidable d] (e : c ↔ d) (h1 : c → Same A C) (h2 : ¬ c → Same B D) : Same (fun n => if c then A n else B n) (fun n => if d then C n else D n) := by
  by_cases hc : c
  · exact Same.pos hc (e.1 hc) (h1 hc)
  · exact Same.neg hc (fun h => hc (e.2 h)) (h2 hc)
theorem Same.up {α : Type} {f g : Nat → Option α} (h : Same (fun k => f (k + 1)) (fun k => g (k + 1))) : Same f g := let ⟨r, a, b⟩ := h; ⟨r, Ev.up a, Ev.up b⟩
theorem Same.upL {α : Type} {f g : Nat → Option α} (h : Same (fun k => f (k + 1)) g) : Same f g := let ⟨r, a, b⟩ := h; ⟨r, Ev.up a, b⟩
/-- A loop over an index, on both sides, with one state. -/
theorem Same.loop {σ ρ : Type} (n : Nat) (L M : Nat → σ → Nat → Option ρ) (hend : ∀ s, Same (fun k => L k s n) (fun k => M k s n))
    (hstep : ∀ i s, i < n → (∀ s', Same (fun k => L k s' (i + 1)) (fun k => M k s' (i + 1))) → Same (fun k => L k s i) (fun k => M k s i)) : ∀ s, Same (fun k => L k s 0) (fun k => M k s 0) := by
  suffices h : ∀ m i s, i + m = n → Same (fun k => L k s i) (fun k => M k s i) from fun s => h n 0 s (by omega)
  intro m
  induction m with
  | zero => intro i s hi; obtain rfl : i = n := by omega
            exact hend s
  | succ m ih => intro i s hi; exact hstep i s (by omega) (fun s' => ih (i + 1) s' (by omega))
/-- .. without a state. -/
theorem Same.loop0 {ρ : Type} (n : Nat) (L M : Nat → Nat → Option ρ) (hend : Same (fun k => L k n) (fun k => M k n))
    (hstep : ∀ i, i < n → Same (fun k => L k (i + 1)) (fun k => M k (i + 1)) → Same (fun k => L k i) (fun k => M k i)) : Same (fun k => L k 0) (fun k => M k 0) := by
  suffices h : ∀ m i, i + m = n → Same (fun k => L k i) (fun k => M k i) from h n 0 (by omega)
  intro m
  induction m with
  | zero => intro i hi; obtain rfl : i = n := by omega
            exact hend
  | succ m ih => intro i hi; exact hstep i (by omega) (ih (i + 1) (by omega))
end Go.Proofs.Ytpkppeicceehcaa.Pl
end
section
namespace Go.Proofs.Ytpkppeicceehcaa.Px
open Go.RowKit Go.Proofs.YtpkppeicceehcaaW.PrintWords Go.Proofs.Ytpkppeicceehcaa.Pl
set_option linter.unusedVariables false
set_option linter.unusedSimpArgs false
theorem szStringS_ev (xs : List ByteArray) (hx : xs.length ≤ maxLen ∧ ∀ y ∈ xs, y.size ≤ maxLen) (left : Int) (h0 : 0 ≤ left) (hl : left ≤ 1048576) : Ev (fun k => laws_szStringS.f k xs left) (cut (wts xs) left) := by
  simp only [laws_szStringS.f]
  have hs := cut_sub (n := xs.length) h0 hl hx.1
  by_cases hc : cut xs.length left < 0
  · exact Ev.pos (hs.1.2 hc) (Ev.const (cut_add' hc).symm)
  · refine Ev.neg (fun h => hc (hs.1.1 h)) ?_
    rw [hs.2 (by omega)]
    have hl2 := cut_le (n := xs.length) h0
    have hw := sz_loop' xs.length (fun k left i => laws_szStringS.l0 k xs left (i : Int)) (fun i => (xs.getD i ByteArray.empty).size) (fun k left i hi h0 hl => by
      have hz := cut_sub (n := (xs.getD i ByteArray.empty).size) h0 hl (hx.2 _ (mem_getD xs _ i hi))
      simp only [laws_szStringS.l0, rdOf_str]
      rw [if_pos (by omega), if_pos (by omega)]
      by_cases hc : cut (xs.getD i ByteArray.empty).size left < 0
      · rw [if_pos (hz.1.2 hc), if_pos hc]
      · rw [if_neg (fun h => hc (hz.1.1 h)), if_neg hc, hz.2 (by omega), w1 hi hx.1]) (fun k left => by simp only [laws_szStringS.l0]; rw [if_neg (by omega)]) xs.length 0 _ (by omega) (show 0 ≤ cut xs.length left by omega) (by omega)
    refine Ev.eq hw ?_
    rw [cut_add (by omega), sumF_list ByteArray.size ByteArray.empty xs xs.length 0 (by omega)]
    rfl
theorem toStringS_ev (xs : List ByteArray) (hx : xs.length ≤ 1048576) : Ev (fun k => laws_toStringS.f k xs) xs := by
  simp only [laws_toStringS.f]
  refine Ev.pos (by omega) (Ev.pos (by omega) ?_)
  have hw := to_loop xs.length (fun k i => some (xs.getD i ByteArray.empty)) (fun k out i => laws_toStringS.l0 k xs out (i : Int)) (fun i => xs.getD i ByteArray.empty) (fun k out i hi hl => by
    simp only [laws_toStringS.l0, rdOf_str]
    rw [if_pos (by omega), if_pos (by omega), if_pos (by omega), w1' hi hx]
    rfl) (fun k out => by simp only [laws_toStringS.l0]; rw [if_neg (by omega)]) (fun i hi => Ev.now _) xs.length 0 (List.replicate ((xs.length : Int)).toNat (⟨#[]⟩ : ByteArray)) (by omega) (by simp)
  refine Ev.eq hw ?_
  rw [List.take_zero, List.nil_append, range_map_getElem (fun x => x) ByteArray.empty xs, List.map_id']
theorem eqStringS_ev (xs : List ByteArray) (hx : xs.length ≤ 1048576) : Ev (fun k => laws_eqStringS.f k xs xs) true := by
  simp only [laws_eqStringS.f]
  refine Ev.pos (by simp) ?_
  exact eq_loop xs.length (fun k i => some true) (fun k i => laws_eqStringS.l0 k xs xs (i : Int)) (fun k i hi => by
    simp only [laws_eqStringS.l0]
    rw [if_pos (by omega), if_pos (by omega), if_pos (by omega), w1' hi hx]
    simp) (fun k => by simp only [laws_eqStringS.l0]; rw [if_neg (by omega)]) (fun i hi => Ev.now _) xs.length 0 (by omega)
end Go.Proofs.Ytpkppeicceehcaa.Px
end
section
namespace Go.Proofs.Ytpkppeicceehcaa.Px
open Go.RowKit Go.Proofs.YtpkppeicceehcaaW.PrintWords Go.Proofs.Ytpkppeicceehcaa.Pl
set_option linter.unusedVariables false
set_option linter.unusedSimpArgs false
mutual
def wtType : S65 → Nat
  | ⟨x0, x1, x2⟩ => wts x1 + (x2.length + wtTypeS x2)
def wtTypeS : List S65 → Nat
  | [] => 0
  | x :: r => wtType x + wtTypeS r
end
mutual
def cvType : S65 → S41
  | ⟨x0, x1, x2⟩ => ⟨x0, x1, (cvTypeS x2)⟩
def cvTypeS : List S65 → List S41
  | [] => []
  | x :: r => cvType x :: cvTypeS r
end
theorem wtTypeS_sum (xs : List S65) : wtTypeS xs = (xs.map wtType).sum := by
  induction xs with
  | nil => rfl
  | cons x r ih => simp [wtTypeS, ih]
theorem cvTypeS_map (xs : List S65) : cvTypeS xs = xs.map cvType := by
  induction xs with
  | nil => rfl
  | cons x r ih => simp [cvTypeS, ih]
theorem wtType_eq (x : S65) : wtType x = wts x.f1 + (x.f2.length + wtTypeS x.f2) := by cases x; simp only [wtType]
theorem cvType_eq (x : S65) : cvType x = ⟨x.f0, x.f1, (cvTypeS x.f2)⟩ := by cases x; simp only [cvType]
theorem indTypeL {P : S65 → Prop} (h : ∀ x, (∀ y ∈ x.f2, P y) → P x) : ∀ x, P x
  | ⟨x0, x1, x2⟩ => h _ (fun y hy => indTypeL h y)
termination_by x => SizeOf.sizeOf x
decreasing_by
  have := List.sizeOf_lt_of_mem hy
  simp at this ⊢
  omega
theorem indTypeI {P : S41 → Prop} (h : ∀ x, (∀ y ∈ x.f2, P y) → P x) : ∀ x, P x
  | ⟨x0, x1, x2⟩ => h _ (fun y hy => indTypeI h y)
termination_by x => SizeOf.sizeOf x
decreasing_by
  have := List.sizeOf_lt_of_mem hy
  simp at this ⊢
  omega
inductive SmType : S41 → Prop
  | mk {x : S41} : ((Lit.int .i64 x.f0).wf = true) → ((x.f1.length ≤ 1048576 ∧ ∀ y ∈ x.f1, y.size ≤ 1048576)) → x.f2.length ≤ 1048576 → (∀ y ∈ x.f2, SmType y) → SmType x
theorem SmType.p0 {x : S41} (h : SmType x) : (Lit.int .i64 x.f0).wf = true := by cases h; assumption
theorem SmType.p1 {x : S41} (h : SmType x) : (x.f1.length ≤ 1048576 ∧ ∀ y ∈ x.f1, y.size ≤ 1048576) := by cases h; assumption
theorem SmType.p2 {x : S41} (h : SmType x) : x.f2.length ≤ 1048576 ∧ ∀ y ∈ x.f2, SmType y := by cases h; constructor <;> assumption
theorem etaType (x : S41) : (⟨x.f0, x.f1, x.f2⟩ : S41) = x := by obtain ⟨_, _, _⟩ := x; rfl
theorem smType_of : ∀ x : S65, W65 x → wtType x ≤ 1048576 → SmType (cvType x) := by
  refine indTypeL fun x ih hw hw2 => ?_
  have hb := hw2
  rw [wtType_eq] at hb
  rw [cvType_eq]
  exact SmType.mk (hw.p0) (⟨by (try dsimp only); unfold wts at hb; omega, fun y hy => by (try dsimp only at hy); have := sum_le_of_mem ByteArray.size hy; unfold wts szs at hb; omega⟩) (by (try dsimp only); rw [cvTypeS_map, List.length_map]; omega) (fun z hz => by
      (try dsimp only at hz)
      rw [cvTypeS_map] at hz
      obtain ⟨y, hy, rfl⟩ := List.mem_map.1 hz
      exact ih y hy (hw.p2.2 y hy) (by have := sum_le_of_mem wtType hy; rw [← wtTypeS_sum] at this; omega))
theorem szTypeS_of (xs : List S65) (hx : xs.length ≤ maxLen) (h : ∀ y ∈ xs, ∀ left : Int, 0 ≤ left → left ≤ 1048576 → Ev (fun k => laws_szType.f k (y.f0) (y.f1) (y.f2) left) (cut (wtType y) left)) (left : Int) (h0 : 0 ≤ left) (hl : left ≤ 1048576) : Ev (fun k => laws_szTypeS.f k xs left) (cut (xs.length + wtTypeS xs) left) := by
  refine Ev.up ?_
  simp only [laws_szTypeS.f]
  have hs := cut_sub (n := xs.length) h0 hl hx
  by_cases hc : cut xs.length left < 0
  · exact Ev.pos (hs.1.2 hc) (Ev.const (cut_add' hc).symm)
  · refine Ev.neg (fun h => hc (hs.1.1 h)) ?_
    rw [hs.2 (by omega)]
    have hl2 := cut_le (n := xs.length) h0
    have hw := sz_loop xs.length (fun k i left => laws_szType.f k ((rd_T65 xs (i : Int)).f0) ((rd_T65 xs (i : Int)).f1) ((rd_T65 xs (i : Int)).f2) left) (fun k left i => laws_szTypeS.l0 k xs left (i : Int)) (fun i => wtType (xs.getD i z65)) (fun k left i hi => by
      simp only [laws_szTypeS.l0]
      rw [if_pos (by omega), if_pos (by omega), w1 hi hx]) (fun k left => by simp only [laws_szTypeS.l0]; rw [if_neg (by omega)]) (fun i left hi h0 hl => h _ (mem_getD xs z65 i hi) left h0 hl) xs.length 0 _ (by omega) (show 0 ≤ cut xs.length left by omega) (by omega)
    refine Ev.eq hw ?_
    rw [cut_add (by omega), sumF_list wtType z65 xs xs.length 0 (by omega), wtTypeS_sum]
    rfl
theorem szType_ev : ∀ x : S65, W65 x → ∀ left : Int, 0 ≤ left → left ≤ 1048576 → Ev (fun k => laws_szType.f k (x.f0) (x.f1) (x.f2) left) (cut (wtType x) left) := by
  refine indTypeL fun x ih hw left h0 hl => ?_
  refine Ev.up ?_
  simp only [laws_szType.f]
  rw [wtType_eq]
  have hb0 : (0 : Int) ≤ left ∧ left ≤ 1048576 := ⟨h0, hl⟩
  refine Ev.bind (szStringS_ev x.f1 hw.p1 _ hb0.1 hb0.2) ?_
  by_cases hc0 : cut (wts x.f1) left < 0
  · refine Ev.pos hc0 (Ev.const ?_)
    have hn : cut (wts x.f1) left < 0 := hc0
    have hn : cut (wts x.f1 + (x.f2.length + wtTypeS x.f2)) left < 0 := by rw [cut_add' hn]; omega
    have hv := cut_neg.1 hn; unfold cut; rw [if_neg hv]
  refine Ev.neg hc0 ?_
  have hb1 : (0 : Int) ≤ cut (wts x.f1) left ∧ cut (wts x.f1) left ≤ 1048576 := ⟨by omega, by have := cut_le (n := wts x.f1) h0; omega⟩
  refine Ev.bind (szTypeS_of x.f2 hw.p2.1 (fun y hy => ih y hy (hw.p2.2 y hy)) _ hb1.1 hb1.2) ?_
  by_cases hc1 : cut ((x.f2.length + wtTypeS x.f2)) (cut (wts x.f1) left) < 0
  · refine Ev.pos hc1 (Ev.const ?_)
    have hn : cut (wts x.f1 + (x.f2.length + wtTypeS x.f2)) left < 0 := by rw [← cut_add (by omega)]; exact hc1
    have hv := cut_neg.1 hn; unfold cut; rw [if_neg hv]
  refine Ev.neg hc1 ?_
  rw [cut_add (by omega)] at hc1 ⊢
  have hb2 : (0 : Int) ≤ cut (wts x.f1 + (x.f2.length + wtTypeS x.f2)) left ∧ cut (wts x.f1 + (x.f2.length + wtTypeS x.f2)) left ≤ 1048576 := ⟨by omega, by have := cut_le (n := wts x.f1 + (x.f2.length + wtTypeS x.f2)) h0; omega⟩
  exact Ev.const rfl
theorem toTypeS_of (xs : List S65) (hx : xs.length ≤ 1048576) (h : ∀ y ∈ xs, Ev (fun k => laws_toType.f k (y.f0) (y.f1) (y.f2)) ((cvType y).f0, (cvType y).f1, (cvType y).f2)) : Ev (fun k => laws_toTypeS.f k xs) (cvTypeS xs) := by
  refine Ev.up ?_
  simp only [laws_toTypeS.f]
  refine Ev.pos (by omega) (Ev.pos (by omega) ?_)
  have hw := to_loop xs.length (fun k i => (laws_toType.f k ((rd_T65 xs (i : Int)).f0) ((rd_T65 xs (i : Int)).f1) ((rd_T65 xs (i : Int)).f2)).map fun t => (⟨t.1, t.2.1, t.2.2⟩ : S41)) (fun k out i => laws_toTypeS.l0 k xs out (i : Int)) (fun i => cvType (xs.getD i z65)) (fun k out i hi hl => by
    simp only [laws_toTypeS.l0]
    rw [if_pos (by omega), if_pos (by omega)]
    rcases laws_toType.f k ((rd_T65 xs (i : Int)).f0) ((rd_T65 xs (i : Int)).f1) ((rd_T65 xs (i : Int)).f2) with _ | t
    · rfl
    · simp only [Option.map_some, Option.bind_some]
      rw [if_pos (by omega), w1' hi hx]
      rfl) (fun k out => by simp only [laws_toTypeS.l0]; rw [if_neg (by omega)]) (fun i hi => Ev.eq (Ev.map (fun t => (⟨t.1, t.2.1, t.2.2⟩ : S41)) (h _ (mem_getD xs z65 i hi))) (etaType _)) xs.length 0 (List.replicate ((xs.length : Int)).toNat z41) (by omega) (by simp)
  refine Ev.eq hw ?_
  rw [List.take_zero, List.nil_append, range_map_getElem cvType z65 xs, cvTypeS_map]
theorem toType_ev : ∀ x : S65, wtType x ≤ 1048576 → Ev (fun k => laws_toType.f k (x.f0) (x.f1) (x.f2)) ((cvType x).f0, (cvType x).f1, (cvType x).f2) := by
  refine indTypeL fun x ih hw2 => ?_
  refine Ev.up ?_
  simp only [laws_toType.f]
  have hb := hw2
  rw [wtType_eq] at hb
  refine Ev.bind (toStringS_ev x.f1 (by unfold wts at hb; omega)) ?_
  refine Ev.bind (toTypeS_of x.f2 (by omega) (fun y hy => ih y hy (by have := sum_le_of_mem wtType hy; rw [← wtTypeS_sum] at this; omega))) ?_
  exact Ev.const (by rw [cvType_eq])
theorem eqTypeS_of (xs : List S41) (hx : xs.length ≤ 1048576) (h : ∀ y ∈ xs, Ev (fun k => laws_eqType.f k (y.f0) (y.f1) (y.f2) (y.f0) (y.f1) (y.f2)) true) : Ev (fun k => laws_eqTypeS.f k xs xs) true := by
  refine Ev.up ?_
  simp only [laws_eqTypeS.f]
  refine Ev.pos (by simp) ?_
  exact eq_loop xs.length (fun k i => laws_eqType.f k ((rd_T41 xs (i : Int)).f0) ((rd_T41 xs (i : Int)).f1) ((rd_T41 xs (i : Int)).f2) ((rd_T41 xs (i : Int)).f0) ((rd_T41 xs (i : Int)).f1) ((rd_T41 xs (i : Int)).f2)) (fun k i => laws_eqTypeS.l0 k xs xs (i : Int)) (fun k i hi => by
    simp only [laws_eqTypeS.l0]
    rw [if_pos (by omega), if_pos (by omega), if_pos (by omega), w1' hi hx]) (fun k => by simp only [laws_eqTypeS.l0]; rw [if_neg (by omega)]) (fun i hi => h _ (mem_getD xs z41 i hi)) xs.length 0 (by omega)
theorem eqType_ev : ∀ x : S41, SmType x → Ev (fun k => laws_eqType.f k (x.f0) (x.f1) (x.f2) (x.f0) (x.f1) (x.f2)) true := by
  refine indTypeI fun x ih hs => ?_
  refine Ev.up ?_
  simp only [laws_eqType.f]
  refine Ev.pos (by simp) ?_
  refine Ev.bind (eqStringS_ev x.f1 hs.p1.1) (Ev.pos (by simp) ?_)
  refine Ev.bind (eqTypeS_of x.f2 hs.p2.1 (fun y hy => ih y hy (hs.p2.2 y hy))) (Ev.pos (by simp) ?_)
  exact Ev.now _
end Go.Proofs.Ytpkppeicceehcaa.Px
end
section
namespace Go.Proofs.Ytpkppeicceehcaa.Px
open Go.RowKit Go.Proofs.YtpkppeicceehcaaW.PrintWords Go.Proofs.YtpkppeicceehcaaW.PrintLast Go.Proofs.Ytpkppeicceehcaa.Pl Go.Proofs.Ytpkppeicceehcaa.Ext
set_option linter.unusedVariables false
set_option linter.unusedSimpArgs false
theorem Texts_same (xs ys : List ByteArray) (hx : xs.length ≤ 1048576) : Same (fun k => spec_l3Texts.f k xs ys) (fun k => slices_Equal_string_string.f k xs ys) := by
  simp only [spec_l3Texts.f, slices_Equal_string_string.f]
  refine Same.ite Iff.rfl (fun h => ?_) (fun _ => Same.ret rfl)
  refine Same.loop0 xs.length (fun k i => spec_l3Texts.l0 k xs ys (i : Int)) (fun k i => slices_Equal_string_string.l0 k xs ys (xs.length : Int) (i : Int)) ?_ (fun i hi ih => ?_)
  · refine Same.up ?_
    simp only [spec_l3Texts.l0, slices_Equal_string_string.l0]
    exact Same.neg (by omega) (by omega) (Same.ret rfl)
  · refine Same.up ?_
    simp only [spec_l3Texts.l0, slices_Equal_string_string.l0, w1' hi hx]
    exact Same.pos (by omega) (by omega) (Same.pos (by omega) (by omega) (Same.posR (by omega) (Same.pos (by omega) (by omega) (Same.ite Iff.rfl (fun _ => ih) (fun _ => Same.ret rfl)))))
theorem EqualType_same_ : ∀ x : S41, ∀ y : S41, SmType x → SmType y → Same (fun k => spec_EqualType.f k x.f0 x.f1 x.f2 y.f0 y.f1 y.f2) (fun k => impl_EqualType.f k x.f0 x.f1 x.f2 y.f0 y.f1 y.f2) := by
  refine indTypeI fun x ih y hs ht => ?_
  have no : Ev (fun k => spec_EqualType.j0 k true x.f0 x.f1 x.f2 y.f0 y.f1 y.f2) false := by
    refine Ev.up ?_
    simp only [spec_EqualType.j0]
    exact Ev.pos (by simp) (Ev.now _)
  refine Same.up ?_
  simp only [spec_EqualType.f, impl_EqualType.f]
  refine Same.ite Iff.rfl (fun _ => ?_) (fun _ => ⟨false, no, Ev.now _⟩)
  refine Same.bind (Texts_same x.f1 y.f1 hs.p1.1) (fun t _ _ => ?_)
  refine Same.ite Iff.rfl (fun _ => ?_) (fun _ => ⟨false, no, Ev.now _⟩)
  by_cases hl : x.f2.length = y.f2.length
  · have loop : Same (fun k => spec_EqualType.l0 k 0 x.f0 x.f1 x.f2 y.f0 y.f1 y.f2) (fun k => slices_EqualFunc_Type_of_EqualType.l0 k y.f2 x.f2 (x.f2.length : Int) 0) := by
      refine Same.loop0 x.f2.length (fun k i => spec_EqualType.l0 k (i : Int) x.f0 x.f1 x.f2 y.f0 y.f1 y.f2) (fun k i => slices_EqualFunc_Type_of_EqualType.l0 k y.f2 x.f2 (x.f2.length : Int) (i : Int)) ?_ (fun i hi ihl => ?_)
      · refine Same.up ?_
        simp only [spec_EqualType.l0, slices_EqualFunc_Type_of_EqualType.l0]
        exact Same.neg (by omega) (by omega) (Same.ret rfl)
      · refine Same.up ?_
        simp only [spec_EqualType.l0, slices_EqualFunc_Type_of_EqualType.l0, w1' hi hs.p2.1]
        refine Same.pos (by omega) (by omega) (Same.pos (by omega) (by omega) (Same.posR (by omega) (Same.pos (by omega) (by omega) ?_)))
        refine Same.bind (ih (x.f2.getD i z41) (mem_getD x.f2 z41 i hi) (y.f2.getD i z41) (hs.p2.2 _ (mem_getD x.f2 z41 i hi)) (ht.p2.2 _ (mem_getD y.f2 z41 i (by omega)))) (fun t _ _ => ?_)
        exact Same.ite Iff.rfl (fun _ => ihl) (fun _ => Same.ret rfl)
    rw [show ((x.f2.length : Int) != (y.f2.length : Int)) = false from by simp [hl]]
    refine Same.upL ?_
    simp only [spec_EqualType.j0]
    refine Same.negL (by decide) ?_
    obtain ⟨r, h1, h2⟩ := loop
    refine ⟨r, h1, Ev.bind (a := r) ?_ (Ev.now _)⟩
    refine Ev.up ?_
    simp only [slices_EqualFunc_Type_of_EqualType.f]
    exact Ev.pos (by omega) h2
  · rw [show ((x.f2.length : Int) != (y.f2.length : Int)) = true from by simpa using (by omega : ¬ (x.f2.length : Int) = y.f2.length)]
    refine ⟨false, no, Ev.bind (a := false) ?_ (Ev.now _)⟩
    refine Ev.up ?_
    simp only [slices_EqualFunc_Type_of_EqualType.f]
    exact Ev.neg (by omega) (Ev.now _)
end Go.Proofs.Ytpkppeicceehcaa.Px
end
