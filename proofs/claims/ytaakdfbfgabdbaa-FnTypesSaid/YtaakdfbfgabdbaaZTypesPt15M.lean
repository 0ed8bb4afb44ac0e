/- Printed by a program of this session: what functions of the translation come to, each contract as it stands. No condition. -/
import Derived.Test.YtaakdfbfgabdbaaZTypesSh
import Derived.Test.YtaakdfbfgabdbaaZTypesExtM
import Derived.Test.YtaakdfbfgabdbaaZTypesPt2
import Derived.Test.YtaakdfbfgabdbaaZTypesPt10M
import Derived.Test.YtaakdfbfgabdbaaZTypesPt13
import Derived.Test.YtaakdfbfgabdbaaZTypesPt14M
import Derived.Test.YtaakdfbfgabdbaaZTypesPt7M
import Derived.Test.YtaakdfbfgabdbaaZTypesPt6M
section
namespace Go.Proofs.Ytaakdfbfgabdbaa.Pt
set_option maxHeartbeats 8000000
set_option maxRecDepth 100000
open Go.RowKit Go.Proofs.Ytaakdfbfgabdbaa.Ext Go.Proofs.YtaakdfbfgabdbaaW.PrintWords Go.Proofs.YtaakdfbfgabdbaaW.PrintLast Go.Proofs.YtaakdfbfgabdbaaW.PrintMore
attribute [local go_sem] max2_int min2_int max_two min_two max_three min_three max_four min_four   -- for this text's walks alone
set_option linter.unusedVariables false
set_option linter.unusedSimpArgs false

/-! ### impl_FieldType: function 15 -/
def impl_FieldType.f (k : Nat) (a0_0 : Int) (l0_1 : List ByteArray) (l0_2 : List (S27)) (a1 : ByteArray) : Option (Int × List ByteArray × (List (S27)) × Bool) := (slices_Index_string_string.f k l0_1 a1).bind fun t498 => ((impl_IsValidType.f k a0_0 l0_1 l0_2).bind fun t499 => (if t499 = true then (if a0_0 = 3 then (if t498 < 0 then (some (0, ([] : List ByteArray), ([] : List (S27)), false)) else (if 0 ≤ t498 then (if t498 < (l0_2.length : Int) then ((impl_cloneType.f k ((rd_T27 l0_2 t498).f0) ((rd_T27 l0_2 t498).f1) ((rd_T27 l0_2 t498).f2)).bind fun bt501 => (some (bt501.1, bt501.2.1, bt501.2.2, true))) else (none)) else (none))) else (some (0, ([] : List ByteArray), ([] : List (S27)), false))) else (some (0, ([] : List ByteArray), ([] : List (S27)), false))))
theorem impl_FieldType.calls (k : Nat) (a0_0 : Int) (A0_1 : Option Addr) (c0_1 : Nat) (l0_1 : List ByteArray) (A0_2 : Option Addr) (c0_2 : Nat) (l0_2 : List (S27)) (a1 : ByteArray) (r1 : Int) (r2 : List ByteArray) (r3 : List (S27)) (r4 : Bool) (w : World) (hr0_1 : Kd.C Kd.string w A0_1 l0_1.length l0_1) (hc0_1 : l0_1.length ≤ c0_1) (hr0_2 : Kd.C k27 w A0_2 l0_2.length l0_2) (hc0_2 : l0_2.length ≤ c0_2) (h : impl_FieldType.f k a0_0 l0_1 l0_2 a1 = some (r1, r2, r3, r4)) :
  Calls Try.prog 15 #[.agg #[.int .i64 a0_0, .slice A0_1 l0_1.length c0_1, .slice A0_2 l0_2.length c0_2], .string a1] w fun e w' => ∃ v1_ v2_ : Value, e = .returned (.tuple #[.agg #[.int .i64 r1, v1_, v2_], .bool r4]) ∧ Kd.R Kd.string 9 w' w.heap.size (fun _ => True) v1_ r2 ∧ Kd.S k27 27 w' w.heap.size (fun k_ => some k_ ≠ (v1_ : Value).ownBlock) v2_ r3 ∧ Below w.heap.size w w' := by
 have hu27 := Try.underlying27
 have HR0_1 := Aside0.mk hr0_1
 have HC0_1 := Aside0.mk hc0_1
 clear hr0_1 hc0_1
 have HR0_2 := Aside0.mk hr0_2
 have HC0_2 := Aside0.mk hc0_2
 clear hr0_2 hc0_2
 have HB := Aside0.mk (Below.refl w.heap.size w)
 have H : ((slices_Index_string_string.f k l0_1 a1).bind fun t498 => ((impl_IsValidType.f k a0_0 l0_1 l0_2).bind fun t499 => (if t499 = true then (if a0_0 = 3 then (if t498 < 0 then (some (0, ([] : List ByteArray), ([] : List (S27)), false)) else (if 0 ≤ t498 then (if t498 < (l0_2.length : Int) then ((impl_cloneType.f k ((rd_T27 l0_2 t498).f0) ((rd_T27 l0_2 t498).f1) ((rd_T27 l0_2 t498).f2)).bind fun bt501 => (some (bt501.1, bt501.2.1, bt501.2.2, true))) else (none)) else (none))) else (some (0, ([] : List ByteArray), ([] : List (S27)), false))) else (some (0, ([] : List ByteArray), ([] : List (S27)), false))))) = some (r1, r2, r3, r4) := h
 clear h
 replace H := Option.bind_eq_some_iff.mp H
 obtain ⟨t498, A30, H⟩ := H
 replace H : ((impl_IsValidType.f k a0_0 l0_1 l0_2).bind fun t499 => (if t499 = true then (if a0_0 = 3 then (if t498 < 0 then (some (0, ([] : List ByteArray), ([] : List (S27)), false)) else (if 0 ≤ t498 then (if t498 < (l0_2.length : Int) then ((impl_cloneType.f k ((rd_T27 l0_2 t498).f0) ((rd_T27 l0_2 t498).f1) ((rd_T27 l0_2 t498).f2)).bind fun bt501 => (some (bt501.1, bt501.2.1, bt501.2.2, true))) else (none)) else (none))) else (some (0, ([] : List ByteArray), ([] : List (S27)), false))) else (some (0, ([] : List ByteArray), ([] : List (S27)), false)))) = some (r1, r2, r3, r4) := H
 have A3 := Aside0.mk A30
 clear A30
 replace H := Option.bind_eq_some_iff.mp H
 obtain ⟨t499, A40, H⟩ := H
 replace H : (if t499 = true then (if a0_0 = 3 then (if t498 < 0 then (some (0, ([] : List ByteArray), ([] : List (S27)), false)) else (if 0 ≤ t498 then (if t498 < (l0_2.length : Int) then ((impl_cloneType.f k ((rd_T27 l0_2 t498).f0) ((rd_T27 l0_2 t498).f1) ((rd_T27 l0_2 t498).f2)).bind fun bt501 => (some (bt501.1, bt501.2.1, bt501.2.2, true))) else (none)) else (none))) else (some (0, ([] : List ByteArray), ([] : List (S27)), false))) else (some (0, ([] : List ByteArray), ([] : List (S27)), false))) = some (r1, r2, r3, r4) := H
 have A4 := Aside0.mk A40
 clear A40
 by_cases c5 : t499 = true
 case neg =>
  replace c5 := Bool.eq_false_iff.mpr c5
  subst c5
  have H1 : (some (0, ([] : List ByteArray), ([] : List (S27)), false)) = some (r1, r2, r3, r4) := by rw [if_neg (show ¬ (false = true) by decide)] at H; exact H
  clear H
  have H := H1
  clear H1
  simp only [Option.some.injEq, Prod.mk.injEq] at H
  obtain ⟨rfl, rfl, rfl, rfl⟩ := H
  go_enter Try.func15, Try.ntmps15
  go_wp2_with (first | ((with_reducible refine gate_dst (N := 2) rfl ?_); refine box_event ?hg (N := 2) ?hd (cs := #[.int .i64 a0_0, .slice A0_1 l0_1.length c0_1, .slice A0_2 l0_2.length c0_2]) (t := 27) ?hr ?_; (case hd => rfl); (case hg => rfl); (case hr => exact hrw); intro gb496 hg w36 hbox hb; have n0_ := Aside0.mk (below_step blw hb); have n1_ := Aside0.mk (hbox); have n2_ := Aside0.mk ((by rw [hg]; exact (below_size blw) : w.heap.size ≤ gb496)); have n3_ := n2_; clear HB; revert n0_ n1_ n2_ n3_; intro HB BK496 GW496 GE496; clear hb hbox hg) | ((with_reducible refine gate_dst (N := 4) rfl ?_); refine box_event ?hg (N := 4) ?hd (cs := #[.int .i64 0, .slice none 0 0, .slice none 0 0]) (t := 27) ?hr ?_; (case hd => rfl); (case hg => rfl); (case hr => exact hrw); intro gb497 hg w37 hbox hb; have n0_ := Aside0.mk (blk_below (g := gb496) (o := .cells #[.int .i64 a0_0, .slice A0_1 l0_1.length c0_1, .slice A0_2 l0_2.length c0_2] 27 (0, 0)) bkw hb); have n1_ := Aside0.mk (below_step blw hb); have n2_ := Aside0.mk (hbox); have n3_ := Aside0.mk ((by rw [hg]; exact (below_size blw) : w.heap.size ≤ gb497)); have n4_ := n3_; have n5_ := Aside0.mk ((by rw [hg]; exact Nat.ne_of_lt (blk_lt (g := gb496) (o := .cells #[.int .i64 a0_0, .slice A0_1 l0_1.length c0_1, .slice A0_2 l0_2.length c0_2] 27 (0, 0)) bkw) : gb496 ≠ gb497)); have n6_ := Aside0.mk ((by rw [hg]; exact Nat.ne_of_gt (blk_lt (g := gb496) (o := .cells #[.int .i64 a0_0, .slice A0_1 l0_1.length c0_1, .slice A0_2 l0_2.length c0_2] 27 (0, 0)) bkw) : gb497 ≠ gb496)); clear BK496; clear HB; revert n0_ n1_ n2_ n3_ n4_ n5_ n6_; intro BK496 HB BK497 GW497 GE497 NB496_497 NB497_496; clear hb hbox hg; have hnb38 := NB496_497.out; have hnc38 := NB497_496.out; obtain ⟨hcz39_0, hcz39_1, hcz39_2⟩ := cls3 BK496.out; obtain ⟨hfz39_0, hfz39_1, hfz39_2⟩ := frz3 BK496.out) | ((with_reducible refine gate_callee (f := 33) rfl ?_); refine goesL_ (some 10) rfl rfl Try.func33 kr rfl #[.slice A0_1 l0_1.length c0_1, .string a1] rfl mpw ?_; (with_reducible refine (slices_Index_string_string.calls k _ _ l0_1 a1 t498 _ ?side1 ?side2 A3.out).mono ?_); (case side1 => have X_ := HR0_1; exact cbl); (case side2 => exact HC0_1.out); rintro e w' ⟨rfl, ⟨nd, rfl⟩⟩; refine ⟨_, rfl, ?_⟩; (try (rw [drewN_self w37]; generalize hq_ : World.drewN w37 _ = w37; have n0_ : Aside0 (w37.heap[gb496]? = some (.cells #[.int .i64 a0_0, .slice A0_1 l0_1.length c0_1, .slice A0_2 l0_2.length c0_2] 27 (0, 0))) := ⟨by rw [← hq_]; exact bkw⟩; have n1_ : Aside0 (w37.heap[gb497]? = some (.cells #[.int .i64 0, .slice none 0 0, .slice none 0 0] 27 (0, 0))) := ⟨by rw [← hq_]; exact bkw⟩; have n2_ : Aside0 (Below w.heap.size w w37) := ⟨by rw [← hq_]; exact blw⟩; clear BK496 BK497 HB hq_; revert n0_ n1_ n2_; intro BK496 BK497 HB; have hcy40_0 : w37.cell? ⟨gb496, 0, none⟩ = some (.int .i64 a0_0) := (blk_cell BK496.out 0).trans rfl; have hfy40_0 := blk_frozen BK496.out 0; have hcy40_1 : w37.cell? ⟨gb496, 1, none⟩ = some (.slice A0_1 l0_1.length c0_1) := (blk_cell BK496.out 1).trans rfl; have hfy40_1 := blk_frozen BK496.out 1; have hcy40_2 : w37.cell? ⟨gb496, 2, none⟩ = some (.slice A0_2 l0_2.length c0_2) := (blk_cell BK496.out 2).trans rfl; have hfy40_2 := blk_frozen BK496.out 2; have hcy41_0 : w37.cell? ⟨gb497, 0, none⟩ = some (.int .i64 0) := (blk_cell BK497.out 0).trans rfl; have hfy41_0 := blk_frozen BK497.out 0; have hcy41_1 : w37.cell? ⟨gb497, 1, none⟩ = some (.slice none 0 0) := (blk_cell BK497.out 1).trans rfl; have hfy41_1 := blk_frozen BK497.out 1; have hcy41_2 : w37.cell? ⟨gb497, 2, none⟩ = some (.slice none 0 0) := (blk_cell BK497.out 2).trans rfl; have hfy41_2 := blk_frozen BK497.out 2))) | ((with_reducible refine gate_callee (f := 9) rfl ?_); refine goesL_ (some 12) rfl rfl Try.func9 kr rfl #[.agg #[.int .i64 a0_0, .slice A0_1 l0_1.length c0_1, .slice A0_2 l0_2.length c0_2]] rfl mpw ?_; (with_reducible refine (impl_IsValidType.calls k a0_0 _ _ l0_1 _ _ l0_2 false _ ?side1 ?side2 ?side3 ?side4 A4.out).mono ?_); (case side1 => have X_ := HR0_1; exact cbl); (case side2 => exact HC0_1.out); (case side3 => have X_ := HR0_2; exact cbl); (case side4 => exact HC0_2.out); rintro e w42 ⟨rfl, hb⟩; refine ⟨_, rfl, ?_⟩; have n0_ := Aside0.mk (blk_below (g := gb496) (o := .cells #[.int .i64 a0_0, .slice A0_1 l0_1.length c0_1, .slice A0_2 l0_2.length c0_2] 27 (0, 0)) bkw hb); have n1_ := Aside0.mk (blk_below (g := gb497) (o := .cells #[.int .i64 0, .slice none 0 0, .slice none 0 0] 27 (0, 0)) bkw hb); have n2_ := Aside0.mk (below_step blw hb); clear BK496; clear BK497; clear HB; revert n0_ n1_ n2_; intro BK496 BK497 HB; (try clear hb); (try clear hb2); (try clear hk); (try clear hi); obtain ⟨hcz43_0, hcz43_1, hcz43_2⟩ := cls3 BK497.out; obtain ⟨hfz43_0, hfz43_1, hfz43_2⟩ := frz3 BK497.out))
  refine bodyPost_ret (results_ct rfl _ _ gb497 27 #[.int .i64 0, .slice none 0 0, .slice none 0 0] (0, 0) _ rfl (by (with_reducible repeat (first | refine blk_drewN ?_ _ | refine blk_drew ?_ | refine blk_alloc ?_ _)); refine blk_put (cs := #[.int .i64 0, .slice none 0 0, .slice none 0 0]) ?_ 2 _ rfl; (with_reducible repeat (first | refine blk_drewN ?_ _ | refine blk_drew ?_ | refine blk_alloc ?_ _)); refine blk_put (cs := #[.int .i64 0, .slice none 0 0, .slice none 0 0]) ?_ 1 _ rfl; (with_reducible repeat (first | refine blk_drewN ?_ _ | refine blk_drew ?_ | refine blk_alloc ?_ _)); refine blk_put (cs := #[.int .i64 0, .slice none 0 0, .slice none 0 0]) ?_ 0 _ rfl; (with_reducible repeat (first | refine blk_drewN ?_ _ | refine blk_drew ?_ | refine blk_alloc ?_ _)); exact BK497.out) Try.underlying27 rfl kr) rfl ?_
  exact ⟨_, _, rfw, by first | exact Kd.R_nil _ _ _ _ _ | exact Kd.N_nil _ _ _ _ _ | exact Kd.V_nil _ _ _ _ _ | exact Kd.Q_nil _ _ _ _ _ | exact Kd.S_nil _ _ _ _ _, by first | exact Kd.S_nil _ _ _ _ _ | exact Kd.N_nil _ _ _ _ _ | exact Kd.V_nil _ _ _ _ _ | exact Kd.Q_nil _ _ _ _ _ | exact Kd.R_nil _ _ _ _ _, blw⟩
 subst c5
 have H1 : (if a0_0 = 3 then (if t498 < 0 then (some (0, ([] : List ByteArray), ([] : List (S27)), false)) else (if 0 ≤ t498 then (if t498 < (l0_2.length : Int) then ((impl_cloneType.f k ((rd_T27 l0_2 t498).f0) ((rd_T27 l0_2 t498).f1) ((rd_T27 l0_2 t498).f2)).bind fun bt501 => (some (bt501.1, bt501.2.1, bt501.2.2, true))) else (none)) else (none))) else (some (0, ([] : List ByteArray), ([] : List (S27)), false))) = some (r1, r2, r3, r4) := by rw [if_pos rfl] at H; exact H
 clear H
 have H := H1
 clear H1
 by_cases c6 : a0_0 = 3
 case neg =>
  rw [if_neg c6] at H
  have c6b0 : (a0_0 == 3) = false := beq_eq_false_iff_ne.mpr c6
  have c6b1 : (a0_0 != 3) = true := bne_iff_ne.mpr c6
  simp only [Option.some.injEq, Prod.mk.injEq] at H
  obtain ⟨rfl, rfl, rfl, rfl⟩ := H
  go_enter Try.func15, Try.ntmps15
  go_wp2_with (first | ((with_reducible refine gate_dst (N := 2) rfl ?_); refine box_event ?hg (N := 2) ?hd (cs := #[.int .i64 a0_0, .slice A0_1 l0_1.length c0_1, .slice A0_2 l0_2.length c0_2]) (t := 27) ?hr ?_; (case hd => rfl); (case hg => rfl); (case hr => exact hrw); intro gb496 hg w27 hbox hb; have n0_ := Aside0.mk (below_step blw hb); have n1_ := Aside0.mk (hbox); have n2_ := Aside0.mk ((by rw [hg]; exact (below_size blw) : w.heap.size ≤ gb496)); have n3_ := n2_; clear HB; revert n0_ n1_ n2_ n3_; intro HB BK496 GW496 GE496; clear hb hbox hg) | ((with_reducible refine gate_dst (N := 4) rfl ?_); refine box_event ?hg (N := 4) ?hd (cs := #[.int .i64 0, .slice none 0 0, .slice none 0 0]) (t := 27) ?hr ?_; (case hd => rfl); (case hg => rfl); (case hr => exact hrw); intro gb497 hg w28 hbox hb; have n0_ := Aside0.mk (blk_below (g := gb496) (o := .cells #[.int .i64 a0_0, .slice A0_1 l0_1.length c0_1, .slice A0_2 l0_2.length c0_2] 27 (0, 0)) bkw hb); have n1_ := Aside0.mk (below_step blw hb); have n2_ := Aside0.mk (hbox); have n3_ := Aside0.mk ((by rw [hg]; exact (below_size blw) : w.heap.size ≤ gb497)); have n4_ := n3_; have n5_ := Aside0.mk ((by rw [hg]; exact Nat.ne_of_lt (blk_lt (g := gb496) (o := .cells #[.int .i64 a0_0, .slice A0_1 l0_1.length c0_1, .slice A0_2 l0_2.length c0_2] 27 (0, 0)) bkw) : gb496 ≠ gb497)); have n6_ := Aside0.mk ((by rw [hg]; exact Nat.ne_of_gt (blk_lt (g := gb496) (o := .cells #[.int .i64 a0_0, .slice A0_1 l0_1.length c0_1, .slice A0_2 l0_2.length c0_2] 27 (0, 0)) bkw) : gb497 ≠ gb496)); clear BK496; clear HB; revert n0_ n1_ n2_ n3_ n4_ n5_ n6_; intro BK496 HB BK497 GW497 GE497 NB496_497 NB497_496; clear hb hbox hg; have hnb29 := NB496_497.out; have hnc29 := NB497_496.out; obtain ⟨hcz30_0, hcz30_1, hcz30_2⟩ := cls3 BK496.out; obtain ⟨hfz30_0, hfz30_1, hfz30_2⟩ := frz3 BK496.out) | ((with_reducible refine gate_callee (f := 33) rfl ?_); refine goesL_ (some 10) rfl rfl Try.func33 kr rfl #[.slice A0_1 l0_1.length c0_1, .string a1] rfl mpw ?_; (with_reducible refine (slices_Index_string_string.calls k _ _ l0_1 a1 t498 _ ?side1 ?side2 A3.out).mono ?_); (case side1 => have X_ := HR0_1; exact cbl); (case side2 => exact HC0_1.out); rintro e w' ⟨rfl, ⟨nd, rfl⟩⟩; refine ⟨_, rfl, ?_⟩; (try (rw [drewN_self w28]; generalize hq_ : World.drewN w28 _ = w28; have n0_ : Aside0 (w28.heap[gb496]? = some (.cells #[.int .i64 a0_0, .slice A0_1 l0_1.length c0_1, .slice A0_2 l0_2.length c0_2] 27 (0, 0))) := ⟨by rw [← hq_]; exact bkw⟩; have n1_ : Aside0 (w28.heap[gb497]? = some (.cells #[.int .i64 0, .slice none 0 0, .slice none 0 0] 27 (0, 0))) := ⟨by rw [← hq_]; exact bkw⟩; have n2_ : Aside0 (Below w.heap.size w w28) := ⟨by rw [← hq_]; exact blw⟩; clear BK496 BK497 HB hq_; revert n0_ n1_ n2_; intro BK496 BK497 HB; have hcy31_0 : w28.cell? ⟨gb496, 0, none⟩ = some (.int .i64 a0_0) := (blk_cell BK496.out 0).trans rfl; have hfy31_0 := blk_frozen BK496.out 0; have hcy31_1 : w28.cell? ⟨gb496, 1, none⟩ = some (.slice A0_1 l0_1.length c0_1) := (blk_cell BK496.out 1).trans rfl; have hfy31_1 := blk_frozen BK496.out 1; have hcy31_2 : w28.cell? ⟨gb496, 2, none⟩ = some (.slice A0_2 l0_2.length c0_2) := (blk_cell BK496.out 2).trans rfl; have hfy31_2 := blk_frozen BK496.out 2; have hcy32_0 : w28.cell? ⟨gb497, 0, none⟩ = some (.int .i64 0) := (blk_cell BK497.out 0).trans rfl; have hfy32_0 := blk_frozen BK497.out 0; have hcy32_1 : w28.cell? ⟨gb497, 1, none⟩ = some (.slice none 0 0) := (blk_cell BK497.out 1).trans rfl; have hfy32_1 := blk_frozen BK497.out 1; have hcy32_2 : w28.cell? ⟨gb497, 2, none⟩ = some (.slice none 0 0) := (blk_cell BK497.out 2).trans rfl; have hfy32_2 := blk_frozen BK497.out 2))) | ((with_reducible refine gate_callee (f := 9) rfl ?_); refine goesL_ (some 12) rfl rfl Try.func9 kr rfl #[.agg #[.int .i64 a0_0, .slice A0_1 l0_1.length c0_1, .slice A0_2 l0_2.length c0_2]] rfl mpw ?_; (with_reducible refine (impl_IsValidType.calls k a0_0 _ _ l0_1 _ _ l0_2 true _ ?side1 ?side2 ?side3 ?side4 A4.out).mono ?_); (case side1 => have X_ := HR0_1; exact cbl); (case side2 => exact HC0_1.out); (case side3 => have X_ := HR0_2; exact cbl); (case side4 => exact HC0_2.out); rintro e w33 ⟨rfl, hb⟩; refine ⟨_, rfl, ?_⟩; have n0_ := Aside0.mk (blk_below (g := gb496) (o := .cells #[.int .i64 a0_0, .slice A0_1 l0_1.length c0_1, .slice A0_2 l0_2.length c0_2] 27 (0, 0)) bkw hb); have n1_ := Aside0.mk (blk_below (g := gb497) (o := .cells #[.int .i64 0, .slice none 0 0, .slice none 0 0] 27 (0, 0)) bkw hb); have n2_ := Aside0.mk (below_step blw hb); clear BK496; clear BK497; clear HB; revert n0_ n1_ n2_; intro BK496 BK497 HB; (try clear hb); (try clear hb2); (try clear hk); (try clear hi); obtain ⟨hcz34_0, hcz34_1, hcz34_2⟩ := cls3 BK496.out; obtain ⟨hfz34_0, hfz34_1, hfz34_2⟩ := frz3 BK496.out; obtain ⟨hcz35_0, hcz35_1, hcz35_2⟩ := cls3 BK497.out; obtain ⟨hfz35_0, hfz35_1, hfz35_2⟩ := frz3 BK497.out))
  refine bodyPost_ret (results_ct rfl _ _ gb497 27 #[.int .i64 0, .slice none 0 0, .slice none 0 0] (0, 0) _ rfl (by (with_reducible repeat (first | refine blk_drewN ?_ _ | refine blk_drew ?_ | refine blk_alloc ?_ _)); refine blk_put (cs := #[.int .i64 0, .slice none 0 0, .slice none 0 0]) ?_ 2 _ rfl; (with_reducible repeat (first | refine blk_drewN ?_ _ | refine blk_drew ?_ | refine blk_alloc ?_ _)); refine blk_put (cs := #[.int .i64 0, .slice none 0 0, .slice none 0 0]) ?_ 1 _ rfl; (with_reducible repeat (first | refine blk_drewN ?_ _ | refine blk_drew ?_ | refine blk_alloc ?_ _)); refine blk_put (cs := #[.int .i64 0, .slice none 0 0, .slice none 0 0]) ?_ 0 _ rfl; (with_reducible repeat (first | refine blk_drewN ?_ _ | refine blk_drew ?_ | refine blk_alloc ?_ _)); exact BK497.out) Try.underlying27 rfl kr) rfl ?_
  exact ⟨_, _, rfw, by first | exact Kd.R_nil _ _ _ _ _ | exact Kd.N_nil _ _ _ _ _ | exact Kd.V_nil _ _ _ _ _ | exact Kd.Q_nil _ _ _ _ _ | exact Kd.S_nil _ _ _ _ _, by first | exact Kd.S_nil _ _ _ _ _ | exact Kd.N_nil _ _ _ _ _ | exact Kd.V_nil _ _ _ _ _ | exact Kd.Q_nil _ _ _ _ _ | exact Kd.R_nil _ _ _ _ _, blw⟩
 rw [if_pos c6] at H
 have c6b0 : (a0_0 == 3) = true := beq_iff_eq.mpr c6
 have c6b1 : (a0_0 != 3) = false := bne_eq_false_iff_eq.mpr c6
 clear c6
 have HC7 := Aside0.mk H
 clear H
 go_enter Try.func15, Try.ntmps15
 go_upto_if 22 with (first | ((with_reducible refine gate_dst (N := 2) rfl ?_); refine box_event ?hg (N := 2) ?hd (cs := #[.int .i64 a0_0, .slice A0_1 l0_1.length c0_1, .slice A0_2 l0_2.length c0_2]) (t := 27) ?hr ?_; (case hd => rfl); (case hg => rfl); (case hr => exact hrw); intro gb496 hg w8 hbox hb; have n0_ := Aside0.mk (below_step blw hb); have n1_ := Aside0.mk (hbox); have n2_ := Aside0.mk ((by rw [hg]; exact (below_size blw) : w.heap.size ≤ gb496)); have n3_ := n2_; clear HB; revert n0_ n1_ n2_ n3_; intro HB BK496 GW496 GE496; clear hb hbox hg) | ((with_reducible refine gate_dst (N := 4) rfl ?_); refine box_event ?hg (N := 4) ?hd (cs := #[.int .i64 0, .slice none 0 0, .slice none 0 0]) (t := 27) ?hr ?_; (case hd => rfl); (case hg => rfl); (case hr => exact hrw); intro gb497 hg w9 hbox hb; have n0_ := Aside0.mk (blk_below (g := gb496) (o := .cells #[.int .i64 a0_0, .slice A0_1 l0_1.length c0_1, .slice A0_2 l0_2.length c0_2] 27 (0, 0)) bkw hb); have n1_ := Aside0.mk (below_step blw hb); have n2_ := Aside0.mk (hbox); have n3_ := Aside0.mk ((by rw [hg]; exact (below_size blw) : w.heap.size ≤ gb497)); have n4_ := n3_; have n5_ := Aside0.mk ((by rw [hg]; exact Nat.ne_of_lt (blk_lt (g := gb496) (o := .cells #[.int .i64 a0_0, .slice A0_1 l0_1.length c0_1, .slice A0_2 l0_2.length c0_2] 27 (0, 0)) bkw) : gb496 ≠ gb497)); have n6_ := Aside0.mk ((by rw [hg]; exact Nat.ne_of_gt (blk_lt (g := gb496) (o := .cells #[.int .i64 a0_0, .slice A0_1 l0_1.length c0_1, .slice A0_2 l0_2.length c0_2] 27 (0, 0)) bkw) : gb497 ≠ gb496)); clear BK496; clear HB; revert n0_ n1_ n2_ n3_ n4_ n5_ n6_; intro BK496 HB BK497 GW497 GE497 NB496_497 NB497_496; clear hb hbox hg; have hnb10 := NB496_497.out; have hnc10 := NB497_496.out; obtain ⟨hcz11_0, hcz11_1, hcz11_2⟩ := cls3 BK496.out; obtain ⟨hfz11_0, hfz11_1, hfz11_2⟩ := frz3 BK496.out) | ((with_reducible refine gate_callee (f := 33) rfl ?_); refine goesL_ (some 10) rfl rfl Try.func33 kr rfl #[.slice A0_1 l0_1.length c0_1, .string a1] rfl mpw ?_; (with_reducible refine (slices_Index_string_string.calls k _ _ l0_1 a1 t498 _ ?side1 ?side2 A3.out).mono ?_); (case side1 => have X_ := HR0_1; exact cbl); (case side2 => exact HC0_1.out); rintro e w' ⟨rfl, ⟨nd, rfl⟩⟩; refine ⟨_, rfl, ?_⟩) | ((with_reducible refine gate_callee (f := 9) rfl ?_); refine goesL_ (some 12) rfl rfl Try.func9 kr rfl #[.agg #[.int .i64 a0_0, .slice A0_1 l0_1.length c0_1, .slice A0_2 l0_2.length c0_2]] rfl mpw ?_; (with_reducible refine (impl_IsValidType.calls k a0_0 _ _ l0_1 _ _ l0_2 true _ ?side1 ?side2 ?side3 ?side4 A4.out).mono ?_); (case side1 => repeat (first | exact (Kd.C_below HR0_1.out blw) | (with_reducible refine Kd.C_alloc ?_ _) | (with_reducible refine Kd.C_drewN ?_ _) | (with_reducible refine Kd.C_drew ?_))); (case side2 => exact HC0_1.out); (case side3 => repeat (first | exact (Kd.C_below HR0_2.out blw) | (with_reducible refine Kd.C_alloc ?_ _) | (with_reducible refine Kd.C_drewN ?_ _) | (with_reducible refine Kd.C_drew ?_))); (case side4 => exact HC0_2.out); rintro e w12 ⟨rfl, hb⟩; refine ⟨_, rfl, ?_⟩; have n0_ := Aside0.mk (blk_below (g := gb496) (o := .cells #[.int .i64 a0_0, .slice A0_1 l0_1.length c0_1, .slice A0_2 l0_2.length c0_2] 27 (0, 0)) bkw hb); have n1_ := Aside0.mk (blk_below (g := gb497) (o := .cells #[.int .i64 0, .slice none 0 0, .slice none 0 0] 27 (0, 0)) bkw hb); have n2_ := Aside0.mk (below_step blw hb); clear BK496; clear BK497; clear HB; revert n0_ n1_ n2_; intro BK496 BK497 HB; (try clear hb); (try clear hb2); (try clear hk); (try clear hi); obtain ⟨hcz13_0, hcz13_1, hcz13_2⟩ := cls3 BK496.out; obtain ⟨hfz13_0, hfz13_1, hfz13_2⟩ := frz3 BK496.out))
 have H := HC7.out
 clear HC7
 by_cases c14 : t498 < 0
 ·rw [if_pos c14] at H
  have c14b0 : decide (t498 < 0) = true := decide_eq_true c14
  clear c14
  (first | rw [c14b0] | (simp only [i64_w, i32_w]; rw [c14b0]) | skip)
  simp only [Option.some.injEq, Prod.mk.injEq] at H
  obtain ⟨rfl, rfl, rfl, rfl⟩ := H
  have hnb15 := NB497_496.out
  have hnc15 := NB496_497.out
  obtain ⟨hcz16_0, hcz16_1, hcz16_2⟩ := cls3 BK497.out
  obtain ⟨hfz16_0, hfz16_1, hfz16_2⟩ := frz3 BK497.out
  go_wp2
  refine bodyPost_ret (results_ct rfl _ _ gb497 27 #[.int .i64 0, .slice none 0 0, .slice none 0 0] (0, 0) _ rfl (by (with_reducible repeat (first | refine blk_drewN ?_ _ | refine blk_drew ?_ | refine blk_alloc ?_ _)); refine blk_put (cs := #[.int .i64 0, .slice none 0 0, .slice none 0 0]) ?_ 2 _ rfl; (with_reducible repeat (first | refine blk_drewN ?_ _ | refine blk_drew ?_ | refine blk_alloc ?_ _)); refine blk_put (cs := #[.int .i64 0, .slice none 0 0, .slice none 0 0]) ?_ 1 _ rfl; (with_reducible repeat (first | refine blk_drewN ?_ _ | refine blk_drew ?_ | refine blk_alloc ?_ _)); refine blk_put (cs := #[.int .i64 0, .slice none 0 0, .slice none 0 0]) ?_ 0 _ rfl; (with_reducible repeat (first | refine blk_drewN ?_ _ | refine blk_drew ?_ | refine blk_alloc ?_ _)); exact BK497.out) Try.underlying27 rfl kr) rfl ?_
  exact ⟨_, _, rfw, by first | exact Kd.R_nil _ _ _ _ _ | exact Kd.N_nil _ _ _ _ _ | exact Kd.V_nil _ _ _ _ _ | exact Kd.Q_nil _ _ _ _ _ | exact Kd.S_nil _ _ _ _ _, by first | exact Kd.S_nil _ _ _ _ _ | exact Kd.N_nil _ _ _ _ _ | exact Kd.V_nil _ _ _ _ _ | exact Kd.Q_nil _ _ _ _ _ | exact Kd.R_nil _ _ _ _ _, blw⟩
 rw [if_neg c14] at H
 have c14b0 : decide (t498 < 0) = false := decide_eq_false c14
 clear c14
 (first | rw [c14b0] | (simp only [i64_w, i32_w]; rw [c14b0]) | skip)
 by_cases c17 : 0 ≤ t498
 case neg =>
  rw [if_neg c17] at H
  exact absurd H (by simp)
 rw [if_pos c17] at H
 have c17b0 : decide (0 ≤ t498) = true := decide_eq_true c17
 clear c17
 by_cases c18 : t498 < (l0_2.length : Int)
 case neg =>
  rw [if_neg c18] at H
  exact absurd H (by simp)
 rw [if_pos c18] at H
 have c18b0 : decide (t498 < (l0_2.length : Int)) = true := decide_eq_true c18
 clear c18
 replace H := Option.bind_eq_some_iff.mp H
 obtain ⟨⟨t501, t502, t505⟩, A190, H⟩ := H
 replace H : (some (t501, t502, t505, true)) = some (r1, r2, r3, r4) := H
 have A19 := Aside0.mk A190
 clear A190
 simp only [Option.some.injEq, Prod.mk.injEq] at H
 obtain ⟨rfl, rfl, rfl, rfl⟩ := H
 have hnb20 := NB496_497.out
 have hnc20 := NB497_496.out
 obtain ⟨hcz21_0, hcz21_1, hcz21_2⟩ := cls3 BK496.out
 obtain ⟨hfz21_0, hfz21_1, hfz21_2⟩ := frz3 BK496.out
 have p500 : 0 ≤ (t498 : Int) := of_decide_eq_true asw
 have q500 : t498 < (l0_2.length : Int) := of_decide_eq_true asw
 obtain ⟨ad500, A500_1, c500_1, A500_2, c500_2, e500, hx500_0, hx500_1, hx500_2, hl500_1, hi500_1, hl500_2, hi500_2⟩ := at_T27 HR0_2.out t498 p500 q500
 cases e500
 replace hx500_0 := upw HB.out hx500_0
 replace hx500_1 := upw HB.out hx500_1
 replace hx500_2 := upw HB.out hx500_2
 have HR500_1 := Aside0.mk hi500_1
 have HC500_1 := Aside0.mk hl500_1
 clear hi500_1 hl500_1
 have HR500_2 := Aside0.mk hi500_2
 have HC500_2 := Aside0.mk hl500_2
 clear hi500_2 hl500_2
 replace p500 := eq_true p500
 replace q500 := eq_true q500
 go_wp2_with (first | ((with_reducible refine gate_callee (f := 34) rfl ?_); refine goesL_ (some 29) rfl rfl Try.func34 kr rfl #[.agg #[.int .i64 ((rd_T27 l0_2 t498).f0), .slice A500_1 ((rd_T27 l0_2 t498).f1).length c500_1, .slice A500_2 ((rd_T27 l0_2 t498).f2).length c500_2]] rfl mpw ?_; (with_reducible refine (impl_cloneType.calls k ((rd_T27 l0_2 t498).f0) _ _ ((rd_T27 l0_2 t498).f1) _ _ ((rd_T27 l0_2 t498).f2) t501 t502 t505 _ ?side1 ?side2 ?side3 ?side4 A19.out).mono ?_); (case side1 => have X_ := HR500_1; exact cbl); (case side2 => exact HC500_1.out); (case side3 => have X_ := HR500_2; exact cbl); (case side4 => exact HC500_2.out); rintro e w22 ⟨v503, v506, rfl, ho0, ho1, hb⟩; refine ⟨_, rfl, ?_⟩; obtain ⟨N23, EN23⟩ := Ow.name_size hb; have n0_ := Aside0.mk (Kd.R_lower (Ow.R_geN ho0 EN23.out) (below_size blw)); have n1_ := Aside0.mk (Kd.S_lower (Ow.S_geN (Kd.S_newB (Kd.S_newB ho1 (g := gb496) (o := .cells #[.int .i64 a0_0, .slice A0_1 l0_1.length c0_1, .slice (some ad500) l0_2.length c0_2] 27 (0, 0)) bkw) (g := gb497) (o := .cells #[.int .i64 0, .slice none 0 0, .slice none 0 0] 27 (0, 0)) bkw) EN23.out) (below_size blw)); have n2_ := Aside0.mk (blk_below (g := gb496) (o := .cells #[.int .i64 a0_0, .slice A0_1 l0_1.length c0_1, .slice (some ad500) l0_2.length c0_2] 27 (0, 0)) bkw hb); have n3_ := Aside0.mk (blk_below (g := gb497) (o := .cells #[.int .i64 0, .slice none 0 0, .slice none 0 0] 27 (0, 0)) bkw hb); have n4_ := Aside0.mk (below_step blw hb); clear BK496; clear BK497; clear HB; revert n0_ n1_ n2_ n3_ n4_; intro HO504 HO507 BK496 BK497 HB; (try clear hb); (try clear hb2); (try clear hk); (try clear hi); (try clear ho0); (try clear ho1); obtain ⟨hcz24_0, hcz24_1, hcz24_2⟩ := cls3 BK497.out; obtain ⟨hfz24_0, hfz24_1, hfz24_2⟩ := frz3 BK497.out; obtain ⟨Ao25, co25, eo25⟩ := Kd.R_slice HO504.out; subst eo25; obtain ⟨Ao26, co26, eo26⟩ := Kd.S_slice HO507.out; subst eo26))
 refine bodyPost_ret (results_ct rfl _ _ gb497 27 #[.int .i64 t501, .slice Ao25 t502.length co25, .slice Ao26 t505.length co26] (0, 0) _ rfl (by (with_reducible repeat (first | refine blk_drewN ?_ _ | refine blk_drew ?_ | refine blk_alloc ?_ _)); refine blk_put (cs := #[.int .i64 t501, .slice Ao25 t502.length co25, .slice none 0 0]) ?_ 2 _ rfl; (with_reducible repeat (first | refine blk_drewN ?_ _ | refine blk_drew ?_ | refine blk_alloc ?_ _)); refine blk_put (cs := #[.int .i64 t501, .slice none 0 0, .slice none 0 0]) ?_ 1 _ rfl; (with_reducible repeat (first | refine blk_drewN ?_ _ | refine blk_drew ?_ | refine blk_alloc ?_ _)); refine blk_put (cs := #[.int .i64 0, .slice none 0 0, .slice none 0 0]) ?_ 0 _ rfl; (with_reducible repeat (first | refine blk_drewN ?_ _ | refine blk_drew ?_ | refine blk_alloc ?_ _)); exact BK497.out) Try.underlying27 rfl kr) rfl ?_
 exact ⟨_, _, rfw, by (with_reducible repeat (first | apply Kd.R_alloc | apply Kd.R_drewN | apply Kd.R_drew)); exact Kd.R_mono (Kd.R_far (p := ⟨gb497, 2, none⟩) (Kd.R_far (p := ⟨gb497, 1, none⟩) (Kd.R_far (p := ⟨gb497, 0, none⟩) (Kd.R_types HO504.out BK497.out (by decide)) (fun _ hk => hk.2) (.int .i64 t501)) (fun _ hk => hk.2) (.slice Ao25 t502.length co25)) (fun _ hk => hk.2) (.slice Ao26 t505.length co26)) (fun _ hk => trivial), by (with_reducible repeat (first | apply Kd.S_alloc | apply Kd.S_drewN | apply Kd.S_drew)); exact Kd.S_mono (Kd.S_far (p := ⟨gb497, 2, none⟩) (Kd.S_far (p := ⟨gb497, 1, none⟩) (Kd.S_far (p := ⟨gb497, 0, none⟩) (Kd.S_mono HO507.out (fun k_ hk => (⟨hk, hk.1.2⟩ : _ ∧ k_ ≠ gb497))) (fun _ hk => hk.2) (.int .i64 t501)) (fun _ hk => hk.2) (.slice Ao25 t502.length co25)) (fun _ hk => hk.2) (.slice Ao26 t505.length co26)) (fun _ hk => hk.1.1.1.1), blw⟩

/-! ### spec_IndexOf: function 35 -/
def spec_IndexOf.l0 : Nat → List ByteArray → ByteArray → Int → Option (Int)
 | 0, _, _, _ => none
 | k + 1, x0, x1, x5 => if x5 < (x0.length : Int) then (if 0 ≤ x5 then (if (rdOf ByteArray.empty x0 x5).toList = x1.toList then (some x5) else (spec_IndexOf.l0 k x0 x1 (wrap64 (x5 + 1)))) else (none)) else (some (-1))
def spec_IndexOf.f (k : Nat) (l0 : List ByteArray) (a1 : ByteArray) : Option (Int) := spec_IndexOf.l0 k l0 a1 0
theorem spec_IndexOf.calls (k : Nat) (A0 : Option Addr) (c0 : Nat) (l0 : List ByteArray) (a1 : ByteArray) (r : Int) (w : World) (hr0 : Kd.C Kd.string w A0 l0.length l0) (hc0 : l0.length ≤ c0) (h : spec_IndexOf.f k l0 a1 = some r) :
  Calls Try.prog 35 #[.slice A0 l0.length c0, .string a1] w fun e w' => e = .returned (.int .i64 r) ∧ Drawn0 w w' := by
 have HR0 := Aside0.mk hr0
 have HC0 := Aside0.mk hc0
 clear hr0 hc0
 have H : (spec_IndexOf.l0 k l0 a1 0) = some r := h
 clear h
 have H' := Aside0.mk H
 clear H
 go_enter Try.func35, Try.ntmps35
 go_wp2
 go_loopg [5] k (fun kq v5 w' => ∃ (x5_1 : Int), v5 = .int .i64 x5_1 ∧ Aside0 (spec_IndexOf.l0 kq l0 a1 x5_1 = some r) ∧ Aside0 (kq ≤ k) ∧ Drawn0 w w')
 case atStart => exact ⟨(0), rfs, H', ⟨Nat.le_refl _⟩, by repeat (first | exact Drawn0.refl _ | apply Drawn0.step)⟩
 case round =>
  clear H'
  try clear p2
  obtain ⟨x5_1, rfl, HA, HK1, ⟨m1, rfl⟩⟩ := hrel
  cases gk with
  | zero => exact absurd HA.out (by simp [spec_IndexOf.l0])
  | succ k1 =>
   have H := HA.out
   clear HA
   simp only [spec_IndexOf.l0] at H
   by_cases c3 : x5_1 < (l0.length : Int)
   case neg =>
    rw [if_neg c3] at H
    have c3b0 : decide (x5_1 < (l0.length : Int)) = false := decide_eq_false c3
    clear c3
    obtain rfl := Option.some.inj H
    go_wp2
    go_ret
    exact ⟨rfs, by repeat (first | exact Drawn0.refl _ | apply Drawn0.step)⟩
   rw [if_pos c3] at H
   have c3b0 : decide (x5_1 < (l0.length : Int)) = true := decide_eq_true c3
   clear c3
   by_cases c4 : 0 ≤ x5_1
   case neg =>
    rw [if_neg c4] at H
    exact absurd H (by simp)
   rw [if_pos c4] at H
   have c4b0 : decide (0 ≤ x5_1) = true := decide_eq_true c4
   clear c4
   by_cases c5 : (rdOf ByteArray.empty l0 x5_1).toList = a1.toList
   ·rw [if_pos c5] at H
    have c5b0 : ((rdOf ByteArray.empty l0 x5_1).toList == a1.toList) = true := beq_iff_eq.mpr c5
    have c5b1 : ((rdOf ByteArray.empty l0 x5_1).toList != a1.toList) = false := bne_eq_false_iff_eq.mpr c5
    clear c5
    obtain rfl := Option.some.inj H
    have p508 : 0 ≤ (x5_1 : Int) := of_decide_eq_true asw
    have q508 : x5_1 < (l0.length : Int) := of_decide_eq_true asw
    obtain ⟨ad508, e508, hx508_0⟩ := Kd.at_string HR0.out x5_1 p508 q508
    cases e508
    replace p508 := eq_true p508
    replace q508 := eq_true q508
    go_wp2
    go_ret
    exact ⟨rfs, by repeat (first | exact Drawn0.refl _ | apply Drawn0.step)⟩
   rw [if_neg c5] at H
   have c5b0 : ((rdOf ByteArray.empty l0 x5_1).toList == a1.toList) = false := beq_eq_false_iff_ne.mpr c5
   have c5b1 : ((rdOf ByteArray.empty l0 x5_1).toList != a1.toList) = true := bne_iff_ne.mpr c5
   have H' := Aside0.mk H
   clear H
   have p508 : 0 ≤ (x5_1 : Int) := of_decide_eq_true asw
   have q508 : x5_1 < (l0.length : Int) := of_decide_eq_true asw
   obtain ⟨ad508, e508, hx508_0⟩ := Kd.at_string HR0.out x5_1 p508 q508
   cases e508
   replace p508 := eq_true p508
   replace q508 := eq_true q508
   go_wp2
   go_roundg k1
   case measure => have := HK1.out; omega
   case rel => exact ⟨(wrap64 (x5_1 + 1)), rfs, H', ⟨by have := HK1.out; omega⟩, by repeat (first | exact Drawn0.refl _ | apply Drawn0.step)⟩

/-! ### spec_FieldType: function 16 -/
def spec_FieldType.f (k : Nat) (a0_0 : Int) (l0_1 : List ByteArray) (l0_2 : List (S27)) (a1 : ByteArray) : Option (Int × List ByteArray × (List (S27)) × Bool) := (spec_IndexOf.f k l0_1 a1).bind fun t511 => ((spec_IsValidType.f k a0_0 l0_1 l0_2).bind fun t512 => (if t512 = true then (if a0_0 = 3 then (if t511 < 0 then (some (0, ([] : List ByteArray), ([] : List (S27)), false)) else (if 0 ≤ t511 then (if t511 < (l0_2.length : Int) then ((spec_l3Copy.f k ((rd_T27 l0_2 t511).f0) ((rd_T27 l0_2 t511).f1) ((rd_T27 l0_2 t511).f2)).bind fun bt514 => (some (bt514.1, bt514.2.1, bt514.2.2, true))) else (none)) else (none))) else (some (0, ([] : List ByteArray), ([] : List (S27)), false))) else (some (0, ([] : List ByteArray), ([] : List (S27)), false))))
theorem spec_FieldType.calls (k : Nat) (a0_0 : Int) (A0_1 : Option Addr) (c0_1 : Nat) (l0_1 : List ByteArray) (A0_2 : Option Addr) (c0_2 : Nat) (l0_2 : List (S27)) (a1 : ByteArray) (r1 : Int) (r2 : List ByteArray) (r3 : List (S27)) (r4 : Bool) (w : World) (hr0_1 : Kd.C Kd.string w A0_1 l0_1.length l0_1) (hc0_1 : l0_1.length ≤ c0_1) (hr0_2 : Kd.C k27 w A0_2 l0_2.length l0_2) (hc0_2 : l0_2.length ≤ c0_2) (h : spec_FieldType.f k a0_0 l0_1 l0_2 a1 = some (r1, r2, r3, r4)) :
  Calls Try.prog 16 #[.agg #[.int .i64 a0_0, .slice A0_1 l0_1.length c0_1, .slice A0_2 l0_2.length c0_2], .string a1] w fun e w' => ∃ v1_ v2_ : Value, e = .returned (.tuple #[.agg #[.int .i64 r1, v1_, v2_], .bool r4]) ∧ Kd.R Kd.string 9 w' w.heap.size (fun _ => True) v1_ r2 ∧ Kd.S k27 27 w' w.heap.size (fun k_ => some k_ ≠ (v1_ : Value).ownBlock) v2_ r3 ∧ Below w.heap.size w w' := by
 have hu27 := Try.underlying27
 have HR0_1 := Aside0.mk hr0_1
 have HC0_1 := Aside0.mk hc0_1
 clear hr0_1 hc0_1
 have HR0_2 := Aside0.mk hr0_2
 have HC0_2 := Aside0.mk hc0_2
 clear hr0_2 hc0_2
 have HB := Aside0.mk (Below.refl w.heap.size w)
 have H : ((spec_IndexOf.f k l0_1 a1).bind fun t511 => ((spec_IsValidType.f k a0_0 l0_1 l0_2).bind fun t512 => (if t512 = true then (if a0_0 = 3 then (if t511 < 0 then (some (0, ([] : List ByteArray), ([] : List (S27)), false)) else (if 0 ≤ t511 then (if t511 < (l0_2.length : Int) then ((spec_l3Copy.f k ((rd_T27 l0_2 t511).f0) ((rd_T27 l0_2 t511).f1) ((rd_T27 l0_2 t511).f2)).bind fun bt514 => (some (bt514.1, bt514.2.1, bt514.2.2, true))) else (none)) else (none))) else (some (0, ([] : List ByteArray), ([] : List (S27)), false))) else (some (0, ([] : List ByteArray), ([] : List (S27)), false))))) = some (r1, r2, r3, r4) := h
 clear h
 replace H := Option.bind_eq_some_iff.mp H
 obtain ⟨t511, A30, H⟩ := H
 replace H : ((spec_IsValidType.f k a0_0 l0_1 l0_2).bind fun t512 => (if t512 = true then (if a0_0 = 3 then (if t511 < 0 then (some (0, ([] : List ByteArray), ([] : List (S27)), false)) else (if 0 ≤ t511 then (if t511 < (l0_2.length : Int) then ((spec_l3Copy.f k ((rd_T27 l0_2 t511).f0) ((rd_T27 l0_2 t511).f1) ((rd_T27 l0_2 t511).f2)).bind fun bt514 => (some (bt514.1, bt514.2.1, bt514.2.2, true))) else (none)) else (none))) else (some (0, ([] : List ByteArray), ([] : List (S27)), false))) else (some (0, ([] : List ByteArray), ([] : List (S27)), false)))) = some (r1, r2, r3, r4) := H
 have A3 := Aside0.mk A30
 clear A30
 replace H := Option.bind_eq_some_iff.mp H
 obtain ⟨t512, A40, H⟩ := H
 replace H : (if t512 = true then (if a0_0 = 3 then (if t511 < 0 then (some (0, ([] : List ByteArray), ([] : List (S27)), false)) else (if 0 ≤ t511 then (if t511 < (l0_2.length : Int) then ((spec_l3Copy.f k ((rd_T27 l0_2 t511).f0) ((rd_T27 l0_2 t511).f1) ((rd_T27 l0_2 t511).f2)).bind fun bt514 => (some (bt514.1, bt514.2.1, bt514.2.2, true))) else (none)) else (none))) else (some (0, ([] : List ByteArray), ([] : List (S27)), false))) else (some (0, ([] : List ByteArray), ([] : List (S27)), false))) = some (r1, r2, r3, r4) := H
 have A4 := Aside0.mk A40
 clear A40
 by_cases c5 : t512 = true
 case neg =>
  replace c5 := Bool.eq_false_iff.mpr c5
  subst c5
  have H1 : (some (0, ([] : List ByteArray), ([] : List (S27)), false)) = some (r1, r2, r3, r4) := by rw [if_neg (show ¬ (false = true) by decide)] at H; exact H
  clear H
  have H := H1
  clear H1
  simp only [Option.some.injEq, Prod.mk.injEq] at H
  obtain ⟨rfl, rfl, rfl, rfl⟩ := H
  go_enter Try.func16, Try.ntmps16
  go_wp2_with (first | ((with_reducible refine gate_dst (N := 2) rfl ?_); refine box_event ?hg (N := 2) ?hd (cs := #[.int .i64 a0_0, .slice A0_1 l0_1.length c0_1, .slice A0_2 l0_2.length c0_2]) (t := 27) ?hr ?_; (case hd => rfl); (case hg => rfl); (case hr => exact hrw); intro gb509 hg w36 hbox hb; have n0_ := Aside0.mk (below_step blw hb); have n1_ := Aside0.mk (hbox); have n2_ := Aside0.mk ((by rw [hg]; exact (below_size blw) : w.heap.size ≤ gb509)); have n3_ := n2_; clear HB; revert n0_ n1_ n2_ n3_; intro HB BK509 GW509 GE509; clear hb hbox hg) | ((with_reducible refine gate_dst (N := 4) rfl ?_); refine box_event ?hg (N := 4) ?hd (cs := #[.int .i64 0, .slice none 0 0, .slice none 0 0]) (t := 27) ?hr ?_; (case hd => rfl); (case hg => rfl); (case hr => exact hrw); intro gb510 hg w37 hbox hb; have n0_ := Aside0.mk (blk_below (g := gb509) (o := .cells #[.int .i64 a0_0, .slice A0_1 l0_1.length c0_1, .slice A0_2 l0_2.length c0_2] 27 (0, 0)) bkw hb); have n1_ := Aside0.mk (below_step blw hb); have n2_ := Aside0.mk (hbox); have n3_ := Aside0.mk ((by rw [hg]; exact (below_size blw) : w.heap.size ≤ gb510)); have n4_ := n3_; have n5_ := Aside0.mk ((by rw [hg]; exact Nat.ne_of_lt (blk_lt (g := gb509) (o := .cells #[.int .i64 a0_0, .slice A0_1 l0_1.length c0_1, .slice A0_2 l0_2.length c0_2] 27 (0, 0)) bkw) : gb509 ≠ gb510)); have n6_ := Aside0.mk ((by rw [hg]; exact Nat.ne_of_gt (blk_lt (g := gb509) (o := .cells #[.int .i64 a0_0, .slice A0_1 l0_1.length c0_1, .slice A0_2 l0_2.length c0_2] 27 (0, 0)) bkw) : gb510 ≠ gb509)); clear BK509; clear HB; revert n0_ n1_ n2_ n3_ n4_ n5_ n6_; intro BK509 HB BK510 GW510 GE510 NB509_510 NB510_509; clear hb hbox hg; have hnb38 := NB509_510.out; have hnc38 := NB510_509.out; obtain ⟨hcz39_0, hcz39_1, hcz39_2⟩ := cls3 BK509.out; obtain ⟨hfz39_0, hfz39_1, hfz39_2⟩ := frz3 BK509.out) | ((with_reducible refine gate_callee (f := 35) rfl ?_); refine goesL_ (some 10) rfl rfl Try.func35 kr rfl #[.slice A0_1 l0_1.length c0_1, .string a1] rfl mpw ?_; (with_reducible refine (spec_IndexOf.calls k _ _ l0_1 a1 t511 _ ?side1 ?side2 A3.out).mono ?_); (case side1 => have X_ := HR0_1; exact cbl); (case side2 => exact HC0_1.out); rintro e w' ⟨rfl, ⟨nd, rfl⟩⟩; refine ⟨_, rfl, ?_⟩; (try (rw [drewN_self w37]; generalize hq_ : World.drewN w37 _ = w37; have n0_ : Aside0 (w37.heap[gb509]? = some (.cells #[.int .i64 a0_0, .slice A0_1 l0_1.length c0_1, .slice A0_2 l0_2.length c0_2] 27 (0, 0))) := ⟨by rw [← hq_]; exact bkw⟩; have n1_ : Aside0 (w37.heap[gb510]? = some (.cells #[.int .i64 0, .slice none 0 0, .slice none 0 0] 27 (0, 0))) := ⟨by rw [← hq_]; exact bkw⟩; have n2_ : Aside0 (Below w.heap.size w w37) := ⟨by rw [← hq_]; exact blw⟩; clear BK509 BK510 HB hq_; revert n0_ n1_ n2_; intro BK509 BK510 HB; have hcy40_0 : w37.cell? ⟨gb509, 0, none⟩ = some (.int .i64 a0_0) := (blk_cell BK509.out 0).trans rfl; have hfy40_0 := blk_frozen BK509.out 0; have hcy40_1 : w37.cell? ⟨gb509, 1, none⟩ = some (.slice A0_1 l0_1.length c0_1) := (blk_cell BK509.out 1).trans rfl; have hfy40_1 := blk_frozen BK509.out 1; have hcy40_2 : w37.cell? ⟨gb509, 2, none⟩ = some (.slice A0_2 l0_2.length c0_2) := (blk_cell BK509.out 2).trans rfl; have hfy40_2 := blk_frozen BK509.out 2; have hcy41_0 : w37.cell? ⟨gb510, 0, none⟩ = some (.int .i64 0) := (blk_cell BK510.out 0).trans rfl; have hfy41_0 := blk_frozen BK510.out 0; have hcy41_1 : w37.cell? ⟨gb510, 1, none⟩ = some (.slice none 0 0) := (blk_cell BK510.out 1).trans rfl; have hfy41_1 := blk_frozen BK510.out 1; have hcy41_2 : w37.cell? ⟨gb510, 2, none⟩ = some (.slice none 0 0) := (blk_cell BK510.out 2).trans rfl; have hfy41_2 := blk_frozen BK510.out 2))) | ((with_reducible refine gate_callee (f := 10) rfl ?_); refine goesL_ (some 12) rfl rfl Try.func10 kr rfl #[.agg #[.int .i64 a0_0, .slice A0_1 l0_1.length c0_1, .slice A0_2 l0_2.length c0_2]] rfl mpw ?_; (with_reducible refine (spec_IsValidType.calls k a0_0 _ _ l0_1 _ _ l0_2 false _ ?side1 ?side2 ?side3 ?side4 A4.out).mono ?_); (case side1 => have X_ := HR0_1; exact cbl); (case side2 => exact HC0_1.out); (case side3 => have X_ := HR0_2; exact cbl); (case side4 => exact HC0_2.out); rintro e w42 ⟨rfl, hb⟩; refine ⟨_, rfl, ?_⟩; have n0_ := Aside0.mk (blk_below (g := gb509) (o := .cells #[.int .i64 a0_0, .slice A0_1 l0_1.length c0_1, .slice A0_2 l0_2.length c0_2] 27 (0, 0)) bkw hb); have n1_ := Aside0.mk (blk_below (g := gb510) (o := .cells #[.int .i64 0, .slice none 0 0, .slice none 0 0] 27 (0, 0)) bkw hb); have n2_ := Aside0.mk (below_step blw hb); clear BK509; clear BK510; clear HB; revert n0_ n1_ n2_; intro BK509 BK510 HB; (try clear hb); (try clear hb2); (try clear hk); (try clear hi); obtain ⟨hcz43_0, hcz43_1, hcz43_2⟩ := cls3 BK510.out; obtain ⟨hfz43_0, hfz43_1, hfz43_2⟩ := frz3 BK510.out))
  refine bodyPost_ret (results_ct rfl _ _ gb510 27 #[.int .i64 0, .slice none 0 0, .slice none 0 0] (0, 0) _ rfl (by (with_reducible repeat (first | refine blk_drewN ?_ _ | refine blk_drew ?_ | refine blk_alloc ?_ _)); refine blk_put (cs := #[.int .i64 0, .slice none 0 0, .slice none 0 0]) ?_ 2 _ rfl; (with_reducible repeat (first | refine blk_drewN ?_ _ | refine blk_drew ?_ | refine blk_alloc ?_ _)); refine blk_put (cs := #[.int .i64 0, .slice none 0 0, .slice none 0 0]) ?_ 1 _ rfl; (with_reducible repeat (first | refine blk_drewN ?_ _ | refine blk_drew ?_ | refine blk_alloc ?_ _)); refine blk_put (cs := #[.int .i64 0, .slice none 0 0, .slice none 0 0]) ?_ 0 _ rfl; (with_reducible repeat (first | refine blk_drewN ?_ _ | refine blk_drew ?_ | refine blk_alloc ?_ _)); exact BK510.out) Try.underlying27 rfl kr) rfl ?_
  exact ⟨_, _, rfw, by first | exact Kd.R_nil _ _ _ _ _ | exact Kd.N_nil _ _ _ _ _ | exact Kd.V_nil _ _ _ _ _ | exact Kd.Q_nil _ _ _ _ _ | exact Kd.S_nil _ _ _ _ _, by first | exact Kd.S_nil _ _ _ _ _ | exact Kd.N_nil _ _ _ _ _ | exact Kd.V_nil _ _ _ _ _ | exact Kd.Q_nil _ _ _ _ _ | exact Kd.R_nil _ _ _ _ _, blw⟩
 subst c5
 have H1 : (if a0_0 = 3 then (if t511 < 0 then (some (0, ([] : List ByteArray), ([] : List (S27)), false)) else (if 0 ≤ t511 then (if t511 < (l0_2.length : Int) then ((spec_l3Copy.f k ((rd_T27 l0_2 t511).f0) ((rd_T27 l0_2 t511).f1) ((rd_T27 l0_2 t511).f2)).bind fun bt514 => (some (bt514.1, bt514.2.1, bt514.2.2, true))) else (none)) else (none))) else (some (0, ([] : List ByteArray), ([] : List (S27)), false))) = some (r1, r2, r3, r4) := by rw [if_pos rfl] at H; exact H
 clear H
 have H := H1
 clear H1
 by_cases c6 : a0_0 = 3
 case neg =>
  rw [if_neg c6] at H
  have c6b0 : (a0_0 == 3) = false := beq_eq_false_iff_ne.mpr c6
  have c6b1 : (a0_0 != 3) = true := bne_iff_ne.mpr c6
  simp only [Option.some.injEq, Prod.mk.injEq] at H
  obtain ⟨rfl, rfl, rfl, rfl⟩ := H
  go_enter Try.func16, Try.ntmps16
  go_wp2_with (first | ((with_reducible refine gate_dst (N := 2) rfl ?_); refine box_event ?hg (N := 2) ?hd (cs := #[.int .i64 a0_0, .slice A0_1 l0_1.length c0_1, .slice A0_2 l0_2.length c0_2]) (t := 27) ?hr ?_; (case hd => rfl); (case hg => rfl); (case hr => exact hrw); intro gb509 hg w27 hbox hb; have n0_ := Aside0.mk (below_step blw hb); have n1_ := Aside0.mk (hbox); have n2_ := Aside0.mk ((by rw [hg]; exact (below_size blw) : w.heap.size ≤ gb509)); have n3_ := n2_; clear HB; revert n0_ n1_ n2_ n3_; intro HB BK509 GW509 GE509; clear hb hbox hg) | ((with_reducible refine gate_dst (N := 4) rfl ?_); refine box_event ?hg (N := 4) ?hd (cs := #[.int .i64 0, .slice none 0 0, .slice none 0 0]) (t := 27) ?hr ?_; (case hd => rfl); (case hg => rfl); (case hr => exact hrw); intro gb510 hg w28 hbox hb; have n0_ := Aside0.mk (blk_below (g := gb509) (o := .cells #[.int .i64 a0_0, .slice A0_1 l0_1.length c0_1, .slice A0_2 l0_2.length c0_2] 27 (0, 0)) bkw hb); have n1_ := Aside0.mk (below_step blw hb); have n2_ := Aside0.mk (hbox); have n3_ := Aside0.mk ((by rw [hg]; exact (below_size blw) : w.heap.size ≤ gb510)); have n4_ := n3_; have n5_ := Aside0.mk ((by rw [hg]; exact Nat.ne_of_lt (blk_lt (g := gb509) (o := .cells #[.int .i64 a0_0, .slice A0_1 l0_1.length c0_1, .slice A0_2 l0_2.length c0_2] 27 (0, 0)) bkw) : gb509 ≠ gb510)); have n6_ := Aside0.mk ((by rw [hg]; exact Nat.ne_of_gt (blk_lt (g := gb509) (o := .cells #[.int .i64 a0_0, .slice A0_1 l0_1.length c0_1, .slice A0_2 l0_2.length c0_2] 27 (0, 0)) bkw) : gb510 ≠ gb509)); clear BK509; clear HB; revert n0_ n1_ n2_ n3_ n4_ n5_ n6_; intro BK509 HB BK510 GW510 GE510 NB509_510 NB510_509; clear hb hbox hg; have hnb29 := NB509_510.out; have hnc29 := NB510_509.out; obtain ⟨hcz30_0, hcz30_1, hcz30_2⟩ := cls3 BK509.out; obtain ⟨hfz30_0, hfz30_1, hfz30_2⟩ := frz3 BK509.out) | ((with_reducible refine gate_callee (f := 35) rfl ?_); refine goesL_ (some 10) rfl rfl Try.func35 kr rfl #[.slice A0_1 l0_1.length c0_1, .string a1] rfl mpw ?_; (with_reducible refine (spec_IndexOf.calls k _ _ l0_1 a1 t511 _ ?side1 ?side2 A3.out).mono ?_); (case side1 => have X_ := HR0_1; exact cbl); (case side2 => exact HC0_1.out); rintro e w' ⟨rfl, ⟨nd, rfl⟩⟩; refine ⟨_, rfl, ?_⟩; (try (rw [drewN_self w28]; generalize hq_ : World.drewN w28 _ = w28; have n0_ : Aside0 (w28.heap[gb509]? = some (.cells #[.int .i64 a0_0, .slice A0_1 l0_1.length c0_1, .slice A0_2 l0_2.length c0_2] 27 (0, 0))) := ⟨by rw [← hq_]; exact bkw⟩; have n1_ : Aside0 (w28.heap[gb510]? = some (.cells #[.int .i64 0, .slice none 0 0, .slice none 0 0] 27 (0, 0))) := ⟨by rw [← hq_]; exact bkw⟩; have n2_ : Aside0 (Below w.heap.size w w28) := ⟨by rw [← hq_]; exact blw⟩; clear BK509 BK510 HB hq_; revert n0_ n1_ n2_; intro BK509 BK510 HB; have hcy31_0 : w28.cell? ⟨gb509, 0, none⟩ = some (.int .i64 a0_0) := (blk_cell BK509.out 0).trans rfl; have hfy31_0 := blk_frozen BK509.out 0; have hcy31_1 : w28.cell? ⟨gb509, 1, none⟩ = some (.slice A0_1 l0_1.length c0_1) := (blk_cell BK509.out 1).trans rfl; have hfy31_1 := blk_frozen BK509.out 1; have hcy31_2 : w28.cell? ⟨gb509, 2, none⟩ = some (.slice A0_2 l0_2.length c0_2) := (blk_cell BK509.out 2).trans rfl; have hfy31_2 := blk_frozen BK509.out 2; have hcy32_0 : w28.cell? ⟨gb510, 0, none⟩ = some (.int .i64 0) := (blk_cell BK510.out 0).trans rfl; have hfy32_0 := blk_frozen BK510.out 0; have hcy32_1 : w28.cell? ⟨gb510, 1, none⟩ = some (.slice none 0 0) := (blk_cell BK510.out 1).trans rfl; have hfy32_1 := blk_frozen BK510.out 1; have hcy32_2 : w28.cell? ⟨gb510, 2, none⟩ = some (.slice none 0 0) := (blk_cell BK510.out 2).trans rfl; have hfy32_2 := blk_frozen BK510.out 2))) | ((with_reducible refine gate_callee (f := 10) rfl ?_); refine goesL_ (some 12) rfl rfl Try.func10 kr rfl #[.agg #[.int .i64 a0_0, .slice A0_1 l0_1.length c0_1, .slice A0_2 l0_2.length c0_2]] rfl mpw ?_; (with_reducible refine (spec_IsValidType.calls k a0_0 _ _ l0_1 _ _ l0_2 true _ ?side1 ?side2 ?side3 ?side4 A4.out).mono ?_); (case side1 => have X_ := HR0_1; exact cbl); (case side2 => exact HC0_1.out); (case side3 => have X_ := HR0_2; exact cbl); (case side4 => exact HC0_2.out); rintro e w33 ⟨rfl, hb⟩; refine ⟨_, rfl, ?_⟩; have n0_ := Aside0.mk (blk_below (g := gb509) (o := .cells #[.int .i64 a0_0, .slice A0_1 l0_1.length c0_1, .slice A0_2 l0_2.length c0_2] 27 (0, 0)) bkw hb); have n1_ := Aside0.mk (blk_below (g := gb510) (o := .cells #[.int .i64 0, .slice none 0 0, .slice none 0 0] 27 (0, 0)) bkw hb); have n2_ := Aside0.mk (below_step blw hb); clear BK509; clear BK510; clear HB; revert n0_ n1_ n2_; intro BK509 BK510 HB; (try clear hb); (try clear hb2); (try clear hk); (try clear hi); obtain ⟨hcz34_0, hcz34_1, hcz34_2⟩ := cls3 BK509.out; obtain ⟨hfz34_0, hfz34_1, hfz34_2⟩ := frz3 BK509.out; obtain ⟨hcz35_0, hcz35_1, hcz35_2⟩ := cls3 BK510.out; obtain ⟨hfz35_0, hfz35_1, hfz35_2⟩ := frz3 BK510.out))
  refine bodyPost_ret (results_ct rfl _ _ gb510 27 #[.int .i64 0, .slice none 0 0, .slice none 0 0] (0, 0) _ rfl (by (with_reducible repeat (first | refine blk_drewN ?_ _ | refine blk_drew ?_ | refine blk_alloc ?_ _)); refine blk_put (cs := #[.int .i64 0, .slice none 0 0, .slice none 0 0]) ?_ 2 _ rfl; (with_reducible repeat (first | refine blk_drewN ?_ _ | refine blk_drew ?_ | refine blk_alloc ?_ _)); refine blk_put (cs := #[.int .i64 0, .slice none 0 0, .slice none 0 0]) ?_ 1 _ rfl; (with_reducible repeat (first | refine blk_drewN ?_ _ | refine blk_drew ?_ | refine blk_alloc ?_ _)); refine blk_put (cs := #[.int .i64 0, .slice none 0 0, .slice none 0 0]) ?_ 0 _ rfl; (with_reducible repeat (first | refine blk_drewN ?_ _ | refine blk_drew ?_ | refine blk_alloc ?_ _)); exact BK510.out) Try.underlying27 rfl kr) rfl ?_
  exact ⟨_, _, rfw, by first | exact Kd.R_nil _ _ _ _ _ | exact Kd.N_nil _ _ _ _ _ | exact Kd.V_nil _ _ _ _ _ | exact Kd.Q_nil _ _ _ _ _ | exact Kd.S_nil _ _ _ _ _, by first | exact Kd.S_nil _ _ _ _ _ | exact Kd.N_nil _ _ _ _ _ | exact Kd.V_nil _ _ _ _ _ | exact Kd.Q_nil _ _ _ _ _ | exact Kd.R_nil _ _ _ _ _, blw⟩
 rw [if_pos c6] at H
 have c6b0 : (a0_0 == 3) = true := beq_iff_eq.mpr c6
 have c6b1 : (a0_0 != 3) = false := bne_eq_false_iff_eq.mpr c6
 clear c6
 have HC7 := Aside0.mk H
 clear H
 go_enter Try.func16, Try.ntmps16
 go_upto_if 22 with (first | ((with_reducible refine gate_dst (N := 2) rfl ?_); refine box_event ?hg (N := 2) ?hd (cs := #[.int .i64 a0_0, .slice A0_1 l0_1.length c0_1, .slice A0_2 l0_2.length c0_2]) (t := 27) ?hr ?_; (case hd => rfl); (case hg => rfl); (case hr => exact hrw); intro gb509 hg w8 hbox hb; have n0_ := Aside0.mk (below_step blw hb); have n1_ := Aside0.mk (hbox); have n2_ := Aside0.mk ((by rw [hg]; exact (below_size blw) : w.heap.size ≤ gb509)); have n3_ := n2_; clear HB; revert n0_ n1_ n2_ n3_; intro HB BK509 GW509 GE509; clear hb hbox hg) | ((with_reducible refine gate_dst (N := 4) rfl ?_); refine box_event ?hg (N := 4) ?hd (cs := #[.int .i64 0, .slice none 0 0, .slice none 0 0]) (t := 27) ?hr ?_; (case hd => rfl); (case hg => rfl); (case hr => exact hrw); intro gb510 hg w9 hbox hb; have n0_ := Aside0.mk (blk_below (g := gb509) (o := .cells #[.int .i64 a0_0, .slice A0_1 l0_1.length c0_1, .slice A0_2 l0_2.length c0_2] 27 (0, 0)) bkw hb); have n1_ := Aside0.mk (below_step blw hb); have n2_ := Aside0.mk (hbox); have n3_ := Aside0.mk ((by rw [hg]; exact (below_size blw) : w.heap.size ≤ gb510)); have n4_ := n3_; have n5_ := Aside0.mk ((by rw [hg]; exact Nat.ne_of_lt (blk_lt (g := gb509) (o := .cells #[.int .i64 a0_0, .slice A0_1 l0_1.length c0_1, .slice A0_2 l0_2.length c0_2] 27 (0, 0)) bkw) : gb509 ≠ gb510)); have n6_ := Aside0.mk ((by rw [hg]; exact Nat.ne_of_gt (blk_lt (g := gb509) (o := .cells #[.int .i64 a0_0, .slice A0_1 l0_1.length c0_1, .slice A0_2 l0_2.length c0_2] 27 (0, 0)) bkw) : gb510 ≠ gb509)); clear BK509; clear HB; revert n0_ n1_ n2_ n3_ n4_ n5_ n6_; intro BK509 HB BK510 GW510 GE510 NB509_510 NB510_509; clear hb hbox hg; have hnb10 := NB509_510.out; have hnc10 := NB510_509.out; obtain ⟨hcz11_0, hcz11_1, hcz11_2⟩ := cls3 BK509.out; obtain ⟨hfz11_0, hfz11_1, hfz11_2⟩ := frz3 BK509.out) | ((with_reducible refine gate_callee (f := 35) rfl ?_); refine goesL_ (some 10) rfl rfl Try.func35 kr rfl #[.slice A0_1 l0_1.length c0_1, .string a1] rfl mpw ?_; (with_reducible refine (spec_IndexOf.calls k _ _ l0_1 a1 t511 _ ?side1 ?side2 A3.out).mono ?_); (case side1 => have X_ := HR0_1; exact cbl); (case side2 => exact HC0_1.out); rintro e w' ⟨rfl, ⟨nd, rfl⟩⟩; refine ⟨_, rfl, ?_⟩) | ((with_reducible refine gate_callee (f := 10) rfl ?_); refine goesL_ (some 12) rfl rfl Try.func10 kr rfl #[.agg #[.int .i64 a0_0, .slice A0_1 l0_1.length c0_1, .slice A0_2 l0_2.length c0_2]] rfl mpw ?_; (with_reducible refine (spec_IsValidType.calls k a0_0 _ _ l0_1 _ _ l0_2 true _ ?side1 ?side2 ?side3 ?side4 A4.out).mono ?_); (case side1 => repeat (first | exact (Kd.C_below HR0_1.out blw) | (with_reducible refine Kd.C_alloc ?_ _) | (with_reducible refine Kd.C_drewN ?_ _) | (with_reducible refine Kd.C_drew ?_))); (case side2 => exact HC0_1.out); (case side3 => repeat (first | exact (Kd.C_below HR0_2.out blw) | (with_reducible refine Kd.C_alloc ?_ _) | (with_reducible refine Kd.C_drewN ?_ _) | (with_reducible refine Kd.C_drew ?_))); (case side4 => exact HC0_2.out); rintro e w12 ⟨rfl, hb⟩; refine ⟨_, rfl, ?_⟩; have n0_ := Aside0.mk (blk_below (g := gb509) (o := .cells #[.int .i64 a0_0, .slice A0_1 l0_1.length c0_1, .slice A0_2 l0_2.length c0_2] 27 (0, 0)) bkw hb); have n1_ := Aside0.mk (blk_below (g := gb510) (o := .cells #[.int .i64 0, .slice none 0 0, .slice none 0 0] 27 (0, 0)) bkw hb); have n2_ := Aside0.mk (below_step blw hb); clear BK509; clear BK510; clear HB; revert n0_ n1_ n2_; intro BK509 BK510 HB; (try clear hb); (try clear hb2); (try clear hk); (try clear hi); obtain ⟨hcz13_0, hcz13_1, hcz13_2⟩ := cls3 BK509.out; obtain ⟨hfz13_0, hfz13_1, hfz13_2⟩ := frz3 BK509.out))
 have H := HC7.out
 clear HC7
 by_cases c14 : t511 < 0
 ·rw [if_pos c14] at H
  have c14b0 : decide (t511 < 0) = true := decide_eq_true c14
  clear c14
  (first | rw [c14b0] | (simp only [i64_w, i32_w]; rw [c14b0]) | skip)
  simp only [Option.some.injEq, Prod.mk.injEq] at H
  obtain ⟨rfl, rfl, rfl, rfl⟩ := H
  have hnb15 := NB510_509.out
  have hnc15 := NB509_510.out
  obtain ⟨hcz16_0, hcz16_1, hcz16_2⟩ := cls3 BK510.out
  obtain ⟨hfz16_0, hfz16_1, hfz16_2⟩ := frz3 BK510.out
  go_wp2
  refine bodyPost_ret (results_ct rfl _ _ gb510 27 #[.int .i64 0, .slice none 0 0, .slice none 0 0] (0, 0) _ rfl (by (with_reducible repeat (first | refine blk_drewN ?_ _ | refine blk_drew ?_ | refine blk_alloc ?_ _)); refine blk_put (cs := #[.int .i64 0, .slice none 0 0, .slice none 0 0]) ?_ 2 _ rfl; (with_reducible repeat (first | refine blk_drewN ?_ _ | refine blk_drew ?_ | refine blk_alloc ?_ _)); refine blk_put (cs := #[.int .i64 0, .slice none 0 0, .slice none 0 0]) ?_ 1 _ rfl; (with_reducible repeat (first | refine blk_drewN ?_ _ | refine blk_drew ?_ | refine blk_alloc ?_ _)); refine blk_put (cs := #[.int .i64 0, .slice none 0 0, .slice none 0 0]) ?_ 0 _ rfl; (with_reducible repeat (first | refine blk_drewN ?_ _ | refine blk_drew ?_ | refine blk_alloc ?_ _)); exact BK510.out) Try.underlying27 rfl kr) rfl ?_
  exact ⟨_, _, rfw, by first | exact Kd.R_nil _ _ _ _ _ | exact Kd.N_nil _ _ _ _ _ | exact Kd.V_nil _ _ _ _ _ | exact Kd.Q_nil _ _ _ _ _ | exact Kd.S_nil _ _ _ _ _, by first | exact Kd.S_nil _ _ _ _ _ | exact Kd.N_nil _ _ _ _ _ | exact Kd.V_nil _ _ _ _ _ | exact Kd.Q_nil _ _ _ _ _ | exact Kd.R_nil _ _ _ _ _, blw⟩
 rw [if_neg c14] at H
 have c14b0 : decide (t511 < 0) = false := decide_eq_false c14
 clear c14
 (first | rw [c14b0] | (simp only [i64_w, i32_w]; rw [c14b0]) | skip)
 by_cases c17 : 0 ≤ t511
 case neg =>
  rw [if_neg c17] at H
  exact absurd H (by simp)
 rw [if_pos c17] at H
 have c17b0 : decide (0 ≤ t511) = true := decide_eq_true c17
 clear c17
 by_cases c18 : t511 < (l0_2.length : Int)
 case neg =>
  rw [if_neg c18] at H
  exact absurd H (by simp)
 rw [if_pos c18] at H
 have c18b0 : decide (t511 < (l0_2.length : Int)) = true := decide_eq_true c18
 clear c18
 replace H := Option.bind_eq_some_iff.mp H
 obtain ⟨⟨t514, t515, t518⟩, A190, H⟩ := H
 replace H : (some (t514, t515, t518, true)) = some (r1, r2, r3, r4) := H
 have A19 := Aside0.mk A190
 clear A190
 simp only [Option.some.injEq, Prod.mk.injEq] at H
 obtain ⟨rfl, rfl, rfl, rfl⟩ := H
 have hnb20 := NB509_510.out
 have hnc20 := NB510_509.out
 obtain ⟨hcz21_0, hcz21_1, hcz21_2⟩ := cls3 BK509.out
 obtain ⟨hfz21_0, hfz21_1, hfz21_2⟩ := frz3 BK509.out
 have p513 : 0 ≤ (t511 : Int) := of_decide_eq_true asw
 have q513 : t511 < (l0_2.length : Int) := of_decide_eq_true asw
 obtain ⟨ad513, A513_1, c513_1, A513_2, c513_2, e513, hx513_0, hx513_1, hx513_2, hl513_1, hi513_1, hl513_2, hi513_2⟩ := at_T27 HR0_2.out t511 p513 q513
 cases e513
 replace hx513_0 := upw HB.out hx513_0
 replace hx513_1 := upw HB.out hx513_1
 replace hx513_2 := upw HB.out hx513_2
 have HR513_1 := Aside0.mk hi513_1
 have HC513_1 := Aside0.mk hl513_1
 clear hi513_1 hl513_1
 have HR513_2 := Aside0.mk hi513_2
 have HC513_2 := Aside0.mk hl513_2
 clear hi513_2 hl513_2
 replace p513 := eq_true p513
 replace q513 := eq_true q513
 go_wp2_with (first | ((with_reducible refine gate_callee (f := 36) rfl ?_); refine goesL_ (some 29) rfl rfl Try.func36 kr rfl #[.agg #[.int .i64 ((rd_T27 l0_2 t511).f0), .slice A513_1 ((rd_T27 l0_2 t511).f1).length c513_1, .slice A513_2 ((rd_T27 l0_2 t511).f2).length c513_2]] rfl mpw ?_; (with_reducible refine (spec_l3Copy.calls k ((rd_T27 l0_2 t511).f0) _ _ ((rd_T27 l0_2 t511).f1) _ _ ((rd_T27 l0_2 t511).f2) t514 t515 t518 _ ?side1 ?side2 ?side3 ?side4 A19.out).mono ?_); (case side1 => have X_ := HR513_1; exact cbl); (case side2 => exact HC513_1.out); (case side3 => have X_ := HR513_2; exact cbl); (case side4 => exact HC513_2.out); rintro e w22 ⟨v516, v519, rfl, ho0, ho1, hb⟩; refine ⟨_, rfl, ?_⟩; obtain ⟨N23, EN23⟩ := Ow.name_size hb; have n0_ := Aside0.mk (Kd.R_lower (Ow.R_geN ho0 EN23.out) (below_size blw)); have n1_ := Aside0.mk (Kd.S_lower (Ow.S_geN (Kd.S_newB (Kd.S_newB ho1 (g := gb509) (o := .cells #[.int .i64 a0_0, .slice A0_1 l0_1.length c0_1, .slice (some ad513) l0_2.length c0_2] 27 (0, 0)) bkw) (g := gb510) (o := .cells #[.int .i64 0, .slice none 0 0, .slice none 0 0] 27 (0, 0)) bkw) EN23.out) (below_size blw)); have n2_ := Aside0.mk (blk_below (g := gb509) (o := .cells #[.int .i64 a0_0, .slice A0_1 l0_1.length c0_1, .slice (some ad513) l0_2.length c0_2] 27 (0, 0)) bkw hb); have n3_ := Aside0.mk (blk_below (g := gb510) (o := .cells #[.int .i64 0, .slice none 0 0, .slice none 0 0] 27 (0, 0)) bkw hb); have n4_ := Aside0.mk (below_step blw hb); clear BK509; clear BK510; clear HB; revert n0_ n1_ n2_ n3_ n4_; intro HO517 HO520 BK509 BK510 HB; (try clear hb); (try clear hb2); (try clear hk); (try clear hi); (try clear ho0); (try clear ho1); obtain ⟨hcz24_0, hcz24_1, hcz24_2⟩ := cls3 BK510.out; obtain ⟨hfz24_0, hfz24_1, hfz24_2⟩ := frz3 BK510.out; obtain ⟨Ao25, co25, eo25⟩ := Kd.R_slice HO517.out; subst eo25; obtain ⟨Ao26, co26, eo26⟩ := Kd.S_slice HO520.out; subst eo26))
 refine bodyPost_ret (results_ct rfl _ _ gb510 27 #[.int .i64 t514, .slice Ao25 t515.length co25, .slice Ao26 t518.length co26] (0, 0) _ rfl (by (with_reducible repeat (first | refine blk_drewN ?_ _ | refine blk_drew ?_ | refine blk_alloc ?_ _)); refine blk_put (cs := #[.int .i64 t514, .slice Ao25 t515.length co25, .slice none 0 0]) ?_ 2 _ rfl; (with_reducible repeat (first | refine blk_drewN ?_ _ | refine blk_drew ?_ | refine blk_alloc ?_ _)); refine blk_put (cs := #[.int .i64 t514, .slice none 0 0, .slice none 0 0]) ?_ 1 _ rfl; (with_reducible repeat (first | refine blk_drewN ?_ _ | refine blk_drew ?_ | refine blk_alloc ?_ _)); refine blk_put (cs := #[.int .i64 0, .slice none 0 0, .slice none 0 0]) ?_ 0 _ rfl; (with_reducible repeat (first | refine blk_drewN ?_ _ | refine blk_drew ?_ | refine blk_alloc ?_ _)); exact BK510.out) Try.underlying27 rfl kr) rfl ?_
 exact ⟨_, _, rfw, by (with_reducible repeat (first | apply Kd.R_alloc | apply Kd.R_drewN | apply Kd.R_drew)); exact Kd.R_mono (Kd.R_far (p := ⟨gb510, 2, none⟩) (Kd.R_far (p := ⟨gb510, 1, none⟩) (Kd.R_far (p := ⟨gb510, 0, none⟩) (Kd.R_types HO517.out BK510.out (by decide)) (fun _ hk => hk.2) (.int .i64 t514)) (fun _ hk => hk.2) (.slice Ao25 t515.length co25)) (fun _ hk => hk.2) (.slice Ao26 t518.length co26)) (fun _ hk => trivial), by (with_reducible repeat (first | apply Kd.S_alloc | apply Kd.S_drewN | apply Kd.S_drew)); exact Kd.S_mono (Kd.S_far (p := ⟨gb510, 2, none⟩) (Kd.S_far (p := ⟨gb510, 1, none⟩) (Kd.S_far (p := ⟨gb510, 0, none⟩) (Kd.S_mono HO520.out (fun k_ hk => (⟨hk, hk.1.2⟩ : _ ∧ k_ ≠ gb510))) (fun _ hk => hk.2) (.int .i64 t514)) (fun _ hk => hk.2) (.slice Ao25 t515.length co25)) (fun _ hk => hk.2) (.slice Ao26 t518.length co26)) (fun _ hk => hk.1.1.1.1), blw⟩

end Go.Proofs.Ytaakdfbfgabdbaa.Pt
end
section
namespace Go.Proofs.Ytaakdfbfgabdbaa.Pt
open Go.RowKit Go.Proofs.YtaakdfbfgabdbaaW.PrintWords Go.Proofs.YtaakdfbfgabdbaaW.PrintLast Go.Proofs.Ytaakdfbfgabdbaa.Pl Go.Proofs.Ytaakdfbfgabdbaa.Ext
set_option linter.unusedVariables false
set_option linter.unusedSimpArgs false
/-- Are the names ascending, from an index on? -/
def asc (xs : List ByteArray) : Nat → Nat → Bool
  | _, 0 => true
  | i, m + 1 => Op.bytesLess (xs.getD (i - 1) ByteArray.empty).toList (xs.getD i ByteArray.empty).toList && asc xs (i + 1) m
theorem rdm (xs : List ByteArray) (i : Nat) (h : 1 ≤ i) (hi : i ≤ 1048576) : wrap64 ((i : Int) - 1) = ((i - 1 : Nat) : Int) := by unfold wrap64; omega
theorem spec_AreAscending_ev (xs : List ByteArray) (hx : xs.length ≤ 1048576) : Ev (fun k => spec_AreAscending.f k xs) (asc xs 1 (xs.length - 1)) := by
  suffices h : ∀ m i, 1 ≤ i → (i + m = xs.length ∨ m = 0 ∧ xs.length ≤ i) → i ≤ 1048576 → Ev (fun k => spec_AreAscending.l0 k xs (i : Int)) (asc xs i m) by
    exact h (xs.length - 1) 1 (by omega) (by omega) (by omega)
  intro m
  induction m with
  | zero =>
    intro i h1 hi hl
    refine Ev.up ?_
    simp only [spec_AreAscending.l0]
    exact Ev.neg (by omega) (Ev.now _)
  | succ m ih =>
    intro i h1 hi hl
    refine Ev.up ?_
    simp only [spec_AreAscending.l0]
    rw [rdm xs i h1 hl]
    refine Ev.pos (by omega) (Ev.pos (by omega) (Ev.pos (by omega) (Ev.pos (by omega) ?_)))
    simp only [rdOf_str, asc]
    by_cases hc : Op.bytesLess (xs.getD (i - 1) ByteArray.empty).toList (xs.getD i ByteArray.empty).toList = true
    · refine Ev.pos hc ?_
      rw [w1' (n := xs.length) (by omega) hx, hc, Bool.true_and]
      exact ih (i + 1) (by omega) (by omega) (by omega)
    · refine Ev.neg hc ?_
      rw [Bool.eq_false_iff.2 hc, Bool.false_and]
      exact Ev.now _
theorem impl_AreAscending_ev (xs : List ByteArray) (hx : xs.length ≤ 1048576) : Ev (fun k => impl_AreAscending.f k xs) (asc xs 1 (xs.length - 1)) := by
  suffices h : ∀ m i, 1 ≤ i → (i + m = xs.length ∨ m = 0 ∧ xs.length ≤ i) → i ≤ 1048576 → Ev (fun k => impl_AreAscending.l0 k xs (i : Int)) (asc xs i m) by
    exact h (xs.length - 1) 1 (by omega) (by omega) (by omega)
  intro m
  induction m with
  | zero =>
    intro i h1 hi hl
    refine Ev.up ?_
    simp only [impl_AreAscending.l0]
    exact Ev.neg (by omega) (Ev.now _)
  | succ m ih =>
    intro i h1 hi hl
    refine Ev.up ?_
    simp only [impl_AreAscending.l0]
    rw [rdm xs i h1 hl]
    refine Ev.pos (by omega) (Ev.pos (by omega) (Ev.pos (by omega) (Ev.pos (by omega) ?_)))
    simp only [rdOf_str, asc]
    by_cases hc : Op.bytesLess (xs.getD (i - 1) ByteArray.empty).toList (xs.getD i ByteArray.empty).toList = true
    · refine Ev.pos hc ?_
      rw [w1' (n := xs.length) (by omega) hx, hc, Bool.true_and]
      exact ih (i + 1) (by omega) (by omega) (by omega)
    · refine Ev.neg hc ?_
      rw [Bool.eq_false_iff.2 hc, Bool.false_and]
      exact Ev.now _
end Go.Proofs.Ytaakdfbfgabdbaa.Pt
end
section
namespace Go.Proofs.Ytaakdfbfgabdbaa.Pt
open Go.RowKit Go.Proofs.YtaakdfbfgabdbaaW.PrintWords Go.Proofs.YtaakdfbfgabdbaaW.PrintLast Go.Proofs.Ytaakdfbfgabdbaa.Pl Go.Proofs.Ytaakdfbfgabdbaa.Ext
set_option linter.unusedVariables false
set_option linter.unusedSimpArgs false
/-- Can a list be that of a record's labels? -/
def labB (xs : List ByteArray) : Bool := xs.all isName && (decide (1 ≤ xs.length ∧ xs.length ≤ 4) && asc xs 1 (xs.length - 1))
theorem spec_l1In_eq (a b c : Int) : spec_l1In.f a b c = some (decide (b ≤ a ∧ a ≤ c)) := by
  unfold spec_l1In.f
  by_cases h : a ≥ b
  · rw [if_pos h]
    have h' : b ≤ a := h
    simp [h']
  · rw [if_neg h]
    have h' : ¬ b ≤ a := h
    simp [h']
theorem spec_l3Labels_ev (xs : List ByteArray) (hx : xs.length ≤ 1048576) (hy : ∀ y ∈ xs, y.size ≤ 1048576) : Ev (fun k => spec_l3Labels.f k xs) (labB xs) := by
  simp only [spec_l3Labels.f, labB]
  refine all_ev xs ByteArray.empty isName _ (fun k i => spec_l3Labels.l0 k xs (i : Int)) (fun k i => spec_IsName.f k (rdOf ByteArray.empty xs (i : Int))) (fun k i hi => ?_) ?_ (fun i hi => ?_)
  · simp only [spec_l3Labels.l0]
    rw [if_pos (by omega), if_pos (by omega), w1' hi hx]
  · refine Ev.up ?_
    simp only [spec_l3Labels.l0, spec_l1In_eq, Option.bind_some]
    refine Ev.neg (by omega) ?_
    refine Ev.cases (fun h => ?_) (fun h => ?_)
    · have h2 : (1 ≤ xs.length ∧ xs.length ≤ 4) := by simp at h; omega
      rw [decide_eq_true h2, Bool.true_and]
      exact Ev.bind (spec_AreAscending_ev xs hx) (Ev.now _)
    · have h2 : ¬ (1 ≤ xs.length ∧ xs.length ≤ 4) := by intro h3; apply h; simp; omega
      rw [decide_eq_false h2, Bool.false_and]
      exact Ev.now _
  · rw [rdOf_str]
    exact spec_IsName_ev _ (hy _ (mem_getD xs _ i hi))
theorem IndexFunc_labels (xs : List ByteArray) (hx : xs.length ≤ 1048576) (hy : ∀ y ∈ xs, y.size ≤ 1048576) : ∃ r : Int, Ev (fun k => slices_IndexFunc_string_of_labelsOk_1.l0 k xs (xs.length : Int) 0) r ∧ decide (r ≥ 0) = !(xs.all isName) := by
  suffices h : ∀ m i, i + m = xs.length → ∃ r : Int, Ev (fun k => slices_IndexFunc_string_of_labelsOk_1.l0 k xs (xs.length : Int) (i : Int)) r ∧ decide (r ≥ 0) = !((xs.drop i).all isName) from by simpa using h xs.length 0 (by omega)
  intro m
  induction m with
  | zero =>
    intro i hi
    refine ⟨-1, Ev.up ?_, by rw [List.drop_of_length_le (by omega)]; rfl⟩
    simp only [slices_IndexFunc_string_of_labelsOk_1.l0]
    exact Ev.neg (by omega) (Ev.now _)
  | succ m ih =>
    intro i hi
    have hlt : i < xs.length := by omega
    have e : xs.getD i ByteArray.empty = xs[i] := by simp [List.getD_eq_getElem?_getD, hlt]
    have hn : Ev (fun k => impl_labelsOk_1.f k (rdOf ByteArray.empty xs (i : Int))) (!(isName xs[i])) := by
      simp only [impl_labelsOk_1.f]
      rw [rdOf_str, e]
      exact Ev.bind (impl_IsName_ev _ (by rw [← e]; exact hy _ (mem_getD xs _ i hlt))) (Ev.now _)
    rw [List.drop_eq_getElem_cons hlt, List.all_cons]
    cases hp : isName xs[i]
    · refine ⟨(i : Int), Ev.up ?_, by simp⟩
      simp only [slices_IndexFunc_string_of_labelsOk_1.l0]
      rw [hp] at hn
      exact Ev.pos (by omega) (Ev.pos (by omega) (Ev.pos (by omega) (Ev.bind hn (Ev.pos (by simp) (Ev.now _)))))
    · obtain ⟨r, h1, h2⟩ := ih (i + 1) (by omega)
      refine ⟨r, Ev.up ?_, by rw [h2]; simp⟩
      simp only [slices_IndexFunc_string_of_labelsOk_1.l0, w1' hlt hx]
      rw [hp] at hn
      exact Ev.pos (by omega) (Ev.pos (by omega) (Ev.pos (by omega) (Ev.bind hn (Ev.neg (by simp) h1))))
theorem impl_labelsOk_ev (xs : List ByteArray) (hx : xs.length ≤ 1048576) (hy : ∀ y ∈ xs, y.size ≤ 1048576) : Ev (fun k => impl_labelsOk.f k xs) (labB xs) := by
  simp only [impl_labelsOk.f, labB, slices_ContainsFunc_string_of_labelsOk_1.f, slices_IndexFunc_string_of_labelsOk_1.f]
  by_cases h1 : xs.length < 1
  · refine Ev.pos (by omega) (Ev.const ?_)
    rw [decide_eq_false (by omega)]; simp
  refine Ev.neg (by omega) ?_
  by_cases h2 : xs.length > 4
  · refine Ev.pos (by omega) (Ev.const ?_)
    rw [decide_eq_false (by omega)]; simp
  refine Ev.neg (by omega) ?_
  rw [decide_eq_true (by omega), Bool.true_and]
  refine Ev.bind (impl_AreAscending_ev xs hx) ?_
  refine Ev.cases (fun h => ?_) (fun h => ?_)
  · obtain ⟨r, g1, g2⟩ := IndexFunc_labels xs hx hy
    refine Ev.bind (Ev.bind g1 (Ev.now _)) (Ev.const ?_)
    rw [g2, h]; simp
  · rw [Bool.eq_false_iff.2 h]
    exact Ev.const (by simp)

end Go.Proofs.Ytaakdfbfgabdbaa.Pt
end
section
namespace Go.Proofs.Ytaakdfbfgabdbaa.Pt
open Go.RowKit Go.Proofs.YtaakdfbfgabdbaaW.PrintWords Go.Proofs.YtaakdfbfgabdbaaW.PrintLast Go.Proofs.Ytaakdfbfgabdbaa.Pl Go.Proofs.Ytaakdfbfgabdbaa.Ext
set_option linter.unusedVariables false
set_option linter.unusedSimpArgs false
mutual
/-- Does a kind stand in a type? -/
def hasT (n : Int) : S27 → Bool
  | ⟨a, _, xs⟩ => hasTS n xs || a == n
def hasTS (n : Int) : List S27 → Bool
  | [] => false
  | x :: r => hasT n x || hasTS n r
end
mutual
/-- How deep is a type? -/
def depT : S27 → Nat
  | ⟨_, _, xs⟩ => depTS xs + 1
def depTS : List S27 → Nat
  | [] => 0
  | x :: r => max (depT x) (depTS r)
end
/-- How many arguments has a kind? -/
def wantT (a : Int) : Int := if a = 1 ∨ a = 2 then 0 else if a = 4 then 1 else if a = 5 then 2 else -1
/-- One node of a right type. -/
def topT (a : Int) (l : List ByteArray) (xs : List S27) : Bool :=
  if a = 3 then decide ((xs.length : Int) = l.length) && (labB l && !(hasTS 5 xs))
  else if a = 4 ∧ xs.length = 1 ∧ hasTS 5 xs = true then false
  else decide ((l.length : Int) = 0) && decide ((xs.length : Int) = wantT a)
mutual
def formT : S27 → Bool
  | ⟨a, l, xs⟩ => formTS xs && topT a l xs
def formTS : List S27 → Bool
  | [] => true
  | x :: r => formT x && formTS r
end
/-- One node, as_ the program looks at it. -/
def topI (plain : Bool) (deep : Int) (a : Int) (l : List ByteArray) (n : Nat) : Bool :=
  (decide (1 ≤ a ∧ a ≤ 5 ∧ deep ≤ 7) && decide ((n : Int) = imPut (imPut (imPut im0 4 1) 5 2) 3 (l.length : Int) a)) && (!(decide (a = 5) && plain) && (!(decide (a = 3) && !(labB l)) && (decide (a = 3) || decide (l.length = 0))))
mutual
def tfT (plain : Bool) (deep : Int) : S27 → Bool
  | ⟨a, l, xs⟩ => topI plain deep a l xs.length && tfTS (plain || (decide (a = 3) || decide (a = 4))) (deep + 1) xs
def tfTS (plain : Bool) (deep : Int) : List S27 → Bool
  | [] => true
  | x :: r => tfT plain deep x && tfTS plain deep r
end
theorem hasT_eq (n : Int) (x : S27) : hasT n x = (hasTS n x.f2 || x.f0 == n) := by cases x; simp only [hasT]
theorem depT_eq (x : S27) : depT x = depTS x.f2 + 1 := by cases x; simp only [depT]
theorem formT_eq (x : S27) : formT x = (formTS x.f2 && topT x.f0 x.f1 x.f2) := by cases x; simp only [formT]
theorem tfT_eq (p : Bool) (d : Int) (x : S27) : tfT p d x = (topI p d x.f0 x.f1 x.f2.length && tfTS (p || (decide (x.f0 = 3) || decide (x.f0 = 4))) (d + 1) x.f2) := by cases x; simp only [tfT]
theorem hasTS_any (n : Int) (xs : List S27) : hasTS n xs = xs.any (hasT n) := by
  induction xs with
  | nil => rfl
  | cons x r ih => simp [hasTS, ih]
theorem formTS_all (xs : List S27) : formTS xs = xs.all formT := by
  induction xs with
  | nil => rfl
  | cons x r ih => simp [formTS, ih]
theorem tfTS_all (p : Bool) (d : Int) (xs : List S27) : tfTS p d xs = xs.all (tfT p d) := by
  induction xs with
  | nil => rfl
  | cons x r ih => simp [tfTS, ih]
theorem depT_le (xs : List S27) (n : Nat) : depTS xs ≤ n ↔ ∀ y ∈ xs, depT y ≤ n := by
  induction xs with
  | nil => simp [depTS]
  | cons x r ih => simp [depTS, Nat.max_le, ih]
theorem depT_nd : ∀ x : S27, depT x ≤ ndType x := by
  refine indTypeI fun x ih => ?_
  rw [depT_eq, ndType_eq]
  have : depTS x.f2 ≤ (x.f2.map ndType).sum := (depT_le _ _).2 fun y hy => Nat.le_trans (ih y hy) (sum_le_of_mem ndType hy)
  omega
theorem many_eq (a : Int) (n : Nat) : imPut (imPut (imPut im0 4 1) 5 2) 3 (n : Int) a = if a = 3 then (n : Int) else if a = 5 then 2 else if a = 4 then 1 else 0 := by
  simp only [imPut, im0]
theorem tfT_iff : ∀ x : S27, ∀ p d, tfT p d x = true ↔ formT x = true ∧ (p = true → hasT 5 x = false) ∧ d + (depT x : Int) ≤ 8 := by
  refine indTypeI fun x ih p d => ?_
  rw [tfT_eq, formT_eq, hasT_eq, depT_eq]
  have hS : ∀ q, tfTS q (d + 1) x.f2 = true ↔ formTS x.f2 = true ∧ (q = true → hasTS 5 x.f2 = false) ∧ (x.f2 = [] ∨ d + (depTS x.f2 : Int) ≤ 7) := by
    intro q
    rw [tfTS_all, formTS_all, hasTS_any, List.all_eq_true, List.all_eq_true]
    constructor
    · intro h
      refine ⟨fun y hy => ((ih y hy q (d + 1)).1 (h y hy)).1, fun hq => ?_, ?_⟩
      · rw [Bool.eq_false_iff]
        intro hc
        obtain ⟨y, hy, h5⟩ := List.any_eq_true.1 hc
        rw [((ih y hy q (d + 1)).1 (h y hy)).2.1 hq] at h5
        exact absurd h5 (by decide)
      · by_cases he : x.f2 = []
        · exact Or.inl he
        refine Or.inr ?_
        have hb : ∀ y ∈ x.f2, (depT y : Int) ≤ 7 - d := fun y hy => by have := ((ih y hy q (d + 1)).1 (h y hy)).2.2; omega
        obtain ⟨y0, hy0⟩ := List.exists_mem_of_ne_nil _ he
        have h0 := hb y0 hy0
        have : depTS x.f2 ≤ (7 - d).toNat := (depT_le _ _).2 fun y hy => by have := hb y hy; omega
        omega
    · intro h y hy
      refine (ih y hy q (d + 1)).2 ⟨h.1 y hy, fun hq => ?_, ?_⟩
      · rw [Bool.eq_false_iff]
        intro hc
        have := h.2.1 hq
        rw [Bool.eq_false_iff] at this
        exact this (List.any_eq_true.2 ⟨y, hy, hc⟩)
      · rcases h.2.2 with he | hd
        · rw [he] at hy; cases hy
        have := (depT_le x.f2 (depTS x.f2)).1 (Nat.le_refl _) y hy
        omega
  rw [Bool.and_eq_true, hS]
  have hlen : x.f2 = [] ↔ x.f2.length = 0 := by cases x.f2 <;> simp
  have hdep : x.f2 = [] → depTS x.f2 = 0 := fun h => by rw [h]; rfl
  have hno : x.f2 = [] → hasTS 5 x.f2 = false := fun h => by rw [h]; rfl
  generalize x.f2 = xs at *
  generalize x.f0 = a at *
  generalize x.f1 = l at *
  simp only [topI, topT, many_eq, wantT]
  by_cases h3 : a = 3
  · subst h3
    simp only [if_true, Bool.and_eq_true, decide_eq_true_eq, Bool.or_eq_true, Bool.not_eq_true', Bool.and_eq_false_iff, decide_eq_false_iff_not, Bool.not_eq_false', Bool.or_eq_false_iff, beq_eq_false_iff_ne, true_or, or_true, true_implies, true_and, and_true, not_true_eq_false, false_or, or_false]
    constructor
    · rintro ⟨⟨⟨⟨_, _, h7⟩, hn⟩, _, hl⟩, hf, hh, hd⟩
      refine ⟨⟨hf, hn, hl, hh⟩, fun _ => ⟨hh, by decide⟩, ?_⟩
      rcases hd with he | hd
      · rw [hdep he]; omega
      · omega
    · rintro ⟨⟨hf, hn, hl, hh⟩, _, hd⟩
      refine ⟨⟨⟨⟨by decide, by decide, by omega⟩, hn⟩, Or.inl (by decide), hl⟩, hf, hh, Or.inr (by omega)⟩
  · by_cases h4 : a = 4
    · subst h4
      simp only [show ¬ ((4 : Int) = 3) by decide, show ¬ ((4 : Int) = 5) by decide, show ¬ ((4 : Int) = 1 ∨ (4 : Int) = 2) by decide, if_false, if_true, Bool.and_eq_true, decide_eq_true_eq, Bool.or_eq_true, Bool.not_eq_true', Bool.and_eq_false_iff, decide_eq_false_iff_not, Bool.not_eq_false', Bool.or_eq_false_iff, beq_eq_false_iff_ne, true_and, false_or, or_true, true_or, not_false_eq_true, and_true, true_implies]
      constructor
      · rintro ⟨⟨⟨⟨_, _, h7⟩, hn⟩, hl⟩, hf, hh, hd⟩
        have h1 : xs.length = 1 := by omega
        have hd' : d + (depTS xs : Int) ≤ 7 := by
          rcases hd with he | hd
          · rw [hlen] at he; omega
          · exact hd
        rw [if_neg (by rintro ⟨_, h⟩; rw [hh] at h; cases h)]
        simp [hf, hl, h1, hh]
        omega
      · rintro ⟨⟨hf, ht⟩, hp, hd⟩
        by_cases hc : xs.length = 1 ∧ hasTS 5 xs = true
        · rw [if_pos hc] at ht; cases ht
        rw [if_neg hc] at ht
        simp at ht
        have h1 : xs.length = 1 := by omega
        have hh : hasTS 5 xs = false := by
          rw [Bool.eq_false_iff]; exact fun h => hc ⟨h1, h⟩
        exact ⟨⟨⟨⟨by decide, by decide, by omega⟩, by omega⟩, by simp [ht.1]⟩, hf, hh, Or.inr (by omega)⟩
    · have e34 : (decide (a = 3) || decide (a = 4)) = false := by simp [h3, h4]
      simp only [h3, h4, if_false, false_and, Bool.and_eq_true, decide_eq_true_eq, Bool.or_eq_true, Bool.not_eq_true', Bool.and_eq_false_iff, decide_eq_false_iff_not, Bool.not_eq_false', Bool.or_eq_false_iff, beq_eq_false_iff_ne, true_or, false_or, true_and, or_false, not_false_eq_true]
      constructor
      · rintro ⟨⟨⟨⟨h1, h5, h7⟩, hn⟩, hp5, hl⟩, hf, hh, hd⟩
        have hl0 : l = [] := by simpa using hl
        have hd' : d + (depTS xs : Int) ≤ 7 := by
          rcases hd with he | hd
          · rw [hdep he]; omega
          · exact hd
        refine ⟨⟨hf, ?_⟩, fun hp => ⟨hh hp, ?_⟩, by omega⟩
        · rw [hl0]
          simp
          split <;> (split at hn <;> omega)
        · intro h
          rcases hp5 with h' | h'
          · exact h' h
          · rw [h'] at hp; cases hp
      · rintro ⟨⟨hf, ht⟩, hp, hd⟩
        simp at ht
        have hl0 : l = [] := ht.1
        have hw := ht.2
        refine ⟨⟨⟨⟨?_, ?_, by omega⟩, ?_⟩, ?_, by simp [hl0]⟩, hf, fun h => (hp h).1, Or.inr (by omega)⟩
        · split at hw <;> (try split at hw) <;> omega
        · split at hw <;> (try split at hw) <;> omega
        · split at hw <;> (try split at hw) <;> (try split) <;> omega
        · by_cases h5 : a = 5
          · refine Or.inr ?_
            rw [Bool.eq_false_iff]
            exact fun h => (hp h).2 h5
          · exact Or.inl h5
theorem spec_l3Has_ev (n : Int) : ∀ x : S27, SmType x → Ev (fun k => spec_l3Has.f k x.f0 x.f1 x.f2 n) (hasT n x) := by
  refine indTypeI fun x ih hs => ?_
  rw [hasT_eq, hasTS_any]
  refine Ev.up ?_
  simp only [spec_l3Has.f]
  refine any_ev x.f2 z27 (hasT n) _ (fun k i => spec_l3Has.l0 k n (i : Int) x.f0 x.f1 x.f2) (fun k i => spec_l3Has.f k (rd_T27 x.f2 (i : Int)).f0 (rd_T27 x.f2 (i : Int)).f1 (rd_T27 x.f2 (i : Int)).f2 n) (fun k i hi => ?_) ?_ (fun i hi => ih (x.f2.getD i z27) (mem_getD x.f2 z27 i hi) (hs.p2.2 _ (mem_getD x.f2 z27 i hi)))
  · simp only [spec_l3Has.l0]
    rw [if_pos (by omega), if_pos (by omega), w1' hi hs.p2.1]
  · refine Ev.up ?_
    simp only [spec_l3Has.l0]
    exact Ev.neg (by omega) (Ev.now _)

end Go.Proofs.Ytaakdfbfgabdbaa.Pt
end
section
namespace Go.Proofs.Ytaakdfbfgabdbaa.Pt
open Go.RowKit Go.Proofs.YtaakdfbfgabdbaaW.PrintWords Go.Proofs.YtaakdfbfgabdbaaW.PrintLast Go.Proofs.Ytaakdfbfgabdbaa.Pl Go.Proofs.Ytaakdfbfgabdbaa.Ext
set_option linter.unusedVariables false
set_option linter.unusedSimpArgs false
theorem impl_SizeOfType_ev : ∀ x : S27, SmType x → ndType x ≤ 1048577 → Ev (fun k => impl_SizeOfType.f k x.f0 x.f1 x.f2) (ndType x : Int) := by
  refine indTypeI fun x ih hs hn => ?_
  refine Ev.up ?_
  simp only [impl_SizeOfType.f]
  rw [ndType_eq] at hn ⊢
  refine Ev.eq (fold_loop x.f2.length (fun k i => impl_SizeOfType.f k (rd_T27 x.f2 (i : Int)).f0 (rd_T27 x.f2 (i : Int)).f1 (rd_T27 x.f2 (i : Int)).f2) (fun k s i => impl_SizeOfType.l0 k s x.f2 (x.f2.length : Int) (i : Int)) (fun s t => wrap64 (s + t)) (fun i => (ndType (x.f2.getD i z27) : Int)) id
    (fun k s i hi => by simp only [impl_SizeOfType.l0]; rw [if_pos (by omega), if_pos (by omega), if_pos (by omega), w1' hi hs.p2.1])
    (fun k s => by simp only [impl_SizeOfType.l0]; rw [if_neg (by omega)]; rfl)
    (fun i hi => ih (x.f2.getD i z27) (mem_getD x.f2 z27 i hi) (hs.p2.2 _ (mem_getD x.f2 z27 i hi)) (by have := sum_le_of_mem ndType (mem_getD x.f2 z27 i hi); omega)) x.f2.length 0 1 (by omega)) ?_
  rw [foldl_range (fun (s : Int) y => wrap64 (s + (ndType y : Int))) z27 x.f2 1]
  exact fold_wrap ndType x.f2 1 (by omega)

end Go.Proofs.Ytaakdfbfgabdbaa.Pt
end
