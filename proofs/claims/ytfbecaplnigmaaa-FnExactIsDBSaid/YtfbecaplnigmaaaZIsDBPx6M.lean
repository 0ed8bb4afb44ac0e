/- Printed by a program of this session: what functions of the translation come to, each contract as it stands. No condition. -/
import Derived.Test.YtfbecaplnigmaaaZIsDBSh
import Derived.Test.YtfbecaplnigmaaaZIsDBPx0M
import Derived.Test.YtfbecaplnigmaaaZIsDBPx3M
section
namespace Go.Proofs.Ytfbecaplnigmaaa.Px
set_option maxHeartbeats 8000000
set_option maxRecDepth 100000
open Go.RowKit Go.Proofs.Ytfbecaplnigmaaa.Ext Go.Proofs.YtfbecaplnigmaaaW.PrintWords Go.Proofs.YtfbecaplnigmaaaW.PrintLast Go.Proofs.YtfbecaplnigmaaaW.PrintMore
attribute [local go_sem] max2_int min2_int max_two min_two max_three min_three max_four min_four   -- for this text's walks alone
set_option linter.unusedVariables false
set_option linter.unusedSimpArgs false

/-! ### spec_IsValidType: function 45 -/
def spec_IsValidType.f (k : Nat) (a0_0 : Int) (l0_1 : List ByteArray) (l0_2 : List (S51)) : Option (Bool) := (spec_l3Left.f k a0_0 l0_1 l0_2 24).bind fun t149 => (if t149 ≥ 0 then ((spec_DepthOfType.f k a0_0 l0_1 l0_2).bind fun t150 => (if t150 ≤ 7 then ((spec_l3Form.f k a0_0 l0_1 l0_2).bind fun t151 => (some t151)) else (some false))) else (some false))
theorem spec_IsValidType.calls (k : Nat) (a0_0 : Int) (A0_1 : Option Addr) (c0_1 : Nat) (l0_1 : List ByteArray) (A0_2 : Option Addr) (c0_2 : Nat) (l0_2 : List (S51)) (r : Bool) (w : World) (hr0_1 : Kd.C Kd.string w A0_1 l0_1.length l0_1) (hc0_1 : l0_1.length ≤ c0_1) (hr0_2 : Kd.C k51 w A0_2 l0_2.length l0_2) (hc0_2 : l0_2.length ≤ c0_2) (h : spec_IsValidType.f k a0_0 l0_1 l0_2 = some r) :
  Calls Try.prog 45 #[.agg #[.int .i64 a0_0, .slice A0_1 l0_1.length c0_1, .slice A0_2 l0_2.length c0_2]] w fun e w' => e = .returned (.bool r) ∧ Below w.heap.size w w' := by
 have hu51 := Try.underlying51
 have HR0_1 := Aside0.mk hr0_1
 have HC0_1 := Aside0.mk hc0_1
 clear hr0_1 hc0_1
 have HR0_2 := Aside0.mk hr0_2
 have HC0_2 := Aside0.mk hc0_2
 clear hr0_2 hc0_2
 have HB := Aside0.mk (Below.refl w.heap.size w)
 have H : ((spec_l3Left.f k a0_0 l0_1 l0_2 24).bind fun t149 => (if t149 ≥ 0 then ((spec_DepthOfType.f k a0_0 l0_1 l0_2).bind fun t150 => (if t150 ≤ 7 then ((spec_l3Form.f k a0_0 l0_1 l0_2).bind fun t151 => (some t151)) else (some false))) else (some false))) = some r := h
 clear h
 replace H := Option.bind_eq_some_iff.mp H
 obtain ⟨t149, A20, H⟩ := H
 replace H : (if t149 ≥ 0 then ((spec_DepthOfType.f k a0_0 l0_1 l0_2).bind fun t150 => (if t150 ≤ 7 then ((spec_l3Form.f k a0_0 l0_1 l0_2).bind fun t151 => (some t151)) else (some false))) else (some false)) = some r := H
 have A2 := Aside0.mk A20
 clear A20
 by_cases c3 : t149 ≥ 0
 case neg =>
  rw [if_neg c3] at H
  have c3b0 : decide (0 ≤ t149) = false := decide_eq_false c3
  clear c3
  obtain rfl := Option.some.inj H
  go_enter Try.func45, Try.ntmps45
  go_wp2_with (first | ((with_reducible refine gate_dst (N := 1) rfl ?_); refine box_event ?hg (N := 1) ?hd (cs := #[.int .i64 a0_0, .slice A0_1 l0_1.length c0_1, .slice A0_2 l0_2.length c0_2]) (t := 51) ?hr ?_; (case hd => rfl); (case hg => rfl); (case hr => exact hrw); intro gb148 hg w19 hbox hb; have n0_ := Aside0.mk (below_step blw hb); have n1_ := Aside0.mk (hbox); have n2_ := Aside0.mk ((by rw [hg]; exact (below_size blw) : w.heap.size ≤ gb148)); have n3_ := n2_; clear HB; revert n0_ n1_ n2_ n3_; intro HB BK148 GW148 GE148; clear hb hbox hg; obtain ⟨hcz20_0, hcz20_1, hcz20_2⟩ := cls3 BK148.out; obtain ⟨hfz20_0, hfz20_1, hfz20_2⟩ := frz3 BK148.out) | ((with_reducible refine gate_callee (f := 67) rfl ?_); refine goesL_ (some 4) rfl rfl Try.func67 kr rfl #[.agg #[.int .i64 a0_0, .slice A0_1 l0_1.length c0_1, .slice A0_2 l0_2.length c0_2], .int .i64 24] rfl mpw ?_; (with_reducible refine (spec_l3Left.calls k a0_0 _ _ l0_1 _ _ l0_2 24 t149 _ ?side1 ?side2 ?side3 ?side4 A2.out).mono ?_); (case side1 => have X_ := HR0_1; exact cbl); (case side2 => exact HC0_1.out); (case side3 => have X_ := HR0_2; exact cbl); (case side4 => exact HC0_2.out); rintro e w21 ⟨rfl, hb⟩; refine ⟨_, rfl, ?_⟩; have n0_ := Aside0.mk (blk_below (g := gb148) (o := .cells #[.int .i64 a0_0, .slice A0_1 l0_1.length c0_1, .slice A0_2 l0_2.length c0_2] 51 (0, 0)) bkw hb); have n1_ := Aside0.mk (below_step blw hb); clear BK148; clear HB; revert n0_ n1_; intro BK148 HB; (try clear hb); (try clear hb2); (try clear hk); (try clear hi)))
  go_ret
  exact ⟨rfw, blw⟩
 rw [if_pos c3] at H
 have c3b0 : decide (0 ≤ t149) = true := decide_eq_true c3
 clear c3
 replace H := Option.bind_eq_some_iff.mp H
 obtain ⟨t150, A40, H⟩ := H
 replace H : (if t150 ≤ 7 then ((spec_l3Form.f k a0_0 l0_1 l0_2).bind fun t151 => (some t151)) else (some false)) = some r := H
 have A4 := Aside0.mk A40
 clear A40
 by_cases c5 : t150 ≤ 7
 case neg =>
  rw [if_neg c5] at H
  have c5b0 : decide (t150 ≤ 7) = false := decide_eq_false c5
  clear c5
  obtain rfl := Option.some.inj H
  go_enter Try.func45, Try.ntmps45
  go_wp2_with (first | ((with_reducible refine gate_dst (N := 1) rfl ?_); refine box_event ?hg (N := 1) ?hd (cs := #[.int .i64 a0_0, .slice A0_1 l0_1.length c0_1, .slice A0_2 l0_2.length c0_2]) (t := 51) ?hr ?_; (case hd => rfl); (case hg => rfl); (case hr => exact hrw); intro gb148 hg w14 hbox hb; have n0_ := Aside0.mk (below_step blw hb); have n1_ := Aside0.mk (hbox); have n2_ := Aside0.mk ((by rw [hg]; exact (below_size blw) : w.heap.size ≤ gb148)); have n3_ := n2_; clear HB; revert n0_ n1_ n2_ n3_; intro HB BK148 GW148 GE148; clear hb hbox hg; obtain ⟨hcz15_0, hcz15_1, hcz15_2⟩ := cls3 BK148.out; obtain ⟨hfz15_0, hfz15_1, hfz15_2⟩ := frz3 BK148.out) | ((with_reducible refine gate_callee (f := 67) rfl ?_); refine goesL_ (some 4) rfl rfl Try.func67 kr rfl #[.agg #[.int .i64 a0_0, .slice A0_1 l0_1.length c0_1, .slice A0_2 l0_2.length c0_2], .int .i64 24] rfl mpw ?_; (with_reducible refine (spec_l3Left.calls k a0_0 _ _ l0_1 _ _ l0_2 24 t149 _ ?side1 ?side2 ?side3 ?side4 A2.out).mono ?_); (case side1 => have X_ := HR0_1; exact cbl); (case side2 => exact HC0_1.out); (case side3 => have X_ := HR0_2; exact cbl); (case side4 => exact HC0_2.out); rintro e w16 ⟨rfl, hb⟩; refine ⟨_, rfl, ?_⟩; have n0_ := Aside0.mk (blk_below (g := gb148) (o := .cells #[.int .i64 a0_0, .slice A0_1 l0_1.length c0_1, .slice A0_2 l0_2.length c0_2] 51 (0, 0)) bkw hb); have n1_ := Aside0.mk (below_step blw hb); clear BK148; clear HB; revert n0_ n1_; intro BK148 HB; (try clear hb); (try clear hb2); (try clear hk); (try clear hi); obtain ⟨hcz17_0, hcz17_1, hcz17_2⟩ := cls3 BK148.out; obtain ⟨hfz17_0, hfz17_1, hfz17_2⟩ := frz3 BK148.out) | (go_at_call 68; (with_reducible refine (spec_DepthOfType.calls k a0_0 _ _ l0_1 _ _ l0_2 t150 _ ?side1 ?side2 ?side3 ?side4 A4.out).mono ?_); (case side1 => have X_ := HR0_1; exact cbl); (case side2 => exact HC0_1.out); (case side3 => have X_ := HR0_2; exact cbl); (case side4 => exact HC0_2.out); rintro e w18 ⟨rfl, hb⟩; have n0_ := Aside0.mk (blk_below (g := gb148) (o := .cells #[.int .i64 a0_0, .slice A0_1 l0_1.length c0_1, .slice A0_2 l0_2.length c0_2] 51 (0, 0)) bkw hb); have n1_ := Aside0.mk (below_step blw hb); clear BK148; clear HB; revert n0_ n1_; intro BK148 HB; (try clear hb); (try clear hb2); (try clear hk); (try clear hi)))
  go_ret
  exact ⟨rfw, blw⟩
 rw [if_pos c5] at H
 have c5b0 : decide (t150 ≤ 7) = true := decide_eq_true c5
 clear c5
 replace H := Option.bind_eq_some_iff.mp H
 obtain ⟨t151, A60, H⟩ := H
 replace H : (some t151) = some r := H
 have A6 := Aside0.mk A60
 clear A60
 obtain rfl := Option.some.inj H
 go_enter Try.func45, Try.ntmps45
 go_wp2_with (first | ((with_reducible refine gate_dst (N := 1) rfl ?_); refine box_event ?hg (N := 1) ?hd (cs := #[.int .i64 a0_0, .slice A0_1 l0_1.length c0_1, .slice A0_2 l0_2.length c0_2]) (t := 51) ?hr ?_; (case hd => rfl); (case hg => rfl); (case hr => exact hrw); intro gb148 hg w7 hbox hb; have n0_ := Aside0.mk (below_step blw hb); have n1_ := Aside0.mk (hbox); have n2_ := Aside0.mk ((by rw [hg]; exact (below_size blw) : w.heap.size ≤ gb148)); have n3_ := n2_; clear HB; revert n0_ n1_ n2_ n3_; intro HB BK148 GW148 GE148; clear hb hbox hg; obtain ⟨hcz8_0, hcz8_1, hcz8_2⟩ := cls3 BK148.out; obtain ⟨hfz8_0, hfz8_1, hfz8_2⟩ := frz3 BK148.out) | ((with_reducible refine gate_callee (f := 67) rfl ?_); refine goesL_ (some 4) rfl rfl Try.func67 kr rfl #[.agg #[.int .i64 a0_0, .slice A0_1 l0_1.length c0_1, .slice A0_2 l0_2.length c0_2], .int .i64 24] rfl mpw ?_; (with_reducible refine (spec_l3Left.calls k a0_0 _ _ l0_1 _ _ l0_2 24 t149 _ ?side1 ?side2 ?side3 ?side4 A2.out).mono ?_); (case side1 => have X_ := HR0_1; exact cbl); (case side2 => exact HC0_1.out); (case side3 => have X_ := HR0_2; exact cbl); (case side4 => exact HC0_2.out); rintro e w9 ⟨rfl, hb⟩; refine ⟨_, rfl, ?_⟩; have n0_ := Aside0.mk (blk_below (g := gb148) (o := .cells #[.int .i64 a0_0, .slice A0_1 l0_1.length c0_1, .slice A0_2 l0_2.length c0_2] 51 (0, 0)) bkw hb); have n1_ := Aside0.mk (below_step blw hb); clear BK148; clear HB; revert n0_ n1_; intro BK148 HB; (try clear hb); (try clear hb2); (try clear hk); (try clear hi); obtain ⟨hcz10_0, hcz10_1, hcz10_2⟩ := cls3 BK148.out; obtain ⟨hfz10_0, hfz10_1, hfz10_2⟩ := frz3 BK148.out) | (go_at_call 68; (with_reducible refine (spec_DepthOfType.calls k a0_0 _ _ l0_1 _ _ l0_2 t150 _ ?side1 ?side2 ?side3 ?side4 A4.out).mono ?_); (case side1 => have X_ := HR0_1; exact cbl); (case side2 => exact HC0_1.out); (case side3 => have X_ := HR0_2; exact cbl); (case side4 => exact HC0_2.out); rintro e w11 ⟨rfl, hb⟩; have n0_ := Aside0.mk (blk_below (g := gb148) (o := .cells #[.int .i64 a0_0, .slice A0_1 l0_1.length c0_1, .slice A0_2 l0_2.length c0_2] 51 (0, 0)) bkw hb); have n1_ := Aside0.mk (below_step blw hb); clear BK148; clear HB; revert n0_ n1_; intro BK148 HB; (try clear hb); (try clear hb2); (try clear hk); (try clear hi); obtain ⟨hcz12_0, hcz12_1, hcz12_2⟩ := cls3 BK148.out; obtain ⟨hfz12_0, hfz12_1, hfz12_2⟩ := frz3 BK148.out) | (go_at_call 69; (with_reducible refine (spec_l3Form.calls k a0_0 _ _ l0_1 _ _ l0_2 t151 _ ?side1 ?side2 ?side3 ?side4 A6.out).mono ?_); (case side1 => have X_ := HR0_1; exact cbl); (case side2 => exact HC0_1.out); (case side3 => have X_ := HR0_2; exact cbl); (case side4 => exact HC0_2.out); rintro e w13 ⟨rfl, hb⟩; have n0_ := Aside0.mk (blk_below (g := gb148) (o := .cells #[.int .i64 a0_0, .slice A0_1 l0_1.length c0_1, .slice A0_2 l0_2.length c0_2] 51 (0, 0)) bkw hb); have n1_ := Aside0.mk (below_step blw hb); clear BK148; clear HB; revert n0_ n1_; intro BK148 HB; (try clear hb); (try clear hb2); (try clear hk); (try clear hi)))
 go_ret
 exact ⟨rfw, blw⟩

/-! ### spec_l3Base: function 46 -/
def spec_l3Base.f (a0_0 : Int) (l0_1 : List ByteArray) (l0_2 : List (S51)) : Option (Bool) := if a0_0 = 1 then (some true) else (some (a0_0 == 2))
theorem spec_l3Base.calls (a0_0 : Int) (A0_1 : Option Addr) (c0_1 : Nat) (l0_1 : List ByteArray) (A0_2 : Option Addr) (c0_2 : Nat) (l0_2 : List (S51)) (r : Bool) (w : World) (hr0_1 : Kd.C Kd.string w A0_1 l0_1.length l0_1) (hc0_1 : l0_1.length ≤ c0_1) (hr0_2 : Kd.C k51 w A0_2 l0_2.length l0_2) (hc0_2 : l0_2.length ≤ c0_2) (h : spec_l3Base.f a0_0 l0_1 l0_2 = some r) :
  Calls Try.prog 46 #[.agg #[.int .i64 a0_0, .slice A0_1 l0_1.length c0_1, .slice A0_2 l0_2.length c0_2]] w fun e w' => e = .returned (.bool r) ∧ Below w.heap.size w w' := by
 have hu51 := Try.underlying51
 have HR0_1 := Aside0.mk hr0_1
 have HC0_1 := Aside0.mk hc0_1
 clear hr0_1 hc0_1
 have HR0_2 := Aside0.mk hr0_2
 have HC0_2 := Aside0.mk hc0_2
 clear hr0_2 hc0_2
 have HB := Aside0.mk (Below.refl w.heap.size w)
 have H : (if a0_0 = 1 then (some true) else (some (a0_0 == 2))) = some r := h
 clear h
 by_cases c2 : a0_0 = 1
 case neg =>
  rw [if_neg c2] at H
  have c2b0 : (a0_0 == 1) = false := beq_eq_false_iff_ne.mpr c2
  have c2b1 : (a0_0 != 1) = true := bne_iff_ne.mpr c2
  obtain rfl := Option.some.inj H
  go_enter Try.func46, Try.ntmps46
  go_wp2_with (first | ((with_reducible refine gate_dst (N := 1) rfl ?_); refine box_event ?hg (N := 1) ?hd (cs := #[.int .i64 a0_0, .slice A0_1 l0_1.length c0_1, .slice A0_2 l0_2.length c0_2]) (t := 51) ?hr ?_; (case hd => rfl); (case hg => rfl); (case hr => exact hrw); intro gb152 hg w5 hbox hb; have n0_ := Aside0.mk (below_step blw hb); have n1_ := Aside0.mk (hbox); have n2_ := Aside0.mk ((by rw [hg]; exact (below_size blw) : w.heap.size ≤ gb152)); have n3_ := n2_; clear HB; revert n0_ n1_ n2_ n3_; intro HB BK152 GW152 GE152; clear hb hbox hg; obtain ⟨hcz6_0, hcz6_1, hcz6_2⟩ := cls3 BK152.out; obtain ⟨hfz6_0, hfz6_1, hfz6_2⟩ := frz3 BK152.out))
  go_ret
  exact ⟨rfw, blw⟩
 rw [if_pos c2] at H
 have c2b0 : (a0_0 == 1) = true := beq_iff_eq.mpr c2
 have c2b1 : (a0_0 != 1) = false := bne_eq_false_iff_eq.mpr c2
 clear c2
 obtain rfl := Option.some.inj H
 go_enter Try.func46, Try.ntmps46
 go_wp2_with (first | ((with_reducible refine gate_dst (N := 1) rfl ?_); refine box_event ?hg (N := 1) ?hd (cs := #[.int .i64 a0_0, .slice A0_1 l0_1.length c0_1, .slice A0_2 l0_2.length c0_2]) (t := 51) ?hr ?_; (case hd => rfl); (case hg => rfl); (case hr => exact hrw); intro gb152 hg w3 hbox hb; have n0_ := Aside0.mk (below_step blw hb); have n1_ := Aside0.mk (hbox); have n2_ := Aside0.mk ((by rw [hg]; exact (below_size blw) : w.heap.size ≤ gb152)); have n3_ := n2_; clear HB; revert n0_ n1_ n2_ n3_; intro HB BK152 GW152 GE152; clear hb hbox hg; obtain ⟨hcz4_0, hcz4_1, hcz4_2⟩ := cls3 BK152.out; obtain ⟨hfz4_0, hfz4_1, hfz4_2⟩ := frz3 BK152.out))
 go_ret
 exact ⟨rfw, blw⟩

/-! ### spec_IsRow: function 27 -/
mutual
def spec_IsRow.j0 : Nat → Bool → Int → List ByteArray → List (S51) → Option (Bool)
 | 0, _, _, _, _ => none
 | k + 1, x11, x154000, x154001, x154002 => if x11 = true then (some false) else (spec_IsRow.l0 k 0 x154000 x154001 x154002)
def spec_IsRow.l0 : Nat → Int → Int → List ByteArray → List (S51) → Option (Bool)
 | 0, _, _, _, _ => none
 | k + 1, x3, x154000, x154001, x154002 => if x3 < (x154002.length : Int) then (if 0 ≤ x3 then ((spec_l3Base.f ((rd_T51 x154002 x3).f0) ((rd_T51 x154002 x3).f1) ((rd_T51 x154002 x3).f2)).bind fun t156 => (if t156 = true then (spec_IsRow.l0 k (wrap64 (x3 + 1)) x154000 x154001 x154002) else (some false))) else (none)) else (some true)
end
def spec_IsRow.f (k : Nat) (a0_0 : Int) (l0_1 : List ByteArray) (l0_2 : List (S51)) : Option (Bool) := (spec_IsValidType.f k a0_0 l0_1 l0_2).bind fun t154 => (if t154 = true then (spec_IsRow.j0 k (a0_0 != 3) a0_0 l0_1 l0_2) else (spec_IsRow.j0 k true a0_0 l0_1 l0_2))
theorem spec_IsRow.calls (k : Nat) (a0_0 : Int) (A0_1 : Option Addr) (c0_1 : Nat) (l0_1 : List ByteArray) (A0_2 : Option Addr) (c0_2 : Nat) (l0_2 : List (S51)) (r : Bool) (w : World) (hr0_1 : Kd.C Kd.string w A0_1 l0_1.length l0_1) (hc0_1 : l0_1.length ≤ c0_1) (hr0_2 : Kd.C k51 w A0_2 l0_2.length l0_2) (hc0_2 : l0_2.length ≤ c0_2) (h : spec_IsRow.f k a0_0 l0_1 l0_2 = some r) :
  Calls Try.prog 27 #[.agg #[.int .i64 a0_0, .slice A0_1 l0_1.length c0_1, .slice A0_2 l0_2.length c0_2]] w fun e w' => e = .returned (.bool r) ∧ Below w.heap.size w w' := by
 have hu51 := Try.underlying51
 have HR0_1 := Aside0.mk hr0_1
 have HC0_1 := Aside0.mk hc0_1
 clear hr0_1 hc0_1
 have HR0_2 := Aside0.mk hr0_2
 have HC0_2 := Aside0.mk hc0_2
 clear hr0_2 hc0_2
 have HB := Aside0.mk (Below.refl w.heap.size w)
 have H : ((spec_IsValidType.f k a0_0 l0_1 l0_2).bind fun t154 => (if t154 = true then (spec_IsRow.j0 k (a0_0 != 3) a0_0 l0_1 l0_2) else (spec_IsRow.j0 k true a0_0 l0_1 l0_2))) = some r := h
 clear h
 have HC2 := Aside0.mk H
 clear H
 go_enter Try.func27, Try.ntmps27
 go_upto_region 1 with (first | ((with_reducible refine gate_dst (N := 1) rfl ?_); refine box_event ?hg (N := 1) ?hd (cs := #[.int .i64 a0_0, .slice A0_1 l0_1.length c0_1, .slice A0_2 l0_2.length c0_2]) (t := 51) ?hr ?_; (case hd => rfl); (case hg => rfl); (case hr => exact hrw); intro gb153 hg w3 hbox hb; have n0_ := Aside0.mk (below_step blw hb); have n1_ := Aside0.mk (hbox); have n2_ := Aside0.mk ((by rw [hg]; exact (below_size blw) : w.heap.size ≤ gb153)); have n3_ := n2_; clear HB; revert n0_ n1_ n2_ n3_; intro HB BK153 GW153 GE153; clear hb hbox hg))
 (try simp only [Act.put, List.setIfInBounds_toArray, List.set_cons_zero, List.set_cons_succ])
 go_cut [11] (fun v11 wc => ∃ (kq : Nat) (x11_1 : Bool), v11 = .bool x11_1 ∧ Aside0 (spec_IsRow.j0 kq x11_1 a0_0 l0_1 l0_2 = some r) ∧ Aside0 (kq ≤ k) ∧ Aside0 (wc.heap[gb153]? = some (.cells #[.int .i64 a0_0, (.slice A0_1 l0_1.length c0_1), (.slice A0_2 l0_2.length c0_2)] 51 (0, 0))) ∧ Aside0 (Below w.heap.size w wc))
 case first =>
  have H := HC2.out
  clear HC2
  replace H := Option.bind_eq_some_iff.mp H
  obtain ⟨t154, A40, H⟩ := H
  replace H : (if t154 = true then (spec_IsRow.j0 k (a0_0 != 3) a0_0 l0_1 l0_2) else (spec_IsRow.j0 k true a0_0 l0_1 l0_2)) = some r := H
  have A4 := Aside0.mk A40
  clear A40
  by_cases c5 : t154 = true
  case neg =>
   replace c5 := Bool.eq_false_iff.mpr c5
   subst c5
   have H1 : (spec_IsRow.j0 k true a0_0 l0_1 l0_2) = some r := by rw [if_neg (show ¬ (false = true) by decide)] at H; exact H
   clear H
   have H := H1
   clear H1
   have H' := Aside0.mk H
   clear H
   obtain ⟨hcz9_0, hcz9_1, hcz9_2⟩ := cls3 BK153.out
   obtain ⟨hfz9_0, hfz9_1, hfz9_2⟩ := frz3 BK153.out
   go_wp2_with (first | ((with_reducible refine gate_callee (f := 45) rfl ?_); refine goesL_ (some 5) rfl rfl Try.func45 kr rfl #[.agg #[.int .i64 a0_0, .slice A0_1 l0_1.length c0_1, .slice A0_2 l0_2.length c0_2]] rfl mpw ?_; (with_reducible refine (spec_IsValidType.calls k a0_0 _ _ l0_1 _ _ l0_2 false _ ?side1 ?side2 ?side3 ?side4 A4.out).mono ?_); (case side1 => have X_ := HR0_1; exact cbl); (case side2 => exact HC0_1.out); (case side3 => have X_ := HR0_2; exact cbl); (case side4 => exact HC0_2.out); rintro e w10 ⟨rfl, hb⟩; refine ⟨_, rfl, ?_⟩; have n0_ := Aside0.mk (blk_below (g := gb153) (o := .cells #[.int .i64 a0_0, .slice A0_1 l0_1.length c0_1, .slice A0_2 l0_2.length c0_2] 51 (0, 0)) bkw hb); have n1_ := Aside0.mk (below_step blw hb); clear BK153; clear HB; revert n0_ n1_; intro BK153 HB; (try clear hb); (try clear hb2); (try clear hk); (try clear hi)))
   go_meet
   case rel => exact ⟨_, (true), rfs, H', ⟨by first | omega | exact Nat.le_refl _⟩, ⟨bkw⟩, ⟨blw⟩⟩
  subst c5
  have H1 : (spec_IsRow.j0 k (a0_0 != 3) a0_0 l0_1 l0_2) = some r := by rw [if_pos rfl] at H; exact H
  clear H
  have H := H1
  clear H1
  have H' := Aside0.mk H
  clear H
  obtain ⟨hcz6_0, hcz6_1, hcz6_2⟩ := cls3 BK153.out
  obtain ⟨hfz6_0, hfz6_1, hfz6_2⟩ := frz3 BK153.out
  go_wp2_with (first | ((with_reducible refine gate_callee (f := 45) rfl ?_); refine goesL_ (some 5) rfl rfl Try.func45 kr rfl #[.agg #[.int .i64 a0_0, .slice A0_1 l0_1.length c0_1, .slice A0_2 l0_2.length c0_2]] rfl mpw ?_; (with_reducible refine (spec_IsValidType.calls k a0_0 _ _ l0_1 _ _ l0_2 true _ ?side1 ?side2 ?side3 ?side4 A4.out).mono ?_); (case side1 => have X_ := HR0_1; exact cbl); (case side2 => exact HC0_1.out); (case side3 => have X_ := HR0_2; exact cbl); (case side4 => exact HC0_2.out); rintro e w7 ⟨rfl, hb⟩; refine ⟨_, rfl, ?_⟩; have n0_ := Aside0.mk (blk_below (g := gb153) (o := .cells #[.int .i64 a0_0, .slice A0_1 l0_1.length c0_1, .slice A0_2 l0_2.length c0_2] 51 (0, 0)) bkw hb); have n1_ := Aside0.mk (below_step blw hb); clear BK153; clear HB; revert n0_ n1_; intro BK153 HB; (try clear hb); (try clear hb2); (try clear hk); (try clear hi); obtain ⟨hcz8_0, hcz8_1, hcz8_2⟩ := cls3 BK153.out; obtain ⟨hfz8_0, hfz8_1, hfz8_2⟩ := frz3 BK153.out))
  go_meet
  case rel => exact ⟨_, ((a0_0 != 3)), rfs, H', ⟨by first | omega | exact Nat.le_refl _⟩, ⟨bkw⟩, ⟨blw⟩⟩
 case rest =>
  clear HC2
  (try clear c2); (try clear p2); (try clear c4); (try clear c5); (try clear hcz6_0); (try clear hcz6_1); (try clear hcz6_2); (try clear hcz8_0); (try clear hcz8_1); (try clear hcz8_2); (try clear hcz9_0); (try clear hcz9_1); (try clear hcz9_2); (try clear hfz6_0); (try clear hfz6_1); (try clear hfz6_2); (try clear hfz8_0); (try clear hfz8_1); (try clear hfz8_2); (try clear hfz9_0); (try clear hfz9_1); (try clear hfz9_2)
  obtain ⟨kq, x11_1, rfl, HA, HJ1, BK153, HB⟩ := hcut
  cases kq with
  | zero => exact absurd HA.out (by simp [spec_IsRow.j0])
  | succ kj1 =>
   have H := HA.out
   clear HA
   simp only [spec_IsRow.j0] at H
   by_cases c11 : x11_1 = true
   ·subst c11
    have H1 : (some false) = some r := by rw [if_pos rfl] at H; exact H
    clear H
    have H := H1
    clear H1
    obtain rfl := Option.some.inj H
    go_wp2
    go_ret
    exact ⟨rfw, blw⟩
   replace c11 := Bool.eq_false_iff.mpr c11
   subst c11
   have H1 : (spec_IsRow.l0 kj1 0 a0_0 l0_1 l0_2) = some r := by rw [if_neg (show ¬ (false = true) by decide)] at H; exact H
   clear H
   have H := H1
   clear H1
   have H' := Aside0.mk H
   clear H
   go_wp2
   go_loopg [3] kj1 (fun kq v3 w' => ∃ (x3_2 : Int), v3 = .int .i64 x3_2 ∧ Aside0 (spec_IsRow.l0 kq x3_2 a0_0 l0_1 l0_2 = some r) ∧ Aside0 (kq ≤ kj1) ∧ Aside0 (w'.heap[gb153]? = some (.cells #[.int .i64 a0_0, (.slice A0_1 l0_1.length c0_1), (.slice A0_2 l0_2.length c0_2)] 51 (0, 0))) ∧ Aside0 (Below w.heap.size w w'))
   case atStart => exact ⟨(0), rfs, H', ⟨Nat.le_refl _⟩, ⟨bkw⟩, ⟨blw⟩⟩
   case round =>
    clear H'
    (try clear c1); (try clear c2); (try clear p2); (try clear c4); (try clear c5); (try clear c11); (try clear hcz6_0); (try clear hcz6_1); (try clear hcz6_2); (try clear hcz8_0); (try clear hcz8_1); (try clear hcz8_2); (try clear hcz9_0); (try clear hcz9_1); (try clear hcz9_2); (try clear hfz6_0); (try clear hfz6_1); (try clear hfz6_2); (try clear hfz8_0); (try clear hfz8_1); (try clear hfz8_2); (try clear hfz9_0); (try clear hfz9_1); (try clear hfz9_2); (try clear p2)
    obtain ⟨x3_2, rfl, HA, HK2, BK153, HB⟩ := hrel
    cases gk with
    | zero => exact absurd HA.out (by simp [spec_IsRow.l0])
    | succ k2 =>
     have H := HA.out
     clear HA
     simp only [spec_IsRow.l0] at H
     by_cases c12 : x3_2 < (l0_2.length : Int)
     case neg =>
      rw [if_neg c12] at H
      have c12b0 : decide (x3_2 < (l0_2.length : Int)) = false := decide_eq_false c12
      clear c12
      obtain rfl := Option.some.inj H
      obtain ⟨hcz19_0, hcz19_1, hcz19_2⟩ := cls3 BK153.out
      obtain ⟨hfz19_0, hfz19_1, hfz19_2⟩ := frz3 BK153.out
      go_wp2
      go_ret
      exact ⟨rfw, blw⟩
     rw [if_pos c12] at H
     have c12b0 : decide (x3_2 < (l0_2.length : Int)) = true := decide_eq_true c12
     clear c12
     by_cases c13 : 0 ≤ x3_2
     case neg =>
      rw [if_neg c13] at H
      exact absurd H (by simp)
     rw [if_pos c13] at H
     have c13b0 : decide (0 ≤ x3_2) = true := decide_eq_true c13
     clear c13
     replace H := Option.bind_eq_some_iff.mp H
     obtain ⟨t156, A140, H⟩ := H
     replace H : (if t156 = true then (spec_IsRow.l0 k2 (wrap64 (x3_2 + 1)) a0_0 l0_1 l0_2) else (some false)) = some r := H
     have A14 := Aside0.mk A140
     clear A140
     have HC15 := Aside0.mk H
     clear H
     obtain ⟨hcz16_0, hcz16_1, hcz16_2⟩ := cls3 BK153.out
     obtain ⟨hfz16_0, hfz16_1, hfz16_2⟩ := frz3 BK153.out
     have p155 : 0 ≤ (x3_2 : Int) := of_decide_eq_true asw
     have q155 : x3_2 < (l0_2.length : Int) := of_decide_eq_true asw
     obtain ⟨ad155, A155_1, c155_1, A155_2, c155_2, e155, hx155_0, hx155_1, hx155_2, hl155_1, hi155_1, hl155_2, hi155_2⟩ := at_T51 HR0_2.out x3_2 p155 q155
     cases e155
     replace hx155_0 := upw HB.out hx155_0
     replace hx155_1 := upw HB.out hx155_1
     replace hx155_2 := upw HB.out hx155_2
     have HR155_1 := Aside0.mk hi155_1
     have HC155_1 := Aside0.mk hl155_1
     clear hi155_1 hl155_1
     have HR155_2 := Aside0.mk hi155_2
     have HC155_2 := Aside0.mk hl155_2
     clear hi155_2 hl155_2
     replace p155 := eq_true p155
     replace q155 := eq_true q155
     go_upto_if 25 with (first | ((with_reducible refine gate_callee (f := 46) rfl ?_); refine goesL_ (some 24) rfl rfl Try.func46 kr rfl #[.agg #[.int .i64 ((rd_T51 l0_2 x3_2).f0), .slice A155_1 ((rd_T51 l0_2 x3_2).f1).length c155_1, .slice A155_2 ((rd_T51 l0_2 x3_2).f2).length c155_2]] rfl mpw ?_; (with_reducible refine (spec_l3Base.calls ((rd_T51 l0_2 x3_2).f0) _ _ ((rd_T51 l0_2 x3_2).f1) _ _ ((rd_T51 l0_2 x3_2).f2) t156 _ ?side1 ?side2 ?side3 ?side4 A14.out).mono ?_); (case side1 => have X_ := HR155_1; exact cbl); (case side2 => exact HC155_1.out); (case side3 => have X_ := HR155_2; exact cbl); (case side4 => exact HC155_2.out); rintro e w17 ⟨rfl, hb⟩; refine ⟨_, rfl, ?_⟩; have n0_ := Aside0.mk (blk_below (g := gb153) (o := .cells #[.int .i64 a0_0, .slice A0_1 l0_1.length c0_1, .slice (some ad155) l0_2.length c0_2] 51 (0, 0)) bkw hb); have n1_ := Aside0.mk (below_step blw hb); clear BK153; clear HB; revert n0_ n1_; intro BK153 HB; (try clear hb); (try clear hb2); (try clear hk); (try clear hi)))
     have H := HC15.out
     clear HC15
     by_cases c18 : t156 = true
     case neg =>
      replace c18 := Bool.eq_false_iff.mpr c18
      subst c18
      have H1 : (some false) = some r := by rw [if_neg (show ¬ (false = true) by decide)] at H; exact H
      clear H
      have H := H1
      clear H1
      obtain rfl := Option.some.inj H
      go_wp2
      go_ret
      exact ⟨rfw, blw⟩
     subst c18
     have H1 : (spec_IsRow.l0 k2 (wrap64 (x3_2 + 1)) a0_0 l0_1 l0_2) = some r := by rw [if_pos rfl] at H; exact H
     clear H
     have H := H1
     clear H1
     have H' := Aside0.mk H
     clear H
     go_wp2
     go_roundg k2
     case measure => have := HJ1.out; have := HK2.out; omega
     case rel => exact ⟨(wrap64 (x3_2 + 1)), rfs, H', ⟨by have := HJ1.out; have := HK2.out; omega⟩, ⟨bkw⟩, ⟨blw⟩⟩

/-! ### spec_IsSchema: function 14 -/
def spec_IsSchema.l0 : Nat → List ByteArray → Int → List (S53) → Option (Bool)
 | 0, _, _, _ => none
 | k + 1, x3, x4, x158000 => if x4 < (x158000.length : Int) then (if 0 ≤ x4 then ((spec_IsName.f k ((rd_T53 x158000 x4).f0)).bind fun t163 => (if t163 = true then ((spec_IsRow.f k ((rd_T53 x158000 x4).f1.f0) ((rd_T53 x158000 x4).f1.f1) ((rd_T53 x158000 x4).f1.f2)).bind fun t165 => (if t165 = true then (if x3.length < 8796093022208 then (spec_IsSchema.l0 k (x3 ++ [(rd_T53 x158000 x4).f0]) (wrap64 (x4 + 1)) x158000) else (none)) else (some false))) else (some false))) else (none)) else (if (x3.length : Int) ≤ 4 then ((spec_AreAscending.f k x3).bind fun t161 => (some t161)) else (some false))
def spec_IsSchema.f (k : Nat) (l0_0 : List (S53)) : Option (Bool) := spec_IsSchema.l0 k (([] : List ByteArray)) 0 l0_0
theorem spec_IsSchema.calls (k : Nat) (A0_0 : Option Addr) (c0_0 : Nat) (l0_0 : List (S53)) (r : Bool) (w : World) (hr0_0 : Kd.C k53 w A0_0 l0_0.length l0_0) (hc0_0 : l0_0.length ≤ c0_0) (h : spec_IsSchema.f k l0_0 = some r) :
  Calls Try.prog 14 #[.agg #[.slice A0_0 l0_0.length c0_0]] w fun e w' => e = .returned (.bool r) ∧ Below w.heap.size w w' := by
 have hu33 := Try.underlying33
 have hu51 := Try.underlying51
 have HR0_0 := Aside0.mk hr0_0
 have HC0_0 := Aside0.mk hc0_0
 clear hr0_0 hc0_0
 have HB := Aside0.mk (Below.refl w.heap.size w)
 have H : (spec_IsSchema.l0 k (([] : List ByteArray)) 0 l0_0) = some r := h
 clear h
 obtain ⟨y158, hy158⟩ : ∃ y_ : List ByteArray, y_ = (([] : List ByteArray)) := ⟨_, rfl⟩
 replace H : (spec_IsSchema.l0 k y158 0 l0_0) = some r := by first | (rw [hy158]; with_reducible exact H) | (have H2_ := (Option.bind_some _ _).symm.trans H; rw [hy158]; with_reducible exact H2_) | (have H2_ := (Option.bind_some _ _).symm.trans H; with_reducible exact H2_) | with_reducible exact H | (rw [hy158]; exact H) | exact H
 have Ny158 := Aside0.mk hy158
 clear hy158
 have H' := Aside0.mk H
 clear H
 go_enter Try.func14, Try.ntmps14
 go_wp2_with (first | ((with_reducible refine gate_dst (N := 1) rfl ?_); refine box_event ?hg (N := 1) ?hd (cs := #[.slice A0_0 l0_0.length c0_0]) (t := 33) ?hr ?_; (case hd => rfl); (case hg => rfl); (case hr => exact hrw); intro gb157 hg w2 hbox hb; have n0_ := Aside0.mk (below_step blw hb); have n1_ := Aside0.mk (hbox); have n2_ := Aside0.mk ((by rw [hg]; exact (below_size blw) : w.heap.size ≤ gb157)); have n3_ := n2_; clear HB; revert n0_ n1_ n2_ n3_; intro HB BK157 GW157 GE157; clear hb hbox hg) | ((with_reducible refine gate_dst (N := 5) rfl ?_); refine Kd.R_lit Kd.string _ 9 ?hg (N := 5) ?hd (xs := ([] : List ByteArray)) (inner := []) (ok := fun _ => True) (okp := fun _ => True) ?hr ?hp (fun _ hk => hk) trivial (Below.refl _ _) (Nat.le_refl _) (by simp) ?_; (case hd => rfl); (case hg => rfl); (case hr => exact hrw); (case hp => exact (Reps.none _ _)); intro v159 w3 ho4 hb hg_ hnew_; clear hg_ hnew_; (first | rw [← Ny158.out] at ho4 | (simp only [Int.reduceToNat] at ho4; rw [← Ny158.out] at ho4)); have n0_ := Aside0.mk (Kd.R_lower ho4 (below_size blw)); have n1_ := Aside0.mk (blk_below (g := gb157) (o := .cells #[.slice A0_0 l0_0.length c0_0] 33 (0, 0)) bkw hb); have n2_ := Aside0.mk (below_step blw hb); clear BK157; clear HB; revert n0_ n1_ n2_; intro HO160 BK157 HB; clear hb ho4))
 go_loopg [3, 4] k (fun kq v3 v4 w' => ∃ (x3_1 : List ByteArray) (x4_1 : Int), v4 = .int .i64 x4_1 ∧ Aside0 (spec_IsSchema.l0 kq x3_1 x4_1 l0_0 = some r) ∧ Aside0 (kq ≤ k) ∧ Aside0 (Kd.R Kd.string 9 w' w.heap.size (fun _ => True) v3 x3_1) ∧ Aside0 (w'.heap[gb157]? = some (.cells #[(.slice A0_0 l0_0.length c0_0)] 33 (0, 0))) ∧ Aside0 (Below w.heap.size w w'))
 case atStart => exact ⟨(y158), (0), rfs, H', ⟨Nat.le_refl _⟩, ⟨by (with_reducible repeat (first | apply Kd.R_alloc | apply Kd.R_drewN | apply Kd.R_drew)); exact HO160.out⟩, ⟨bkw⟩, ⟨blw⟩⟩
 case round =>
  clear H'
  (try clear c1); (try clear p2)
  obtain ⟨x3_1, x4_1, rfl, HA, HK1, HO_3, BK157, HB⟩ := hrel
  cases gk with
  | zero => exact absurd HA.out (by simp [spec_IsSchema.l0])
  | succ k1 =>
   have H := HA.out
   clear HA
   simp only [spec_IsSchema.l0] at H
   by_cases c5 : x4_1 < (l0_0.length : Int)
   case neg =>
    rw [if_neg c5] at H
    have c5b0 : decide (x4_1 < (l0_0.length : Int)) = false := decide_eq_false c5
    clear c5
    by_cases c18 : (x3_1.length : Int) ≤ 4
    case neg =>
     rw [if_neg c18] at H
     have c18b0 : decide ((x3_1.length : Int) ≤ 4) = false := decide_eq_false c18
     have c18b1 : decide (x3_1.length ≤ 4) = false := decide_eq_false (by omega)
     clear c18
     obtain rfl := Option.some.inj H
     have hcz22_0 : wr.cell? ⟨gb157, 0, none⟩ = some (.slice A0_0 l0_0.length c0_0) := (blk_cell BK157.out 0).trans rfl
     have hfz22_0 := blk_frozen BK157.out 0
     obtain ⟨Ao23, co23, eo23⟩ := Kd.R_slice HO_3.out
     subst eo23
     go_wp2
     go_ret
     exact ⟨rfw, blw⟩
    rw [if_pos c18] at H
    have c18b0 : decide ((x3_1.length : Int) ≤ 4) = true := decide_eq_true c18
    have c18b1 : decide (x3_1.length ≤ 4) = true := decide_eq_true (by omega)
    clear c18
    replace H := Option.bind_eq_some_iff.mp H
    obtain ⟨t161, A190, H⟩ := H
    replace H : (some t161) = some r := H
    have A19 := Aside0.mk A190
    clear A190
    obtain rfl := Option.some.inj H
    have hcz20_0 : wr.cell? ⟨gb157, 0, none⟩ = some (.slice A0_0 l0_0.length c0_0) := (blk_cell BK157.out 0).trans rfl
    have hfz20_0 := blk_frozen BK157.out 0
    obtain ⟨Ao21, co21, eo21⟩ := Kd.R_slice HO_3.out
    subst eo21
    go_wp2_with (first | (go_at_call 28; (with_reducible refine (spec_AreAscending.calls k1 _ _ x3_1 t161 _ ?side1 ?side2 A19.out).mono ?_); (case side1 => repeat (first | exact (Kd.R_reads' HO_3.out).2.2 | (with_reducible refine Kd.C_alloc ?_ _) | (with_reducible refine Kd.C_drewN ?_ _) | (with_reducible refine Kd.C_drew ?_))); (case side2 => exact (Kd.R_reads' HO_3.out).2.1); rintro e w' ⟨rfl, ⟨nd, rfl⟩⟩))
    go_ret
    exact ⟨rfw, blw⟩
   rw [if_pos c5] at H
   have c5b0 : decide (x4_1 < (l0_0.length : Int)) = true := decide_eq_true c5
   clear c5
   by_cases c6 : 0 ≤ x4_1
   case neg =>
    rw [if_neg c6] at H
    exact absurd H (by simp)
   rw [if_pos c6] at H
   have c6b0 : decide (0 ≤ x4_1) = true := decide_eq_true c6
   clear c6
   replace H := Option.bind_eq_some_iff.mp H
   obtain ⟨t163, A70, H⟩ := H
   replace H : (if t163 = true then ((spec_IsRow.f k1 ((rd_T53 l0_0 x4_1).f1.f0) ((rd_T53 l0_0 x4_1).f1.f1) ((rd_T53 l0_0 x4_1).f1.f2)).bind fun t165 => (if t165 = true then (if x3_1.length < 8796093022208 then (spec_IsSchema.l0 k1 (x3_1 ++ [(rd_T53 l0_0 x4_1).f0]) (wrap64 (x4_1 + 1)) l0_0) else (none)) else (some false))) else (some false)) = some r := H
   have A7 := Aside0.mk A70
   clear A70
   by_cases c8 : t163 = true
   case neg =>
    replace c8 := Bool.eq_false_iff.mpr c8
    subst c8
    have H1 : (some false) = some r := by rw [if_neg (show ¬ (false = true) by decide)] at H; exact H
    clear H
    have H := H1
    clear H1
    obtain rfl := Option.some.inj H
    have hcz17_0 : wr.cell? ⟨gb157, 0, none⟩ = some (.slice A0_0 l0_0.length c0_0) := (blk_cell BK157.out 0).trans rfl
    have hfz17_0 := blk_frozen BK157.out 0
    have p162 : 0 ≤ (x4_1 : Int) := of_decide_eq_true asw
    have q162 : x4_1 < (l0_0.length : Int) := of_decide_eq_true asw
    obtain ⟨ad162, A162_2, c162_2, A162_3, c162_3, e162, hx162_0, hx162_1, hx162_2, hx162_3, hl162_2, hi162_2, hl162_3, hi162_3⟩ := at_T53 HR0_0.out x4_1 p162 q162
    cases e162
    replace hx162_0 := upw HB.out hx162_0
    replace hx162_1 := upw HB.out hx162_1
    replace hx162_2 := upw HB.out hx162_2
    replace hx162_3 := upw HB.out hx162_3
    have HR162_2 := Aside0.mk hi162_2
    have HC162_2 := Aside0.mk hl162_2
    clear hi162_2 hl162_2
    have HR162_3 := Aside0.mk hi162_3
    have HC162_3 := Aside0.mk hl162_3
    clear hi162_3 hl162_3
    replace p162 := eq_true p162
    replace q162 := eq_true q162
    go_wp2_with (first | ((with_reducible refine gate_callee (f := 26) rfl ?_); refine goesL_ (some 19) rfl rfl Try.func26 kr rfl #[.string ((rd_T53 l0_0 x4_1).f0)] rfl mpw ?_; (with_reducible refine (spec_IsName.calls k1 ((rd_T53 l0_0 x4_1).f0) false _ A7.out).mono ?_); rintro e w' ⟨rfl, ⟨nd, rfl⟩⟩; refine ⟨_, rfl, ?_⟩))
    go_ret
    exact ⟨rfw, blw⟩
   subst c8
   have H1 : ((spec_IsRow.f k1 ((rd_T53 l0_0 x4_1).f1.f0) ((rd_T53 l0_0 x4_1).f1.f1) ((rd_T53 l0_0 x4_1).f1.f2)).bind fun t165 => (if t165 = true then (if x3_1.length < 8796093022208 then (spec_IsSchema.l0 k1 (x3_1 ++ [(rd_T53 l0_0 x4_1).f0]) (wrap64 (x4_1 + 1)) l0_0) else (none)) else (some false))) = some r := by rw [if_pos rfl] at H; exact H
   clear H
   have H := H1
   clear H1
   replace H := Option.bind_eq_some_iff.mp H
   obtain ⟨t165, A90, H⟩ := H
   replace H : (if t165 = true then (if x3_1.length < 8796093022208 then (spec_IsSchema.l0 k1 (x3_1 ++ [(rd_T53 l0_0 x4_1).f0]) (wrap64 (x4_1 + 1)) l0_0) else (none)) else (some false)) = some r := H
   have A9 := Aside0.mk A90
   clear A90
   have HC10 := Aside0.mk H
   clear H
   have hcz11_0 : wr.cell? ⟨gb157, 0, none⟩ = some (.slice A0_0 l0_0.length c0_0) := (blk_cell BK157.out 0).trans rfl
   have hfz11_0 := blk_frozen BK157.out 0
   have p162 : 0 ≤ (x4_1 : Int) := of_decide_eq_true asw
   have q162 : x4_1 < (l0_0.length : Int) := of_decide_eq_true asw
   obtain ⟨ad162, A162_2, c162_2, A162_3, c162_3, e162, hx162_0, hx162_1, hx162_2, hx162_3, hl162_2, hi162_2, hl162_3, hi162_3⟩ := at_T53 HR0_0.out x4_1 p162 q162
   cases e162
   replace hx162_0 := upw HB.out hx162_0
   replace hx162_1 := upw HB.out hx162_1
   replace hx162_2 := upw HB.out hx162_2
   replace hx162_3 := upw HB.out hx162_3
   have HR162_2 := Aside0.mk hi162_2
   have HC162_2 := Aside0.mk hl162_2
   clear hi162_2 hl162_2
   have HR162_3 := Aside0.mk hi162_3
   have HC162_3 := Aside0.mk hl162_3
   clear hi162_3 hl162_3
   replace p162 := eq_true p162
   replace q162 := eq_true q162
   go_upto_if 30 with (first | ((with_reducible refine gate_callee (f := 26) rfl ?_); refine goesL_ (some 19) rfl rfl Try.func26 kr rfl #[.string ((rd_T53 l0_0 x4_1).f0)] rfl mpw ?_; (with_reducible refine (spec_IsName.calls k1 ((rd_T53 l0_0 x4_1).f0) true _ A7.out).mono ?_); rintro e w' ⟨rfl, ⟨nd, rfl⟩⟩; refine ⟨_, rfl, ?_⟩; have p164 : 0 ≤ (x4_1 : Int) := of_decide_eq_true asw; have q164 : x4_1 < (l0_0.length : Int) := of_decide_eq_true asw; obtain ⟨ad164, A164_2, c164_2, A164_3, c164_3, e164, hx164_0, hx164_1, hx164_2, hx164_3, hl164_2, hi164_2, hl164_3, hi164_3⟩ := at_T53 HR0_0.out x4_1 p164 q164; obtain rfl : ad162 = ad164 := (by injection e164); replace hx164_0 := upw HB.out hx164_0; replace hx164_1 := upw HB.out hx164_1; replace hx164_2 := upw HB.out hx164_2; replace hx164_3 := upw HB.out hx164_3; have HR164_2 := Aside0.mk hi164_2; have HC164_2 := Aside0.mk hl164_2; clear hi164_2 hl164_2; have HR164_3 := Aside0.mk hi164_3; have HC164_3 := Aside0.mk hl164_3; clear hi164_3 hl164_3; replace p164 := eq_true p164; replace q164 := eq_true q164; have ea_ := Option.some.inj (hx162_2.symm.trans hx164_2); injection ea_ with ea_ en_ ec_; subst ea_; subst ec_; clear en_; have ea_ := Option.some.inj (hx162_3.symm.trans hx164_3); injection ea_ with ea_ en_ ec_; subst ea_; subst ec_; clear en_) | (go_at_call 27; (with_reducible refine (spec_IsRow.calls k1 ((rd_T53 l0_0 x4_1).f1.f0) _ _ ((rd_T53 l0_0 x4_1).f1.f1) _ _ ((rd_T53 l0_0 x4_1).f1.f2) t165 _ ?side1 ?side2 ?side3 ?side4 A9.out).mono ?_); (case side1 => repeat (first | exact (Kd.C_below HR164_2.out blw) | (with_reducible refine Kd.C_alloc ?_ _) | (with_reducible refine Kd.C_drewN ?_ _) | (with_reducible refine Kd.C_drew ?_))); (case side2 => exact HC164_2.out); (case side3 => repeat (first | exact (Kd.C_below HR164_3.out blw) | (with_reducible refine Kd.C_alloc ?_ _) | (with_reducible refine Kd.C_drewN ?_ _) | (with_reducible refine Kd.C_drew ?_))); (case side4 => exact HC164_3.out); rintro e w12 ⟨rfl, hb⟩; have n0_ := Aside0.mk (Kd.R_below (by (with_reducible repeat (first | apply Kd.R_alloc | apply Kd.R_drewN | apply Kd.R_drew)); exact HO_3.out) hb); have n1_ := Aside0.mk (blk_below (g := gb157) (o := .cells #[.slice (some ad162) l0_0.length c0_0] 33 (0, 0)) bkw hb); have n2_ := Aside0.mk (below_step blw hb); clear HO_3; clear BK157; clear HB; revert n0_ n1_ n2_; intro HO_3 BK157 HB; (try clear hb); (try clear hb2); (try clear hk); (try clear hi)))
   have H := HC10.out
   clear HC10
   by_cases c13 : t165 = true
   case neg =>
    replace c13 := Bool.eq_false_iff.mpr c13
    subst c13
    have H1 : (some false) = some r := by rw [if_neg (show ¬ (false = true) by decide)] at H; exact H
    clear H
    have H := H1
    clear H1
    obtain rfl := Option.some.inj H
    go_wp2
    go_ret
    exact ⟨rfw, blw⟩
   subst c13
   have H1 : (if x3_1.length < 8796093022208 then (spec_IsSchema.l0 k1 (x3_1 ++ [(rd_T53 l0_0 x4_1).f0]) (wrap64 (x4_1 + 1)) l0_0) else (none)) = some r := by rw [if_pos rfl] at H; exact H
   clear H
   have H := H1
   clear H1
   by_cases c14 : x3_1.length < 8796093022208
   case neg =>
    rw [if_neg c14] at H
    exact absurd H (by simp)
   rw [if_pos c14] at H
   have LMc14 := Aside0.mk c14
   clear c14
   obtain ⟨y167, hy167⟩ : ∃ y_ : List ByteArray, y_ = (x3_1 ++ [(rd_T53 l0_0 x4_1).f0]) := ⟨_, rfl⟩
   replace H : (spec_IsSchema.l0 k1 y167 (wrap64 (x4_1 + 1)) l0_0) = some r := by first | (rw [hy167]; with_reducible exact H) | (have H2_ := (Option.bind_some _ _).symm.trans H; rw [hy167]; with_reducible exact H2_) | (have H2_ := (Option.bind_some _ _).symm.trans H; with_reducible exact H2_) | with_reducible exact H | (rw [hy167]; exact H) | exact H
   have Ny167 := Aside0.mk hy167
   clear hy167
   have H' := Aside0.mk H
   clear H
   have hcz15_0 : w12.cell? ⟨gb157, 0, none⟩ = some (.slice (some ad162) l0_0.length c0_0) := (blk_cell BK157.out 0).trans rfl
   have hfz15_0 := blk_frozen BK157.out 0
   have p166 : 0 ≤ (x4_1 : Int) := of_decide_eq_true asw
   have q166 : x4_1 < (l0_0.length : Int) := of_decide_eq_true asw
   obtain ⟨ad166, A166_2, c166_2, A166_3, c166_3, e166, hx166_0, hx166_1, hx166_2, hx166_3, hl166_2, hi166_2, hl166_3, hi166_3⟩ := at_T53 HR0_0.out x4_1 p166 q166
   obtain rfl : ad162 = ad166 := (by injection e166)
   replace hx166_0 := upw HB.out hx166_0
   replace hx166_1 := upw HB.out hx166_1
   replace hx166_2 := upw HB.out hx166_2
   replace hx166_3 := upw HB.out hx166_3
   have HR166_2 := Aside0.mk hi166_2
   have HC166_2 := Aside0.mk hl166_2
   clear hi166_2 hl166_2
   have HR166_3 := Aside0.mk hi166_3
   have HC166_3 := Aside0.mk hl166_3
   clear hi166_3 hl166_3
   replace p166 := eq_true p166
   replace q166 := eq_true q166
   go_wp2_with (first | ((with_reducible refine gate_builtin (b := .append) (xs := #[.tmp 31, .tmp 38]) rfl ?_); at_builtin; refine Kd.R_append Kd.string (w0 := w) w.heap.size rfl (.tmp 31) (.tmp 38) 48 9 (.string ⟨#[]⟩) 16 rfl Try.underlying48 info9 rfl (by decide) (by omega) u3 x3_1 ((rd_T53 l0_0 x4_1).f0) [.string ((rd_T53 l0_0 x4_1).f0)] (fun _ => True) (fun _ => False) rfl rfl ?aP (fun _ hk => hk.elim) ?aF ?aO ?aB ?aS ?aL ?_; (case aP => exact rfl); (case aB => exact blw); (case aF => exact (fun _ _ => trivial)); (case aO => exact (by (with_reducible repeat (first | apply Kd.R_alloc | apply Kd.R_drewN | apply Kd.R_drew)); exact HO_3.out)); (case aS => exact (below_size blw)); (case aL => have := LMc14.out; omega); intro v168 w16 ho hb hg hat; rw [← Ny167.out] at ho; have n0_ := Aside0.mk (blk_grown (g := gb157) (o := .cells #[.slice (some ad162) l0_0.length c0_0] 33 (0, 0)) bkw hg (Kd.R_ne HO_3.out BK157.out (by decide))); have n1_ := Aside0.mk (hb); have n2_ := Aside0.mk (ho); clear BK157; clear HB; clear HO_3; revert n0_ n1_ n2_; intro BK157 HB HO169; clear ho hb hg hat))
   go_roundg k1
   case measure => have := HK1.out; omega
   case rel => exact ⟨(y167), (wrap64 (x4_1 + 1)), rfs, H', ⟨by have := HK1.out; omega⟩, ⟨by (with_reducible repeat (first | apply Kd.R_alloc | apply Kd.R_drewN | apply Kd.R_drew)); exact HO169.out⟩, ⟨bkw⟩, ⟨blw⟩⟩

end Go.Proofs.Ytfbecaplnigmaaa.Px
end
section
namespace Go.Proofs.Ytfbecaplnigmaaa.Px
set_option maxHeartbeats 8000000
set_option maxRecDepth 100000
open Go.RowKit Go.Proofs.Ytfbecaplnigmaaa.Ext Go.Proofs.YtfbecaplnigmaaaW.PrintWords Go.Proofs.YtfbecaplnigmaaaW.PrintLast Go.Proofs.YtfbecaplnigmaaaW.PrintMore
attribute [local go_sem] max2_int min2_int max_two min_two max_three min_three max_four min_four   -- for this text's walks alone
set_option linter.unusedVariables false
set_option linter.unusedSimpArgs false

/-! ### spec_IsData: function 29 -/
def spec_IsData.f (k : Nat) (a0_0 : Int) (l0_1 : List ByteArray) (l0_2 : List (S51)) : Option (Bool) := (spec_IsValidType.f k a0_0 l0_1 l0_2).bind fun t171 => (if t171 = true then ((spec_l3Has.f k a0_0 l0_1 l0_2 5).bind fun t172 => (some (!t172))) else (some false))
theorem spec_IsData.calls (k : Nat) (a0_0 : Int) (A0_1 : Option Addr) (c0_1 : Nat) (l0_1 : List ByteArray) (A0_2 : Option Addr) (c0_2 : Nat) (l0_2 : List (S51)) (r : Bool) (w : World) (hr0_1 : Kd.C Kd.string w A0_1 l0_1.length l0_1) (hc0_1 : l0_1.length ≤ c0_1) (hr0_2 : Kd.C k51 w A0_2 l0_2.length l0_2) (hc0_2 : l0_2.length ≤ c0_2) (h : spec_IsData.f k a0_0 l0_1 l0_2 = some r) :
  Calls Try.prog 29 #[.agg #[.int .i64 a0_0, .slice A0_1 l0_1.length c0_1, .slice A0_2 l0_2.length c0_2]] w fun e w' => e = .returned (.bool r) ∧ Below w.heap.size w w' := by
 have hu51 := Try.underlying51
 have HR0_1 := Aside0.mk hr0_1
 have HC0_1 := Aside0.mk hc0_1
 clear hr0_1 hc0_1
 have HR0_2 := Aside0.mk hr0_2
 have HC0_2 := Aside0.mk hc0_2
 clear hr0_2 hc0_2
 have HB := Aside0.mk (Below.refl w.heap.size w)
 have H : ((spec_IsValidType.f k a0_0 l0_1 l0_2).bind fun t171 => (if t171 = true then ((spec_l3Has.f k a0_0 l0_1 l0_2 5).bind fun t172 => (some (!t172))) else (some false))) = some r := h
 clear h
 replace H := Option.bind_eq_some_iff.mp H
 obtain ⟨t171, A20, H⟩ := H
 replace H : (if t171 = true then ((spec_l3Has.f k a0_0 l0_1 l0_2 5).bind fun t172 => (some (!t172))) else (some false)) = some r := H
 have A2 := Aside0.mk A20
 clear A20
 by_cases c3 : t171 = true
 case neg =>
  replace c3 := Bool.eq_false_iff.mpr c3
  subst c3
  have H1 : (some false) = some r := by rw [if_neg (show ¬ (false = true) by decide)] at H; exact H
  clear H
  have H := H1
  clear H1
  obtain rfl := Option.some.inj H
  go_enter Try.func29, Try.ntmps29
  go_wp2_with (first | ((with_reducible refine gate_dst (N := 1) rfl ?_); refine box_event ?hg (N := 1) ?hd (cs := #[.int .i64 a0_0, .slice A0_1 l0_1.length c0_1, .slice A0_2 l0_2.length c0_2]) (t := 51) ?hr ?_; (case hd => rfl); (case hg => rfl); (case hr => exact hrw); intro gb170 hg w10 hbox hb; have n0_ := Aside0.mk (below_step blw hb); have n1_ := Aside0.mk (hbox); have n2_ := Aside0.mk ((by rw [hg]; exact (below_size blw) : w.heap.size ≤ gb170)); have n3_ := n2_; clear HB; revert n0_ n1_ n2_ n3_; intro HB BK170 GW170 GE170; clear hb hbox hg; obtain ⟨hcz11_0, hcz11_1, hcz11_2⟩ := cls3 BK170.out; obtain ⟨hfz11_0, hfz11_1, hfz11_2⟩ := frz3 BK170.out) | ((with_reducible refine gate_callee (f := 45) rfl ?_); refine goesL_ (some 4) rfl rfl Try.func45 kr rfl #[.agg #[.int .i64 a0_0, .slice A0_1 l0_1.length c0_1, .slice A0_2 l0_2.length c0_2]] rfl mpw ?_; (with_reducible refine (spec_IsValidType.calls k a0_0 _ _ l0_1 _ _ l0_2 false _ ?side1 ?side2 ?side3 ?side4 A2.out).mono ?_); (case side1 => have X_ := HR0_1; exact cbl); (case side2 => exact HC0_1.out); (case side3 => have X_ := HR0_2; exact cbl); (case side4 => exact HC0_2.out); rintro e w12 ⟨rfl, hb⟩; refine ⟨_, rfl, ?_⟩; have n0_ := Aside0.mk (blk_below (g := gb170) (o := .cells #[.int .i64 a0_0, .slice A0_1 l0_1.length c0_1, .slice A0_2 l0_2.length c0_2] 51 (0, 0)) bkw hb); have n1_ := Aside0.mk (below_step blw hb); clear BK170; clear HB; revert n0_ n1_; intro BK170 HB; (try clear hb); (try clear hb2); (try clear hk); (try clear hi)))
  go_ret
  exact ⟨rfw, blw⟩
 subst c3
 have H1 : ((spec_l3Has.f k a0_0 l0_1 l0_2 5).bind fun t172 => (some (!t172))) = some r := by rw [if_pos rfl] at H; exact H
 clear H
 have H := H1
 clear H1
 replace H := Option.bind_eq_some_iff.mp H
 obtain ⟨t172, A40, H⟩ := H
 replace H : (some (!t172)) = some r := H
 have A4 := Aside0.mk A40
 clear A40
 obtain rfl := Option.some.inj H
 go_enter Try.func29, Try.ntmps29
 go_wp2_with (first | ((with_reducible refine gate_dst (N := 1) rfl ?_); refine box_event ?hg (N := 1) ?hd (cs := #[.int .i64 a0_0, .slice A0_1 l0_1.length c0_1, .slice A0_2 l0_2.length c0_2]) (t := 51) ?hr ?_; (case hd => rfl); (case hg => rfl); (case hr => exact hrw); intro gb170 hg w5 hbox hb; have n0_ := Aside0.mk (below_step blw hb); have n1_ := Aside0.mk (hbox); have n2_ := Aside0.mk ((by rw [hg]; exact (below_size blw) : w.heap.size ≤ gb170)); have n3_ := n2_; clear HB; revert n0_ n1_ n2_ n3_; intro HB BK170 GW170 GE170; clear hb hbox hg; obtain ⟨hcz6_0, hcz6_1, hcz6_2⟩ := cls3 BK170.out; obtain ⟨hfz6_0, hfz6_1, hfz6_2⟩ := frz3 BK170.out) | ((with_reducible refine gate_callee (f := 45) rfl ?_); refine goesL_ (some 4) rfl rfl Try.func45 kr rfl #[.agg #[.int .i64 a0_0, .slice A0_1 l0_1.length c0_1, .slice A0_2 l0_2.length c0_2]] rfl mpw ?_; (with_reducible refine (spec_IsValidType.calls k a0_0 _ _ l0_1 _ _ l0_2 true _ ?side1 ?side2 ?side3 ?side4 A2.out).mono ?_); (case side1 => have X_ := HR0_1; exact cbl); (case side2 => exact HC0_1.out); (case side3 => have X_ := HR0_2; exact cbl); (case side4 => exact HC0_2.out); rintro e w7 ⟨rfl, hb⟩; refine ⟨_, rfl, ?_⟩; have n0_ := Aside0.mk (blk_below (g := gb170) (o := .cells #[.int .i64 a0_0, .slice A0_1 l0_1.length c0_1, .slice A0_2 l0_2.length c0_2] 51 (0, 0)) bkw hb); have n1_ := Aside0.mk (below_step blw hb); clear BK170; clear HB; revert n0_ n1_; intro BK170 HB; (try clear hb); (try clear hb2); (try clear hk); (try clear hi); obtain ⟨hcz8_0, hcz8_1, hcz8_2⟩ := cls3 BK170.out; obtain ⟨hfz8_0, hfz8_1, hfz8_2⟩ := frz3 BK170.out) | (go_at_call 47; (with_reducible refine (spec_l3Has.calls k a0_0 _ _ l0_1 _ _ l0_2 5 t172 _ ?side1 ?side2 ?side3 ?side4 A4.out).mono ?_); (case side1 => have X_ := HR0_1; exact cbl); (case side2 => exact HC0_1.out); (case side3 => have X_ := HR0_2; exact cbl); (case side4 => exact HC0_2.out); rintro e w9 ⟨rfl, hb⟩; have n0_ := Aside0.mk (blk_below (g := gb170) (o := .cells #[.int .i64 a0_0, .slice A0_1 l0_1.length c0_1, .slice A0_2 l0_2.length c0_2] 51 (0, 0)) bkw hb); have n1_ := Aside0.mk (below_step blw hb); clear BK170; clear HB; revert n0_ n1_; intro BK170 HB; (try clear hb); (try clear hb2); (try clear hk); (try clear hi)))
 go_ret
 exact ⟨rfw, blw⟩

/-! ### spec_l5Left: function 30 -/
mutual
def spec_l5Left.l0 : Nat → Int → Int → Int → Int → List ByteArray → List (S56) → Option (Int)
 | 0, _, _, _, _, _, _ => none
 | k + 1, x1, x5, x174000, x174001, x174002, x174003 => if x5 < (x174003.length : Int) then (if x1 ≥ 0 then (if 0 ≤ x5 then ((spec_l5Left.f k ((rd_T56 x174003 x5).f0) ((rd_T56 x174003 x5).f1) ((rd_T56 x174003 x5).f2) ((rd_T56 x174003 x5).f3) x1).bind fun t175 => (spec_l5Left.l0 k t175 (wrap64 (x5 + 1)) x174000 x174001 x174002 x174003)) else (none)) else (some x1)) else (some x1)
def spec_l5Left.f : Nat → Int → Int → List ByteArray → List (S56) → Int → Option (Int)
 | 0, _, _, _, _, _ => none
 | k + 1, a0_0, a0_1, l0_2, l0_3, a1 => spec_l5Left.l0 k (wrap64 (a1 - 1)) 0 a0_0 a0_1 l0_2 l0_3
end
theorem spec_l5Left.calls (k : Nat) : ∀ (a0_0 : Int) (a0_1 : Int) (A0_2 : Option Addr) (c0_2 : Nat) (l0_2 : List ByteArray) (A0_3 : Option Addr) (c0_3 : Nat) (l0_3 : List (S56)) (a1 : Int) (r : Int) (w : World) (hr0_2 : Kd.C Kd.string w A0_2 l0_2.length l0_2) (hc0_2 : l0_2.length ≤ c0_2) (hr0_3 : Kd.C k56 w A0_3 l0_3.length l0_3) (hc0_3 : l0_3.length ≤ c0_3) (h : spec_l5Left.f k a0_0 a0_1 l0_2 l0_3 a1 = some r),
  Calls Try.prog 30 #[.agg #[.int .i64 a0_0, .int .i64 a0_1, .slice A0_2 l0_2.length c0_2, .slice A0_3 l0_3.length c0_3], .int .i64 a1] w fun e w' => e = .returned (.int .i64 r) ∧ Below w.heap.size w w' := by
 induction k using Nat.strongRecOn with
 | _ k ih =>
 intro a0_0 a0_1 A0_2 c0_2 l0_2 A0_3 c0_3 l0_3 a1 r w hr0_2 hc0_2 hr0_3 hc0_3 h
 cases k with
 | zero => exact absurd h (by simp [spec_l5Left.f])
 | succ k =>
 simp only [spec_l5Left.f] at h
 have hu56 := Try.underlying56
 have HR0_2 := Aside0.mk hr0_2
 have HC0_2 := Aside0.mk hc0_2
 clear hr0_2 hc0_2
 have HR0_3 := Aside0.mk hr0_3
 have HC0_3 := Aside0.mk hc0_3
 clear hr0_3 hc0_3
 have HB := Aside0.mk (Below.refl w.heap.size w)
 have H : (spec_l5Left.l0 k (wrap64 (a1 - 1)) 0 a0_0 a0_1 l0_2 l0_3) = some r := h
 clear h
 have H' := Aside0.mk H
 clear H
 go_enter Try.func30, Try.ntmps30
 go_wp2_with (first | ((with_reducible refine gate_dst (N := 2) rfl ?_); refine box_event ?hg (N := 2) ?hd (cs := #[.int .i64 a0_0, .int .i64 a0_1, .slice A0_2 l0_2.length c0_2, .slice A0_3 l0_3.length c0_3]) (t := 56) ?hr ?_; (case hd => rfl); (case hg => rfl); (case hr => exact hrw); intro gb173 hg w3 hbox hb; have n0_ := Aside0.mk (below_step blw hb); have n1_ := Aside0.mk (hbox); have n2_ := Aside0.mk ((by rw [hg]; exact (below_size blw) : w.heap.size ≤ gb173)); have n3_ := n2_; clear HB; revert n0_ n1_ n2_ n3_; intro HB BK173 GW173 GE173; clear hb hbox hg))
 go_loopg [1, 5] k (fun kq v1 v5 w' => ∃ (x1_1 : Int) (x5_1 : Int), v1 = .int .i64 x1_1 ∧ v5 = .int .i64 x5_1 ∧ Aside0 (spec_l5Left.l0 kq x1_1 x5_1 a0_0 a0_1 l0_2 l0_3 = some r) ∧ Aside0 (kq ≤ k) ∧ Aside0 (w'.heap[gb173]? = some (.cells #[.int .i64 a0_0, .int .i64 a0_1, (.slice A0_2 l0_2.length c0_2), (.slice A0_3 l0_3.length c0_3)] 56 (0, 0))) ∧ Aside0 (Below w.heap.size w w'))
 case atStart => exact ⟨(wrap64 (a1 - 1)), (0), rfs, rfs, H', ⟨Nat.le_refl _⟩, ⟨bkw⟩, ⟨blw⟩⟩
 case round =>
  clear H'
  (try clear p2); (try clear c3)
  obtain ⟨x1_1, x5_1, rfl, rfl, HA, HK1, BK173, HB⟩ := hrel
  cases gk with
  | zero => exact absurd HA.out (by simp [spec_l5Left.l0])
  | succ k1 =>
   have H := HA.out
   clear HA
   simp only [spec_l5Left.l0] at H
   by_cases c4 : x5_1 < (l0_3.length : Int)
   case neg =>
    rw [if_neg c4] at H
    have c4b0 : decide (x5_1 < (l0_3.length : Int)) = false := decide_eq_false c4
    clear c4
    obtain rfl := Option.some.inj H
    obtain ⟨hcz11_0, hcz11_1, hcz11_2, hcz11_3⟩ := cls4 BK173.out
    obtain ⟨hfz11_0, hfz11_1, hfz11_2, hfz11_3⟩ := frz4 BK173.out
    go_wp2
    go_ret
    exact ⟨rfw, blw⟩
   rw [if_pos c4] at H
   have c4b0 : decide (x5_1 < (l0_3.length : Int)) = true := decide_eq_true c4
   clear c4
   by_cases c5 : x1_1 ≥ 0
   case neg =>
    rw [if_neg c5] at H
    have c5b0 : decide (0 ≤ x1_1) = false := decide_eq_false c5
    clear c5
    obtain rfl := Option.some.inj H
    obtain ⟨hcz10_0, hcz10_1, hcz10_2, hcz10_3⟩ := cls4 BK173.out
    obtain ⟨hfz10_0, hfz10_1, hfz10_2, hfz10_3⟩ := frz4 BK173.out
    go_wp2
    go_ret
    exact ⟨rfw, blw⟩
   rw [if_pos c5] at H
   have c5b0 : decide (0 ≤ x1_1) = true := decide_eq_true c5
   clear c5
   by_cases c6 : 0 ≤ x5_1
   case neg =>
    rw [if_neg c6] at H
    exact absurd H (by simp)
   rw [if_pos c6] at H
   have c6b0 : decide (0 ≤ x5_1) = true := decide_eq_true c6
   clear c6
   replace H := Option.bind_eq_some_iff.mp H
   obtain ⟨t175, A70, H⟩ := H
   replace H : (spec_l5Left.l0 k1 t175 (wrap64 (x5_1 + 1)) a0_0 a0_1 l0_2 l0_3) = some r := H
   have A7 := Aside0.mk A70
   clear A70
   have H' := Aside0.mk H
   clear H
   obtain ⟨hcz8_0, hcz8_1, hcz8_2, hcz8_3⟩ := cls4 BK173.out
   obtain ⟨hfz8_0, hfz8_1, hfz8_2, hfz8_3⟩ := frz4 BK173.out
   have p174 : 0 ≤ (x5_1 : Int) := of_decide_eq_true asw
   have q174 : x5_1 < (l0_3.length : Int) := of_decide_eq_true asw
   obtain ⟨ad174, A174_2, c174_2, A174_3, c174_3, e174, hx174_0, hx174_1, hx174_2, hx174_3, hl174_2, hi174_2, hl174_3, hi174_3⟩ := at_T56 HR0_3.out x5_1 p174 q174
   cases e174
   replace hx174_0 := upw HB.out hx174_0
   replace hx174_1 := upw HB.out hx174_1
   replace hx174_2 := upw HB.out hx174_2
   replace hx174_3 := upw HB.out hx174_3
   have HR174_2 := Aside0.mk hi174_2
   have HC174_2 := Aside0.mk hl174_2
   clear hi174_2 hl174_2
   have HR174_3 := Aside0.mk hi174_3
   have HC174_3 := Aside0.mk hl174_3
   clear hi174_3 hl174_3
   replace p174 := eq_true p174
   replace q174 := eq_true q174
   go_wp2_with (first | ((with_reducible refine gate_callee (f := 30) rfl ?_); refine goesL_ (some 25) rfl rfl Try.func30 kr rfl #[.agg #[.int .i64 ((rd_T56 l0_3 x5_1).f0), .int .i64 ((rd_T56 l0_3 x5_1).f1), .slice A174_2 ((rd_T56 l0_3 x5_1).f2).length c174_2, .slice A174_3 ((rd_T56 l0_3 x5_1).f3).length c174_3], .int .i64 x1_1] rfl mpw ?_; (with_reducible refine (ih k1 (by have := HK1.out; omega) ((rd_T56 l0_3 x5_1).f0) ((rd_T56 l0_3 x5_1).f1) _ _ ((rd_T56 l0_3 x5_1).f2) _ _ ((rd_T56 l0_3 x5_1).f3) x1_1 t175 _ ?side1 ?side2 ?side3 ?side4 A7.out).mono ?_); (case side1 => have X_ := HR174_2; exact cbl); (case side2 => exact HC174_2.out); (case side3 => have X_ := HR174_3; exact cbl); (case side4 => exact HC174_3.out); rintro e w9 ⟨rfl, hb⟩; refine ⟨_, rfl, ?_⟩; have n0_ := Aside0.mk (blk_below (g := gb173) (o := .cells #[.int .i64 a0_0, .int .i64 a0_1, .slice A0_2 l0_2.length c0_2, .slice (some ad174) l0_3.length c0_3] 56 (0, 0)) bkw hb); have n1_ := Aside0.mk (below_step blw hb); clear BK173; clear HB; revert n0_ n1_; intro BK173 HB; (try clear hb); (try clear hb2); (try clear hk); (try clear hi)))
   go_roundg k1
   case measure => have := HK1.out; omega
   case rel => exact ⟨(t175), (wrap64 (x5_1 + 1)), rfs, rfs, H', ⟨by have := HK1.out; omega⟩, ⟨bkw⟩, ⟨blw⟩⟩

/-! ### spec_l3Texts: function 48 -/
def spec_l3Texts.l0 : Nat → List ByteArray → List ByteArray → Int → Option (Bool)
 | 0, _, _, _ => none
 | k + 1, x0, x1, x5 => if x5 < (x0.length : Int) then (if 0 ≤ x5 then (if x5 < (x1.length : Int) then (if (rdOf ByteArray.empty x0 x5).toList = (rdOf ByteArray.empty x1 x5).toList then (spec_l3Texts.l0 k x0 x1 (wrap64 (x5 + 1))) else (some false)) else (none)) else (none)) else (some true)
def spec_l3Texts.f (k : Nat) (l0 : List ByteArray) (l1 : List ByteArray) : Option (Bool) := if (l0.length : Int) = (l1.length : Int) then (spec_l3Texts.l0 k l0 l1 0) else (some false)
theorem spec_l3Texts.calls (k : Nat) (A0 : Option Addr) (c0 : Nat) (l0 : List ByteArray) (A1 : Option Addr) (c1 : Nat) (l1 : List ByteArray) (r : Bool) (w : World) (hr0 : Kd.C Kd.string w A0 l0.length l0) (hc0 : l0.length ≤ c0) (hr1 : Kd.C Kd.string w A1 l1.length l1) (hc1 : l1.length ≤ c1) (h : spec_l3Texts.f k l0 l1 = some r) :
  Calls Try.prog 48 #[.slice A0 l0.length c0, .slice A1 l1.length c1] w fun e w' => e = .returned (.bool r) ∧ Drawn0 w w' := by
 have HR0 := Aside0.mk hr0
 have HC0 := Aside0.mk hc0
 clear hr0 hc0
 have HR1 := Aside0.mk hr1
 have HC1 := Aside0.mk hc1
 clear hr1 hc1
 have H : (if (l0.length : Int) = (l1.length : Int) then (spec_l3Texts.l0 k l0 l1 0) else (some false)) = some r := h
 clear h
 by_cases c3 : (l0.length : Int) = (l1.length : Int)
 case neg =>
  rw [if_neg c3] at H
  have c3b0 : ((l0.length : Int) == (l1.length : Int)) = false := beq_eq_false_iff_ne.mpr c3
  have c3b1 : ((l0.length : Int) != (l1.length : Int)) = true := bne_iff_ne.mpr c3
  have c3b2 : (l0.length == l1.length) = false := by first | simpa using c3 | (simp at c3 ⊢; omega)
  obtain rfl := Option.some.inj H
  go_enter Try.func48, Try.ntmps48
  go_wp2
  repeat (go_quiet (fail); try go_wp2)
  go_ret
  exact ⟨rfs, by repeat (first | exact Drawn0.refl _ | apply Drawn0.step)⟩
 rw [if_pos c3] at H
 have c3b0 : ((l0.length : Int) == (l1.length : Int)) = true := beq_iff_eq.mpr c3
 have c3b1 : ((l0.length : Int) != (l1.length : Int)) = false := bne_eq_false_iff_eq.mpr c3
 have c3b2 : (l0.length == l1.length) = true := by first | simpa using c3 | (simp at c3 ⊢; omega)
 clear c3
 have H' := Aside0.mk H
 clear H
 go_enter Try.func48, Try.ntmps48
 go_wp2
 repeat (go_quiet (fail); try go_wp2)
 go_loopg [5] k (fun kq v5 w' => ∃ (x5_1 : Int), v5 = .int .i64 x5_1 ∧ Aside0 (spec_l3Texts.l0 kq l0 l1 x5_1 = some r) ∧ Aside0 (kq ≤ k) ∧ Drawn0 w w')
 case atStart => exact ⟨(0), rfs, H', ⟨Nat.le_refl _⟩, by repeat (first | exact Drawn0.refl _ | apply Drawn0.step)⟩
 case round =>
  clear H'
  (try clear c1); (try clear p2); (try clear c3); (try clear c3b0); (try clear c3b1); (try clear c3b2)
  obtain ⟨x5_1, rfl, HA, HK1, ⟨m1, rfl⟩⟩ := hrel
  cases gk with
  | zero => exact absurd HA.out (by simp [spec_l3Texts.l0])
  | succ k1 =>
   have H := HA.out
   clear HA
   simp only [spec_l3Texts.l0] at H
   by_cases c4 : x5_1 < (l0.length : Int)
   case neg =>
    rw [if_neg c4] at H
    have c4b0 : decide (x5_1 < (l0.length : Int)) = false := decide_eq_false c4
    clear c4
    obtain rfl := Option.some.inj H
    go_wp2
    repeat (go_quiet (fail); try go_wp2)
    go_ret
    exact ⟨rfs, by repeat (first | exact Drawn0.refl _ | apply Drawn0.step)⟩
   rw [if_pos c4] at H
   have c4b0 : decide (x5_1 < (l0.length : Int)) = true := decide_eq_true c4
   clear c4
   by_cases c5 : 0 ≤ x5_1
   case neg =>
    rw [if_neg c5] at H
    exact absurd H (by simp)
   rw [if_pos c5] at H
   have c5b0 : decide (0 ≤ x5_1) = true := decide_eq_true c5
   clear c5
   by_cases c6 : x5_1 < (l1.length : Int)
   case neg =>
    rw [if_neg c6] at H
    exact absurd H (by simp)
   rw [if_pos c6] at H
   have c6b0 : decide (x5_1 < (l1.length : Int)) = true := decide_eq_true c6
   clear c6
   by_cases c7 : (rdOf ByteArray.empty l0 x5_1).toList = (rdOf ByteArray.empty l1 x5_1).toList
   case neg =>
    rw [if_neg c7] at H
    have c7b0 : ((rdOf ByteArray.empty l0 x5_1).toList == (rdOf ByteArray.empty l1 x5_1).toList) = false := beq_eq_false_iff_ne.mpr c7
    have c7b1 : ((rdOf ByteArray.empty l0 x5_1).toList != (rdOf ByteArray.empty l1 x5_1).toList) = true := bne_iff_ne.mpr c7
    obtain rfl := Option.some.inj H
    have p176 : 0 ≤ (x5_1 : Int) := of_decide_eq_true asw
    have q176 : x5_1 < (l0.length : Int) := of_decide_eq_true asw
    obtain ⟨ad176, e176, hx176_0⟩ := Kd.at_string HR0.out x5_1 p176 q176
    cases e176
    replace p176 := eq_true p176
    replace q176 := eq_true q176
    have p177 : 0 ≤ (x5_1 : Int) := of_decide_eq_true asw
    have q177 : x5_1 < (l1.length : Int) := of_decide_eq_true asw
    obtain ⟨ad177, e177, hx177_0⟩ := Kd.at_string HR1.out x5_1 p177 q177
    cases e177
    replace p177 := eq_true p177
    replace q177 := eq_true q177
    go_wp2
    repeat (go_quiet (fail); try go_wp2)
    go_ret
    exact ⟨rfs, by repeat (first | exact Drawn0.refl _ | apply Drawn0.step)⟩
   rw [if_pos c7] at H
   have c7b0 : ((rdOf ByteArray.empty l0 x5_1).toList == (rdOf ByteArray.empty l1 x5_1).toList) = true := beq_iff_eq.mpr c7
   have c7b1 : ((rdOf ByteArray.empty l0 x5_1).toList != (rdOf ByteArray.empty l1 x5_1).toList) = false := bne_eq_false_iff_eq.mpr c7
   clear c7
   have H' := Aside0.mk H
   clear H
   have p176 : 0 ≤ (x5_1 : Int) := of_decide_eq_true asw
   have q176 : x5_1 < (l0.length : Int) := of_decide_eq_true asw
   obtain ⟨ad176, e176, hx176_0⟩ := Kd.at_string HR0.out x5_1 p176 q176
   cases e176
   replace p176 := eq_true p176
   replace q176 := eq_true q176
   have p177 : 0 ≤ (x5_1 : Int) := of_decide_eq_true asw
   have q177 : x5_1 < (l1.length : Int) := of_decide_eq_true asw
   obtain ⟨ad177, e177, hx177_0⟩ := Kd.at_string HR1.out x5_1 p177 q177
   cases e177
   replace p177 := eq_true p177
   replace q177 := eq_true q177
   go_wp2
   repeat (go_quiet (fail); try go_wp2)
   go_roundg k1
   case measure => have := HK1.out; omega
   case rel => exact ⟨(wrap64 (x5_1 + 1)), rfs, H', ⟨by have := HK1.out; omega⟩, by repeat (first | exact Drawn0.refl _ | apply Drawn0.step)⟩

end Go.Proofs.Ytfbecaplnigmaaa.Px
end
