/- Printed by a program of this session: what functions of the translation come to, each contract as it stands. No condition. -/
import Derived.Test.YtaakdfbfgabdbaaZTypesSh
import Derived.Test.YtaakdfbfgabdbaaZTypesExtM
import Derived.Test.YtaakdfbfgabdbaaZTypesPt3
import Derived.Test.YtaakdfbfgabdbaaZTypesPt4
import Derived.Test.YtaakdfbfgabdbaaZTypesPt5
import Derived.Test.YtaakdfbfgabdbaaZTypesPt6M
import Derived.Test.YtaakdfbfgabdbaaZTypesPt7M
import Derived.Test.YtaakdfbfgabdbaaZTypesPt10M
namespace Go.Proofs.Ytaakdfbfgabdbaa.Pt
set_option maxHeartbeats 8000000
set_option maxRecDepth 100000
open Go.RowKit Go.Proofs.Ytaakdfbfgabdbaa.Ext Go.Proofs.YtaakdfbfgabdbaaW.PrintWords Go.Proofs.YtaakdfbfgabdbaaW.PrintLast Go.Proofs.YtaakdfbfgabdbaaW.PrintMore
attribute [local go_sem] max2_int min2_int max_two min_two max_three min_three max_four min_four   -- for this text's walks alone
set_option linter.unusedVariables false
set_option linter.unusedSimpArgs false

/-! ### spec_IsValidType: function 10 -/
def spec_IsValidType.f (k : Nat) (a0_0 : Int) (l0_1 : List ByteArray) (l0_2 : List (S27)) : Option (Bool) := (spec_l3Left.f k a0_0 l0_1 l0_2 24).bind fun t399 => (if t399 ≥ 0 then ((spec_DepthOfType.f k a0_0 l0_1 l0_2).bind fun t400 => (if t400 ≤ 7 then ((spec_l3Form.f k a0_0 l0_1 l0_2).bind fun t401 => (some t401)) else (some false))) else (some false))
theorem spec_IsValidType.calls (k : Nat) (a0_0 : Int) (A0_1 : Option Addr) (c0_1 : Nat) (l0_1 : List ByteArray) (A0_2 : Option Addr) (c0_2 : Nat) (l0_2 : List (S27)) (r : Bool) (w : World) (hr0_1 : Kd.C Kd.string w A0_1 l0_1.length l0_1) (hc0_1 : l0_1.length ≤ c0_1) (hr0_2 : Kd.C k27 w A0_2 l0_2.length l0_2) (hc0_2 : l0_2.length ≤ c0_2) (h : spec_IsValidType.f k a0_0 l0_1 l0_2 = some r) :
  Calls Try.prog 10 #[.agg #[.int .i64 a0_0, .slice A0_1 l0_1.length c0_1, .slice A0_2 l0_2.length c0_2]] w fun e w' => e = .returned (.bool r) ∧ Below w.heap.size w w' := by
 have hu27 := Try.underlying27
 have HR0_1 := Aside0.mk hr0_1
 have HC0_1 := Aside0.mk hc0_1
 clear hr0_1 hc0_1
 have HR0_2 := Aside0.mk hr0_2
 have HC0_2 := Aside0.mk hc0_2
 clear hr0_2 hc0_2
 have HB := Aside0.mk (Below.refl w.heap.size w)
 have H : ((spec_l3Left.f k a0_0 l0_1 l0_2 24).bind fun t399 => (if t399 ≥ 0 then ((spec_DepthOfType.f k a0_0 l0_1 l0_2).bind fun t400 => (if t400 ≤ 7 then ((spec_l3Form.f k a0_0 l0_1 l0_2).bind fun t401 => (some t401)) else (some false))) else (some false))) = some r := h
 clear h
 replace H := Option.bind_eq_some_iff.mp H
 obtain ⟨t399, A20, H⟩ := H
 replace H : (if t399 ≥ 0 then ((spec_DepthOfType.f k a0_0 l0_1 l0_2).bind fun t400 => (if t400 ≤ 7 then ((spec_l3Form.f k a0_0 l0_1 l0_2).bind fun t401 => (some t401)) else (some false))) else (some false)) = some r := H
 have A2 := Aside0.mk A20
 clear A20
 by_cases c3 : t399 ≥ 0
 case neg =>
  rw [if_neg c3] at H
  have c3b0 : decide (0 ≤ t399) = false := decide_eq_false c3
  clear c3
  obtain rfl := Option.some.inj H
  go_enter Try.func10, Try.ntmps10
  go_wp2_with (first | ((with_reducible refine gate_dst (N := 1) rfl ?_); refine box_event ?hg (N := 1) ?hd (cs := #[.int .i64 a0_0, .slice A0_1 l0_1.length c0_1, .slice A0_2 l0_2.length c0_2]) (t := 27) ?hr ?_; (case hd => rfl); (case hg => rfl); (case hr => exact hrw); intro gb398 hg w19 hbox hb; have n0_ := Aside0.mk (below_step blw hb); have n1_ := Aside0.mk (hbox); have n2_ := Aside0.mk ((by rw [hg]; exact (below_size blw) : w.heap.size ≤ gb398)); have n3_ := n2_; clear HB; revert n0_ n1_ n2_ n3_; intro HB BK398 GW398 GE398; clear hb hbox hg; obtain ⟨hcz20_0, hcz20_1, hcz20_2⟩ := cls3 BK398.out; obtain ⟨hfz20_0, hfz20_1, hfz20_2⟩ := frz3 BK398.out) | ((with_reducible refine gate_callee (f := 25) rfl ?_); refine goesL_ (some 4) rfl rfl Try.func25 kr rfl #[.agg #[.int .i64 a0_0, .slice A0_1 l0_1.length c0_1, .slice A0_2 l0_2.length c0_2], .int .i64 24] rfl mpw ?_; (with_reducible refine (spec_l3Left.calls k a0_0 _ _ l0_1 _ _ l0_2 24 t399 _ ?side1 ?side2 ?side3 ?side4 A2.out).mono ?_); (case side1 => have X_ := HR0_1; exact cbl); (case side2 => exact HC0_1.out); (case side3 => have X_ := HR0_2; exact cbl); (case side4 => exact HC0_2.out); rintro e w21 ⟨rfl, hb⟩; refine ⟨_, rfl, ?_⟩; have n0_ := Aside0.mk (blk_below (g := gb398) (o := .cells #[.int .i64 a0_0, .slice A0_1 l0_1.length c0_1, .slice A0_2 l0_2.length c0_2] 27 (0, 0)) bkw hb); have n1_ := Aside0.mk (below_step blw hb); clear BK398; clear HB; revert n0_ n1_; intro BK398 HB; (try clear hb); (try clear hb2); (try clear hk); (try clear hi)))
  go_ret
  exact ⟨rfw, blw⟩
 rw [if_pos c3] at H
 have c3b0 : decide (0 ≤ t399) = true := decide_eq_true c3
 clear c3
 replace H := Option.bind_eq_some_iff.mp H
 obtain ⟨t400, A40, H⟩ := H
 replace H : (if t400 ≤ 7 then ((spec_l3Form.f k a0_0 l0_1 l0_2).bind fun t401 => (some t401)) else (some false)) = some r := H
 have A4 := Aside0.mk A40
 clear A40
 by_cases c5 : t400 ≤ 7
 case neg =>
  rw [if_neg c5] at H
  have c5b0 : decide (t400 ≤ 7) = false := decide_eq_false c5
  clear c5
  obtain rfl := Option.some.inj H
  go_enter Try.func10, Try.ntmps10
  go_wp2_with (first | ((with_reducible refine gate_dst (N := 1) rfl ?_); refine box_event ?hg (N := 1) ?hd (cs := #[.int .i64 a0_0, .slice A0_1 l0_1.length c0_1, .slice A0_2 l0_2.length c0_2]) (t := 27) ?hr ?_; (case hd => rfl); (case hg => rfl); (case hr => exact hrw); intro gb398 hg w14 hbox hb; have n0_ := Aside0.mk (below_step blw hb); have n1_ := Aside0.mk (hbox); have n2_ := Aside0.mk ((by rw [hg]; exact (below_size blw) : w.heap.size ≤ gb398)); have n3_ := n2_; clear HB; revert n0_ n1_ n2_ n3_; intro HB BK398 GW398 GE398; clear hb hbox hg; obtain ⟨hcz15_0, hcz15_1, hcz15_2⟩ := cls3 BK398.out; obtain ⟨hfz15_0, hfz15_1, hfz15_2⟩ := frz3 BK398.out) | ((with_reducible refine gate_callee (f := 25) rfl ?_); refine goesL_ (some 4) rfl rfl Try.func25 kr rfl #[.agg #[.int .i64 a0_0, .slice A0_1 l0_1.length c0_1, .slice A0_2 l0_2.length c0_2], .int .i64 24] rfl mpw ?_; (with_reducible refine (spec_l3Left.calls k a0_0 _ _ l0_1 _ _ l0_2 24 t399 _ ?side1 ?side2 ?side3 ?side4 A2.out).mono ?_); (case side1 => have X_ := HR0_1; exact cbl); (case side2 => exact HC0_1.out); (case side3 => have X_ := HR0_2; exact cbl); (case side4 => exact HC0_2.out); rintro e w16 ⟨rfl, hb⟩; refine ⟨_, rfl, ?_⟩; have n0_ := Aside0.mk (blk_below (g := gb398) (o := .cells #[.int .i64 a0_0, .slice A0_1 l0_1.length c0_1, .slice A0_2 l0_2.length c0_2] 27 (0, 0)) bkw hb); have n1_ := Aside0.mk (below_step blw hb); clear BK398; clear HB; revert n0_ n1_; intro BK398 HB; (try clear hb); (try clear hb2); (try clear hk); (try clear hi); obtain ⟨hcz17_0, hcz17_1, hcz17_2⟩ := cls3 BK398.out; obtain ⟨hfz17_0, hfz17_1, hfz17_2⟩ := frz3 BK398.out) | (go_at_call 26; (with_reducible refine (spec_DepthOfType.calls k a0_0 _ _ l0_1 _ _ l0_2 t400 _ ?side1 ?side2 ?side3 ?side4 A4.out).mono ?_); (case side1 => have X_ := HR0_1; exact cbl); (case side2 => exact HC0_1.out); (case side3 => have X_ := HR0_2; exact cbl); (case side4 => exact HC0_2.out); rintro e w18 ⟨rfl, hb⟩; have n0_ := Aside0.mk (blk_below (g := gb398) (o := .cells #[.int .i64 a0_0, .slice A0_1 l0_1.length c0_1, .slice A0_2 l0_2.length c0_2] 27 (0, 0)) bkw hb); have n1_ := Aside0.mk (below_step blw hb); clear BK398; clear HB; revert n0_ n1_; intro BK398 HB; (try clear hb); (try clear hb2); (try clear hk); (try clear hi)))
  go_ret
  exact ⟨rfw, blw⟩
 rw [if_pos c5] at H
 have c5b0 : decide (t400 ≤ 7) = true := decide_eq_true c5
 clear c5
 replace H := Option.bind_eq_some_iff.mp H
 obtain ⟨t401, A60, H⟩ := H
 replace H : (some t401) = some r := H
 have A6 := Aside0.mk A60
 clear A60
 obtain rfl := Option.some.inj H
 go_enter Try.func10, Try.ntmps10
 go_wp2_with (first | ((with_reducible refine gate_dst (N := 1) rfl ?_); refine box_event ?hg (N := 1) ?hd (cs := #[.int .i64 a0_0, .slice A0_1 l0_1.length c0_1, .slice A0_2 l0_2.length c0_2]) (t := 27) ?hr ?_; (case hd => rfl); (case hg => rfl); (case hr => exact hrw); intro gb398 hg w7 hbox hb; have n0_ := Aside0.mk (below_step blw hb); have n1_ := Aside0.mk (hbox); have n2_ := Aside0.mk ((by rw [hg]; exact (below_size blw) : w.heap.size ≤ gb398)); have n3_ := n2_; clear HB; revert n0_ n1_ n2_ n3_; intro HB BK398 GW398 GE398; clear hb hbox hg; obtain ⟨hcz8_0, hcz8_1, hcz8_2⟩ := cls3 BK398.out; obtain ⟨hfz8_0, hfz8_1, hfz8_2⟩ := frz3 BK398.out) | ((with_reducible refine gate_callee (f := 25) rfl ?_); refine goesL_ (some 4) rfl rfl Try.func25 kr rfl #[.agg #[.int .i64 a0_0, .slice A0_1 l0_1.length c0_1, .slice A0_2 l0_2.length c0_2], .int .i64 24] rfl mpw ?_; (with_reducible refine (spec_l3Left.calls k a0_0 _ _ l0_1 _ _ l0_2 24 t399 _ ?side1 ?side2 ?side3 ?side4 A2.out).mono ?_); (case side1 => have X_ := HR0_1; exact cbl); (case side2 => exact HC0_1.out); (case side3 => have X_ := HR0_2; exact cbl); (case side4 => exact HC0_2.out); rintro e w9 ⟨rfl, hb⟩; refine ⟨_, rfl, ?_⟩; have n0_ := Aside0.mk (blk_below (g := gb398) (o := .cells #[.int .i64 a0_0, .slice A0_1 l0_1.length c0_1, .slice A0_2 l0_2.length c0_2] 27 (0, 0)) bkw hb); have n1_ := Aside0.mk (below_step blw hb); clear BK398; clear HB; revert n0_ n1_; intro BK398 HB; (try clear hb); (try clear hb2); (try clear hk); (try clear hi); obtain ⟨hcz10_0, hcz10_1, hcz10_2⟩ := cls3 BK398.out; obtain ⟨hfz10_0, hfz10_1, hfz10_2⟩ := frz3 BK398.out) | (go_at_call 26; (with_reducible refine (spec_DepthOfType.calls k a0_0 _ _ l0_1 _ _ l0_2 t400 _ ?side1 ?side2 ?side3 ?side4 A4.out).mono ?_); (case side1 => have X_ := HR0_1; exact cbl); (case side2 => exact HC0_1.out); (case side3 => have X_ := HR0_2; exact cbl); (case side4 => exact HC0_2.out); rintro e w11 ⟨rfl, hb⟩; have n0_ := Aside0.mk (blk_below (g := gb398) (o := .cells #[.int .i64 a0_0, .slice A0_1 l0_1.length c0_1, .slice A0_2 l0_2.length c0_2] 27 (0, 0)) bkw hb); have n1_ := Aside0.mk (below_step blw hb); clear BK398; clear HB; revert n0_ n1_; intro BK398 HB; (try clear hb); (try clear hb2); (try clear hk); (try clear hi); obtain ⟨hcz12_0, hcz12_1, hcz12_2⟩ := cls3 BK398.out; obtain ⟨hfz12_0, hfz12_1, hfz12_2⟩ := frz3 BK398.out) | (go_at_call 27; (with_reducible refine (spec_l3Form.calls k a0_0 _ _ l0_1 _ _ l0_2 t401 _ ?side1 ?side2 ?side3 ?side4 A6.out).mono ?_); (case side1 => have X_ := HR0_1; exact cbl); (case side2 => exact HC0_1.out); (case side3 => have X_ := HR0_2; exact cbl); (case side4 => exact HC0_2.out); rintro e w13 ⟨rfl, hb⟩; have n0_ := Aside0.mk (blk_below (g := gb398) (o := .cells #[.int .i64 a0_0, .slice A0_1 l0_1.length c0_1, .slice A0_2 l0_2.length c0_2] 27 (0, 0)) bkw hb); have n1_ := Aside0.mk (below_step blw hb); clear BK398; clear HB; revert n0_ n1_; intro BK398 HB; (try clear hb); (try clear hb2); (try clear hk); (try clear hi)))
 go_ret
 exact ⟨rfw, blw⟩

/-! ### impl_IsData: function 11 -/
def impl_IsData.f (k : Nat) (a0_0 : Int) (l0_1 : List ByteArray) (l0_2 : List (S27)) : Option (Bool) := (impl_typeForm.f k a0_0 l0_1 l0_2 true 1).bind fun t403 => (if t403 = true then ((impl_SizeOfType.f k a0_0 l0_1 l0_2).bind fun t404 => (some (decide (t404 ≤ 24)))) else (some false))
theorem impl_IsData.calls (k : Nat) (a0_0 : Int) (A0_1 : Option Addr) (c0_1 : Nat) (l0_1 : List ByteArray) (A0_2 : Option Addr) (c0_2 : Nat) (l0_2 : List (S27)) (r : Bool) (w : World) (hr0_1 : Kd.C Kd.string w A0_1 l0_1.length l0_1) (hc0_1 : l0_1.length ≤ c0_1) (hr0_2 : Kd.C k27 w A0_2 l0_2.length l0_2) (hc0_2 : l0_2.length ≤ c0_2) (h : impl_IsData.f k a0_0 l0_1 l0_2 = some r) :
  Calls Try.prog 11 #[.agg #[.int .i64 a0_0, .slice A0_1 l0_1.length c0_1, .slice A0_2 l0_2.length c0_2]] w fun e w' => e = .returned (.bool r) ∧ Below w.heap.size w w' := by
 have hu27 := Try.underlying27
 have HR0_1 := Aside0.mk hr0_1
 have HC0_1 := Aside0.mk hc0_1
 clear hr0_1 hc0_1
 have HR0_2 := Aside0.mk hr0_2
 have HC0_2 := Aside0.mk hc0_2
 clear hr0_2 hc0_2
 have HB := Aside0.mk (Below.refl w.heap.size w)
 have H : ((impl_typeForm.f k a0_0 l0_1 l0_2 true 1).bind fun t403 => (if t403 = true then ((impl_SizeOfType.f k a0_0 l0_1 l0_2).bind fun t404 => (some (decide (t404 ≤ 24)))) else (some false))) = some r := h
 clear h
 replace H := Option.bind_eq_some_iff.mp H
 obtain ⟨t403, A20, H⟩ := H
 replace H : (if t403 = true then ((impl_SizeOfType.f k a0_0 l0_1 l0_2).bind fun t404 => (some (decide (t404 ≤ 24)))) else (some false)) = some r := H
 have A2 := Aside0.mk A20
 clear A20
 by_cases c3 : t403 = true
 case neg =>
  replace c3 := Bool.eq_false_iff.mpr c3
  subst c3
  have H1 : (some false) = some r := by rw [if_neg (show ¬ (false = true) by decide)] at H; exact H
  clear H
  have H := H1
  clear H1
  obtain rfl := Option.some.inj H
  go_enter Try.func11, Try.ntmps11
  go_wp2_with (first | ((with_reducible refine gate_dst (N := 1) rfl ?_); refine box_event ?hg (N := 1) ?hd (cs := #[.int .i64 a0_0, .slice A0_1 l0_1.length c0_1, .slice A0_2 l0_2.length c0_2]) (t := 27) ?hr ?_; (case hd => rfl); (case hg => rfl); (case hr => exact hrw); intro gb402 hg w9 hbox hb; have n0_ := Aside0.mk (below_step blw hb); have n1_ := Aside0.mk (hbox); have n2_ := Aside0.mk ((by rw [hg]; exact (below_size blw) : w.heap.size ≤ gb402)); have n3_ := n2_; clear HB; revert n0_ n1_ n2_ n3_; intro HB BK402 GW402 GE402; clear hb hbox hg) | ((with_reducible refine gate_callee (f := 24) rfl ?_); refine goesL_ (some 3) rfl rfl Try.func24 kr rfl #[.pointer (some ⟨gb402, 0, none⟩), .bool true, .int .i64 1] rfl mpw ?_; (with_reducible refine (impl_typeForm.calls k ⟨gb402, 0, none⟩ a0_0 A0_1 c0_1 l0_1 A0_2 c0_2 l0_2 true 1 false _ ?side1 ?side2 ?side3 ?side4 ?side5 A2.out).mono ?_); (case side1 => exact Cells_blk bkw); (case side2 => have X_ := HR0_1; exact cbl); (case side3 => exact HC0_1.out); (case side4 => have X_ := HR0_2; exact cbl); (case side5 => exact HC0_2.out); rintro e w10 ⟨rfl, hb⟩; refine ⟨_, rfl, ?_⟩; have n0_ := Aside0.mk (blk_below (g := gb402) (o := .cells #[.int .i64 a0_0, .slice A0_1 l0_1.length c0_1, .slice A0_2 l0_2.length c0_2] 27 (0, 0)) bkw hb); have n1_ := Aside0.mk (below_step blw hb); clear BK402; clear HB; revert n0_ n1_; intro BK402 HB; (try clear hb); (try clear hb2); (try clear hk); (try clear hi)))
  go_ret
  exact ⟨rfw, blw⟩
 subst c3
 have H1 : ((impl_SizeOfType.f k a0_0 l0_1 l0_2).bind fun t404 => (some (decide (t404 ≤ 24)))) = some r := by rw [if_pos rfl] at H; exact H
 clear H
 have H := H1
 clear H1
 replace H := Option.bind_eq_some_iff.mp H
 obtain ⟨t404, A40, H⟩ := H
 replace H : (some (decide (t404 ≤ 24))) = some r := H
 have A4 := Aside0.mk A40
 clear A40
 obtain rfl := Option.some.inj H
 go_enter Try.func11, Try.ntmps11
 go_wp2_with (first | ((with_reducible refine gate_dst (N := 1) rfl ?_); refine box_event ?hg (N := 1) ?hd (cs := #[.int .i64 a0_0, .slice A0_1 l0_1.length c0_1, .slice A0_2 l0_2.length c0_2]) (t := 27) ?hr ?_; (case hd => rfl); (case hg => rfl); (case hr => exact hrw); intro gb402 hg w5 hbox hb; have n0_ := Aside0.mk (below_step blw hb); have n1_ := Aside0.mk (hbox); have n2_ := Aside0.mk ((by rw [hg]; exact (below_size blw) : w.heap.size ≤ gb402)); have n3_ := n2_; clear HB; revert n0_ n1_ n2_ n3_; intro HB BK402 GW402 GE402; clear hb hbox hg) | ((with_reducible refine gate_callee (f := 24) rfl ?_); refine goesL_ (some 3) rfl rfl Try.func24 kr rfl #[.pointer (some ⟨gb402, 0, none⟩), .bool true, .int .i64 1] rfl mpw ?_; (with_reducible refine (impl_typeForm.calls k ⟨gb402, 0, none⟩ a0_0 A0_1 c0_1 l0_1 A0_2 c0_2 l0_2 true 1 true _ ?side1 ?side2 ?side3 ?side4 ?side5 A2.out).mono ?_); (case side1 => exact Cells_blk bkw); (case side2 => have X_ := HR0_1; exact cbl); (case side3 => exact HC0_1.out); (case side4 => have X_ := HR0_2; exact cbl); (case side5 => exact HC0_2.out); rintro e w6 ⟨rfl, hb⟩; refine ⟨_, rfl, ?_⟩; have n0_ := Aside0.mk (blk_below (g := gb402) (o := .cells #[.int .i64 a0_0, .slice A0_1 l0_1.length c0_1, .slice A0_2 l0_2.length c0_2] 27 (0, 0)) bkw hb); have n1_ := Aside0.mk (below_step blw hb); clear BK402; clear HB; revert n0_ n1_; intro BK402 HB; (try clear hb); (try clear hb2); (try clear hk); (try clear hi); obtain ⟨hcz7_0, hcz7_1, hcz7_2⟩ := cls3 BK402.out; obtain ⟨hfz7_0, hfz7_1, hfz7_2⟩ := frz3 BK402.out) | (go_at_call 6; (with_reducible refine (impl_SizeOfType.calls k a0_0 _ _ l0_1 _ _ l0_2 t404 _ ?side1 ?side2 ?side3 ?side4 A4.out).mono ?_); (case side1 => have X_ := HR0_1; exact cbl); (case side2 => exact HC0_1.out); (case side3 => have X_ := HR0_2; exact cbl); (case side4 => exact HC0_2.out); rintro e w8 ⟨rfl, hb⟩; have n0_ := Aside0.mk (blk_below (g := gb402) (o := .cells #[.int .i64 a0_0, .slice A0_1 l0_1.length c0_1, .slice A0_2 l0_2.length c0_2] 27 (0, 0)) bkw hb); have n1_ := Aside0.mk (below_step blw hb); clear BK402; clear HB; revert n0_ n1_; intro BK402 HB; (try clear hb); (try clear hb2); (try clear hk); (try clear hi)))
 go_ret
 exact ⟨rfw, blw⟩

/-! ### spec_IsData: function 12 -/
def spec_IsData.f (k : Nat) (a0_0 : Int) (l0_1 : List ByteArray) (l0_2 : List (S27)) : Option (Bool) := (spec_IsValidType.f k a0_0 l0_1 l0_2).bind fun t406 => (if t406 = true then ((spec_l3Has.f k a0_0 l0_1 l0_2 5).bind fun t407 => (some (!t407))) else (some false))
theorem spec_IsData.calls (k : Nat) (a0_0 : Int) (A0_1 : Option Addr) (c0_1 : Nat) (l0_1 : List ByteArray) (A0_2 : Option Addr) (c0_2 : Nat) (l0_2 : List (S27)) (r : Bool) (w : World) (hr0_1 : Kd.C Kd.string w A0_1 l0_1.length l0_1) (hc0_1 : l0_1.length ≤ c0_1) (hr0_2 : Kd.C k27 w A0_2 l0_2.length l0_2) (hc0_2 : l0_2.length ≤ c0_2) (h : spec_IsData.f k a0_0 l0_1 l0_2 = some r) :
  Calls Try.prog 12 #[.agg #[.int .i64 a0_0, .slice A0_1 l0_1.length c0_1, .slice A0_2 l0_2.length c0_2]] w fun e w' => e = .returned (.bool r) ∧ Below w.heap.size w w' := by
 have hu27 := Try.underlying27
 have HR0_1 := Aside0.mk hr0_1
 have HC0_1 := Aside0.mk hc0_1
 clear hr0_1 hc0_1
 have HR0_2 := Aside0.mk hr0_2
 have HC0_2 := Aside0.mk hc0_2
 clear hr0_2 hc0_2
 have HB := Aside0.mk (Below.refl w.heap.size w)
 have H : ((spec_IsValidType.f k a0_0 l0_1 l0_2).bind fun t406 => (if t406 = true then ((spec_l3Has.f k a0_0 l0_1 l0_2 5).bind fun t407 => (some (!t407))) else (some false))) = some r := h
 clear h
 replace H := Option.bind_eq_some_iff.mp H
 obtain ⟨t406, A20, H⟩ := H
 replace H : (if t406 = true then ((spec_l3Has.f k a0_0 l0_1 l0_2 5).bind fun t407 => (some (!t407))) else (some false)) = some r := H
 have A2 := Aside0.mk A20
 clear A20
 by_cases c3 : t406 = true
 case neg =>
  replace c3 := Bool.eq_false_iff.mpr c3
  subst c3
  have H1 : (some false) = some r := by rw [if_neg (show ¬ (false = true) by decide)] at H; exact H
  clear H
  have H := H1
  clear H1
  obtain rfl := Option.some.inj H
  go_enter Try.func12, Try.ntmps12
  go_wp2_with (first | ((with_reducible refine gate_dst (N := 1) rfl ?_); refine box_event ?hg (N := 1) ?hd (cs := #[.int .i64 a0_0, .slice A0_1 l0_1.length c0_1, .slice A0_2 l0_2.length c0_2]) (t := 27) ?hr ?_; (case hd => rfl); (case hg => rfl); (case hr => exact hrw); intro gb405 hg w10 hbox hb; have n0_ := Aside0.mk (below_step blw hb); have n1_ := Aside0.mk (hbox); have n2_ := Aside0.mk ((by rw [hg]; exact (below_size blw) : w.heap.size ≤ gb405)); have n3_ := n2_; clear HB; revert n0_ n1_ n2_ n3_; intro HB BK405 GW405 GE405; clear hb hbox hg; obtain ⟨hcz11_0, hcz11_1, hcz11_2⟩ := cls3 BK405.out; obtain ⟨hfz11_0, hfz11_1, hfz11_2⟩ := frz3 BK405.out) | ((with_reducible refine gate_callee (f := 10) rfl ?_); refine goesL_ (some 4) rfl rfl Try.func10 kr rfl #[.agg #[.int .i64 a0_0, .slice A0_1 l0_1.length c0_1, .slice A0_2 l0_2.length c0_2]] rfl mpw ?_; (with_reducible refine (spec_IsValidType.calls k a0_0 _ _ l0_1 _ _ l0_2 false _ ?side1 ?side2 ?side3 ?side4 A2.out).mono ?_); (case side1 => have X_ := HR0_1; exact cbl); (case side2 => exact HC0_1.out); (case side3 => have X_ := HR0_2; exact cbl); (case side4 => exact HC0_2.out); rintro e w12 ⟨rfl, hb⟩; refine ⟨_, rfl, ?_⟩; have n0_ := Aside0.mk (blk_below (g := gb405) (o := .cells #[.int .i64 a0_0, .slice A0_1 l0_1.length c0_1, .slice A0_2 l0_2.length c0_2] 27 (0, 0)) bkw hb); have n1_ := Aside0.mk (below_step blw hb); clear BK405; clear HB; revert n0_ n1_; intro BK405 HB; (try clear hb); (try clear hb2); (try clear hk); (try clear hi)))
  go_ret
  exact ⟨rfw, blw⟩
 subst c3
 have H1 : ((spec_l3Has.f k a0_0 l0_1 l0_2 5).bind fun t407 => (some (!t407))) = some r := by rw [if_pos rfl] at H; exact H
 clear H
 have H := H1
 clear H1
 replace H := Option.bind_eq_some_iff.mp H
 obtain ⟨t407, A40, H⟩ := H
 replace H : (some (!t407)) = some r := H
 have A4 := Aside0.mk A40
 clear A40
 obtain rfl := Option.some.inj H
 go_enter Try.func12, Try.ntmps12
 go_wp2_with (first | ((with_reducible refine gate_dst (N := 1) rfl ?_); refine box_event ?hg (N := 1) ?hd (cs := #[.int .i64 a0_0, .slice A0_1 l0_1.length c0_1, .slice A0_2 l0_2.length c0_2]) (t := 27) ?hr ?_; (case hd => rfl); (case hg => rfl); (case hr => exact hrw); intro gb405 hg w5 hbox hb; have n0_ := Aside0.mk (below_step blw hb); have n1_ := Aside0.mk (hbox); have n2_ := Aside0.mk ((by rw [hg]; exact (below_size blw) : w.heap.size ≤ gb405)); have n3_ := n2_; clear HB; revert n0_ n1_ n2_ n3_; intro HB BK405 GW405 GE405; clear hb hbox hg; obtain ⟨hcz6_0, hcz6_1, hcz6_2⟩ := cls3 BK405.out; obtain ⟨hfz6_0, hfz6_1, hfz6_2⟩ := frz3 BK405.out) | ((with_reducible refine gate_callee (f := 10) rfl ?_); refine goesL_ (some 4) rfl rfl Try.func10 kr rfl #[.agg #[.int .i64 a0_0, .slice A0_1 l0_1.length c0_1, .slice A0_2 l0_2.length c0_2]] rfl mpw ?_; (with_reducible refine (spec_IsValidType.calls k a0_0 _ _ l0_1 _ _ l0_2 true _ ?side1 ?side2 ?side3 ?side4 A2.out).mono ?_); (case side1 => have X_ := HR0_1; exact cbl); (case side2 => exact HC0_1.out); (case side3 => have X_ := HR0_2; exact cbl); (case side4 => exact HC0_2.out); rintro e w7 ⟨rfl, hb⟩; refine ⟨_, rfl, ?_⟩; have n0_ := Aside0.mk (blk_below (g := gb405) (o := .cells #[.int .i64 a0_0, .slice A0_1 l0_1.length c0_1, .slice A0_2 l0_2.length c0_2] 27 (0, 0)) bkw hb); have n1_ := Aside0.mk (below_step blw hb); clear BK405; clear HB; revert n0_ n1_; intro BK405 HB; (try clear hb); (try clear hb2); (try clear hk); (try clear hi); obtain ⟨hcz8_0, hcz8_1, hcz8_2⟩ := cls3 BK405.out; obtain ⟨hfz8_0, hfz8_1, hfz8_2⟩ := frz3 BK405.out) | (go_at_call 28; (with_reducible refine (spec_l3Has.calls k a0_0 _ _ l0_1 _ _ l0_2 5 t407 _ ?side1 ?side2 ?side3 ?side4 A4.out).mono ?_); (case side1 => have X_ := HR0_1; exact cbl); (case side2 => exact HC0_1.out); (case side3 => have X_ := HR0_2; exact cbl); (case side4 => exact HC0_2.out); rintro e w9 ⟨rfl, hb⟩; have n0_ := Aside0.mk (blk_below (g := gb405) (o := .cells #[.int .i64 a0_0, .slice A0_1 l0_1.length c0_1, .slice A0_2 l0_2.length c0_2] 27 (0, 0)) bkw hb); have n1_ := Aside0.mk (below_step blw hb); clear BK405; clear HB; revert n0_ n1_; intro BK405 HB; (try clear hb); (try clear hb2); (try clear hk); (try clear hi)))
 go_ret
 exact ⟨rfw, blw⟩

/-! ### spec_DrawIsRow: function 13 -/
def spec_DrawIsRow.f (k : Nat) (l0 : List Int) : Option (Int × List ByteArray × (List (S27))) := (spec_l1New.f k l0).bind fun bt409 => ((spec_l1Once.f bt409.1 bt409.2.1 bt409.2.2 2).bind fun bt413 => (if bt413.1 = true then ((spec_l3Draw.f k bt409.1 bt413.2.1 bt413.2.2 1).bind fun bt419 => ((spec_l3Draw.f k bt409.1 bt419.2.2.2.1 bt419.2.2.2.2 2).bind fun bt428 => ((spec_l3Rec.f k (([(⟨#[97]⟩ : ByteArray), (⟨#[98]⟩ : ByteArray)] : List ByteArray)) (([(⟨bt419.1, bt419.2.1, bt419.2.2.1⟩ : S27), (⟨bt428.1, bt428.2.1, bt428.2.2.1⟩ : S27)] : List (S27)))).bind fun bt440 => (some (bt440.1, bt440.2.1, bt440.2.2))))) else ((spec_l3Bent.f k bt409.1 bt413.2.1 bt413.2.2).bind fun bt447 => (some (bt447.1, bt447.2.1, bt447.2.2.1)))))
theorem spec_DrawIsRow.calls (k : Nat) (A0 : Option Addr) (c0 : Nat) (l0 : List Int) (r1 : Int) (r2 : List ByteArray) (r3 : List (S27)) (w : World) (hr0 : Kd.C (Kd.int .u8) w A0 l0.length l0) (hc0 : l0.length ≤ c0) (h : spec_DrawIsRow.f k l0 = some (r1, r2, r3)) :
  Calls Try.prog 13 #[.slice A0 l0.length c0] w fun e w' => ∃ v1_ v2_ : Value, e = .returned (.agg #[.int .i64 r1, v1_, v2_]) ∧ Kd.R Kd.string 9 w' w.heap.size (fun k_ => (w.heap.size ≤ k_)) v1_ r2 ∧ Kd.N k27 27 w' w.heap.size (fun k_ => (w.heap.size ≤ k_) ∧ some k_ ≠ (v1_ : Value).ownBlock) v2_ r3 ∧ Below w.heap.size w w' := by
 have hu27 := Try.underlying27
 have HR0 := Aside0.mk hr0
 have HC0 := Aside0.mk hc0
 clear hr0 hc0
 have HB := Aside0.mk (Below.refl w.heap.size w)
 have H : ((spec_l1New.f k l0).bind fun bt409 => ((spec_l1Once.f bt409.1 bt409.2.1 bt409.2.2 2).bind fun bt413 => (if bt413.1 = true then ((spec_l3Draw.f k bt409.1 bt413.2.1 bt413.2.2 1).bind fun bt419 => ((spec_l3Draw.f k bt409.1 bt419.2.2.2.1 bt419.2.2.2.2 2).bind fun bt428 => ((spec_l3Rec.f k (([(⟨#[97]⟩ : ByteArray), (⟨#[98]⟩ : ByteArray)] : List ByteArray)) (([(⟨bt419.1, bt419.2.1, bt419.2.2.1⟩ : S27), (⟨bt428.1, bt428.2.1, bt428.2.2.1⟩ : S27)] : List (S27)))).bind fun bt440 => (some (bt440.1, bt440.2.1, bt440.2.2))))) else ((spec_l3Bent.f k bt409.1 bt413.2.1 bt413.2.2).bind fun bt447 => (some (bt447.1, bt447.2.1, bt447.2.2.1)))))) = some (r1, r2, r3) := h
 clear h
 replace H := Option.bind_eq_some_iff.mp H
 obtain ⟨⟨t409, t410, t411⟩, A20, H⟩ := H
 replace H : ((spec_l1Once.f t409 t410 t411 2).bind fun bt413 => (if bt413.1 = true then ((spec_l3Draw.f k t409 bt413.2.1 bt413.2.2 1).bind fun bt419 => ((spec_l3Draw.f k t409 bt419.2.2.2.1 bt419.2.2.2.2 2).bind fun bt428 => ((spec_l3Rec.f k (([(⟨#[97]⟩ : ByteArray), (⟨#[98]⟩ : ByteArray)] : List ByteArray)) (([(⟨bt419.1, bt419.2.1, bt419.2.2.1⟩ : S27), (⟨bt428.1, bt428.2.1, bt428.2.2.1⟩ : S27)] : List (S27)))).bind fun bt440 => (some (bt440.1, bt440.2.1, bt440.2.2))))) else ((spec_l3Bent.f k t409 bt413.2.1 bt413.2.2).bind fun bt447 => (some (bt447.1, bt447.2.1, bt447.2.2.1))))) = some (r1, r2, r3) := H
 have A2 := Aside0.mk A20
 clear A20
 replace H := Option.bind_eq_some_iff.mp H
 obtain ⟨⟨t413, t414, t415⟩, A30, H⟩ := H
 replace H : (if t413 = true then ((spec_l3Draw.f k t409 t414 t415 1).bind fun bt419 => ((spec_l3Draw.f k t409 bt419.2.2.2.1 bt419.2.2.2.2 2).bind fun bt428 => ((spec_l3Rec.f k (([(⟨#[97]⟩ : ByteArray), (⟨#[98]⟩ : ByteArray)] : List ByteArray)) (([(⟨bt419.1, bt419.2.1, bt419.2.2.1⟩ : S27), (⟨bt428.1, bt428.2.1, bt428.2.2.1⟩ : S27)] : List (S27)))).bind fun bt440 => (some (bt440.1, bt440.2.1, bt440.2.2))))) else ((spec_l3Bent.f k t409 t414 t415).bind fun bt447 => (some (bt447.1, bt447.2.1, bt447.2.2.1)))) = some (r1, r2, r3) := H
 have A3 := Aside0.mk A30
 clear A30
 have HC4 := Aside0.mk H
 clear H
 go_enter Try.func13, Try.ntmps13
 go_upto_if 7 with (first | ((with_reducible refine gate_dst (N := 2) rfl ?_); refine box_event ?hg (N := 2) ?hd (cs := #[.int .i64 0, .slice none 0 0, .slice none 0 0]) (t := 27) ?hr ?_; (case hd => rfl); (case hg => rfl); (case hr => exact hrw); intro gb408 hg w5 hbox hb; have n0_ := Aside0.mk (below_step blw hb); have n1_ := Aside0.mk (hbox); have n2_ := Aside0.mk ((by rw [hg]; exact (below_size blw) : w.heap.size ≤ gb408)); have n3_ := n2_; clear HB; revert n0_ n1_ n2_ n3_; intro HB BK408 GW408 GE408; clear hb hbox hg) | ((with_reducible refine gate_callee (f := 23) rfl ?_); refine goesL_ (some 5) rfl rfl Try.func23 kr rfl #[.slice A0 l0.length c0] rfl mpw ?_; (with_reducible refine (spec_l1New.calls k _ _ l0 t409 t410 t411 w _ ?side1 ?side2 ?side3 A2.out).mono ?_); (case side1 => repeat (first | (with_reducible first | exact HB.out | apply below_alloc | apply pw_below_drewN | apply below_drew1 | refine below_set ?_ GE408.out) | exact HB.out)); (case side2 => exact HR0.out); (case side3 => exact HC0.out); rintro e w6 ⟨g412, rfl, hi, hb, hb2⟩; refine ⟨_, rfl, ?_⟩; have n0_ := Aside0.mk (blk_below (g := gb408) (o := .cells #[.int .i64 0, .slice none 0 0, .slice none 0 0] 27 (0, 0)) bkw hb2); have n1_ := Aside0.mk (hb); have n2_ := Aside0.mk (hi); have n3_ := Aside0.mk (IsS58.ne_blk hi (blk_below (g := gb408) (o := .cells #[.int .i64 0, .slice none 0 0, .slice none 0 0] 27 (0, 0)) bkw hb2) (by decide)); have n4_ := Aside0.mk (Ne.symm (IsS58.ne_blk hi (blk_below (g := gb408) (o := .cells #[.int .i64 0, .slice none 0 0, .slice none 0 0] 27 (0, 0)) bkw hb2) (by decide))); clear BK408; clear HB; revert n0_ n1_ n2_ n3_ n4_; intro BK408 HB HI412 NB412_408 NB408_412; (try clear hb); (try clear hb2); (try clear hk); (try clear hi)) | ((with_reducible refine gate_callee (f := 29) rfl ?_); refine goesL_ (some 7) rfl rfl Try.func29 kr rfl #[.pointer (some ⟨g412, 0, none⟩), .int .i64 2] rfl mpw ?_; (with_reducible refine (spec_l1Once.calls g412 t409 t410 t411 2 t413 t414 t415 w _ ?side1 ?side2 A3.out).mono ?_); (case side1 => repeat (first | (with_reducible first | exact HI412.out | apply IsS58.alloc | apply IsS58.drewN | apply IsS58.drew | apply IsS58.set_1 | apply IsS58.set_2 | refine IsS58.far ?_ NB412_408.out _) | exact HI412.out)); (case side2 => repeat (first | (with_reducible first | exact HB.out | apply below_alloc | apply pw_below_drewN | apply below_drew1 | refine below_set ?_ (IsS58.ge HI412.out) | refine below_set ?_ GE408.out) | exact HB.out)); rintro e w7 ⟨rfl, hi, hb, hk⟩; refine ⟨_, rfl, ?_⟩; have n0_ := Aside0.mk (KeepBut.blk hk (g' := gb408) (o := .cells #[.int .i64 0, .slice none 0 0, .slice none 0 0] 27 (0, 0)) bkw NB408_412.out (by simp)); have n1_ := Aside0.mk (hb); have n2_ := Aside0.mk (hi); clear BK408; clear HB; clear HI412; revert n0_ n1_ n2_; intro BK408 HB HI412; (try clear hb); (try clear hb2); (try clear hk); (try clear hi)))
 have H := HC4.out
 clear HC4
 by_cases c8 : t413 = true
 case neg =>
  replace c8 := Bool.eq_false_iff.mpr c8
  subst c8
  have H1 : ((spec_l3Bent.f k t409 t414 t415).bind fun bt447 => (some (bt447.1, bt447.2.1, bt447.2.2.1))) = some (r1, r2, r3) := by rw [if_neg (show ¬ (false = true) by decide)] at H; exact H
  clear H
  have H := H1
  clear H1
  replace H := Option.bind_eq_some_iff.mp H
  obtain ⟨⟨t447, t448, t451, t454, t455⟩, A300, H⟩ := H
  replace H : (some (t447, t448, t451)) = some (r1, r2, r3) := H
  have A30 := Aside0.mk A300
  clear A300
  simp only [Option.some.injEq, Prod.mk.injEq] at H
  obtain ⟨rfl, rfl, rfl⟩ := H
  go_wp2_with (first | ((with_reducible refine gate_callee (f := 22) rfl ?_); refine goesL_ (some 16) rfl rfl Try.func22 kr rfl #[.pointer (some ⟨g412, 0, none⟩)] rfl mpw ?_; (with_reducible refine (spec_l3Bent.calls k g412 t409 t414 t415 t447 t448 t451 t454 t455 w _ ?side1 ?side2 A30.out).mono ?_); (case side1 => repeat (first | (with_reducible first | exact HI412.out | apply IsS58.alloc | apply IsS58.drewN | apply IsS58.drew | apply IsS58.set_1 | apply IsS58.set_2 | refine IsS58.far ?_ NB412_408.out _) | exact HI412.out)); (case side2 => repeat (first | (with_reducible first | exact HB.out | apply below_alloc | apply pw_below_drewN | apply below_drew1 | refine below_set ?_ (IsS58.ge HI412.out) | refine below_set ?_ GE408.out) | exact HB.out)); rintro e w31 ⟨v449, v452, rfl, ho0, ho1, hi, hb, hk⟩; refine ⟨_, rfl, ?_⟩; have n0_ := Aside0.mk (KeepBut.blk hk (g' := gb408) (o := .cells #[.int .i64 0, .slice none 0 0, .slice none 0 0] 27 (0, 0)) bkw NB408_412.out (by simp)); have n1_ := Aside0.mk (Kd.R_lower (Kd.R_newM (M := fun k_ => (w.heap.size ≤ k_)) (Kd.R_mono (ok' := fun k_ => True) ho0 (fun _ hk_ => trivial)) (below_size (by repeat (first | (with_reducible first | exact HB.out | apply below_alloc | apply pw_below_drewN | apply below_drew1 | refine below_set ?_ (IsS58.ge HI412.out) | refine below_set ?_ GE408.out) | exact HB.out))) (fun k_ h_ => h_)) (below_size (by repeat (first | (with_reducible first | exact HB.out | apply below_alloc | apply pw_below_drewN | apply below_drew1 | refine below_set ?_ (IsS58.ge HI412.out) | refine below_set ?_ GE408.out) | exact HB.out)))); have n2_ := Aside0.mk (Kd.N_lower (Kd.N_mono (ok' := fun k_ => (w.heap.size ≤ k_) ∧ some k_ ≠ (v449 : Value).ownBlock ∧ k_ ≠ gb408 ∧ k_ ≠ g412) ho1 (fun k_ hk_ => ⟨(Nat.le_trans (below_size (by repeat (first | (with_reducible first | exact HB.out | apply below_alloc | apply pw_below_drewN | apply below_drew1 | refine below_set ?_ (IsS58.ge HI412.out) | refine below_set ?_ GE408.out) | exact HB.out))) hk_.1), hk_.2, (Kd.freshB (g := gb408) (o := .cells #[.int .i64 0, .slice none 0 0, .slice none 0 0] 27 (0, 0)) bkw k_ hk_.1), (IsS58.fresh (by repeat (first | (with_reducible first | exact HI412.out | apply IsS58.alloc | apply IsS58.drewN | apply IsS58.drew | apply IsS58.set_1 | apply IsS58.set_2 | refine IsS58.far ?_ NB412_408.out _) | exact HI412.out)) k_ hk_.1)⟩)) (below_size (by repeat (first | (with_reducible first | exact HB.out | apply below_alloc | apply pw_below_drewN | apply below_drew1 | refine below_set ?_ (IsS58.ge HI412.out) | refine below_set ?_ GE408.out) | exact HB.out)))); have n3_ := Aside0.mk (hb); have n4_ := Aside0.mk (hi); clear BK408; clear HB; clear HI412; revert n0_ n1_ n2_ n3_ n4_; intro BK408 HO450 HO453 HB HI412; (try clear hb); (try clear hb2); (try clear hk); (try clear hi); (try clear ho0); (try clear ho1); have hnb32 := NB408_412.out; have hnc32 := NB412_408.out; obtain ⟨hcz33_0, hcz33_1, hcz33_2⟩ := cls3 BK408.out; obtain ⟨hfz33_0, hfz33_1, hfz33_2⟩ := frz3 BK408.out; obtain ⟨Ao34, co34, eo34⟩ := Kd.R_slice HO450.out; subst eo34; obtain ⟨Ao35, co35, eo35⟩ := Kd.N_slice HO453.out; subst eo35))
  refine bodyPost_ret (results_cell_row rfl _ _ gb408 27 #[.int .i64 t447, .slice Ao34 t448.length co34, .slice Ao35 t451.length co35] (0, 0) _ rfl (by (with_reducible repeat (first | refine blk_drewN ?_ _ | refine blk_drew ?_ | refine blk_alloc ?_ _)); refine blk_put (cs := #[.int .i64 t447, .slice Ao34 t448.length co34, .slice none 0 0]) ?_ 2 _ rfl; (with_reducible repeat (first | refine blk_drewN ?_ _ | refine blk_drew ?_ | refine blk_alloc ?_ _)); refine blk_put (cs := #[.int .i64 t447, .slice none 0 0, .slice none 0 0]) ?_ 1 _ rfl; (with_reducible repeat (first | refine blk_drewN ?_ _ | refine blk_drew ?_ | refine blk_alloc ?_ _)); refine blk_put (cs := #[.int .i64 0, .slice none 0 0, .slice none 0 0]) ?_ 0 _ rfl; (with_reducible repeat (first | refine blk_drewN ?_ _ | refine blk_drew ?_ | refine blk_alloc ?_ _)); exact BK408.out) Try.underlying27 rfl kr) rfl ?_
  exact ⟨_, _, rfw, by (with_reducible repeat (first | apply Kd.R_alloc | apply Kd.R_drewN | apply Kd.R_drew)); exact Kd.R_mono (Kd.R_far (p := ⟨gb408, 2, none⟩) (Kd.R_far (p := ⟨gb408, 1, none⟩) (Kd.R_far (p := ⟨gb408, 0, none⟩) (Kd.R_types HO450.out BK408.out (by decide)) (fun _ hk => hk.2) (.int .i64 t447)) (fun _ hk => hk.2) (.slice Ao34 t448.length co34)) (fun _ hk => hk.2) (.slice Ao35 t451.length co35)) (fun _ hk => hk.1.1), by (with_reducible repeat (first | apply Kd.N_alloc | apply Kd.N_drewN | apply Kd.N_drew)); exact Kd.N_mono (Kd.N_far (p := ⟨gb408, 2, none⟩) (Kd.N_far (p := ⟨gb408, 1, none⟩) (Kd.N_far (p := ⟨gb408, 0, none⟩) (Kd.N_mono HO453.out (fun k_ hk => (⟨hk, hk.2.2.1⟩ : _ ∧ k_ ≠ gb408))) (fun _ hk => hk.2) (.int .i64 t447)) (fun _ hk => hk.2) (.slice Ao34 t448.length co34)) (fun _ hk => hk.2) (.slice Ao35 t451.length co35)) (fun _ hk => ⟨hk.1.1, hk.1.2.1⟩), by repeat (first | (with_reducible first | exact HB.out | apply below_alloc | apply pw_below_drewN | apply below_drew1 | refine below_set ?_ (IsS58.ge HI412.out) | refine below_set ?_ GE408.out) | exact HB.out)⟩
 subst c8
 have H1 : ((spec_l3Draw.f k t409 t414 t415 1).bind fun bt419 => ((spec_l3Draw.f k t409 bt419.2.2.2.1 bt419.2.2.2.2 2).bind fun bt428 => ((spec_l3Rec.f k (([(⟨#[97]⟩ : ByteArray), (⟨#[98]⟩ : ByteArray)] : List ByteArray)) (([(⟨bt419.1, bt419.2.1, bt419.2.2.1⟩ : S27), (⟨bt428.1, bt428.2.1, bt428.2.2.1⟩ : S27)] : List (S27)))).bind fun bt440 => (some (bt440.1, bt440.2.1, bt440.2.2))))) = some (r1, r2, r3) := by rw [if_pos rfl] at H; exact H
 clear H
 have H := H1
 clear H1
 obtain ⟨y416, hy416⟩ : ∃ y_ : List ByteArray, y_ = (([(⟨#[97]⟩ : ByteArray), (⟨#[98]⟩ : ByteArray)] : List ByteArray)) := ⟨_, rfl⟩
 replace H : ((spec_l3Draw.f k t409 t414 t415 1).bind fun bt419 => ((spec_l3Draw.f k t409 bt419.2.2.2.1 bt419.2.2.2.2 2).bind fun bt428 => ((spec_l3Rec.f k y416 (([(⟨bt419.1, bt419.2.1, bt419.2.2.1⟩ : S27), (⟨bt428.1, bt428.2.1, bt428.2.2.1⟩ : S27)] : List (S27)))).bind fun bt440 => (some (bt440.1, bt440.2.1, bt440.2.2))))) = some (r1, r2, r3) := by first | (rw [hy416]; with_reducible exact H) | (have H2_ := (Option.bind_some _ _).symm.trans H; rw [hy416]; with_reducible exact H2_) | (have H2_ := (Option.bind_some _ _).symm.trans H; with_reducible exact H2_) | with_reducible exact H | (rw [hy416]; exact H) | exact H
 have Ny416 := Aside0.mk hy416
 clear hy416
 replace H := Option.bind_eq_some_iff.mp H
 obtain ⟨⟨t419, t420, t423, t426, t427⟩, A90, H⟩ := H
 replace H : ((spec_l3Draw.f k t409 t426 t427 2).bind fun bt428 => ((spec_l3Rec.f k y416 (([(⟨t419, t420, t423⟩ : S27), (⟨bt428.1, bt428.2.1, bt428.2.2.1⟩ : S27)] : List (S27)))).bind fun bt440 => (some (bt440.1, bt440.2.1, bt440.2.2)))) = some (r1, r2, r3) := H
 have A9 := Aside0.mk A90
 clear A90
 replace H := Option.bind_eq_some_iff.mp H
 obtain ⟨⟨t428, t429, t432, t435, t436⟩, A100, H⟩ := H
 replace H : ((spec_l3Rec.f k y416 (([(⟨t419, t420, t423⟩ : S27), (⟨t428, t429, t432⟩ : S27)] : List (S27)))).bind fun bt440 => (some (bt440.1, bt440.2.1, bt440.2.2))) = some (r1, r2, r3) := H
 have A10 := Aside0.mk A100
 clear A100
 obtain ⟨y437, hy437⟩ : ∃ y_ : List (S27), y_ = (([(⟨t419, t420, t423⟩ : S27), (⟨t428, t429, t432⟩ : S27)] : List (S27))) := ⟨_, rfl⟩
 replace H : ((spec_l3Rec.f k y416 y437).bind fun bt440 => (some (bt440.1, bt440.2.1, bt440.2.2))) = some (r1, r2, r3) := by first | (rw [hy437]; with_reducible exact H) | (have H2_ := (Option.bind_some _ _).symm.trans H; rw [hy437]; with_reducible exact H2_) | (have H2_ := (Option.bind_some _ _).symm.trans H; with_reducible exact H2_) | with_reducible exact H | (rw [hy437]; exact H) | exact H
 have Ny437 := Aside0.mk hy437
 clear hy437
 replace H := Option.bind_eq_some_iff.mp H
 obtain ⟨⟨t440, t441, t444⟩, A110, H⟩ := H
 replace H : (some (t440, t441, t444)) = some (r1, r2, r3) := H
 have A11 := Aside0.mk A110
 clear A110
 simp only [Option.some.injEq, Prod.mk.injEq] at H
 obtain ⟨rfl, rfl, rfl⟩ := H
 go_wp2_with (first | ((with_reducible refine gate_dst (N := 8) rfl ?_); refine Kd.R_lit Kd.string _ 9 ?hg (N := 8) ?hd (xs := ([(⟨#[97]⟩ : ByteArray), (⟨#[98]⟩ : ByteArray)] : List ByteArray)) (inner := [.string (⟨#[97]⟩ : ByteArray), .string (⟨#[98]⟩ : ByteArray)]) (ok := fun _ => True) (okp := fun _ => True) ?hr ?hp (fun _ hk => hk) trivial (Below.refl _ _) (Nat.le_refl _) (by simp) ?_; (case hd => rfl); (case hg => rfl); (case hr => exact hrw); (case hp => exact (Reps.one (show Kd.M Kd.string _ _ _ (⟨#[97]⟩ : ByteArray) [.string (⟨#[97]⟩ : ByteArray)] from rfl) (Reps.one (show Kd.M Kd.string _ _ _ (⟨#[98]⟩ : ByteArray) [.string (⟨#[98]⟩ : ByteArray)] from rfl) (Reps.none _ _)))); intro v417 w12 ho13 hb hg_ hnew_; clear hg_ hnew_; (first | rw [← Ny416.out] at ho13 | (simp only [Int.reduceToNat] at ho13; rw [← Ny416.out] at ho13)); have n0_ := Aside0.mk (Kd.R_lower (Kd.R_newM (M := fun k_ => (w.heap.size ≤ k_)) ho13 (below_size (by repeat (first | (with_reducible first | exact HB.out | apply below_alloc | apply pw_below_drewN | apply below_drew1 | refine below_set ?_ (IsS58.ge HI412.out) | refine below_set ?_ GE408.out) | exact HB.out))) (fun k_ h_ => h_)) (below_size (by repeat (first | (with_reducible first | exact HB.out | apply below_alloc | apply pw_below_drewN | apply below_drew1 | refine below_set ?_ (IsS58.ge HI412.out) | refine below_set ?_ GE408.out) | exact HB.out)))); have n1_ := Aside0.mk (blk_below (g := gb408) (o := .cells #[.int .i64 0, .slice none 0 0, .slice none 0 0] 27 (0, 0)) bkw hb); have n2_ := Aside0.mk (IsS58.below (by repeat (first | (with_reducible first | exact HI412.out | apply IsS58.alloc | apply IsS58.drewN | apply IsS58.drew | apply IsS58.set_1 | apply IsS58.set_2 | refine IsS58.far ?_ NB412_408.out _) | exact HI412.out)) hb); have n3_ := Aside0.mk (below_step (by repeat (first | (with_reducible first | exact HB.out | apply below_alloc | apply pw_below_drewN | apply below_drew1 | refine below_set ?_ (IsS58.ge HI412.out) | refine below_set ?_ GE408.out) | exact HB.out)) hb); clear BK408; clear HI412; clear HB; revert n0_ n1_ n2_ n3_; intro HO418 BK408 HI412 HB; clear hb ho13) | ((with_reducible refine gate_callee (f := 31) rfl ?_); refine goesL_ (some 10) rfl rfl Try.func31 kr rfl #[.pointer (some ⟨g412, 0, none⟩), .int .i64 1] rfl mpw ?_; (with_reducible refine (spec_l3Draw.calls k g412 t409 t414 t415 1 t419 t420 t423 t426 t427 w _ ?side1 ?side2 A9.out).mono ?_); (case side1 => repeat (first | (with_reducible first | exact HI412.out | apply IsS58.alloc | apply IsS58.drewN | apply IsS58.drew | apply IsS58.set_1 | apply IsS58.set_2 | refine IsS58.far ?_ NB412_408.out _) | exact HI412.out)); (case side2 => repeat (first | (with_reducible first | exact HB.out | apply below_alloc | apply pw_below_drewN | apply below_drew1 | refine below_set ?_ (IsS58.ge HI412.out) | refine below_set ?_ GE408.out) | exact HB.out)); rintro e w14 ⟨v421, v424, rfl, ho0, ho1, hi, hb, hk⟩; refine ⟨_, rfl, ?_⟩; have n0_ := Aside0.mk (KeepBut.blk hk (g' := gb408) (o := .cells #[.int .i64 0, .slice none 0 0, .slice none 0 0] 27 (0, 0)) bkw NB408_412.out (by simp)); have n1_ := Aside0.mk (Kd.R_mono (Kd.R_told (Kd.R_oldK (IsS58.apart (show IsS58 w _ g412 t409 t414 t415 from by repeat (first | (with_reducible first | exact HI412.out | apply IsS58.alloc | apply IsS58.drewN | apply IsS58.drew | apply IsS58.set_1 | apply IsS58.set_2 | refine IsS58.far ?_ NB412_408.out _) | exact HI412.out)) (by (with_reducible repeat (first | apply Kd.R_alloc | apply Kd.R_drewN | apply Kd.R_drew)); exact HO418.out) (by decide)) hk) (Kd.R_base ho0)) (fun _ h_ => h_.1)); have n2_ := Aside0.mk (Kd.R_lower (Kd.R_new' (Kd.R_newM (M := fun k_ => (w.heap.size ≤ k_)) (Kd.R_mono (ok' := fun k_ => True) ho0 (fun _ hk_ => trivial)) (below_size (by repeat (first | (with_reducible first | exact HB.out | apply below_alloc | apply pw_below_drewN | apply below_drew1 | refine below_set ?_ (IsS58.ge HI412.out) | refine below_set ?_ GE408.out) | exact HB.out))) (fun k_ h_ => h_)) (Kd.R_lt (by (with_reducible repeat (first | apply Kd.R_alloc | apply Kd.R_drewN | apply Kd.R_drew)); exact HO418.out))) (below_size (by repeat (first | (with_reducible first | exact HB.out | apply below_alloc | apply pw_below_drewN | apply below_drew1 | refine below_set ?_ (IsS58.ge HI412.out) | refine below_set ?_ GE408.out) | exact HB.out)))); have n3_ := Aside0.mk (Kd.N_lower (Kd.N_mono (ok' := fun k_ => (w.heap.size ≤ k_) ∧ some k_ ≠ (v421 : Value).ownBlock ∧ some k_ ≠ (v417 : Value).ownBlock ∧ k_ ≠ gb408 ∧ k_ ≠ g412) ho1 (fun k_ hk_ => ⟨(Nat.le_trans (below_size (by repeat (first | (with_reducible first | exact HB.out | apply below_alloc | apply pw_below_drewN | apply below_drew1 | refine below_set ?_ (IsS58.ge HI412.out) | refine below_set ?_ GE408.out) | exact HB.out))) hk_.1), hk_.2, (Kd.fresh' (Kd.R_lt (by (with_reducible repeat (first | apply Kd.R_alloc | apply Kd.R_drewN | apply Kd.R_drew)); exact HO418.out)) k_ hk_.1), (Kd.freshB (g := gb408) (o := .cells #[.int .i64 0, .slice none 0 0, .slice none 0 0] 27 (0, 0)) bkw k_ hk_.1), (IsS58.fresh (by repeat (first | (with_reducible first | exact HI412.out | apply IsS58.alloc | apply IsS58.drewN | apply IsS58.drew | apply IsS58.set_1 | apply IsS58.set_2 | refine IsS58.far ?_ NB412_408.out _) | exact HI412.out)) k_ hk_.1)⟩)) (below_size (by repeat (first | (with_reducible first | exact HB.out | apply below_alloc | apply pw_below_drewN | apply below_drew1 | refine below_set ?_ (IsS58.ge HI412.out) | refine below_set ?_ GE408.out) | exact HB.out)))); have n4_ := Aside0.mk (hb); have n5_ := Aside0.mk (hi); clear BK408; clear HO418; clear HB; clear HI412; revert n0_ n1_ n2_ n3_ n4_ n5_; intro BK408 HO418 HO422 HO425 HB HI412; (try clear hb); (try clear hb2); (try clear hk); (try clear hi); (try clear ho0); (try clear ho1)) | ((with_reducible refine gate_callee (f := 31) rfl ?_); refine goesL_ (some 12) rfl rfl Try.func31 kr rfl #[.pointer (some ⟨g412, 0, none⟩), .int .i64 2] rfl mpw ?_; (with_reducible refine (spec_l3Draw.calls k g412 t409 t426 t427 2 t428 t429 t432 t435 t436 w _ ?side1 ?side2 A10.out).mono ?_); (case side1 => repeat (first | (with_reducible first | exact HI412.out | apply IsS58.alloc | apply IsS58.drewN | apply IsS58.drew | apply IsS58.set_1 | apply IsS58.set_2 | refine IsS58.far ?_ NB412_408.out _) | exact HI412.out)); (case side2 => repeat (first | (with_reducible first | exact HB.out | apply below_alloc | apply pw_below_drewN | apply below_drew1 | refine below_set ?_ (IsS58.ge HI412.out) | refine below_set ?_ GE408.out) | exact HB.out)); rintro e w15 ⟨v430, v433, rfl, ho0, ho1, hi, hb, hk⟩; refine ⟨_, rfl, ?_⟩; have n0_ := Aside0.mk (KeepBut.blk hk (g' := gb408) (o := .cells #[.int .i64 0, .slice none 0 0, .slice none 0 0] 27 (0, 0)) bkw NB408_412.out (by simp)); have n1_ := Aside0.mk (Kd.R_mono (Kd.R_told (Kd.R_oldK (IsS58.apart (show IsS58 w _ g412 t409 t426 t427 from by repeat (first | (with_reducible first | exact HI412.out | apply IsS58.alloc | apply IsS58.drewN | apply IsS58.drew | apply IsS58.set_1 | apply IsS58.set_2 | refine IsS58.far ?_ NB412_408.out _) | exact HI412.out)) (by (with_reducible repeat (first | apply Kd.R_alloc | apply Kd.R_drewN | apply Kd.R_drew)); exact HO418.out) (by decide)) hk) (Kd.R_base ho0)) (fun _ h_ => h_.1)); have n2_ := Aside0.mk (Kd.R_mono (Kd.R_told (Kd.R_oldK (IsS58.apart (show IsS58 w _ g412 t409 t426 t427 from by repeat (first | (with_reducible first | exact HI412.out | apply IsS58.alloc | apply IsS58.drewN | apply IsS58.drew | apply IsS58.set_1 | apply IsS58.set_2 | refine IsS58.far ?_ NB412_408.out _) | exact HI412.out)) (by (with_reducible repeat (first | apply Kd.R_alloc | apply Kd.R_drewN | apply Kd.R_drew)); exact HO422.out) (by decide)) hk) (Kd.R_base ho0)) (fun _ h_ => h_.1)); have n3_ := Aside0.mk (Kd.N_mono (Kd.N_told (Kd.N_told (Kd.N_oldK (Kd.N_mono (ok := fun k_ => (((w.heap.size ≤ k_)) ∧ (some k_ ≠ (v421 : Value).ownBlock ∧ (some k_ ≠ (v417 : Value).ownBlock ∧ (k_ ≠ gb408 ∧ k_ ≠ g412))))) (by (with_reducible repeat (first | apply Kd.N_alloc | apply Kd.N_drewN | apply Kd.N_drew)); exact HO425.out) (fun k_ hk_ => (⟨hk_, hk_.2.2.2.2⟩ : _ ∧ k_ ≠ g412))) hk) (Kd.R_base ho0)) (by first | exact Kd.N_base ho1 | exact Kd.S_base ho1)) (fun _ h_ => h_.1)); have n4_ := Aside0.mk (Kd.R_lower (Kd.R_new' (Kd.R_new' (Kd.R_newM (M := fun k_ => (w.heap.size ≤ k_)) (Kd.R_mono (ok' := fun k_ => True) ho0 (fun _ hk_ => trivial)) (below_size (by repeat (first | (with_reducible first | exact HB.out | apply below_alloc | apply pw_below_drewN | apply below_drew1 | refine below_set ?_ (IsS58.ge HI412.out) | refine below_set ?_ GE408.out) | exact HB.out))) (fun k_ h_ => h_)) (Kd.R_lt (by (with_reducible repeat (first | apply Kd.R_alloc | apply Kd.R_drewN | apply Kd.R_drew)); exact HO418.out))) (Kd.R_lt (by (with_reducible repeat (first | apply Kd.R_alloc | apply Kd.R_drewN | apply Kd.R_drew)); exact HO422.out))) (below_size (by repeat (first | (with_reducible first | exact HB.out | apply below_alloc | apply pw_below_drewN | apply below_drew1 | refine below_set ?_ (IsS58.ge HI412.out) | refine below_set ?_ GE408.out) | exact HB.out)))); have n5_ := Aside0.mk (Kd.N_lower (Kd.N_mono (ok' := fun k_ => (w.heap.size ≤ k_) ∧ some k_ ≠ (v430 : Value).ownBlock ∧ some k_ ≠ (v417 : Value).ownBlock ∧ some k_ ≠ (v421 : Value).ownBlock ∧ some k_ ≠ (v424 : Value).ownBlock ∧ k_ ≠ gb408 ∧ k_ ≠ g412) ho1 (fun k_ hk_ => ⟨(Nat.le_trans (below_size (by repeat (first | (with_reducible first | exact HB.out | apply below_alloc | apply pw_below_drewN | apply below_drew1 | refine below_set ?_ (IsS58.ge HI412.out) | refine below_set ?_ GE408.out) | exact HB.out))) hk_.1), hk_.2, (Kd.fresh' (Kd.R_lt (by (with_reducible repeat (first | apply Kd.R_alloc | apply Kd.R_drewN | apply Kd.R_drew)); exact HO418.out)) k_ hk_.1), (Kd.fresh' (Kd.R_lt (by (with_reducible repeat (first | apply Kd.R_alloc | apply Kd.R_drewN | apply Kd.R_drew)); exact HO422.out)) k_ hk_.1), (Kd.fresh' (Kd.N_lt (by (with_reducible repeat (first | apply Kd.N_alloc | apply Kd.N_drewN | apply Kd.N_drew)); exact HO425.out)) k_ hk_.1), (Kd.freshB (g := gb408) (o := .cells #[.int .i64 0, .slice none 0 0, .slice none 0 0] 27 (0, 0)) bkw k_ hk_.1), (IsS58.fresh (by repeat (first | (with_reducible first | exact HI412.out | apply IsS58.alloc | apply IsS58.drewN | apply IsS58.drew | apply IsS58.set_1 | apply IsS58.set_2 | refine IsS58.far ?_ NB412_408.out _) | exact HI412.out)) k_ hk_.1)⟩)) (below_size (by repeat (first | (with_reducible first | exact HB.out | apply below_alloc | apply pw_below_drewN | apply below_drew1 | refine below_set ?_ (IsS58.ge HI412.out) | refine below_set ?_ GE408.out) | exact HB.out)))); have n6_ := Aside0.mk (hb); have n7_ := Aside0.mk (hi); clear BK408; clear HO418; clear HO422; clear HO425; clear HB; clear HI412; revert n0_ n1_ n2_ n3_ n4_ n5_ n6_ n7_; intro BK408 HO418 HO422 HO425 HO431 HO434 HB HI412; (try clear hb); (try clear hb2); (try clear hk); (try clear hi); (try clear ho0); (try clear ho1); obtain ⟨Ao16, co16, eo16⟩ := Kd.R_slice HO422.out; subst eo16; obtain ⟨Ao17, co17, eo17⟩ := Kd.N_slice HO425.out; subst eo17; obtain ⟨Ao18, co18, eo18⟩ := Kd.R_slice HO431.out; subst eo18; obtain ⟨Ao19, co19, eo19⟩ := Kd.N_slice HO434.out; subst eo19) | ((with_reducible refine gate_dst (N := 13) rfl ?_); refine Kd.N_lit k27 _ 27 ?hg (N' := 13) ?hd (xs := ([(⟨t419, t420, t423⟩ : S27), (⟨t428, t429, t432⟩ : S27)] : List (S27))) (inner := [.int .i64 t419, .slice Ao16 t420.length co16, .slice Ao17 t423.length co17, .int .i64 t428, .slice Ao18 t429.length co18, .slice Ao19 t432.length co19]) (ok := (fun k_ => (w.heap.size ≤ k_) ∧ some k_ ≠ (v417 : Value).ownBlock ∧ k_ ≠ gb408 ∧ k_ ≠ g412)) (okp := (fun k_ => (w.heap.size ≤ k_) ∧ some k_ ≠ (v417 : Value).ownBlock ∧ k_ ≠ gb408 ∧ k_ ≠ g412)) ?hr ?hp (fun _ hk => hk) ((show ∀ k_, w15.heap.size ≤ k_ → (fun k_ => (w.heap.size ≤ k_) ∧ some k_ ≠ (v417 : Value).ownBlock ∧ k_ ≠ gb408 ∧ k_ ≠ g412) k_ from fun k_ hk => ⟨(Nat.le_trans (below_size (by repeat (first | (with_reducible first | exact HB.out | apply below_alloc | apply pw_below_drewN | apply below_drew1 | refine below_set ?_ (IsS58.ge HI412.out) | refine below_set ?_ GE408.out) | exact HB.out))) hk), Kd.fresh' (Kd.R_lt (by (with_reducible repeat (first | apply Kd.R_alloc | apply Kd.R_drewN | apply Kd.R_drew)); exact HO418.out)) k_ hk, Kd.freshB (g := gb408) (o := .cells #[.int .i64 0, .slice none 0 0, .slice none 0 0] 27 (0, 0)) bkw k_ hk, IsS58.fresh (by repeat (first | (with_reducible first | exact HI412.out | apply IsS58.alloc | apply IsS58.drewN | apply IsS58.drew | apply IsS58.set_1 | apply IsS58.set_2 | refine IsS58.far ?_ NB412_408.out _) | exact HI412.out)) k_ hk⟩) _ (Nat.le_refl _)) (Below.refl _ _) (Nat.le_refl _) (by simp) ?_; (case hd => rfl); (case hg => rfl); (case hr => exact hrw); (case hp => exact (Reps.c3 (show Kd.FK k27 _ _ (⟨t419, t420, t423⟩ : S27) [.int .i64 t419, .slice Ao16 t420.length co16, .slice Ao17 t423.length co17] from (k27_mkF _ _ (⟨t419, t420, t423⟩ : S27) (Kd.R_reads' (Kd.R_mono (ok' := (fun k_ => (w.heap.size ≤ k_) ∧ some k_ ≠ (v417 : Value).ownBlock ∧ k_ ≠ gb408 ∧ k_ ≠ g412)) (IsS58.apart HI412.out (Kd.R_types (HO422.out) BK408.out (by decide)) (by decide)) (fun k_ hk => ⟨hk.1.1.1.1.1, ⟨hk.1.1.1.2, ⟨hk.1.2, hk.2⟩⟩⟩))).2.1 (Kd.R_F (Kd.R_mono (ok' := (fun k_ => (w.heap.size ≤ k_) ∧ some k_ ≠ (v417 : Value).ownBlock ∧ k_ ≠ gb408 ∧ k_ ≠ g412)) (IsS58.apart HI412.out (Kd.R_types (HO422.out) BK408.out (by decide)) (by decide)) (fun k_ hk => ⟨hk.1.1.1.1.1, ⟨hk.1.1.1.2, ⟨hk.1.2, hk.2⟩⟩⟩))) (Kd.N_reads' (Kd.N_mono (ok' := (fun k_ => (w.heap.size ≤ k_) ∧ some k_ ≠ (v417 : Value).ownBlock ∧ k_ ≠ gb408 ∧ k_ ≠ g412)) (HO425.out) (fun k_ hk => ⟨hk.1.1.1, ⟨hk.1.1.2.2.1, ⟨hk.1.1.2.2.2.1, hk.1.1.2.2.2.2⟩⟩⟩))).2.1 (Kd.N_F (Kd.N_mono (ok' := (fun k_ => (w.heap.size ≤ k_) ∧ some k_ ≠ (v417 : Value).ownBlock ∧ k_ ≠ gb408 ∧ k_ ≠ g412)) (HO425.out) (fun k_ hk => ⟨hk.1.1.1, ⟨hk.1.1.2.2.1, ⟨hk.1.1.2.2.2.1, hk.1.1.2.2.2.2⟩⟩⟩))))) (Reps.c3 (show Kd.FK k27 _ _ (⟨t428, t429, t432⟩ : S27) [.int .i64 t428, .slice Ao18 t429.length co18, .slice Ao19 t432.length co19] from (k27_mkF _ _ (⟨t428, t429, t432⟩ : S27) (Kd.R_reads' (Kd.R_mono (ok' := (fun k_ => (w.heap.size ≤ k_) ∧ some k_ ≠ (v417 : Value).ownBlock ∧ k_ ≠ gb408 ∧ k_ ≠ g412)) (IsS58.apart HI412.out (Kd.R_types (HO431.out) BK408.out (by decide)) (by decide)) (fun k_ hk => ⟨hk.1.1.1.1.1, ⟨hk.1.1.1.2, ⟨hk.1.2, hk.2⟩⟩⟩))).2.1 (Kd.R_F (Kd.R_mono (ok' := (fun k_ => (w.heap.size ≤ k_) ∧ some k_ ≠ (v417 : Value).ownBlock ∧ k_ ≠ gb408 ∧ k_ ≠ g412)) (IsS58.apart HI412.out (Kd.R_types (HO431.out) BK408.out (by decide)) (by decide)) (fun k_ hk => ⟨hk.1.1.1.1.1, ⟨hk.1.1.1.2, ⟨hk.1.2, hk.2⟩⟩⟩))) (Kd.N_reads' (Kd.N_mono (ok' := (fun k_ => (w.heap.size ≤ k_) ∧ some k_ ≠ (v417 : Value).ownBlock ∧ k_ ≠ gb408 ∧ k_ ≠ g412)) (HO434.out) (fun k_ hk => ⟨hk.1, ⟨hk.2.2.1, ⟨hk.2.2.2.2.2.1, hk.2.2.2.2.2.2⟩⟩⟩))).2.1 (Kd.N_F (Kd.N_mono (ok' := (fun k_ => (w.heap.size ≤ k_) ∧ some k_ ≠ (v417 : Value).ownBlock ∧ k_ ≠ gb408 ∧ k_ ≠ g412)) (HO434.out) (fun k_ hk => ⟨hk.1, ⟨hk.2.2.1, ⟨hk.2.2.2.2.2.1, hk.2.2.2.2.2.2⟩⟩⟩))))) (Reps.none _ _)))); intro v438 w20 ho21 hb hg_ hnew_; clear hg_ hnew_; (first | rw [← Ny437.out] at ho21 | (simp only [Int.reduceToNat] at ho21; rw [← Ny437.out] at ho21)); have n0_ := Aside0.mk (Kd.R_below (by (with_reducible repeat (first | apply Kd.R_alloc | apply Kd.R_drewN | apply Kd.R_drew)); exact HO418.out) hb); have n1_ := Aside0.mk (Kd.N_lower ho21 (below_size (by repeat (first | (with_reducible first | exact HB.out | apply below_alloc | apply pw_below_drewN | apply below_drew1 | refine below_set ?_ (IsS58.ge HI412.out) | refine below_set ?_ GE408.out) | exact HB.out)))); have n2_ := Aside0.mk (blk_below (g := gb408) (o := .cells #[.int .i64 0, .slice none 0 0, .slice none 0 0] 27 (0, 0)) bkw hb); have n3_ := Aside0.mk (IsS58.below (by repeat (first | (with_reducible first | exact HI412.out | apply IsS58.alloc | apply IsS58.drewN | apply IsS58.drew | apply IsS58.set_1 | apply IsS58.set_2 | refine IsS58.far ?_ NB412_408.out _) | exact HI412.out)) hb); have n4_ := Aside0.mk (below_step (by repeat (first | (with_reducible first | exact HB.out | apply below_alloc | apply pw_below_drewN | apply below_drew1 | refine below_set ?_ (IsS58.ge HI412.out) | refine below_set ?_ GE408.out) | exact HB.out)) hb); clear HO418; clear BK408; clear HI412; clear HB; clear HO422; clear HO425; clear HO431; clear HO434; revert n0_ n1_ n2_ n3_ n4_; intro HO418 HO439 BK408 HI412 HB; clear hb ho21; obtain ⟨Ao22, co22, eo22⟩ := Kd.R_slice HO418.out; subst eo22; obtain ⟨Ao23, co23, eo23⟩ := Kd.N_slice HO439.out; subst eo23) | ((with_reducible refine gate_callee (f := 30) rfl ?_); refine goesL_ (some 14) rfl rfl Try.func30 kr rfl #[.slice Ao22 y416.length co22, .slice Ao23 y437.length co23] rfl mpw ?_; (with_reducible refine (spec_l3Rec.calls k _ _ y416 _ _ y437 t440 t441 t444 _ ?side1 ?side2 ?side3 ?side4 A11.out).mono ?_); (case side1 => repeat (first | exact (Kd.R_reads' HO418.out).2.2 | (with_reducible refine Kd.C_alloc ?_ _) | (with_reducible refine Kd.C_drewN ?_ _) | (with_reducible refine Kd.C_drew ?_))); (case side2 => exact (Kd.R_reads' HO418.out).2.1); (case side3 => repeat (first | exact (Kd.N_reads' HO439.out).2.2 | (with_reducible refine Kd.C_alloc ?_ _) | (with_reducible refine Kd.C_drewN ?_ _) | (with_reducible refine Kd.C_drew ?_))); (case side4 => exact (Kd.N_reads' HO439.out).2.1); rintro e w24 ⟨v442, v445, rfl, ho0, ho1, hb⟩; refine ⟨_, rfl, ?_⟩; obtain ⟨N25, EN25⟩ := Ow.name_size hb; have n0_ := Aside0.mk (Kd.R_elder' (by (with_reducible repeat (first | apply Kd.R_alloc | apply Kd.R_drewN | apply Kd.R_drew)); exact HO418.out) (Kd.R_base ho0) hb); have n1_ := Aside0.mk (Kd.N_mono (Kd.N_told (Kd.N_told (Kd.N_old (by (with_reducible repeat (first | apply Kd.N_alloc | apply Kd.N_drewN | apply Kd.N_drew)); exact HO439.out) hb) (Kd.R_base ho0)) (by first | exact Kd.N_base ho1 | exact Kd.S_base ho1)) (fun _ h_ => h_.1)); have n2_ := Aside0.mk (Kd.R_lower (Ow.R_geN (Kd.R_new' (Kd.R_newM (M := fun k_ => (w.heap.size ≤ k_)) ho0 (below_size (by repeat (first | (with_reducible first | exact HB.out | apply below_alloc | apply pw_below_drewN | apply below_drew1 | refine below_set ?_ (IsS58.ge HI412.out) | refine below_set ?_ GE408.out) | exact HB.out))) (fun k_ h_ => h_)) (Kd.R_lt (by (with_reducible repeat (first | apply Kd.R_alloc | apply Kd.R_drewN | apply Kd.R_drew)); exact HO418.out))) EN25.out) (below_size (by repeat (first | (with_reducible first | exact HB.out | apply below_alloc | apply pw_below_drewN | apply below_drew1 | refine below_set ?_ (IsS58.ge HI412.out) | refine below_set ?_ GE408.out) | exact HB.out)))); have n3_ := Aside0.mk (Kd.N_lower (Kd.N_mono (ok' := fun k_ => (w.heap.size ≤ k_) ∧ some k_ ≠ (v442 : Value).ownBlock ∧ some k_ ≠ (.slice Ao22 y416.length co22 : Value).ownBlock ∧ some k_ ≠ (.slice Ao23 y437.length co23 : Value).ownBlock ∧ k_ ≠ gb408 ∧ k_ ≠ g412) (Kd.S_N (Kd.S_bound ho1)) (fun k_ hk_ => ⟨(Nat.le_trans (below_size (by repeat (first | (with_reducible first | exact HB.out | apply below_alloc | apply pw_below_drewN | apply below_drew1 | refine below_set ?_ (IsS58.ge HI412.out) | refine below_set ?_ GE408.out) | exact HB.out))) hk_.2.1), hk_.1, (Kd.fresh' (Kd.R_lt (by (with_reducible repeat (first | apply Kd.R_alloc | apply Kd.R_drewN | apply Kd.R_drew)); exact HO418.out)) k_ hk_.2.1), (Kd.fresh' (Kd.N_lt (by (with_reducible repeat (first | apply Kd.N_alloc | apply Kd.N_drewN | apply Kd.N_drew)); exact HO439.out)) k_ hk_.2.1), (Kd.freshB (g := gb408) (o := .cells #[.int .i64 0, .slice none 0 0, .slice none 0 0] 27 (0, 0)) bkw k_ hk_.2.1), (IsS58.fresh (by repeat (first | (with_reducible first | exact HI412.out | apply IsS58.alloc | apply IsS58.drewN | apply IsS58.drew | apply IsS58.set_1 | apply IsS58.set_2 | refine IsS58.far ?_ NB412_408.out _) | exact HI412.out)) k_ hk_.2.1)⟩)) (below_size (by repeat (first | (with_reducible first | exact HB.out | apply below_alloc | apply pw_below_drewN | apply below_drew1 | refine below_set ?_ (IsS58.ge HI412.out) | refine below_set ?_ GE408.out) | exact HB.out)))); have n4_ := Aside0.mk (blk_below (g := gb408) (o := .cells #[.int .i64 0, .slice none 0 0, .slice none 0 0] 27 (0, 0)) bkw hb); have n5_ := Aside0.mk (IsS58.below (by repeat (first | (with_reducible first | exact HI412.out | apply IsS58.alloc | apply IsS58.drewN | apply IsS58.drew | apply IsS58.set_1 | apply IsS58.set_2 | refine IsS58.far ?_ NB412_408.out _) | exact HI412.out)) hb); have n6_ := Aside0.mk (below_step (by repeat (first | (with_reducible first | exact HB.out | apply below_alloc | apply pw_below_drewN | apply below_drew1 | refine below_set ?_ (IsS58.ge HI412.out) | refine below_set ?_ GE408.out) | exact HB.out)) hb); clear HO418; clear HO439; clear BK408; clear HI412; clear HB; revert n0_ n1_ n2_ n3_ n4_ n5_ n6_; intro HO418 HO439 HO443 HO446 BK408 HI412 HB; (try clear hb); (try clear hb2); (try clear hk); (try clear hi); (try clear ho0); (try clear ho1); have hnb26 := NB408_412.out; have hnc26 := NB412_408.out; obtain ⟨hcz27_0, hcz27_1, hcz27_2⟩ := cls3 BK408.out; obtain ⟨hfz27_0, hfz27_1, hfz27_2⟩ := frz3 BK408.out; obtain ⟨Ao28, co28, eo28⟩ := Kd.R_slice HO443.out; subst eo28; obtain ⟨Ao29, co29, eo29⟩ := Kd.N_slice HO446.out; subst eo29))
 refine bodyPost_ret (results_cell_row rfl _ _ gb408 27 #[.int .i64 t440, .slice Ao28 t441.length co28, .slice Ao29 t444.length co29] (0, 0) _ rfl (by (with_reducible repeat (first | refine blk_drewN ?_ _ | refine blk_drew ?_ | refine blk_alloc ?_ _)); refine blk_put (cs := #[.int .i64 t440, .slice Ao28 t441.length co28, .slice none 0 0]) ?_ 2 _ rfl; (with_reducible repeat (first | refine blk_drewN ?_ _ | refine blk_drew ?_ | refine blk_alloc ?_ _)); refine blk_put (cs := #[.int .i64 t440, .slice none 0 0, .slice none 0 0]) ?_ 1 _ rfl; (with_reducible repeat (first | refine blk_drewN ?_ _ | refine blk_drew ?_ | refine blk_alloc ?_ _)); refine blk_put (cs := #[.int .i64 0, .slice none 0 0, .slice none 0 0]) ?_ 0 _ rfl; (with_reducible repeat (first | refine blk_drewN ?_ _ | refine blk_drew ?_ | refine blk_alloc ?_ _)); exact BK408.out) Try.underlying27 rfl kr) rfl ?_
 exact ⟨_, _, rfw, by (with_reducible repeat (first | apply Kd.R_alloc | apply Kd.R_drewN | apply Kd.R_drew)); exact Kd.R_mono (Kd.R_far (p := ⟨gb408, 2, none⟩) (Kd.R_far (p := ⟨gb408, 1, none⟩) (Kd.R_far (p := ⟨gb408, 0, none⟩) (Kd.R_types HO443.out BK408.out (by decide)) (fun _ hk => hk.2) (.int .i64 t440)) (fun _ hk => hk.2) (.slice Ao28 t441.length co28)) (fun _ hk => hk.2) (.slice Ao29 t444.length co29)) (fun _ hk => hk.1.1.1.1), by (with_reducible repeat (first | apply Kd.N_alloc | apply Kd.N_drewN | apply Kd.N_drew)); exact Kd.N_mono (Kd.N_far (p := ⟨gb408, 2, none⟩) (Kd.N_far (p := ⟨gb408, 1, none⟩) (Kd.N_far (p := ⟨gb408, 0, none⟩) (Kd.N_mono HO446.out (fun k_ hk => (⟨hk, hk.2.2.2.2.1⟩ : _ ∧ k_ ≠ gb408))) (fun _ hk => hk.2) (.int .i64 t440)) (fun _ hk => hk.2) (.slice Ao28 t441.length co28)) (fun _ hk => hk.2) (.slice Ao29 t444.length co29)) (fun _ hk => ⟨hk.1.1, hk.1.2.1⟩), by repeat (first | (with_reducible first | exact HB.out | apply below_alloc | apply pw_below_drewN | apply below_drew1 | refine below_set ?_ (IsS58.ge HI412.out) | refine below_set ?_ GE408.out) | exact HB.out)⟩

/-! ### spec_DrawFieldType: function 14 -/
def spec_DrawFieldType.f (k : Nat) (l0 : List Int) : Option (Int × List ByteArray × (List (S27)) × ByteArray) := (spec_l1New.f k l0).bind fun bt457 => ((spec_l3Bent.f k bt457.1 bt457.2.1 bt457.2.2).bind fun bt461 => ((spec_l1Pick.f bt457.1 bt461.2.2.2.1 bt461.2.2.2.2 (([(⟨#[97]⟩ : ByteArray), (⟨#[98]⟩ : ByteArray), (⟨#[113]⟩ : ByteArray)] : List ByteArray))).bind fun bt474 => (some (bt461.1, bt461.2.1, bt461.2.2.1, bt474.1))))
theorem spec_DrawFieldType.calls (k : Nat) (A0 : Option Addr) (c0 : Nat) (l0 : List Int) (r1 : Int) (r2 : List ByteArray) (r3 : List (S27)) (r4 : ByteArray) (w : World) (hr0 : Kd.C (Kd.int .u8) w A0 l0.length l0) (hc0 : l0.length ≤ c0) (h : spec_DrawFieldType.f k l0 = some (r1, r2, r3, r4)) :
  Calls Try.prog 14 #[.slice A0 l0.length c0] w fun e w' => ∃ v1_ v2_ : Value, e = .returned (.tuple #[.agg #[.int .i64 r1, v1_, v2_], .string r4]) ∧ Kd.R Kd.string 9 w' w.heap.size (fun k_ => (w.heap.size ≤ k_)) v1_ r2 ∧ Kd.N k27 27 w' w.heap.size (fun k_ => (w.heap.size ≤ k_) ∧ some k_ ≠ (v1_ : Value).ownBlock) v2_ r3 ∧ Below w.heap.size w w' := by
 have hu27 := Try.underlying27
 have HR0 := Aside0.mk hr0
 have HC0 := Aside0.mk hc0
 clear hr0 hc0
 have HB := Aside0.mk (Below.refl w.heap.size w)
 have H : ((spec_l1New.f k l0).bind fun bt457 => ((spec_l3Bent.f k bt457.1 bt457.2.1 bt457.2.2).bind fun bt461 => ((spec_l1Pick.f bt457.1 bt461.2.2.2.1 bt461.2.2.2.2 (([(⟨#[97]⟩ : ByteArray), (⟨#[98]⟩ : ByteArray), (⟨#[113]⟩ : ByteArray)] : List ByteArray))).bind fun bt474 => (some (bt461.1, bt461.2.1, bt461.2.2.1, bt474.1))))) = some (r1, r2, r3, r4) := h
 clear h
 replace H := Option.bind_eq_some_iff.mp H
 obtain ⟨⟨t457, t458, t459⟩, A20, H⟩ := H
 replace H : ((spec_l3Bent.f k t457 t458 t459).bind fun bt461 => ((spec_l1Pick.f t457 bt461.2.2.2.1 bt461.2.2.2.2 (([(⟨#[97]⟩ : ByteArray), (⟨#[98]⟩ : ByteArray), (⟨#[113]⟩ : ByteArray)] : List ByteArray))).bind fun bt474 => (some (bt461.1, bt461.2.1, bt461.2.2.1, bt474.1)))) = some (r1, r2, r3, r4) := H
 have A2 := Aside0.mk A20
 clear A20
 replace H := Option.bind_eq_some_iff.mp H
 obtain ⟨⟨t461, t462, t465, t468, t469⟩, A30, H⟩ := H
 replace H : ((spec_l1Pick.f t457 t468 t469 (([(⟨#[97]⟩ : ByteArray), (⟨#[98]⟩ : ByteArray), (⟨#[113]⟩ : ByteArray)] : List ByteArray))).bind fun bt474 => (some (t461, t462, t465, bt474.1))) = some (r1, r2, r3, r4) := H
 have A3 := Aside0.mk A30
 clear A30
 obtain ⟨y471, hy471⟩ : ∃ y_ : List ByteArray, y_ = (([(⟨#[97]⟩ : ByteArray), (⟨#[98]⟩ : ByteArray), (⟨#[113]⟩ : ByteArray)] : List ByteArray)) := ⟨_, rfl⟩
 replace H : ((spec_l1Pick.f t457 t468 t469 y471).bind fun bt474 => (some (t461, t462, t465, bt474.1))) = some (r1, r2, r3, r4) := by first | (rw [hy471]; with_reducible exact H) | (have H2_ := (Option.bind_some _ _).symm.trans H; rw [hy471]; with_reducible exact H2_) | (have H2_ := (Option.bind_some _ _).symm.trans H; with_reducible exact H2_) | with_reducible exact H | (rw [hy471]; exact H) | exact H
 have Ny471 := Aside0.mk hy471
 clear hy471
 replace H := Option.bind_eq_some_iff.mp H
 obtain ⟨⟨t474, t475, t476⟩, A40, H⟩ := H
 replace H : (some (t461, t462, t465, t474)) = some (r1, r2, r3, r4) := H
 have A4 := Aside0.mk A40
 clear A40
 simp only [Option.some.injEq, Prod.mk.injEq] at H
 obtain ⟨rfl, rfl, rfl, rfl⟩ := H
 go_enter Try.func14, Try.ntmps14
 try go_wp2_with (first | ((with_reducible refine gate_dst (N := 2) rfl ?_); refine box_event ?hg (N := 2) ?hd (cs := #[.int .i64 0, .slice none 0 0, .slice none 0 0]) (t := 27) ?hr ?_; (case hd => rfl); (case hg => rfl); (case hr => exact hrw); intro gb456 hg w5 hbox hb; have n0_ := Aside0.mk (below_step blw hb); have n1_ := Aside0.mk (hbox); have n2_ := Aside0.mk ((by rw [hg]; exact (below_size blw) : w.heap.size ≤ gb456)); have n3_ := n2_; clear HB; revert n0_ n1_ n2_ n3_; intro HB BK456 GW456 GE456; clear hb hbox hg) | ((with_reducible refine gate_callee (f := 23) rfl ?_); refine goesL_ (some 7) rfl rfl Try.func23 kr rfl #[.slice A0 l0.length c0] rfl mpw ?_; (with_reducible refine (spec_l1New.calls k _ _ l0 t457 t458 t459 w _ ?side1 ?side2 ?side3 A2.out).mono ?_); (case side1 => repeat (first | (with_reducible first | exact HB.out | apply below_alloc | apply pw_below_drewN | apply below_drew1 | refine below_set ?_ GE456.out) | exact HB.out)); (case side2 => exact HR0.out); (case side3 => exact HC0.out); rintro e w6 ⟨g460, rfl, hi, hb, hb2⟩; refine ⟨_, rfl, ?_⟩; have n0_ := Aside0.mk (blk_below (g := gb456) (o := .cells #[.int .i64 0, .slice none 0 0, .slice none 0 0] 27 (0, 0)) bkw hb2); have n1_ := Aside0.mk (hb); have n2_ := Aside0.mk (hi); have n3_ := Aside0.mk (IsS58.ne_blk hi (blk_below (g := gb456) (o := .cells #[.int .i64 0, .slice none 0 0, .slice none 0 0] 27 (0, 0)) bkw hb2) (by decide)); have n4_ := Aside0.mk (Ne.symm (IsS58.ne_blk hi (blk_below (g := gb456) (o := .cells #[.int .i64 0, .slice none 0 0, .slice none 0 0] 27 (0, 0)) bkw hb2) (by decide))); clear BK456; clear HB; revert n0_ n1_ n2_ n3_ n4_; intro BK456 HB HI460 NB460_456 NB456_460; (try clear hb); (try clear hb2); (try clear hk); (try clear hi)) | ((with_reducible refine gate_callee (f := 22) rfl ?_); refine goesL_ (some 9) rfl rfl Try.func22 kr rfl #[.pointer (some ⟨g460, 0, none⟩)] rfl mpw ?_; (with_reducible refine (spec_l3Bent.calls k g460 t457 t458 t459 t461 t462 t465 t468 t469 w _ ?side1 ?side2 A3.out).mono ?_); (case side1 => repeat (first | (with_reducible first | exact HI460.out | apply IsS58.alloc | apply IsS58.drewN | apply IsS58.drew | apply IsS58.set_1 | apply IsS58.set_2 | refine IsS58.far ?_ NB460_456.out _) | exact HI460.out)); (case side2 => repeat (first | (with_reducible first | exact HB.out | apply below_alloc | apply pw_below_drewN | apply below_drew1 | refine below_set ?_ (IsS58.ge HI460.out) | refine below_set ?_ GE456.out) | exact HB.out)); rintro e w7 ⟨v463, v466, rfl, ho0, ho1, hi, hb, hk⟩; refine ⟨_, rfl, ?_⟩; have n0_ := Aside0.mk (KeepBut.blk hk (g' := gb456) (o := .cells #[.int .i64 0, .slice none 0 0, .slice none 0 0] 27 (0, 0)) bkw NB456_460.out (by simp)); have n1_ := Aside0.mk (Kd.R_lower (Kd.R_newM (M := fun k_ => (w.heap.size ≤ k_)) (Kd.R_mono (ok' := fun k_ => True) ho0 (fun _ hk_ => trivial)) (below_size (by repeat (first | (with_reducible first | exact HB.out | apply below_alloc | apply pw_below_drewN | apply below_drew1 | refine below_set ?_ (IsS58.ge HI460.out) | refine below_set ?_ GE456.out) | exact HB.out))) (fun k_ h_ => h_)) (below_size (by repeat (first | (with_reducible first | exact HB.out | apply below_alloc | apply pw_below_drewN | apply below_drew1 | refine below_set ?_ (IsS58.ge HI460.out) | refine below_set ?_ GE456.out) | exact HB.out)))); have n2_ := Aside0.mk (Kd.N_lower (Kd.N_mono (ok' := fun k_ => (w.heap.size ≤ k_) ∧ some k_ ≠ (v463 : Value).ownBlock ∧ k_ ≠ gb456 ∧ k_ ≠ g460) ho1 (fun k_ hk_ => ⟨(Nat.le_trans (below_size (by repeat (first | (with_reducible first | exact HB.out | apply below_alloc | apply pw_below_drewN | apply below_drew1 | refine below_set ?_ (IsS58.ge HI460.out) | refine below_set ?_ GE456.out) | exact HB.out))) hk_.1), hk_.2, (Kd.freshB (g := gb456) (o := .cells #[.int .i64 0, .slice none 0 0, .slice none 0 0] 27 (0, 0)) bkw k_ hk_.1), (IsS58.fresh (by repeat (first | (with_reducible first | exact HI460.out | apply IsS58.alloc | apply IsS58.drewN | apply IsS58.drew | apply IsS58.set_1 | apply IsS58.set_2 | refine IsS58.far ?_ NB460_456.out _) | exact HI460.out)) k_ hk_.1)⟩)) (below_size (by repeat (first | (with_reducible first | exact HB.out | apply below_alloc | apply pw_below_drewN | apply below_drew1 | refine below_set ?_ (IsS58.ge HI460.out) | refine below_set ?_ GE456.out) | exact HB.out)))); have n3_ := Aside0.mk (hb); have n4_ := Aside0.mk (hi); clear BK456; clear HB; clear HI460; revert n0_ n1_ n2_ n3_ n4_; intro BK456 HO464 HO467 HB HI460; (try clear hb); (try clear hb2); (try clear hk); (try clear hi); (try clear ho0); (try clear ho1)) | ((with_reducible refine gate_dst (N := 5) rfl ?_); refine box_event ?hg (N := 5) ?hd (cs := #[.int .i64 0, .slice none 0 0, .slice none 0 0]) (t := 27) ?hr ?_; (case hd => rfl); (case hg => rfl); (case hr => exact hrw); intro gb470 hg w8 hbox hb; have n0_ := Aside0.mk (Kd.R_below (by (with_reducible repeat (first | apply Kd.R_alloc | apply Kd.R_drewN | apply Kd.R_drew)); exact HO464.out) hb); have n1_ := Aside0.mk (Kd.N_below (Kd.N_elderB (by (with_reducible repeat (first | apply Kd.N_alloc | apply Kd.N_drewN | apply Kd.N_drew)); exact HO467.out) gb470 (Nat.le_of_eq hg.symm)) hb); have n2_ := Aside0.mk (blk_below (g := gb456) (o := .cells #[.int .i64 0, .slice none 0 0, .slice none 0 0] 27 (0, 0)) bkw hb); have n3_ := Aside0.mk (IsS58.below (by repeat (first | (with_reducible first | exact HI460.out | apply IsS58.alloc | apply IsS58.drewN | apply IsS58.drew | apply IsS58.set_1 | apply IsS58.set_2 | refine IsS58.far ?_ NB460_456.out _) | exact HI460.out)) hb); have n4_ := Aside0.mk (below_step (by repeat (first | (with_reducible first | exact HB.out | apply below_alloc | apply pw_below_drewN | apply below_drew1 | refine below_set ?_ (IsS58.ge HI460.out) | refine below_set ?_ GE456.out) | exact HB.out)) hb); have n5_ := Aside0.mk (hbox); have n6_ := Aside0.mk ((by rw [hg]; exact (below_size (by repeat (first | (with_reducible first | exact HB.out | apply below_alloc | apply pw_below_drewN | apply below_drew1 | refine below_set ?_ (IsS58.ge HI460.out) | refine below_set ?_ GE456.out) | exact HB.out))) : w.heap.size ≤ gb470)); have n7_ := n6_; have n8_ := Aside0.mk ((by rw [hg]; exact Nat.ne_of_lt (blk_lt (g := gb456) (o := .cells #[.int .i64 0, .slice none 0 0, .slice none 0 0] 27 (0, 0)) bkw) : gb456 ≠ gb470)); have n9_ := Aside0.mk ((by rw [hg]; exact Nat.ne_of_gt (blk_lt (g := gb456) (o := .cells #[.int .i64 0, .slice none 0 0, .slice none 0 0] 27 (0, 0)) bkw) : gb470 ≠ gb456)); have n10_ := Aside0.mk ((by rw [hg]; exact Nat.ne_of_lt (IsS58.lt (show IsS58 w _ g460 t457 t468 t469 from by repeat (first | (with_reducible first | exact HI460.out | apply IsS58.alloc | apply IsS58.drewN | apply IsS58.drew | apply IsS58.set_1 | apply IsS58.set_2 | refine IsS58.far ?_ NB460_456.out _) | exact HI460.out))) : g460 ≠ gb470)); have n11_ := Aside0.mk ((by rw [hg]; exact Nat.ne_of_gt (IsS58.lt (show IsS58 w _ g460 t457 t468 t469 from by repeat (first | (with_reducible first | exact HI460.out | apply IsS58.alloc | apply IsS58.drewN | apply IsS58.drew | apply IsS58.set_1 | apply IsS58.set_2 | refine IsS58.far ?_ NB460_456.out _) | exact HI460.out))) : gb470 ≠ g460)); clear HO464; clear HO467; clear BK456; clear HI460; clear HB; revert n0_ n1_ n2_ n3_ n4_ n5_ n6_ n7_ n8_ n9_ n10_ n11_; intro HO464 HO467 BK456 HI460 HB BK470 GW470 GE470 NB456_470 NB470_456 NB460_470 NB470_460; clear hb hbox hg; have hnb9 := NB470_456.out; have hnc9 := NB456_470.out; have hnb10 := NB470_460.out; have hnc10 := NB460_470.out; obtain ⟨hcz11_0, hcz11_1, hcz11_2⟩ := cls3 BK470.out; obtain ⟨hfz11_0, hfz11_1, hfz11_2⟩ := frz3 BK470.out; obtain ⟨Ao12, co12, eo12⟩ := Kd.R_slice HO464.out; subst eo12; obtain ⟨Ao13, co13, eo13⟩ := Kd.N_slice HO467.out; subst eo13))
 have n0_ : Aside0 (Kd.R Kd.string 9 (((w8.setCell ⟨gb470, 0, none⟩ (.int .i64 t461)).setCell ⟨gb470, 1, none⟩ (.slice Ao12 t462.length co12)).setCell ⟨gb470, 2, none⟩ (.slice Ao13 t465.length co13)) w.heap.size (fun k_ => (w.heap.size ≤ k_)) (.slice Ao12 t462.length co12) t462) := ⟨by (with_reducible repeat (first | apply Kd.R_alloc | apply Kd.R_drewN | apply Kd.R_drew)); exact Kd.R_mono (Kd.R_far (p := ⟨gb470, 2, none⟩) (Kd.R_far (p := ⟨gb470, 1, none⟩) (Kd.R_far (p := ⟨gb470, 0, none⟩) (Kd.R_types HO464.out BK470.out (by decide)) (fun _ hk => hk.2) (.int .i64 t461)) (fun _ hk => hk.2) (.slice Ao12 t462.length co12)) (fun _ hk => hk.2) (.slice Ao13 t465.length co13)) (fun _ hk => hk.1.1)⟩
 have n1_ : Aside0 (Kd.N k27 27 (((w8.setCell ⟨gb470, 0, none⟩ (.int .i64 t461)).setCell ⟨gb470, 1, none⟩ (.slice Ao12 t462.length co12)).setCell ⟨gb470, 2, none⟩ (.slice Ao13 t465.length co13)) w.heap.size (fun k_ => (w.heap.size ≤ k_) ∧ some k_ ≠ (.slice Ao12 t462.length co12 : Value).ownBlock ∧ k_ ≠ gb456 ∧ k_ ≠ g460 ∧ k_ ≠ gb470) (.slice Ao13 t465.length co13) t465) := ⟨by (with_reducible repeat (first | apply Kd.N_alloc | apply Kd.N_drewN | apply Kd.N_drew)); exact Kd.N_mono (Kd.N_far (p := ⟨gb470, 2, none⟩) (Kd.N_far (p := ⟨gb470, 1, none⟩) (Kd.N_far (p := ⟨gb470, 0, none⟩) (Kd.N_mono HO467.out (fun k_ hk => (⟨hk, hk.2⟩ : _ ∧ k_ ≠ gb470))) (fun _ hk => hk.2) (.int .i64 t461)) (fun _ hk => hk.2) (.slice Ao12 t462.length co12)) (fun _ hk => hk.2) (.slice Ao13 t465.length co13)) (fun _ hk => ⟨hk.1.1.1, ⟨hk.1.1.2.1, ⟨hk.1.1.2.2.1, ⟨hk.1.1.2.2.2, hk.1.2⟩⟩⟩⟩)⟩
 have n2_ : Aside0 ((((w8.setCell ⟨gb470, 0, none⟩ (.int .i64 t461)).setCell ⟨gb470, 1, none⟩ (.slice Ao12 t462.length co12)).setCell ⟨gb470, 2, none⟩ (.slice Ao13 t465.length co13)).heap[gb456]? = some (.cells #[.int .i64 0, .slice none 0 0, .slice none 0 0] 27 (0, 0))) := ⟨by (with_reducible repeat (first | refine blk_drewN ?_ _ | refine blk_drew ?_ | refine blk_alloc ?_ _)); refine blk_far ?_ NB456_470.out _; (with_reducible repeat (first | refine blk_drewN ?_ _ | refine blk_drew ?_ | refine blk_alloc ?_ _)); refine blk_far ?_ NB456_470.out _; (with_reducible repeat (first | refine blk_drewN ?_ _ | refine blk_drew ?_ | refine blk_alloc ?_ _)); refine blk_far ?_ NB456_470.out _; (with_reducible repeat (first | refine blk_drewN ?_ _ | refine blk_drew ?_ | refine blk_alloc ?_ _)); exact BK456.out⟩
 have n3_ : Aside0 ((((w8.setCell ⟨gb470, 0, none⟩ (.int .i64 t461)).setCell ⟨gb470, 1, none⟩ (.slice Ao12 t462.length co12)).setCell ⟨gb470, 2, none⟩ (.slice Ao13 t465.length co13)).heap[gb470]? = some (.cells #[.int .i64 t461, .slice Ao12 t462.length co12, .slice Ao13 t465.length co13] 27 (0, 0))) := ⟨by (with_reducible repeat (first | refine blk_drewN ?_ _ | refine blk_drew ?_ | refine blk_alloc ?_ _)); refine blk_put (cs := #[.int .i64 t461, .slice Ao12 t462.length co12, .slice none 0 0]) ?_ 2 _ rfl; (with_reducible repeat (first | refine blk_drewN ?_ _ | refine blk_drew ?_ | refine blk_alloc ?_ _)); refine blk_put (cs := #[.int .i64 t461, .slice none 0 0, .slice none 0 0]) ?_ 1 _ rfl; (with_reducible repeat (first | refine blk_drewN ?_ _ | refine blk_drew ?_ | refine blk_alloc ?_ _)); refine blk_put (cs := #[.int .i64 0, .slice none 0 0, .slice none 0 0]) ?_ 0 _ rfl; (with_reducible repeat (first | refine blk_drewN ?_ _ | refine blk_drew ?_ | refine blk_alloc ?_ _)); exact BK470.out⟩
 have n4_ : Aside0 (IsS58 w (((w8.setCell ⟨gb470, 0, none⟩ (.int .i64 t461)).setCell ⟨gb470, 1, none⟩ (.slice Ao12 t462.length co12)).setCell ⟨gb470, 2, none⟩ (.slice Ao13 t465.length co13)) g460 t457 t468 t469) := ⟨by repeat (first | (with_reducible first | exact HI460.out | apply IsS58.alloc | apply IsS58.drewN | apply IsS58.drew | apply IsS58.set_1 | apply IsS58.set_2 | refine IsS58.far ?_ NB460_456.out _ | refine IsS58.far ?_ NB460_470.out _) | exact HI460.out)⟩
 have n5_ : Aside0 (Below w.heap.size w (((w8.setCell ⟨gb470, 0, none⟩ (.int .i64 t461)).setCell ⟨gb470, 1, none⟩ (.slice Ao12 t462.length co12)).setCell ⟨gb470, 2, none⟩ (.slice Ao13 t465.length co13))) := ⟨by repeat (first | (with_reducible first | exact HB.out | apply below_alloc | apply pw_below_drewN | apply below_drew1 | refine below_set ?_ (IsS58.ge HI460.out) | refine below_set ?_ GE456.out | refine below_set ?_ GE470.out) | exact HB.out)⟩
 (try clear HO464)
 (try clear HO467)
 (try clear BK456)
 (try clear BK470)
 (try clear HI460)
 (try clear HB)
 generalize (((w8.setCell ⟨gb470, 0, none⟩ (.int .i64 t461)).setCell ⟨gb470, 1, none⟩ (.slice Ao12 t462.length co12)).setCell ⟨gb470, 2, none⟩ (.slice Ao13 t465.length co13)) = w14 at n0_ n1_ n2_ n3_ n4_ n5_ ⊢
 revert n0_ n1_ n2_ n3_ n4_ n5_
 intro HO464 HO467 BK456 BK470 HI460 HB
 have n0_ := Aside0.mk (Kd.R_drew HO464.out)
 have n1_ := Aside0.mk (Kd.N_drew HO467.out)
 have n2_ := Aside0.mk (blk_drew BK456.out)
 have n3_ := Aside0.mk (blk_drew BK470.out)
 have n4_ := Aside0.mk (IsS58.drew HI460.out)
 have n5_ := Aside0.mk (below_drew1 HB.out)
 clear HO464
 clear HO467
 clear BK456
 clear BK470
 clear HI460
 clear HB
 revert n0_ n1_ n2_ n3_ n4_ n5_
 intro HO464 HO467 BK456 BK470 HI460 HB
 refine start_ (n := 6) (S := fun w' => w'.cell? ⟨gb470, 0, none⟩ = some (.int .i64 t461) ∧ w'.cell? ⟨gb470, 1, none⟩ = some (.slice Ao12 t462.length co12) ∧ w'.cell? ⟨gb470, 2, none⟩ = some (.slice Ao13 t465.length co13)) (ds := []) #[false,false,false,false,false,false] kr rfl rfl ⟨(blk_cell BK470.out 0).trans rfl, (blk_cell BK470.out 1).trans rfl, (blk_cell BK470.out 2).trans rfl⟩ (fun hHeld => ?_)
 generalize w14.drew = w15 at HO464 HO467 BK456 BK470 HI460 HB hHeld ⊢
 refine pure_ (i := 1) (N := some 11) (v := ?_) (a' := ?_) (bm 6 2) rfl rfl kr qi (Or.inl ⟨by rfl, ?_⟩) ?_ ?_
 rotate_left
 ·intro w'
  go_simp
  with_reducible rfl
 rotate_left
 ·simp only [sx]
  rfl
 refine take_ (i := 0) (N := some 10) (v := ?_) (a' := ?_) (bm 6 3) rfl rfl kr qi (Or.inl ⟨by rfl, ?_⟩) hHeld ?_ ?_
 rotate_left
 ·rintro w' ⟨s0, s1, s2⟩
  go_simp
  with_reducible rfl
 rotate_left
 ·simp only [sx]
  rfl
 refine one_ (i := 2) (N := some 12) (bm 6 7) rfl rfl kr (by decide) (fun K hK => ?_)
 refine Kd.R_lit_step Kd.string _ 9 ?hg (N := 12) ?hd (xs := ([(⟨#[97]⟩ : ByteArray), (⟨#[98]⟩ : ByteArray), (⟨#[113]⟩ : ByteArray)] : List ByteArray)) (inner := [.string (⟨#[97]⟩ : ByteArray), .string (⟨#[98]⟩ : ByteArray), .string (⟨#[113]⟩ : ByteArray)]) (ok := fun _ => True) (okp := fun _ => True) ?hr ?hp (fun _ hk => hk) trivial (Below.refl _ _) (Nat.le_refl _) (by simp) ?_; (case hd => rfl); (case hg => rfl); (case hr => exact hrw); (case hp => exact (Reps.one (show Kd.M Kd.string _ _ _ (⟨#[97]⟩ : ByteArray) [.string (⟨#[97]⟩ : ByteArray)] from rfl) (Reps.one (show Kd.M Kd.string _ _ _ (⟨#[98]⟩ : ByteArray) [.string (⟨#[98]⟩ : ByteArray)] from rfl) (Reps.one (show Kd.M Kd.string _ _ _ (⟨#[113]⟩ : ByteArray) [.string (⟨#[113]⟩ : ByteArray)] from rfl) (Reps.none _ _)))))
 intro v472 w16 ho17 hb hg_ hnew_
 clear hg_ hnew_
 (first | rw [← Ny471.out] at ho17 | (simp only [Int.reduceToNat] at ho17; rw [← Ny471.out] at ho17))
 have n0_ := Aside0.mk (Kd.R_elder' (by (with_reducible repeat (first | apply Kd.R_alloc | apply Kd.R_drewN | apply Kd.R_drew)); exact HO464.out) (Kd.R_base ho17) hb)
 have n1_ := Aside0.mk (Kd.N_elder' (by (with_reducible repeat (first | apply Kd.N_alloc | apply Kd.N_drewN | apply Kd.N_drew)); exact HO467.out) (Kd.R_base ho17) hb)
 have n2_ := Aside0.mk (Kd.R_lower (Kd.R_new' (Kd.R_newM (M := fun k_ => (w.heap.size ≤ k_)) ho17 (below_size (by repeat (first | (with_reducible first | exact HB.out | apply below_alloc | apply pw_below_drewN | apply below_drew1 | refine below_set ?_ (IsS58.ge HI460.out) | refine below_set ?_ GE456.out | refine below_set ?_ GE470.out) | exact HB.out))) (fun k_ h_ => h_)) (Kd.R_lt (by (with_reducible repeat (first | apply Kd.R_alloc | apply Kd.R_drewN | apply Kd.R_drew)); exact HO464.out))) (below_size (by repeat (first | (with_reducible first | exact HB.out | apply below_alloc | apply pw_below_drewN | apply below_drew1 | refine below_set ?_ (IsS58.ge HI460.out) | refine below_set ?_ GE456.out | refine below_set ?_ GE470.out) | exact HB.out))))
 have n3_ := Aside0.mk (blk_below (g := gb456) (o := .cells #[.int .i64 0, .slice none 0 0, .slice none 0 0] 27 (0, 0)) bkw hb)
 have n4_ := Aside0.mk (IsS58.below (by repeat (first | (with_reducible first | exact HI460.out | apply IsS58.alloc | apply IsS58.drewN | apply IsS58.drew | apply IsS58.set_1 | apply IsS58.set_2 | refine IsS58.far ?_ NB460_456.out _ | refine IsS58.far ?_ NB460_470.out _) | exact HI460.out)) hb)
 have n5_ := Aside0.mk (blk_below (g := gb470) (o := .cells #[.int .i64 t461, .slice Ao12 t462.length co12, .slice Ao13 t465.length co13] 27 (0, 0)) bkw hb)
 have n6_ := Aside0.mk (below_step (by repeat (first | (with_reducible first | exact HB.out | apply below_alloc | apply pw_below_drewN | apply below_drew1 | refine below_set ?_ (IsS58.ge HI460.out) | refine below_set ?_ GE456.out | refine below_set ?_ GE470.out) | exact HB.out)) hb)
 clear HO464
 clear HO467
 clear BK456
 clear HI460
 clear BK470
 clear HB
 revert n0_ n1_ n2_ n3_ n4_ n5_ n6_
 intro HO464 HO467 HO473 BK456 HI460 BK470 HB
 clear hb ho17
 obtain ⟨Ao18, co18, eo18⟩ := Kd.R_slice HO473.out
 (first | subst eo18 | (injection eo18 with f1_ f2_ f3_; have f4_ := f1_.symm; have f5_ := f3_.symm; clear f1_ f2_ f3_; subst f4_; subst f5_))
 refine hK.out _ _ ⟨(blk_cell BK470.out 0).trans rfl, (blk_cell BK470.out 1).trans rfl, (blk_cell BK470.out 2).trans rfl⟩ (fun hHeld => ?_)
 clear hK K
 refine norm_ (a' := ?_) ?_ ?_
 rotate_left
 ·show Act.put _ (some 12) _ = _
  simp only [sx]
  rfl
 refine one_ (i := 3) (N := some 13) (bm 6 15) rfl rfl kr (by decide) (fun K hK => ?_)
 refine goes_ Try.func32 kr rfl #[.pointer (some ⟨g460, 0, none⟩), .slice Ao18 y471.length co18] (by rfl) rfl rfl mpw ?_
 with_reducible refine (spec_l1Pick.calls g460 t457 t468 t469 _ _ y471 t474 t475 t476 w _ ?side1 ?side2 ?side3 ?side4 ?side5 A4.out).mono ?_
 (case side1 => repeat (first | (with_reducible first | exact HI460.out | apply IsS58.alloc | apply IsS58.drewN | apply IsS58.drew | apply IsS58.set_1 | apply IsS58.set_2 | refine IsS58.far ?_ NB460_456.out _ | refine IsS58.far ?_ NB460_470.out _) | exact HI460.out))
 (case side2 => repeat (first | (with_reducible first | exact HB.out | apply below_alloc | apply pw_below_drewN | apply below_drew1 | refine below_set ?_ (IsS58.ge HI460.out) | refine below_set ?_ GE456.out | refine below_set ?_ GE470.out) | exact HB.out))
 (case side3 => repeat (first | exact (Kd.R_reads' HO473.out).2.2 | (with_reducible refine Kd.C_alloc ?_ _) | (with_reducible refine Kd.C_drewN ?_ _) | (with_reducible refine Kd.C_drew ?_)))
 (case side4 => exact (Kd.R_reads' HO473.out).2.1)
 (case side5 => exact far_slice (IsS58.own_ne HI460.out HO473.out (by decide)))
 rintro e w19 ⟨rfl, hi, hb, hk⟩
 refine ⟨_, rfl, ?_⟩
 have n0_ := Aside0.mk (KeepBut.blk hk (g' := gb456) (o := .cells #[.int .i64 0, .slice none 0 0, .slice none 0 0] 27 (0, 0)) bkw NB456_460.out (by simp))
 have n1_ := Aside0.mk (Kd.R_mono (Kd.R_keep (IsS58.apart (show IsS58 w _ g460 t457 t468 t469 from by repeat (first | (with_reducible first | exact HI460.out | apply IsS58.alloc | apply IsS58.drewN | apply IsS58.drew | apply IsS58.set_1 | apply IsS58.set_2 | refine IsS58.far ?_ NB460_456.out _ | refine IsS58.far ?_ NB460_470.out _) | exact HI460.out)) (by (with_reducible repeat (first | apply Kd.R_alloc | apply Kd.R_drewN | apply Kd.R_drew)); exact HO464.out) (by decide)) hk (fun _ h => h.2)) (fun _ h => h.1))
 have n2_ := Aside0.mk (Kd.N_mono (Kd.N_keep (Kd.N_mono (ok := fun k_ => ((((w.heap.size ≤ k_)) ∧ (some k_ ≠ (.slice Ao12 t462.length co12 : Value).ownBlock ∧ (k_ ≠ gb456 ∧ (k_ ≠ g460 ∧ k_ ≠ gb470)))) ∧ some k_ ≠ (.slice Ao18 y471.length co18 : Value).ownBlock)) (by (with_reducible repeat (first | apply Kd.N_alloc | apply Kd.N_drewN | apply Kd.N_drew)); exact HO467.out) (fun k_ hk_ => (⟨hk_, hk_.1.2.2.2.1⟩ : _ ∧ k_ ≠ g460))) hk (fun _ h => h.2)) (fun _ h => h.1))
 have n3_ := Aside0.mk (KeepBut.blk hk (g' := gb470) (o := .cells #[.int .i64 t461, .slice Ao12 t462.length co12, .slice Ao13 t465.length co13] 27 (0, 0)) bkw NB470_460.out (by simp))
 have n4_ := Aside0.mk (Kd.R_mono (Kd.R_keep (IsS58.apart (show IsS58 w _ g460 t457 t468 t469 from by repeat (first | (with_reducible first | exact HI460.out | apply IsS58.alloc | apply IsS58.drewN | apply IsS58.drew | apply IsS58.set_1 | apply IsS58.set_2 | refine IsS58.far ?_ NB460_456.out _ | refine IsS58.far ?_ NB460_470.out _) | exact HI460.out)) (by (with_reducible repeat (first | apply Kd.R_alloc | apply Kd.R_drewN | apply Kd.R_drew)); exact HO473.out) (by decide)) hk (fun _ h => h.2)) (fun _ h => h.1))
 have n5_ := Aside0.mk (hb)
 have n6_ := Aside0.mk (hi)
 clear BK456
 clear HO464
 clear HO467
 clear BK470
 clear HO473
 clear HB
 clear HI460
 revert n0_ n1_ n2_ n3_ n4_ n5_ n6_
 intro BK456 HO464 HO467 BK470 HO473 HB HI460
 (try clear hb)
 (try clear hb2)
 (try clear hk)
 (try clear hi)
 refine hK.out _ _ ⟨(blk_cell BK470.out 0).trans rfl, (blk_cell BK470.out 1).trans rfl, (blk_cell BK470.out 2).trans rfl⟩ (fun hHeld => ?_)
 clear hK K
 refine norm_ (a' := ?_) ?_ ?_
 rotate_left
 ·show Act.put _ (some 13) _ = _
  simp only [sx]
  rfl
 refine one_ (i := 4) (N := none) (bm 6 31) rfl rfl kr (by decide) (fun K hK => ?_)
 have hs20 : w19.cell? ⟨gb456, 0, none⟩ = some (.int .i64 0) := (blk_cell BK456.out 0).trans rfl
 have hfs20 := blk_frozen BK456.out 0
 have hns20_1 := NB470_456.out
 have hms20_1 := NB456_470.out
 have hs21 : w19.cell? ⟨gb456, 1, none⟩ = some (.slice none 0 0) := (blk_cell BK456.out 1).trans rfl
 have hfs21 := blk_frozen BK456.out 1
 have hns21_1 := NB470_456.out
 have hms21_1 := NB456_470.out
 have hs22 : w19.cell? ⟨gb456, 2, none⟩ = some (.slice none 0 0) := (blk_cell BK456.out 2).trans rfl
 have hfs22 := blk_frozen BK456.out 2
 have hns22_1 := NB470_456.out
 have hms22_1 := NB456_470.out
 refine skip_ (w1 := ?_) (by rfl) rfl ?_ ?_
 rotate_left
 ·go_simp
  rfl
 refine hK.out _ _ ⟨((cell_far (p := ⟨gb456, _, none⟩) NB470_456.out _).trans (((cell_far (p := ⟨gb456, _, none⟩) NB470_456.out _).trans (((cell_far (p := ⟨gb456, _, none⟩) NB470_456.out _).trans (hHeld.1)))))), ((cell_far (p := ⟨gb456, _, none⟩) NB470_456.out _).trans (((cell_far (p := ⟨gb456, _, none⟩) NB470_456.out _).trans (((cell_far (p := ⟨gb456, _, none⟩) NB470_456.out _).trans (hHeld.2.1)))))), ((cell_far (p := ⟨gb456, _, none⟩) NB470_456.out _).trans (((cell_far (p := ⟨gb456, _, none⟩) NB470_456.out _).trans (((cell_far (p := ⟨gb456, _, none⟩) NB470_456.out _).trans (hHeld.2.2))))))⟩ (fun hHeld => ?_)
 clear hK K
 refine pure_ (i := 5) (N := some 3) (v := ?_) (a' := ?_) (bm 6 63) rfl rfl kr qi (Or.inl ⟨by rfl, ?_⟩) ?_ ?_
 rotate_left
 ·intro w'
  go_simp
  with_reducible rfl
 rotate_left
 ·simp only [sx]
  rfl
 refine done_ kr ?_
 try go_wp2
 refine bodyPost_ret (results_ct rfl _ _ gb456 27 #[.int .i64 t461, .slice Ao12 t462.length co12, .slice Ao13 t465.length co13] (0, 0) _ rfl (by (with_reducible repeat (first | refine blk_drewN ?_ _ | refine blk_drew ?_ | refine blk_alloc ?_ _)); refine blk_put (cs := #[.int .i64 t461, .slice Ao12 t462.length co12, .slice none 0 0]) ?_ 2 _ rfl; (with_reducible repeat (first | refine blk_drewN ?_ _ | refine blk_drew ?_ | refine blk_alloc ?_ _)); refine blk_put (cs := #[.int .i64 t461, .slice none 0 0, .slice none 0 0]) ?_ 1 _ rfl; (with_reducible repeat (first | refine blk_drewN ?_ _ | refine blk_drew ?_ | refine blk_alloc ?_ _)); refine blk_put (cs := #[.int .i64 0, .slice none 0 0, .slice none 0 0]) ?_ 0 _ rfl; (with_reducible repeat (first | refine blk_drewN ?_ _ | refine blk_drew ?_ | refine blk_alloc ?_ _)); exact BK456.out) Try.underlying27 rfl kr) rfl ?_
 exact ⟨_, _, rfw, by (with_reducible repeat (first | apply Kd.R_alloc | apply Kd.R_drewN | apply Kd.R_drew)); exact Kd.R_mono (Kd.R_far (p := ⟨gb456, 2, none⟩) (Kd.R_far (p := ⟨gb456, 1, none⟩) (Kd.R_far (p := ⟨gb456, 0, none⟩) (Kd.R_types HO464.out BK456.out (by decide)) (fun _ hk => hk.2) (.int .i64 t461)) (fun _ hk => hk.2) (.slice Ao12 t462.length co12)) (fun _ hk => hk.2) (.slice Ao13 t465.length co13)) (fun _ hk => hk.1.1), by (with_reducible repeat (first | apply Kd.N_alloc | apply Kd.N_drewN | apply Kd.N_drew)); exact Kd.N_mono (Kd.N_far (p := ⟨gb456, 2, none⟩) (Kd.N_far (p := ⟨gb456, 1, none⟩) (Kd.N_far (p := ⟨gb456, 0, none⟩) (Kd.N_mono HO467.out (fun k_ hk => (⟨hk, hk.1.2.2.1⟩ : _ ∧ k_ ≠ gb456))) (fun _ hk => hk.2) (.int .i64 t461)) (fun _ hk => hk.2) (.slice Ao12 t462.length co12)) (fun _ hk => hk.2) (.slice Ao13 t465.length co13)) (fun _ hk => ⟨hk.1.1.1, hk.1.1.2.1⟩), by repeat (first | (with_reducible first | exact HB.out | apply below_alloc | apply pw_below_drewN | apply below_drew1 | refine below_set ?_ (IsS58.ge HI460.out) | refine below_set ?_ GE456.out | refine below_set ?_ GE470.out) | exact HB.out)⟩

/-! ### slices_Index_string_string: function 33 -/
def slices_Index_string_string.l0 : Nat → List ByteArray → ByteArray → Int → Int → Option (Int)
 | 0, _, _, _, _ => none
 | k + 1, x0, x1, x7, x8 => if x8 < x7 then (if 0 ≤ x8 then (if x8 < (x0.length : Int) then (if x1.toList = (rdOf ByteArray.empty x0 x8).toList then (some x8) else (slices_Index_string_string.l0 k x0 x1 x7 (wrap64 (x8 + 1)))) else (none)) else (none)) else (some (-1))
def slices_Index_string_string.f (k : Nat) (l0 : List ByteArray) (a1 : ByteArray) : Option (Int) := slices_Index_string_string.l0 k l0 a1 (l0.length : Int) 0
theorem slices_Index_string_string.calls (k : Nat) (A0 : Option Addr) (c0 : Nat) (l0 : List ByteArray) (a1 : ByteArray) (r : Int) (w : World) (hr0 : Kd.C Kd.string w A0 l0.length l0) (hc0 : l0.length ≤ c0) (h : slices_Index_string_string.f k l0 a1 = some r) :
  Calls Try.prog 33 #[.slice A0 l0.length c0, .string a1] w fun e w' => e = .returned (.int .i64 r) ∧ Drawn0 w w' := by
 have HR0 := Aside0.mk hr0
 have HC0 := Aside0.mk hc0
 clear hr0 hc0
 have H : (slices_Index_string_string.l0 k l0 a1 (l0.length : Int) 0) = some r := h
 clear h
 have H' := Aside0.mk H
 clear H
 go_enter Try.func33, Try.ntmps33
 go_wp2
 go_loopg [8] k (fun kq v8 w' => ∃ (x8_1 : Int), v8 = .int .i64 x8_1 ∧ Aside0 (slices_Index_string_string.l0 kq l0 a1 (l0.length : Int) x8_1 = some r) ∧ Aside0 (kq ≤ k) ∧ Drawn0 w w')
 case atStart => exact ⟨(0), rfs, H', ⟨Nat.le_refl _⟩, by repeat (first | exact Drawn0.refl _ | apply Drawn0.step)⟩
 case round =>
  clear H'
  try clear p2
  obtain ⟨x8_1, rfl, HA, HK1, ⟨m1, rfl⟩⟩ := hrel
  cases gk with
  | zero => exact absurd HA.out (by simp [slices_Index_string_string.l0])
  | succ k1 =>
   have H := HA.out
   clear HA
   simp only [slices_Index_string_string.l0] at H
   by_cases c3 : x8_1 < (l0.length : Int)
   case neg =>
    rw [if_neg c3] at H
    have c3b0 : decide (x8_1 < (l0.length : Int)) = false := decide_eq_false c3
    clear c3
    obtain rfl := Option.some.inj H
    go_wp2
    go_ret
    exact ⟨rfs, by repeat (first | exact Drawn0.refl _ | apply Drawn0.step)⟩
   rw [if_pos c3] at H
   have c3b0 : decide (x8_1 < (l0.length : Int)) = true := decide_eq_true c3
   clear c3
   by_cases c4 : 0 ≤ x8_1
   case neg =>
    rw [if_neg c4] at H
    exact absurd H (by simp)
   rw [if_pos c4] at H
   have c4b0 : decide (0 ≤ x8_1) = true := decide_eq_true c4
   clear c4
   by_cases c5 : x8_1 < (l0.length : Int)
   case neg =>
    rw [if_neg c5] at H
    exact absurd H (by simp)
   rw [if_pos c5] at H
   have c5b0 : decide (x8_1 < (l0.length : Int)) = true := decide_eq_true c5
   clear c5
   by_cases c6 : a1.toList = (rdOf ByteArray.empty l0 x8_1).toList
   ·rw [if_pos c6] at H
    have c6b0 : (a1.toList == (rdOf ByteArray.empty l0 x8_1).toList) = true := beq_iff_eq.mpr c6
    have c6b1 : (a1.toList != (rdOf ByteArray.empty l0 x8_1).toList) = false := bne_eq_false_iff_eq.mpr c6
    clear c6
    obtain rfl := Option.some.inj H
    have p477 : 0 ≤ (x8_1 : Int) := of_decide_eq_true asw
    have q477 : x8_1 < (l0.length : Int) := of_decide_eq_true asw
    obtain ⟨ad477, e477, hx477_0⟩ := Kd.at_string HR0.out x8_1 p477 q477
    cases e477
    replace p477 := eq_true p477
    replace q477 := eq_true q477
    go_wp2
    go_ret
    exact ⟨rfs, by repeat (first | exact Drawn0.refl _ | apply Drawn0.step)⟩
   rw [if_neg c6] at H
   have c6b0 : (a1.toList == (rdOf ByteArray.empty l0 x8_1).toList) = false := beq_eq_false_iff_ne.mpr c6
   have c6b1 : (a1.toList != (rdOf ByteArray.empty l0 x8_1).toList) = true := bne_iff_ne.mpr c6
   have H' := Aside0.mk H
   clear H
   have p477 : 0 ≤ (x8_1 : Int) := of_decide_eq_true asw
   have q477 : x8_1 < (l0.length : Int) := of_decide_eq_true asw
   obtain ⟨ad477, e477, hx477_0⟩ := Kd.at_string HR0.out x8_1 p477 q477
   cases e477
   replace p477 := eq_true p477
   replace q477 := eq_true q477
   go_wp2
   go_roundg k1
   case measure => have := HK1.out; omega
   case rel => exact ⟨(wrap64 (x8_1 + 1)), rfs, H', ⟨by have := HK1.out; omega⟩, by repeat (first | exact Drawn0.refl _ | apply Drawn0.step)⟩

/-! ### slices_Clone_string_string: function 52 -/
/-- slices.Clone at texts: the same texts, in a row of their own. -/
def slices_Clone_string_string.f (l0 : List ByteArray) : Option (List ByteArray) := if l0.length < 8796093022208 then some l0 else none
set_option maxHeartbeats 1000000 in
theorem slices_Clone_string_string.calls (A0 : Option Addr) (c0 : Nat) (l0 : List ByteArray) (r : List ByteArray) (w : World) (hr0 : Kd.C Kd.string w A0 l0.length l0) (hc0 : l0.length ≤ c0) (h : slices_Clone_string_string.f l0 = some r) :
  Calls Try.prog 52 #[.slice A0 l0.length c0] w fun e w' => ∃ v0_ : Value, e = .returned (v0_) ∧ Kd.R Kd.string 9 w' w.heap.size (fun _ => True) v0_ r ∧ Below w.heap.size w w' := by
 unfold slices_Clone_string_string.f at h
 by_cases hl : l0.length < 8796093022208
 case neg =>
  rw [if_neg hl] at h
  cases h
 rw [if_pos hl] at h
 obtain rfl := Option.some.inj h
 have HL := Aside0.mk hl
 have HR0 := Aside0.mk hr0
 have HC0 := Aside0.mk hc0
 clear h hl hr0 hc0
 cases A0 with
 | none =>
  have hz : l0 = [] := by
   rcases Nat.eq_zero_or_pos l0.length with h0 | h0
   ·exact List.eq_nil_of_length_eq_zero h0
   ·obtain ⟨ad, h, _⟩ := HR0.out.2.2 h0
    cases h
  subst hz
  have he : ∀ n c w', (binOp .eql 24 (.slice none n c) (.slice none 0 0)).run Try.prog w' = .ok (.bool true) w' := fun n c w' => Go.Proofs.Ytaakdfbfgabdbaa.Ext.eql_slice_nil Try.underlying24 none n c w'
  go_enter Try.func52, Try.ntmps52
  go_wp2
  go_ret
  exact ⟨_, rfl, Kd.R_nil _ _ _ _ _, Below.refl _ _⟩
 | some ad =>
  have he : ∀ n c w', (binOp .eql 24 (.slice (some ad) n c) (.slice none 0 0)).run Try.prog w' = .ok (.bool false) w' := fun n c w' => Go.Proofs.Ytaakdfbfgabdbaa.Ext.eql_slice_nil Try.underlying24 (some ad) n c w'
  go_enter Try.func52, Try.ntmps52
  go_wp2_with (first
   | ((with_reducible refine gate_dst (N := 5) rfl ?_); refine Kd.R_lit Kd.string _ 9 ?hg (N := 5) ?hd (xs := ([] : List ByteArray)) (inner := []) (ok := fun _ => True) (okp := fun _ => True) ?hr ?hp (fun _ hk => hk) trivial (Below.refl _ _) (Nat.le_refl _) (by simp) ?_; (case hd => rfl); (case hg => rfl); (case hr => exact hrw); (case hp => exact (Reps.none _ _)); intro v5 w5 ho5 hb5 hg_ hnew_; clear hg_ hnew_; have HO5 := Aside0.mk ho5; have HB5 := Aside0.mk hb5; clear ho5 hb5)
   | ((with_reducible refine gate_builtin (b := .append) (xs := #[.tmp 5, .tmp 6]) rfl ?_); at_builtin; refine Kd.R_append_rows Kd.string (w0 := w) w.heap.size rfl (.tmp 5) (.tmp 6) 24 9 (.string ⟨#[]⟩) 16 rfl Try.underlying24 info9 rfl (by decide) (by omega) v5 ([] : List ByteArray) l0 _ _ _ (fun _ => True) (fun _ => False) rfl rfl ?aO ?aR (fun _ _ h => h) (fun _ h => h.elim) ?aF ?aB ?aS ?aL ?_; (case aR => exact (Kd.C_below HR0.out HB5.out)); (case aB => exact HB5.out); (case aF => exact (fun _ _ => trivial)); (case aO => exact HO5.out); (case aS => exact below_size HB5.out); (case aL => have := HL.out; simp; omega); intro v7 w7 ho hb hg hat; have HO7 := Aside0.mk ho; have HB7 := Aside0.mk hb; clear ho hb hg hat; obtain ⟨A7, c7, e7⟩ := Kd.R_slice HO7.out; subst e7))
  go_ret
  exact ⟨_, rfw, HO7.out, HB7.out⟩

end Go.Proofs.Ytaakdfbfgabdbaa.Pt
