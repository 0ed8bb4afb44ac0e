/- Printed by a program of this session: what functions of the translation come to, each contract as it stands. No condition. -/
import Derived.Test.YtpkppeicceehcaaZEqualQuerySh
import Derived.Test.YtpkppeicceehcaaZEqualQueryPx0
import Derived.Test.YtpkppeicceehcaaZEqualQueryPx1M
import Derived.Test.YtpkppeicceehcaaZEqualQueryPx2M
namespace Go.Proofs.Ytpkppeicceehcaa.Px
set_option maxHeartbeats 8000000
set_option maxRecDepth 100000
open Go.RowKit Go.Proofs.Ytpkppeicceehcaa.Ext Go.Proofs.YtpkppeicceehcaaW.PrintWords Go.Proofs.YtpkppeicceehcaaW.PrintLast Go.Proofs.YtpkppeicceehcaaW.PrintMore
attribute [local go_sem] max2_int min2_int max_two min_two max_three min_three max_four min_four   -- for this text's walks alone
set_option linter.unusedVariables false
set_option linter.unusedSimpArgs false

mutual
def spec_EqualQuery.l0 : Nat → Int → List (S49) → List (S49) → Option (Bool)
 | 0, _, _, _ => none
 | k + 1, x5, x427000, x428000 => if x5 < (x427000.length : Int) then (if 0 ≤ x5 then (if x5 < (x428000.length : Int) then ((spec_l13EqualGens.f k ((rd_T49 x427000 x5).f0) ((rd_T49 x428000 x5).f0)).bind fun t432 => (if t432 = true then ((spec_EqualTerm.f k ((rd_T49 x427000 x5).f1.f0) ((rd_T49 x427000 x5).f1.f1) ((rd_T49 x427000 x5).f1.f2) ((rd_T49 x427000 x5).f1.f3.f0) ((rd_T49 x427000 x5).f1.f3.f1) ((rd_T49 x427000 x5).f1.f3.f2) ((rd_T49 x427000 x5).f1.f4) ((rd_T49 x427000 x5).f1.f5) ((rd_T49 x428000 x5).f1.f0) ((rd_T49 x428000 x5).f1.f1) ((rd_T49 x428000 x5).f1.f2) ((rd_T49 x428000 x5).f1.f3.f0) ((rd_T49 x428000 x5).f1.f3.f1) ((rd_T49 x428000 x5).f1.f3.f2) ((rd_T49 x428000 x5).f1.f4) ((rd_T49 x428000 x5).f1.f5)).bind fun t433 => (if t433 = true then ((spec_l13EqualHead.f k ((rd_T49 x427000 x5).f2.f0) ((rd_T49 x427000 x5).f2.f1.f0) ((rd_T49 x427000 x5).f2.f1.f1) ((rd_T49 x427000 x5).f2.f1.f2) ((rd_T49 x427000 x5).f2.f1.f3.f0) ((rd_T49 x427000 x5).f2.f1.f3.f1) ((rd_T49 x427000 x5).f2.f1.f3.f2) ((rd_T49 x427000 x5).f2.f1.f4) ((rd_T49 x427000 x5).f2.f1.f5) ((rd_T49 x427000 x5).f2.f2) ((rd_T49 x427000 x5).f2.f3) ((rd_T49 x427000 x5).f2.f4.f0) ((rd_T49 x428000 x5).f2.f0) ((rd_T49 x428000 x5).f2.f1.f0) ((rd_T49 x428000 x5).f2.f1.f1) ((rd_T49 x428000 x5).f2.f1.f2) ((rd_T49 x428000 x5).f2.f1.f3.f0) ((rd_T49 x428000 x5).f2.f1.f3.f1) ((rd_T49 x428000 x5).f2.f1.f3.f2) ((rd_T49 x428000 x5).f2.f1.f4) ((rd_T49 x428000 x5).f2.f1.f5) ((rd_T49 x428000 x5).f2.f2) ((rd_T49 x428000 x5).f2.f3) ((rd_T49 x428000 x5).f2.f4.f0)).bind fun t434 => (if t434 = true then (spec_EqualQuery.l0 k (wrap64 (x5 + 1)) x427000 x428000) else (some false))) else (some false))) else (some false))) else (none)) else (none)) else (some true)
def spec_EqualQuery.f : Nat → List (S49) → List (S49) → Option (Bool)
 | 0, _, _ => none
 | k + 1, l0_0, l1_0 => if (l0_0.length : Int) = (l1_0.length : Int) then (spec_EqualQuery.l0 k 0 l0_0 l1_0) else (some false)
def spec_l13EqualHead.j0 : Nat → Bool → Int → Int → ByteArray → Int → Int → List ByteArray → List (S41) → List ByteArray → List (S44) → List ByteArray → List (S47) → List (S49) → Int → Int → ByteArray → Int → Int → List ByteArray → List (S41) → List ByteArray → List (S44) → List ByteArray → List (S47) → List (S49) → Option (Bool)
 | 0, _, _, _, _, _, _, _, _, _, _, _, _, _, _, _, _, _, _, _, _, _, _, _, _, _ => none
 | k + 1, x43, x436000, x436001, x436002, x436003, x436004, x436005, x436006, x436007, x436008, x436009, x436010, x436011, x437000, x437001, x437002, x437003, x437004, x437005, x437006, x437007, x437008, x437009, x437010, x437011 => if x43 = true then (some false) else (spec_l13EqualHead.l0 k 0 x436000 x436001 x436002 x436003 x436004 x436005 x436006 x436007 x436008 x436009 x436010 x436011 x437000 x437001 x437002 x437003 x437004 x437005 x437006 x437007 x437008 x437009 x437010 x437011)
def spec_l13EqualHead.l0 : Nat → Int → Int → Int → ByteArray → Int → Int → List ByteArray → List (S41) → List ByteArray → List (S44) → List ByteArray → List (S47) → List (S49) → Int → Int → ByteArray → Int → Int → List ByteArray → List (S41) → List ByteArray → List (S44) → List ByteArray → List (S47) → List (S49) → Option (Bool)
 | 0, _, _, _, _, _, _, _, _, _, _, _, _, _, _, _, _, _, _, _, _, _, _, _, _, _ => none
 | k + 1, x5, x436000, x436001, x436002, x436003, x436004, x436005, x436006, x436007, x436008, x436009, x436010, x436011, x437000, x437001, x437002, x437003, x437004, x437005, x437006, x437007, x437008, x437009, x437010, x437011 => if x5 < (x436010.length : Int) then (if 0 ≤ x5 then (if x5 < (x437010.length : Int) then ((spec_l13EqualHead.f k ((rd_T47 x436010 x5).f0) ((rd_T47 x436010 x5).f1.f0) ((rd_T47 x436010 x5).f1.f1) ((rd_T47 x436010 x5).f1.f2) ((rd_T47 x436010 x5).f1.f3.f0) ((rd_T47 x436010 x5).f1.f3.f1) ((rd_T47 x436010 x5).f1.f3.f2) ((rd_T47 x436010 x5).f1.f4) ((rd_T47 x436010 x5).f1.f5) ((rd_T47 x436010 x5).f2) ((rd_T47 x436010 x5).f3) ((rd_T47 x436010 x5).f4.f0) ((rd_T47 x437010 x5).f0) ((rd_T47 x437010 x5).f1.f0) ((rd_T47 x437010 x5).f1.f1) ((rd_T47 x437010 x5).f1.f2) ((rd_T47 x437010 x5).f1.f3.f0) ((rd_T47 x437010 x5).f1.f3.f1) ((rd_T47 x437010 x5).f1.f3.f2) ((rd_T47 x437010 x5).f1.f4) ((rd_T47 x437010 x5).f1.f5) ((rd_T47 x437010 x5).f2) ((rd_T47 x437010 x5).f3) ((rd_T47 x437010 x5).f4.f0)).bind fun t442 => (if t442 = true then (spec_l13EqualHead.l0 k (wrap64 (x5 + 1)) x436000 x436001 x436002 x436003 x436004 x436005 x436006 x436007 x436008 x436009 x436010 x436011 x437000 x437001 x437002 x437003 x437004 x437005 x437006 x437007 x437008 x437009 x437010 x437011) else (some false))) else (none)) else (none)) else (some true)
def spec_l13EqualHead.f : Nat → Int → Int → ByteArray → Int → Int → List ByteArray → List (S41) → List ByteArray → List (S44) → List ByteArray → List (S47) → List (S49) → Int → Int → ByteArray → Int → Int → List ByteArray → List (S41) → List ByteArray → List (S44) → List ByteArray → List (S47) → List (S49) → Option (Bool)
 | 0, _, _, _, _, _, _, _, _, _, _, _, _, _, _, _, _, _, _, _, _, _, _, _, _ => none
 | k + 1, a0_0, a0_1, a0_2, a0_3, a0_4, l0_5, l0_6, l0_7, l0_8, l0_9, l0_10, l0_11, a1_0, a1_1, a1_2, a1_3, a1_4, l1_5, l1_6, l1_7, l1_8, l1_9, l1_10, l1_11 => if a0_0 = a1_0 then ((spec_EqualTerm.f k a0_1 a0_2 a0_3 a0_4 l0_5 l0_6 l0_7 l0_8 a1_1 a1_2 a1_3 a1_4 l1_5 l1_6 l1_7 l1_8).bind fun t437 => (if t437 = true then ((spec_l3Texts.f k l0_9 l1_9).bind fun t438 => (if t438 = true then (if (l0_10.length : Int) = (l1_10.length : Int) then ((spec_EqualQuery.f k l0_11 l1_11).bind fun t439 => (spec_l13EqualHead.j0 k (!t439) a0_0 a0_1 a0_2 a0_3 a0_4 l0_5 l0_6 l0_7 l0_8 l0_9 l0_10 l0_11 a1_0 a1_1 a1_2 a1_3 a1_4 l1_5 l1_6 l1_7 l1_8 l1_9 l1_10 l1_11)) else (spec_l13EqualHead.j0 k true a0_0 a0_1 a0_2 a0_3 a0_4 l0_5 l0_6 l0_7 l0_8 l0_9 l0_10 l0_11 a1_0 a1_1 a1_2 a1_3 a1_4 l1_5 l1_6 l1_7 l1_8 l1_9 l1_10 l1_11)) else (spec_l13EqualHead.j0 k true a0_0 a0_1 a0_2 a0_3 a0_4 l0_5 l0_6 l0_7 l0_8 l0_9 l0_10 l0_11 a1_0 a1_1 a1_2 a1_3 a1_4 l1_5 l1_6 l1_7 l1_8 l1_9 l1_10 l1_11))) else (spec_l13EqualHead.j0 k true a0_0 a0_1 a0_2 a0_3 a0_4 l0_5 l0_6 l0_7 l0_8 l0_9 l0_10 l0_11 a1_0 a1_1 a1_2 a1_3 a1_4 l1_5 l1_6 l1_7 l1_8 l1_9 l1_10 l1_11))) else (spec_l13EqualHead.j0 k true a0_0 a0_1 a0_2 a0_3 a0_4 l0_5 l0_6 l0_7 l0_8 l0_9 l0_10 l0_11 a1_0 a1_1 a1_2 a1_3 a1_4 l1_5 l1_6 l1_7 l1_8 l1_9 l1_10 l1_11)
end
abbrev spec_EqualQuery.T (k : Nat) : Prop := ∀ (A0_0 : Option Addr) (c0_0 : Nat) (l0_0 : List (S49)) (A1_0 : Option Addr) (c1_0 : Nat) (l1_0 : List (S49)) (r : Bool) (w : World) (hr0_0 : Kd.C k49 w A0_0 l0_0.length l0_0) (hc0_0 : l0_0.length ≤ c0_0) (hr1_0 : Kd.C k49 w A1_0 l1_0.length l1_0) (hc1_0 : l1_0.length ≤ c1_0) (h : spec_EqualQuery.f k l0_0 l1_0 = some r),
  Calls Try.prog 13 #[.agg #[.slice A0_0 l0_0.length c0_0], .agg #[.slice A1_0 l1_0.length c1_0]] w fun e w' => e = .returned (.bool r) ∧ Below w.heap.size w w'
abbrev spec_l13EqualHead.T (k : Nat) : Prop := ∀ (a0_0 : Int) (a0_1 : Int) (a0_2 : ByteArray) (a0_3 : Int) (a0_4 : Int) (A0_5 : Option Addr) (c0_5 : Nat) (l0_5 : List ByteArray) (A0_6 : Option Addr) (c0_6 : Nat) (l0_6 : List (S41)) (A0_7 : Option Addr) (c0_7 : Nat) (l0_7 : List ByteArray) (A0_8 : Option Addr) (c0_8 : Nat) (l0_8 : List (S44)) (A0_9 : Option Addr) (c0_9 : Nat) (l0_9 : List ByteArray) (A0_10 : Option Addr) (c0_10 : Nat) (l0_10 : List (S47)) (A0_11 : Option Addr) (c0_11 : Nat) (l0_11 : List (S49)) (a1_0 : Int) (a1_1 : Int) (a1_2 : ByteArray) (a1_3 : Int) (a1_4 : Int) (A1_5 : Option Addr) (c1_5 : Nat) (l1_5 : List ByteArray) (A1_6 : Option Addr) (c1_6 : Nat) (l1_6 : List (S41)) (A1_7 : Option Addr) (c1_7 : Nat) (l1_7 : List ByteArray) (A1_8 : Option Addr) (c1_8 : Nat) (l1_8 : List (S44)) (A1_9 : Option Addr) (c1_9 : Nat) (l1_9 : List ByteArray) (A1_10 : Option Addr) (c1_10 : Nat) (l1_10 : List (S47)) (A1_11 : Option Addr) (c1_11 : Nat) (l1_11 : List (S49)) (r : Bool) (w : World) (hr0_5 : Kd.C Kd.string w A0_5 l0_5.length l0_5) (hc0_5 : l0_5.length ≤ c0_5) (hr0_6 : Kd.C k41 w A0_6 l0_6.length l0_6) (hc0_6 : l0_6.length ≤ c0_6) (hr0_7 : Kd.C Kd.string w A0_7 l0_7.length l0_7) (hc0_7 : l0_7.length ≤ c0_7) (hr0_8 : Kd.C k44 w A0_8 l0_8.length l0_8) (hc0_8 : l0_8.length ≤ c0_8) (hr0_9 : Kd.C Kd.string w A0_9 l0_9.length l0_9) (hc0_9 : l0_9.length ≤ c0_9) (hr0_10 : Kd.C k47 w A0_10 l0_10.length l0_10) (hc0_10 : l0_10.length ≤ c0_10) (hr0_11 : Kd.C k49 w A0_11 l0_11.length l0_11) (hc0_11 : l0_11.length ≤ c0_11) (hr1_5 : Kd.C Kd.string w A1_5 l1_5.length l1_5) (hc1_5 : l1_5.length ≤ c1_5) (hr1_6 : Kd.C k41 w A1_6 l1_6.length l1_6) (hc1_6 : l1_6.length ≤ c1_6) (hr1_7 : Kd.C Kd.string w A1_7 l1_7.length l1_7) (hc1_7 : l1_7.length ≤ c1_7) (hr1_8 : Kd.C k44 w A1_8 l1_8.length l1_8) (hc1_8 : l1_8.length ≤ c1_8) (hr1_9 : Kd.C Kd.string w A1_9 l1_9.length l1_9) (hc1_9 : l1_9.length ≤ c1_9) (hr1_10 : Kd.C k47 w A1_10 l1_10.length l1_10) (hc1_10 : l1_10.length ≤ c1_10) (hr1_11 : Kd.C k49 w A1_11 l1_11.length l1_11) (hc1_11 : l1_11.length ≤ c1_11) (h : spec_l13EqualHead.f k a0_0 a0_1 a0_2 a0_3 a0_4 l0_5 l0_6 l0_7 l0_8 l0_9 l0_10 l0_11 a1_0 a1_1 a1_2 a1_3 a1_4 l1_5 l1_6 l1_7 l1_8 l1_9 l1_10 l1_11 = some r),
  Calls Try.prog 25 #[.agg #[.int .i64 a0_0, .int .i64 a0_1, .string a0_2, .int .i64 a0_3, .int .i64 a0_4, .slice A0_5 l0_5.length c0_5, .slice A0_6 l0_6.length c0_6, .slice A0_7 l0_7.length c0_7, .slice A0_8 l0_8.length c0_8, .slice A0_9 l0_9.length c0_9, .slice A0_10 l0_10.length c0_10, .slice A0_11 l0_11.length c0_11], .agg #[.int .i64 a1_0, .int .i64 a1_1, .string a1_2, .int .i64 a1_3, .int .i64 a1_4, .slice A1_5 l1_5.length c1_5, .slice A1_6 l1_6.length c1_6, .slice A1_7 l1_7.length c1_7, .slice A1_8 l1_8.length c1_8, .slice A1_9 l1_9.length c1_9, .slice A1_10 l1_10.length c1_10, .slice A1_11 l1_11.length c1_11]] w fun e w' => e = .returned (.bool r) ∧ Below w.heap.size w w'
/-! ### spec_EqualQuery: function 13 -/
theorem spec_EqualQuery.step (k : Nat) (ih : ∀ m, m < k → spec_EqualQuery.T m) (ih_25 : ∀ m, m < k → spec_l13EqualHead.T m) : spec_EqualQuery.T k := by
 intro A0_0 c0_0 l0_0 A1_0 c1_0 l1_0 r w hr0_0 hc0_0 hr1_0 hc1_0 h
 cases k with
 | zero => exact absurd h (by simp [spec_EqualQuery.f])
 | succ k =>
 simp only [spec_EqualQuery.f] at h
 have hu29 := Try.underlying29
 have hu49 := Try.underlying49
 have hu44 := Try.underlying44
 have hu47 := Try.underlying47
 have HR0_0 := am hr0_0
 have HC0_0 := am hc0_0
 clear hr0_0 hc0_0
 have HR1_0 := am hr1_0
 have HC1_0 := am hc1_0
 clear hr1_0 hc1_0
 have HB := am (Below.refl w.heap.size w)
 have H : (if (l0_0.length : Int) = (l1_0.length : Int) then (spec_EqualQuery.l0 k 0 l0_0 l1_0) else (some false)) = some r := h
 clear h
 have HC3 := am H
 clear H
 go_enter Try.func13, Try.ntmps13
 go_upto_if 14 with (first | ((with_reducible refine gate_dst (N := 2) rfl ?_); refine box_event ?hg (N := 2) ?hd (cs := #[.slice A0_0 l0_0.length c0_0]) (t := 29) ?hr ?_; (case hd => rfl); (case hg => rfl); (case hr => exact hrw); intro gb426 hg w4 hbox hb; have n0_ := am (below_step blw hb); have n1_ := am (hbox); have n2_ := am ((by rw [hg]; exact (below_size blw) : w.heap.size ≤ gb426)); have n3_ := n2_; clear HB; revert n0_ n1_ n2_ n3_; intro HB BK426 GW426 GE426; clear hb hbox hg) | ((with_reducible refine gate_dst (N := 3) rfl ?_); refine box_event ?hg (N := 3) ?hd (cs := #[.slice A1_0 l1_0.length c1_0]) (t := 29) ?hr ?_; (case hd => rfl); (case hg => rfl); (case hr => exact hrw); intro gb427 hg w5 hbox hb; have n0_ := am (blk_below (g := gb426) bkw hb); have n1_ := am (below_step blw hb); have n2_ := am (hbox); have n3_ := am ((by rw [hg]; exact (below_size blw) : w.heap.size ≤ gb427)); have n4_ := n3_; have n5_ := am ((by rw [hg]; exact Nat.ne_of_lt (blk_lt (g := gb426) bkw) : gb426 ≠ gb427)); have n6_ := am ((by rw [hg]; exact Nat.ne_of_gt (blk_lt (g := gb426) bkw) : gb427 ≠ gb426)); clear BK426; clear HB; revert n0_ n1_ n2_ n3_ n4_ n5_ n6_; intro BK426 HB BK427 GW427 GE427 NB426_427 NB427_426; clear hb hbox hg; have hnb6 := NB426_427.out; have hnc6 := NB427_426.out; have hcz7_0 : w5.cell? ⟨gb426, 0, none⟩ = some (.slice A0_0 l0_0.length c0_0) := (blk_cell BK426.out 0).trans rfl; have hfz7_0 := blk_frozen BK426.out 0; have hcz8_0 : w5.cell? ⟨gb427, 0, none⟩ = some (.slice A1_0 l1_0.length c1_0) := (blk_cell BK427.out 0).trans rfl; have hfz8_0 := blk_frozen BK427.out 0))
 have H := HC3.out
 clear HC3
 by_cases c9 : (l0_0.length : Int) = (l1_0.length : Int)
 case neg =>
  rw [if_neg c9] at H
  have c9b0 : ((l0_0.length : Int) == (l1_0.length : Int)) = false := beq_eq_false_iff_ne.mpr c9
  have c9b1 : ((l0_0.length : Int) != (l1_0.length : Int)) = true := bne_iff_ne.mpr c9
  have c9b2 : (l0_0.length == l1_0.length) = false := by first | simpa using c9 | (simp at c9 ⊢; omega)
  (first | rw [c9b0] | (simp only [i64_w, i32_w]; rw [c9b0]) | (rw [c9b1]; (try simp only [Bool.not_true, Bool.not_false])) | (rw [c9b2]; (try simp only [Bool.not_true, Bool.not_false])) | skip)
  obtain rfl := Option.some.inj H
  go_wp2
  go_ret
  exact ⟨rfw, blw⟩
 rw [if_pos c9] at H
 have c9b0 : ((l0_0.length : Int) == (l1_0.length : Int)) = true := beq_iff_eq.mpr c9
 have c9b1 : ((l0_0.length : Int) != (l1_0.length : Int)) = false := bne_eq_false_iff_eq.mpr c9
 have c9b2 : (l0_0.length == l1_0.length) = true := by first | simpa using c9 | (simp at c9 ⊢; omega)
 clear c9
 (first | rw [c9b0] | (simp only [i64_w, i32_w]; rw [c9b0]) | (rw [c9b1]; (try simp only [Bool.not_true, Bool.not_false])) | (rw [c9b2]; (try simp only [Bool.not_true, Bool.not_false])) | skip)
 have H' := am H
 clear H
 go_wp2
 go_loopg [5] k (fun kq v5 w' => ∃ (x5_1 : Int), v5 = .int .i64 x5_1 ∧ Aside0 (spec_EqualQuery.l0 kq x5_1 l0_0 l1_0 = some r) ∧ Aside0 (kq ≤ k) ∧ Aside0 (w'.heap[gb426]? = some (.cells #[(.slice A0_0 l0_0.length c0_0)] 29 (0, 0))) ∧ Aside0 (w'.heap[gb427]? = some (.cells #[(.slice A1_0 l1_0.length c1_0)] 29 (0, 0))) ∧ Aside0 (Below w.heap.size w w'))
 case atStart => exact ⟨(0), rfs, H', ⟨Nat.le_refl _⟩, ⟨bkw⟩, ⟨bkw⟩, ⟨blw⟩⟩
 case round =>
  clear H'
  (try clear c1); (try clear p2); (try clear c6); (try clear c9); (try clear c9b0); (try clear c9b1); (try clear c9b2); (try clear hcz7_0); (try clear hcz8_0); (try clear hfz7_0); (try clear hfz8_0)
  obtain ⟨x5_1, rfl, HA, HK1, BK426, BK427, HB⟩ := hrel
  cases gk with
  | zero => exact absurd HA.out (by simp [spec_EqualQuery.l0])
  | succ k1 =>
   have H := HA.out
   clear HA
   simp only [spec_EqualQuery.l0] at H
   by_cases c10 : x5_1 < (l0_0.length : Int)
   case neg =>
    rw [if_neg c10] at H
    have c10b0 : decide (x5_1 < (l0_0.length : Int)) = false := decide_eq_false c10
    clear c10
    obtain rfl := Option.some.inj H
    have hnb64 := NB426_427.out
    have hnc64 := NB427_426.out
    have hcz65_0 : wr.cell? ⟨gb426, 0, none⟩ = some (.slice A0_0 l0_0.length c0_0) := (blk_cell BK426.out 0).trans rfl
    have hfz65_0 := blk_frozen BK426.out 0
    go_wp2
    go_ret
    exact ⟨rfw, blw⟩
   rw [if_pos c10] at H
   have c10b0 : decide (x5_1 < (l0_0.length : Int)) = true := decide_eq_true c10
   clear c10
   by_cases c11 : 0 ≤ x5_1
   case neg =>
    rw [if_neg c11] at H
    exact absurd H (by simp)
   rw [if_pos c11] at H
   have c11b0 : decide (0 ≤ x5_1) = true := decide_eq_true c11
   clear c11
   by_cases c12 : x5_1 < (l1_0.length : Int)
   case neg =>
    rw [if_neg c12] at H
    exact absurd H (by simp)
   rw [if_pos c12] at H
   have c12b0 : decide (x5_1 < (l1_0.length : Int)) = true := decide_eq_true c12
   clear c12
   replace H := Option.bind_eq_some_iff.mp H
   obtain ⟨t432, A130, H⟩ := H
   replace H : (if t432 = true then ((spec_EqualTerm.f k1 ((rd_T49 l0_0 x5_1).f1.f0) ((rd_T49 l0_0 x5_1).f1.f1) ((rd_T49 l0_0 x5_1).f1.f2) ((rd_T49 l0_0 x5_1).f1.f3.f0) ((rd_T49 l0_0 x5_1).f1.f3.f1) ((rd_T49 l0_0 x5_1).f1.f3.f2) ((rd_T49 l0_0 x5_1).f1.f4) ((rd_T49 l0_0 x5_1).f1.f5) ((rd_T49 l1_0 x5_1).f1.f0) ((rd_T49 l1_0 x5_1).f1.f1) ((rd_T49 l1_0 x5_1).f1.f2) ((rd_T49 l1_0 x5_1).f1.f3.f0) ((rd_T49 l1_0 x5_1).f1.f3.f1) ((rd_T49 l1_0 x5_1).f1.f3.f2) ((rd_T49 l1_0 x5_1).f1.f4) ((rd_T49 l1_0 x5_1).f1.f5)).bind fun t433 => (if t433 = true then ((spec_l13EqualHead.f k1 ((rd_T49 l0_0 x5_1).f2.f0) ((rd_T49 l0_0 x5_1).f2.f1.f0) ((rd_T49 l0_0 x5_1).f2.f1.f1) ((rd_T49 l0_0 x5_1).f2.f1.f2) ((rd_T49 l0_0 x5_1).f2.f1.f3.f0) ((rd_T49 l0_0 x5_1).f2.f1.f3.f1) ((rd_T49 l0_0 x5_1).f2.f1.f3.f2) ((rd_T49 l0_0 x5_1).f2.f1.f4) ((rd_T49 l0_0 x5_1).f2.f1.f5) ((rd_T49 l0_0 x5_1).f2.f2) ((rd_T49 l0_0 x5_1).f2.f3) ((rd_T49 l0_0 x5_1).f2.f4.f0) ((rd_T49 l1_0 x5_1).f2.f0) ((rd_T49 l1_0 x5_1).f2.f1.f0) ((rd_T49 l1_0 x5_1).f2.f1.f1) ((rd_T49 l1_0 x5_1).f2.f1.f2) ((rd_T49 l1_0 x5_1).f2.f1.f3.f0) ((rd_T49 l1_0 x5_1).f2.f1.f3.f1) ((rd_T49 l1_0 x5_1).f2.f1.f3.f2) ((rd_T49 l1_0 x5_1).f2.f1.f4) ((rd_T49 l1_0 x5_1).f2.f1.f5) ((rd_T49 l1_0 x5_1).f2.f2) ((rd_T49 l1_0 x5_1).f2.f3) ((rd_T49 l1_0 x5_1).f2.f4.f0)).bind fun t434 => (if t434 = true then (spec_EqualQuery.l0 k1 (wrap64 (x5_1 + 1)) l0_0 l1_0) else (some false))) else (some false))) else (some false)) = some r := H
   have A13 := am A130
   clear A130
   by_cases c14 : t432 = true
   case neg =>
    replace c14 := Bool.eq_false_iff.mpr c14
    subst c14
    have H1 : (some false) = some r := by rw [if_neg (show ¬ (false = true) by decide)] at H; exact H
    clear H
    have H := H1
    clear H1
    obtain rfl := Option.some.inj H
    have hnb51 := NB426_427.out
    have hnc51 := NB427_426.out
    have hcz52_0 : wr.cell? ⟨gb426, 0, none⟩ = some (.slice A0_0 l0_0.length c0_0) := (blk_cell BK426.out 0).trans rfl
    have hfz52_0 := blk_frozen BK426.out 0
    have p428 : 0 ≤ (x5_1 : Int) := of_decide_eq_true asw
    have q428 : x5_1 < (l0_0.length : Int) := of_decide_eq_true asw
    obtain ⟨ad428, A428_0, c428_0, A428_5, c428_5, A428_6, c428_6, A428_7, c428_7, A428_8, c428_8, A428_14, c428_14, A428_15, c428_15, A428_16, c428_16, A428_17, c428_17, A428_18, c428_18, A428_19, c428_19, A428_20, c428_20, e428, hx428_0, hx428_1, hx428_2, hx428_3, hx428_4, hx428_5, hx428_6, hx428_7, hx428_8, hx428_9, hx428_10, hx428_11, hx428_12, hx428_13, hx428_14, hx428_15, hx428_16, hx428_17, hx428_18, hx428_19, hx428_20, hl428_0, hi428_0, hl428_5, hi428_5, hl428_6, hi428_6, hl428_7, hi428_7, hl428_8, hi428_8, hl428_14, hi428_14, hl428_15, hi428_15, hl428_16, hi428_16, hl428_17, hi428_17, hl428_18, hi428_18, hl428_19, hi428_19, hl428_20, hi428_20⟩ := at_T49 HR0_0.out x5_1 p428 q428
    cases e428
    replace hx428_0 := upw HB.out hx428_0
    replace hx428_1 := upw HB.out hx428_1
    replace hx428_2 := upw HB.out hx428_2
    replace hx428_3 := upw HB.out hx428_3
    replace hx428_4 := upw HB.out hx428_4
    replace hx428_5 := upw HB.out hx428_5
    replace hx428_6 := upw HB.out hx428_6
    replace hx428_7 := upw HB.out hx428_7
    replace hx428_8 := upw HB.out hx428_8
    replace hx428_9 := upw HB.out hx428_9
    replace hx428_10 := upw HB.out hx428_10
    replace hx428_11 := upw HB.out hx428_11
    replace hx428_12 := upw HB.out hx428_12
    replace hx428_13 := upw HB.out hx428_13
    replace hx428_14 := upw HB.out hx428_14
    replace hx428_15 := upw HB.out hx428_15
    replace hx428_16 := upw HB.out hx428_16
    replace hx428_17 := upw HB.out hx428_17
    replace hx428_18 := upw HB.out hx428_18
    replace hx428_19 := upw HB.out hx428_19
    replace hx428_20 := upw HB.out hx428_20
    have HR428_0 := am hi428_0
    have HC428_0 := am hl428_0
    clear hi428_0 hl428_0
    have HR428_5 := am hi428_5
    have HC428_5 := am hl428_5
    clear hi428_5 hl428_5
    have HR428_6 := am hi428_6
    have HC428_6 := am hl428_6
    clear hi428_6 hl428_6
    have HR428_7 := am hi428_7
    have HC428_7 := am hl428_7
    clear hi428_7 hl428_7
    have HR428_8 := am hi428_8
    have HC428_8 := am hl428_8
    clear hi428_8 hl428_8
    have HR428_14 := am hi428_14
    have HC428_14 := am hl428_14
    clear hi428_14 hl428_14
    have HR428_15 := am hi428_15
    have HC428_15 := am hl428_15
    clear hi428_15 hl428_15
    have HR428_16 := am hi428_16
    have HC428_16 := am hl428_16
    clear hi428_16 hl428_16
    have HR428_17 := am hi428_17
    have HC428_17 := am hl428_17
    clear hi428_17 hl428_17
    have HR428_18 := am hi428_18
    have HC428_18 := am hl428_18
    clear hi428_18 hl428_18
    have HR428_19 := am hi428_19
    have HC428_19 := am hl428_19
    clear hi428_19 hl428_19
    have HR428_20 := am hi428_20
    have HC428_20 := am hl428_20
    clear hi428_20 hl428_20
    replace p428 := eq_true p428
    replace q428 := eq_true q428
    go_wp2_with (first | ((with_reducible refine gate_dst (N := 26) rfl ?_); refine wide_load (N := 26) rfl rfl (ty := 49) rfl (Cells_c hx428_0 (Cells'_c hx428_1 (Cells'_c hx428_2 (Cells'_c hx428_3 (Cells'_c hx428_4 (Cells'_c hx428_5 (Cells'_c hx428_6 (Cells'_c hx428_7 (Cells'_c hx428_8 (Cells'_c hx428_9 (Cells'_c hx428_10 (Cells'_c hx428_11 (Cells'_c hx428_12 (Cells'_c hx428_13 (Cells'_c hx428_14 (Cells'_c hx428_15 (Cells'_c hx428_16 (Cells'_c hx428_17 (Cells'_c hx428_18 (Cells'_c hx428_19 (Cells'_c hx428_20 Cells'_n))))))))))))))))))))) ?hx Try.underlying49 rfl kr ?_; (case hx => rfl)) | ((with_reducible refine gate_dst (N := 31) rfl ?_); refine wide_load (N := 31) rfl rfl (ty := 49) rfl (Cells_c hx430_0 (Cells'_c hx430_1 (Cells'_c hx430_2 (Cells'_c hx430_3 (Cells'_c hx430_4 (Cells'_c hx430_5 (Cells'_c hx430_6 (Cells'_c hx430_7 (Cells'_c hx430_8 (Cells'_c hx430_9 (Cells'_c hx430_10 (Cells'_c hx430_11 (Cells'_c hx430_12 (Cells'_c hx430_13 (Cells'_c hx430_14 (Cells'_c hx430_15 (Cells'_c hx430_16 (Cells'_c hx430_17 (Cells'_c hx430_18 (Cells'_c hx430_19 (Cells'_c hx430_20 Cells'_n))))))))))))))))))))) ?hx Try.underlying49 rfl kr ?_; (case hx => rfl)) | ((with_reducible refine gate_store (t := 49) (p := 6) rfl ?_); refine wide_boxst rfl rfl rfl (arr := #[.slice none 0 0, .int .i64 0, .string (⟨#[]⟩ : ByteArray), .int .i64 0, .int .i64 0, .slice none 0 0, .slice none 0 0, .slice none 0 0, .slice none 0 0, .int .i64 0, .int .i64 0, .string (⟨#[]⟩ : ByteArray), .int .i64 0, .int .i64 0, .slice none 0 0, .slice none 0 0, .slice none 0 0, .slice none 0 0, .slice none 0 0, .slice none 0 0, .slice none 0 0]) (by (repeat (with_reducible first | apply blk_far (hp := NB426_429.out) | apply blk_far (hp := NB426_431.out) | apply blk_far (hp := NB427_429.out) | apply blk_far (hp := NB427_431.out) | apply blk_far (hp := NB429_426.out) | apply blk_far (hp := NB429_427.out) | apply blk_far (hp := NB429_431.out) | apply blk_far (hp := NB431_426.out) | apply blk_far (hp := NB431_427.out) | apply blk_far (hp := NB431_429.out) | apply blk_drewN | apply blk_drew | apply blk_alloc)); exact BK429.out) rfl rfl rfl kr (by rfl) ?_; simp only [World.setCells, Nat.reduceAdd, Nat.zero_add]) | ((with_reducible refine gate_store (t := 49) (p := 7) rfl ?_); refine wide_boxst rfl rfl rfl (arr := #[.slice none 0 0, .int .i64 0, .string (⟨#[]⟩ : ByteArray), .int .i64 0, .int .i64 0, .slice none 0 0, .slice none 0 0, .slice none 0 0, .slice none 0 0, .int .i64 0, .int .i64 0, .string (⟨#[]⟩ : ByteArray), .int .i64 0, .int .i64 0, .slice none 0 0, .slice none 0 0, .slice none 0 0, .slice none 0 0, .slice none 0 0, .slice none 0 0, .slice none 0 0]) (by (repeat (with_reducible first | apply blk_far (hp := NB426_429.out) | apply blk_far (hp := NB426_431.out) | apply blk_far (hp := NB427_429.out) | apply blk_far (hp := NB427_431.out) | apply blk_far (hp := NB429_426.out) | apply blk_far (hp := NB429_427.out) | apply blk_far (hp := NB429_431.out) | apply blk_far (hp := NB431_426.out) | apply blk_far (hp := NB431_427.out) | apply blk_far (hp := NB431_429.out) | apply blk_drewN | apply blk_drew | apply blk_alloc)); exact BK431.out) rfl rfl rfl kr (by rfl) ?_; simp only [World.setCells, Nat.reduceAdd, Nat.zero_add]) | ((with_reducible refine gate_dst (N := 6) rfl ?_); refine box_event ?hg (N := 6) ?hd (cs := #[.slice none 0 0, .int .i64 0, .string (⟨#[]⟩ : ByteArray), .int .i64 0, .int .i64 0, .slice none 0 0, .slice none 0 0, .slice none 0 0, .slice none 0 0, .int .i64 0, .int .i64 0, .string (⟨#[]⟩ : ByteArray), .int .i64 0, .int .i64 0, .slice none 0 0, .slice none 0 0, .slice none 0 0, .slice none 0 0, .slice none 0 0, .slice none 0 0, .slice none 0 0]) (t := 49) ?hr ?_; (case hd => rfl); (case hg => rfl); (case hr => exact hrw); intro gb429 hg w53 hbox hb; have n0_ := am (blk_below (g := gb426) bkw hb); have n1_ := am (blk_below (g := gb427) bkw hb); have n2_ := am (below_step blw hb); have n3_ := am (hbox); have n4_ := am ((by rw [hg]; exact (below_size blw) : w.heap.size ≤ gb429)); have n5_ := n4_; have n6_ := am ((by rw [hg]; exact Nat.ne_of_lt (blk_lt (g := gb426) bkw) : gb426 ≠ gb429)); have n7_ := am ((by rw [hg]; exact Nat.ne_of_gt (blk_lt (g := gb426) bkw) : gb429 ≠ gb426)); have n8_ := am ((by rw [hg]; exact Nat.ne_of_lt (blk_lt (g := gb427) bkw) : gb427 ≠ gb429)); have n9_ := am ((by rw [hg]; exact Nat.ne_of_gt (blk_lt (g := gb427) bkw) : gb429 ≠ gb427)); clear BK426; clear BK427; clear HB; revert n0_ n1_ n2_ n3_ n4_ n5_ n6_ n7_ n8_ n9_; intro BK426 BK427 HB BK429 GW429 GE429 NB426_429 NB429_426 NB427_429 NB429_427; clear hb hbox hg; have hnb54 := NB429_426.out; have hnc54 := NB426_429.out; have hnb55 := NB429_427.out; have hnc55 := NB427_429.out; obtain ⟨hcz56_0, hcz56_1, hcz56_2, hcz56_3, hcz56_4, hcz56_5, hcz56_6, hcz56_7, hcz56_8, hcz56_9, hcz56_10, hcz56_11, hcz56_12, hcz56_13, hcz56_14, hcz56_15, hcz56_16, hcz56_17, hcz56_18, hcz56_19, hcz56_20⟩ := cls21 BK429.out; obtain ⟨hfz56_0, hfz56_1, hfz56_2, hfz56_3, hfz56_4, hfz56_5, hfz56_6, hfz56_7, hfz56_8, hfz56_9, hfz56_10, hfz56_11, hfz56_12, hfz56_13, hfz56_14, hfz56_15, hfz56_16, hfz56_17, hfz56_18, hfz56_19, hfz56_20⟩ := frz21 BK429.out; have hcz57_0 : w53.cell? ⟨gb427, 0, none⟩ = some (.slice A1_0 l1_0.length c1_0) := (blk_cell BK427.out 0).trans rfl; have hfz57_0 := blk_frozen BK427.out 0; have p430 : 0 ≤ (x5_1 : Int) := of_decide_eq_true asw; have q430 : x5_1 < (l1_0.length : Int) := of_decide_eq_true asw; obtain ⟨ad430, A430_0, c430_0, A430_5, c430_5, A430_6, c430_6, A430_7, c430_7, A430_8, c430_8, A430_14, c430_14, A430_15, c430_15, A430_16, c430_16, A430_17, c430_17, A430_18, c430_18, A430_19, c430_19, A430_20, c430_20, e430, hx430_0, hx430_1, hx430_2, hx430_3, hx430_4, hx430_5, hx430_6, hx430_7, hx430_8, hx430_9, hx430_10, hx430_11, hx430_12, hx430_13, hx430_14, hx430_15, hx430_16, hx430_17, hx430_18, hx430_19, hx430_20, hl430_0, hi430_0, hl430_5, hi430_5, hl430_6, hi430_6, hl430_7, hi430_7, hl430_8, hi430_8, hl430_14, hi430_14, hl430_15, hi430_15, hl430_16, hi430_16, hl430_17, hi430_17, hl430_18, hi430_18, hl430_19, hi430_19, hl430_20, hi430_20⟩ := at_T49 HR1_0.out x5_1 p430 q430; cases e430; have hn430_0 : ad430.block ≠ gb429 := Nat.ne_of_lt (Nat.lt_of_lt_of_le (by have := World.block_lt_of_cell? _ _ hx430_0; first | rwa [add_block] at this | exact this) GW429.out); have hn430_1 := hn430_0; have hn430_2 := hn430_0; have hn430_3 := hn430_0; have hn430_4 := hn430_0; have hn430_5 := hn430_0; have hn430_6 := hn430_0; have hn430_7 := hn430_0; have hn430_8 := hn430_0; have hn430_9 := hn430_0; have hn430_10 := hn430_0; have hn430_11 := hn430_0; have hn430_12 := hn430_0; have hn430_13 := hn430_0; have hn430_14 := hn430_0; have hn430_15 := hn430_0; have hn430_16 := hn430_0; have hn430_17 := hn430_0; have hn430_18 := hn430_0; have hn430_19 := hn430_0; have hn430_20 := hn430_0; replace hx430_0 := upw HB.out hx430_0; replace hx430_1 := upw HB.out hx430_1; replace hx430_2 := upw HB.out hx430_2; replace hx430_3 := upw HB.out hx430_3; replace hx430_4 := upw HB.out hx430_4; replace hx430_5 := upw HB.out hx430_5; replace hx430_6 := upw HB.out hx430_6; replace hx430_7 := upw HB.out hx430_7; replace hx430_8 := upw HB.out hx430_8; replace hx430_9 := upw HB.out hx430_9; replace hx430_10 := upw HB.out hx430_10; replace hx430_11 := upw HB.out hx430_11; replace hx430_12 := upw HB.out hx430_12; replace hx430_13 := upw HB.out hx430_13; replace hx430_14 := upw HB.out hx430_14; replace hx430_15 := upw HB.out hx430_15; replace hx430_16 := upw HB.out hx430_16; replace hx430_17 := upw HB.out hx430_17; replace hx430_18 := upw HB.out hx430_18; replace hx430_19 := upw HB.out hx430_19; replace hx430_20 := upw HB.out hx430_20; have HR430_0 := am hi430_0; have HC430_0 := am hl430_0; clear hi430_0 hl430_0; have HR430_5 := am hi430_5; have HC430_5 := am hl430_5; clear hi430_5 hl430_5; have HR430_6 := am hi430_6; have HC430_6 := am hl430_6; clear hi430_6 hl430_6; have HR430_7 := am hi430_7; have HC430_7 := am hl430_7; clear hi430_7 hl430_7; have HR430_8 := am hi430_8; have HC430_8 := am hl430_8; clear hi430_8 hl430_8; have HR430_14 := am hi430_14; have HC430_14 := am hl430_14; clear hi430_14 hl430_14; have HR430_15 := am hi430_15; have HC430_15 := am hl430_15; clear hi430_15 hl430_15; have HR430_16 := am hi430_16; have HC430_16 := am hl430_16; clear hi430_16 hl430_16; have HR430_17 := am hi430_17; have HC430_17 := am hl430_17; clear hi430_17 hl430_17; have HR430_18 := am hi430_18; have HC430_18 := am hl430_18; clear hi430_18 hl430_18; have HR430_19 := am hi430_19; have HC430_19 := am hl430_19; clear hi430_19 hl430_19; have HR430_20 := am hi430_20; have HC430_20 := am hl430_20; clear hi430_20 hl430_20; have hc_ := Cells_c hx430_0 (Cells'_c hx430_1 (Cells'_c hx430_2 (Cells'_c hx430_3 (Cells'_c hx430_4 (Cells'_c hx430_5 (Cells'_c hx430_6 (Cells'_c hx430_7 (Cells'_c hx430_8 (Cells'_c hx430_9 (Cells'_c hx430_10 (Cells'_c hx430_11 (Cells'_c hx430_12 (Cells'_c hx430_13 (Cells'_c hx430_14 (Cells'_c hx430_15 (Cells'_c hx430_16 (Cells'_c hx430_17 (Cells'_c hx430_18 (Cells'_c hx430_19 (Cells'_c hx430_20  Cells'_n)))))))))))))))))))); replace hc_ := Cells_far hc_ ⟨gb429, 0, none⟩ (by first | (rw [add_block]; exact hn430_0) | exact hn430_0) (.slice A428_0 ((rd_T49 l0_0 x5_1).f0).length c428_0); replace hc_ := Cells_far hc_ ⟨gb429, 1, none⟩ (by first | (rw [add_block]; exact hn430_1) | exact hn430_1) (.int .i64 ((rd_T49 l0_0 x5_1).f1.f0)); replace hc_ := Cells_far hc_ ⟨gb429, 2, none⟩ (by first | (rw [add_block]; exact hn430_2) | exact hn430_2) (.string ((rd_T49 l0_0 x5_1).f1.f1)); replace hc_ := Cells_far hc_ ⟨gb429, 3, none⟩ (by first | (rw [add_block]; exact hn430_3) | exact hn430_3) (.int .i64 ((rd_T49 l0_0 x5_1).f1.f2)); replace hc_ := Cells_far hc_ ⟨gb429, 4, none⟩ (by first | (rw [add_block]; exact hn430_4) | exact hn430_4) (.int .i64 ((rd_T49 l0_0 x5_1).f1.f3.f0)); replace hc_ := Cells_far hc_ ⟨gb429, 5, none⟩ (by first | (rw [add_block]; exact hn430_5) | exact hn430_5) (.slice A428_5 ((rd_T49 l0_0 x5_1).f1.f3.f1).length c428_5); replace hc_ := Cells_far hc_ ⟨gb429, 6, none⟩ (by first | (rw [add_block]; exact hn430_6) | exact hn430_6) (.slice A428_6 ((rd_T49 l0_0 x5_1).f1.f3.f2).length c428_6); replace hc_ := Cells_far hc_ ⟨gb429, 7, none⟩ (by first | (rw [add_block]; exact hn430_7) | exact hn430_7) (.slice A428_7 ((rd_T49 l0_0 x5_1).f1.f4).length c428_7); replace hc_ := Cells_far hc_ ⟨gb429, 8, none⟩ (by first | (rw [add_block]; exact hn430_8) | exact hn430_8) (.slice A428_8 ((rd_T49 l0_0 x5_1).f1.f5).length c428_8); replace hc_ := Cells_far hc_ ⟨gb429, 9, none⟩ (by first | (rw [add_block]; exact hn430_9) | exact hn430_9) (.int .i64 ((rd_T49 l0_0 x5_1).f2.f0)); replace hc_ := Cells_far hc_ ⟨gb429, 10, none⟩ (by first | (rw [add_block]; exact hn430_10) | exact hn430_10) (.int .i64 ((rd_T49 l0_0 x5_1).f2.f1.f0)); replace hc_ := Cells_far hc_ ⟨gb429, 11, none⟩ (by first | (rw [add_block]; exact hn430_11) | exact hn430_11) (.string ((rd_T49 l0_0 x5_1).f2.f1.f1)); replace hc_ := Cells_far hc_ ⟨gb429, 12, none⟩ (by first | (rw [add_block]; exact hn430_12) | exact hn430_12) (.int .i64 ((rd_T49 l0_0 x5_1).f2.f1.f2)); replace hc_ := Cells_far hc_ ⟨gb429, 13, none⟩ (by first | (rw [add_block]; exact hn430_13) | exact hn430_13) (.int .i64 ((rd_T49 l0_0 x5_1).f2.f1.f3.f0)); replace hc_ := Cells_far hc_ ⟨gb429, 14, none⟩ (by first | (rw [add_block]; exact hn430_14) | exact hn430_14) (.slice A428_14 ((rd_T49 l0_0 x5_1).f2.f1.f3.f1).length c428_14); replace hc_ := Cells_far hc_ ⟨gb429, 15, none⟩ (by first | (rw [add_block]; exact hn430_15) | exact hn430_15) (.slice A428_15 ((rd_T49 l0_0 x5_1).f2.f1.f3.f2).length c428_15); replace hc_ := Cells_far hc_ ⟨gb429, 16, none⟩ (by first | (rw [add_block]; exact hn430_16) | exact hn430_16) (.slice A428_16 ((rd_T49 l0_0 x5_1).f2.f1.f4).length c428_16); replace hc_ := Cells_far hc_ ⟨gb429, 17, none⟩ (by first | (rw [add_block]; exact hn430_17) | exact hn430_17) (.slice A428_17 ((rd_T49 l0_0 x5_1).f2.f1.f5).length c428_17); replace hc_ := Cells_far hc_ ⟨gb429, 18, none⟩ (by first | (rw [add_block]; exact hn430_18) | exact hn430_18) (.slice A428_18 ((rd_T49 l0_0 x5_1).f2.f2).length c428_18); replace hc_ := Cells_far hc_ ⟨gb429, 19, none⟩ (by first | (rw [add_block]; exact hn430_19) | exact hn430_19) (.slice A428_19 ((rd_T49 l0_0 x5_1).f2.f3).length c428_19); replace hc_ := Cells_far hc_ ⟨gb429, 20, none⟩ (by first | (rw [add_block]; exact hn430_20) | exact hn430_20) (.slice A428_20 ((rd_T49 l0_0 x5_1).f2.f4.f0).length c428_20); replace hx430_0 := hc_.1; replace hx430_1 := Cells_get hc_ 1 (by decide) rfl; replace hx430_2 := Cells_get hc_ 2 (by decide) rfl; replace hx430_3 := Cells_get hc_ 3 (by decide) rfl; replace hx430_4 := Cells_get hc_ 4 (by decide) rfl; replace hx430_5 := Cells_get hc_ 5 (by decide) rfl; replace hx430_6 := Cells_get hc_ 6 (by decide) rfl; replace hx430_7 := Cells_get hc_ 7 (by decide) rfl; replace hx430_8 := Cells_get hc_ 8 (by decide) rfl; replace hx430_9 := Cells_get hc_ 9 (by decide) rfl; replace hx430_10 := Cells_get hc_ 10 (by decide) rfl; replace hx430_11 := Cells_get hc_ 11 (by decide) rfl; replace hx430_12 := Cells_get hc_ 12 (by decide) rfl; replace hx430_13 := Cells_get hc_ 13 (by decide) rfl; replace hx430_14 := Cells_get hc_ 14 (by decide) rfl; replace hx430_15 := Cells_get hc_ 15 (by decide) rfl; replace hx430_16 := Cells_get hc_ 16 (by decide) rfl; replace hx430_17 := Cells_get hc_ 17 (by decide) rfl; replace hx430_18 := Cells_get hc_ 18 (by decide) rfl; replace hx430_19 := Cells_get hc_ 19 (by decide) rfl; replace hx430_20 := Cells_get hc_ 20 (by decide) rfl; clear hc_; clear hn430_0; clear hn430_1; clear hn430_2; clear hn430_3; clear hn430_4; clear hn430_5; clear hn430_6; clear hn430_7; clear hn430_8; clear hn430_9; clear hn430_10; clear hn430_11; clear hn430_12; clear hn430_13; clear hn430_14; clear hn430_15; clear hn430_16; clear hn430_17; clear hn430_18; clear hn430_19; clear hn430_20; replace p430 := eq_true p430; replace q430 := eq_true q430) | ((with_reducible refine gate_dst (N := 7) rfl ?_); refine box_event ?hg (N := 7) ?hd (cs := #[.slice none 0 0, .int .i64 0, .string (⟨#[]⟩ : ByteArray), .int .i64 0, .int .i64 0, .slice none 0 0, .slice none 0 0, .slice none 0 0, .slice none 0 0, .int .i64 0, .int .i64 0, .string (⟨#[]⟩ : ByteArray), .int .i64 0, .int .i64 0, .slice none 0 0, .slice none 0 0, .slice none 0 0, .slice none 0 0, .slice none 0 0, .slice none 0 0, .slice none 0 0]) (t := 49) ?hr ?_; (case hd => rfl); (case hg => rfl); (case hr => exact hrw); intro gb431 hg w58 hbox hb; have n0_ := am (blk_below (g := gb426) (o := .cells #[.slice (some ad428) l0_0.length c0_0] 29 (0, 0)) (by apply blk_sum; (repeat (with_reducible first | apply blk_sett | apply blk_far (hp := NB426_429.out) | apply blk_drewN | apply blk_drew | apply blk_alloc)); exact BK426.out; rfl) hb); have n1_ := am (blk_below (g := gb427) (o := .cells #[.slice (some ad430) l1_0.length c1_0] 29 (0, 0)) (by apply blk_sum; (repeat (with_reducible first | apply blk_sett | apply blk_far (hp := NB427_429.out) | apply blk_drewN | apply blk_drew | apply blk_alloc)); exact BK427.out; rfl) hb); have n2_ := am (blk_below (g := gb429) (by (repeat (with_reducible first | apply blk_drewN | apply blk_drew | apply blk_alloc)); apply blk_all (cs := [.slice A428_0 ((rd_T49 l0_0 x5_1).f0).length c428_0, .int .i64 ((rd_T49 l0_0 x5_1).f1.f0), .string ((rd_T49 l0_0 x5_1).f1.f1), .int .i64 ((rd_T49 l0_0 x5_1).f1.f2), .int .i64 ((rd_T49 l0_0 x5_1).f1.f3.f0), .slice A428_5 ((rd_T49 l0_0 x5_1).f1.f3.f1).length c428_5, .slice A428_6 ((rd_T49 l0_0 x5_1).f1.f3.f2).length c428_6, .slice A428_7 ((rd_T49 l0_0 x5_1).f1.f4).length c428_7, .slice A428_8 ((rd_T49 l0_0 x5_1).f1.f5).length c428_8, .int .i64 ((rd_T49 l0_0 x5_1).f2.f0), .int .i64 ((rd_T49 l0_0 x5_1).f2.f1.f0), .string ((rd_T49 l0_0 x5_1).f2.f1.f1), .int .i64 ((rd_T49 l0_0 x5_1).f2.f1.f2), .int .i64 ((rd_T49 l0_0 x5_1).f2.f1.f3.f0), .slice A428_14 ((rd_T49 l0_0 x5_1).f2.f1.f3.f1).length c428_14, .slice A428_15 ((rd_T49 l0_0 x5_1).f2.f1.f3.f2).length c428_15, .slice A428_16 ((rd_T49 l0_0 x5_1).f2.f1.f4).length c428_16, .slice A428_17 ((rd_T49 l0_0 x5_1).f2.f1.f5).length c428_17, .slice A428_18 ((rd_T49 l0_0 x5_1).f2.f2).length c428_18, .slice A428_19 ((rd_T49 l0_0 x5_1).f2.f3).length c428_19, .slice A428_20 ((rd_T49 l0_0 x5_1).f2.f4.f0).length c428_20]); (repeat (with_reducible first | apply blk_drewN | apply blk_drew | apply blk_alloc)); exact BK429.out; rfl) hb); have n3_ := am (below_step blw hb); have n4_ := am (hbox); have n5_ := am ((by rw [hg]; exact (below_size blw) : w.heap.size ≤ gb431)); have n6_ := n5_; have n7_ := am ((by rw [hg]; exact Nat.ne_of_lt (blk_lt (g := gb426) (o := .cells #[.slice (some ad428) l0_0.length c0_0] 29 (0, 0)) (by apply blk_sum; (repeat (with_reducible first | apply blk_sett | apply blk_far (hp := NB426_429.out) | apply blk_drewN | apply blk_drew | apply blk_alloc)); exact BK426.out; rfl)) : gb426 ≠ gb431)); have n8_ := am ((by rw [hg]; exact Nat.ne_of_gt (blk_lt (g := gb426) (o := .cells #[.slice (some ad428) l0_0.length c0_0] 29 (0, 0)) (by apply blk_sum; (repeat (with_reducible first | apply blk_sett | apply blk_far (hp := NB426_429.out) | apply blk_drewN | apply blk_drew | apply blk_alloc)); exact BK426.out; rfl)) : gb431 ≠ gb426)); have n9_ := am ((by rw [hg]; exact Nat.ne_of_lt (blk_lt (g := gb427) (o := .cells #[.slice (some ad430) l1_0.length c1_0] 29 (0, 0)) (by apply blk_sum; (repeat (with_reducible first | apply blk_sett | apply blk_far (hp := NB427_429.out) | apply blk_drewN | apply blk_drew | apply blk_alloc)); exact BK427.out; rfl)) : gb427 ≠ gb431)); have n10_ := am ((by rw [hg]; exact Nat.ne_of_gt (blk_lt (g := gb427) (o := .cells #[.slice (some ad430) l1_0.length c1_0] 29 (0, 0)) (by apply blk_sum; (repeat (with_reducible first | apply blk_sett | apply blk_far (hp := NB427_429.out) | apply blk_drewN | apply blk_drew | apply blk_alloc)); exact BK427.out; rfl)) : gb431 ≠ gb427)); have n11_ := am ((by rw [hg]; exact Nat.ne_of_lt (blk_lt (g := gb429) (by (repeat (with_reducible first | apply blk_drewN | apply blk_drew | apply blk_alloc)); apply blk_all (cs := [.slice A428_0 ((rd_T49 l0_0 x5_1).f0).length c428_0, .int .i64 ((rd_T49 l0_0 x5_1).f1.f0), .string ((rd_T49 l0_0 x5_1).f1.f1), .int .i64 ((rd_T49 l0_0 x5_1).f1.f2), .int .i64 ((rd_T49 l0_0 x5_1).f1.f3.f0), .slice A428_5 ((rd_T49 l0_0 x5_1).f1.f3.f1).length c428_5, .slice A428_6 ((rd_T49 l0_0 x5_1).f1.f3.f2).length c428_6, .slice A428_7 ((rd_T49 l0_0 x5_1).f1.f4).length c428_7, .slice A428_8 ((rd_T49 l0_0 x5_1).f1.f5).length c428_8, .int .i64 ((rd_T49 l0_0 x5_1).f2.f0), .int .i64 ((rd_T49 l0_0 x5_1).f2.f1.f0), .string ((rd_T49 l0_0 x5_1).f2.f1.f1), .int .i64 ((rd_T49 l0_0 x5_1).f2.f1.f2), .int .i64 ((rd_T49 l0_0 x5_1).f2.f1.f3.f0), .slice A428_14 ((rd_T49 l0_0 x5_1).f2.f1.f3.f1).length c428_14, .slice A428_15 ((rd_T49 l0_0 x5_1).f2.f1.f3.f2).length c428_15, .slice A428_16 ((rd_T49 l0_0 x5_1).f2.f1.f4).length c428_16, .slice A428_17 ((rd_T49 l0_0 x5_1).f2.f1.f5).length c428_17, .slice A428_18 ((rd_T49 l0_0 x5_1).f2.f2).length c428_18, .slice A428_19 ((rd_T49 l0_0 x5_1).f2.f3).length c428_19, .slice A428_20 ((rd_T49 l0_0 x5_1).f2.f4.f0).length c428_20]); (repeat (with_reducible first | apply blk_drewN | apply blk_drew | apply blk_alloc)); exact BK429.out; rfl)) : gb429 ≠ gb431)); have n12_ := am ((by rw [hg]; exact Nat.ne_of_gt (blk_lt (g := gb429) (by (repeat (with_reducible first | apply blk_drewN | apply blk_drew | apply blk_alloc)); apply blk_all (cs := [.slice A428_0 ((rd_T49 l0_0 x5_1).f0).length c428_0, .int .i64 ((rd_T49 l0_0 x5_1).f1.f0), .string ((rd_T49 l0_0 x5_1).f1.f1), .int .i64 ((rd_T49 l0_0 x5_1).f1.f2), .int .i64 ((rd_T49 l0_0 x5_1).f1.f3.f0), .slice A428_5 ((rd_T49 l0_0 x5_1).f1.f3.f1).length c428_5, .slice A428_6 ((rd_T49 l0_0 x5_1).f1.f3.f2).length c428_6, .slice A428_7 ((rd_T49 l0_0 x5_1).f1.f4).length c428_7, .slice A428_8 ((rd_T49 l0_0 x5_1).f1.f5).length c428_8, .int .i64 ((rd_T49 l0_0 x5_1).f2.f0), .int .i64 ((rd_T49 l0_0 x5_1).f2.f1.f0), .string ((rd_T49 l0_0 x5_1).f2.f1.f1), .int .i64 ((rd_T49 l0_0 x5_1).f2.f1.f2), .int .i64 ((rd_T49 l0_0 x5_1).f2.f1.f3.f0), .slice A428_14 ((rd_T49 l0_0 x5_1).f2.f1.f3.f1).length c428_14, .slice A428_15 ((rd_T49 l0_0 x5_1).f2.f1.f3.f2).length c428_15, .slice A428_16 ((rd_T49 l0_0 x5_1).f2.f1.f4).length c428_16, .slice A428_17 ((rd_T49 l0_0 x5_1).f2.f1.f5).length c428_17, .slice A428_18 ((rd_T49 l0_0 x5_1).f2.f2).length c428_18, .slice A428_19 ((rd_T49 l0_0 x5_1).f2.f3).length c428_19, .slice A428_20 ((rd_T49 l0_0 x5_1).f2.f4.f0).length c428_20]); (repeat (with_reducible first | apply blk_drewN | apply blk_drew | apply blk_alloc)); exact BK429.out; rfl)) : gb431 ≠ gb429)); clear BK426; clear BK427; clear BK429; clear HB; revert n0_ n1_ n2_ n3_ n4_ n5_ n6_ n7_ n8_ n9_ n10_ n11_ n12_; intro BK426 BK427 BK429 HB BK431 GW431 GE431 NB426_431 NB431_426 NB427_431 NB431_427 NB429_431 NB431_429; clear hb hbox hg; have hnb59 := NB431_426.out; have hnc59 := NB426_431.out; have hnb60 := NB431_427.out; have hnc60 := NB427_431.out; have hnb61 := NB431_429.out; have hnc61 := NB429_431.out; obtain ⟨hcz62_0, hcz62_1, hcz62_2, hcz62_3, hcz62_4, hcz62_5, hcz62_6, hcz62_7, hcz62_8, hcz62_9, hcz62_10, hcz62_11, hcz62_12, hcz62_13, hcz62_14, hcz62_15, hcz62_16, hcz62_17, hcz62_18, hcz62_19, hcz62_20⟩ := cls21 BK431.out; obtain ⟨hfz62_0, hfz62_1, hfz62_2, hfz62_3, hfz62_4, hfz62_5, hfz62_6, hfz62_7, hfz62_8, hfz62_9, hfz62_10, hfz62_11, hfz62_12, hfz62_13, hfz62_14, hfz62_15, hfz62_16, hfz62_17, hfz62_18, hfz62_19, hfz62_20⟩ := frz21 BK431.out; obtain ⟨hcz63_0, hcz63_1, hcz63_2, hcz63_3, hcz63_4, hcz63_5, hcz63_6, hcz63_7, hcz63_8, hcz63_9, hcz63_10, hcz63_11, hcz63_12, hcz63_13, hcz63_14, hcz63_15, hcz63_16, hcz63_17, hcz63_18, hcz63_19, hcz63_20⟩ := cls21 BK429.out; obtain ⟨hfz63_0, hfz63_1, hfz63_2, hfz63_3, hfz63_4, hfz63_5, hfz63_6, hfz63_7, hfz63_8, hfz63_9, hfz63_10, hfz63_11, hfz63_12, hfz63_13, hfz63_14, hfz63_15, hfz63_16, hfz63_17, hfz63_18, hfz63_19, hfz63_20⟩ := frz21 BK429.out) | ((with_reducible refine gate_callee (f := 23) rfl ?_); refine goesL_ (some 36) rfl rfl Try.func23 kr rfl #[.slice A428_0 ((rd_T49 l0_0 x5_1).f0).length c428_0, .slice A430_0 ((rd_T49 l1_0 x5_1).f0).length c430_0] rfl mpw ?_; (with_reducible refine (spec_l13EqualGens.calls k1 _ _ ((rd_T49 l0_0 x5_1).f0) _ _ ((rd_T49 l1_0 x5_1).f0) false _ ?side1 ?side2 ?side3 ?side4 A13.out).mono ?_); (case side1 => exact Kd.C_below HR428_0.out blw); (case side2 => exact HC428_0.out); (case side3 => exact Kd.C_below HR430_0.out blw); (case side4 => exact HC430_0.out); rintro e w' ⟨rfl, ⟨nd, rfl⟩⟩; refine ⟨_, rfl, ?_⟩))
    go_ret
    exact ⟨rfw, blw⟩
   subst c14
   have H1 : ((spec_EqualTerm.f k1 ((rd_T49 l0_0 x5_1).f1.f0) ((rd_T49 l0_0 x5_1).f1.f1) ((rd_T49 l0_0 x5_1).f1.f2) ((rd_T49 l0_0 x5_1).f1.f3.f0) ((rd_T49 l0_0 x5_1).f1.f3.f1) ((rd_T49 l0_0 x5_1).f1.f3.f2) ((rd_T49 l0_0 x5_1).f1.f4) ((rd_T49 l0_0 x5_1).f1.f5) ((rd_T49 l1_0 x5_1).f1.f0) ((rd_T49 l1_0 x5_1).f1.f1) ((rd_T49 l1_0 x5_1).f1.f2) ((rd_T49 l1_0 x5_1).f1.f3.f0) ((rd_T49 l1_0 x5_1).f1.f3.f1) ((rd_T49 l1_0 x5_1).f1.f3.f2) ((rd_T49 l1_0 x5_1).f1.f4) ((rd_T49 l1_0 x5_1).f1.f5)).bind fun t433 => (if t433 = true then ((spec_l13EqualHead.f k1 ((rd_T49 l0_0 x5_1).f2.f0) ((rd_T49 l0_0 x5_1).f2.f1.f0) ((rd_T49 l0_0 x5_1).f2.f1.f1) ((rd_T49 l0_0 x5_1).f2.f1.f2) ((rd_T49 l0_0 x5_1).f2.f1.f3.f0) ((rd_T49 l0_0 x5_1).f2.f1.f3.f1) ((rd_T49 l0_0 x5_1).f2.f1.f3.f2) ((rd_T49 l0_0 x5_1).f2.f1.f4) ((rd_T49 l0_0 x5_1).f2.f1.f5) ((rd_T49 l0_0 x5_1).f2.f2) ((rd_T49 l0_0 x5_1).f2.f3) ((rd_T49 l0_0 x5_1).f2.f4.f0) ((rd_T49 l1_0 x5_1).f2.f0) ((rd_T49 l1_0 x5_1).f2.f1.f0) ((rd_T49 l1_0 x5_1).f2.f1.f1) ((rd_T49 l1_0 x5_1).f2.f1.f2) ((rd_T49 l1_0 x5_1).f2.f1.f3.f0) ((rd_T49 l1_0 x5_1).f2.f1.f3.f1) ((rd_T49 l1_0 x5_1).f2.f1.f3.f2) ((rd_T49 l1_0 x5_1).f2.f1.f4) ((rd_T49 l1_0 x5_1).f2.f1.f5) ((rd_T49 l1_0 x5_1).f2.f2) ((rd_T49 l1_0 x5_1).f2.f3) ((rd_T49 l1_0 x5_1).f2.f4.f0)).bind fun t434 => (if t434 = true then (spec_EqualQuery.l0 k1 (wrap64 (x5_1 + 1)) l0_0 l1_0) else (some false))) else (some false))) = some r := by rw [if_pos rfl] at H; exact H
   clear H
   have H := H1
   clear H1
   replace H := Option.bind_eq_some_iff.mp H
   obtain ⟨t433, A150, H⟩ := H
   replace H : (if t433 = true then ((spec_l13EqualHead.f k1 ((rd_T49 l0_0 x5_1).f2.f0) ((rd_T49 l0_0 x5_1).f2.f1.f0) ((rd_T49 l0_0 x5_1).f2.f1.f1) ((rd_T49 l0_0 x5_1).f2.f1.f2) ((rd_T49 l0_0 x5_1).f2.f1.f3.f0) ((rd_T49 l0_0 x5_1).f2.f1.f3.f1) ((rd_T49 l0_0 x5_1).f2.f1.f3.f2) ((rd_T49 l0_0 x5_1).f2.f1.f4) ((rd_T49 l0_0 x5_1).f2.f1.f5) ((rd_T49 l0_0 x5_1).f2.f2) ((rd_T49 l0_0 x5_1).f2.f3) ((rd_T49 l0_0 x5_1).f2.f4.f0) ((rd_T49 l1_0 x5_1).f2.f0) ((rd_T49 l1_0 x5_1).f2.f1.f0) ((rd_T49 l1_0 x5_1).f2.f1.f1) ((rd_T49 l1_0 x5_1).f2.f1.f2) ((rd_T49 l1_0 x5_1).f2.f1.f3.f0) ((rd_T49 l1_0 x5_1).f2.f1.f3.f1) ((rd_T49 l1_0 x5_1).f2.f1.f3.f2) ((rd_T49 l1_0 x5_1).f2.f1.f4) ((rd_T49 l1_0 x5_1).f2.f1.f5) ((rd_T49 l1_0 x5_1).f2.f2) ((rd_T49 l1_0 x5_1).f2.f3) ((rd_T49 l1_0 x5_1).f2.f4.f0)).bind fun t434 => (if t434 = true then (spec_EqualQuery.l0 k1 (wrap64 (x5_1 + 1)) l0_0 l1_0) else (some false))) else (some false)) = some r := H
   have A15 := am A150
   clear A150
   by_cases c16 : t433 = true
   case neg =>
    replace c16 := Bool.eq_false_iff.mpr c16
    subst c16
    have H1 : (some false) = some r := by rw [if_neg (show ¬ (false = true) by decide)] at H; exact H
    clear H
    have H := H1
    clear H1
    obtain rfl := Option.some.inj H
    have hnb37 := NB426_427.out
    have hnc37 := NB427_426.out
    have hcz38_0 : wr.cell? ⟨gb426, 0, none⟩ = some (.slice A0_0 l0_0.length c0_0) := (blk_cell BK426.out 0).trans rfl
    have hfz38_0 := blk_frozen BK426.out 0
    have p428 : 0 ≤ (x5_1 : Int) := of_decide_eq_true asw
    have q428 : x5_1 < (l0_0.length : Int) := of_decide_eq_true asw
    obtain ⟨ad428, A428_0, c428_0, A428_5, c428_5, A428_6, c428_6, A428_7, c428_7, A428_8, c428_8, A428_14, c428_14, A428_15, c428_15, A428_16, c428_16, A428_17, c428_17, A428_18, c428_18, A428_19, c428_19, A428_20, c428_20, e428, hx428_0, hx428_1, hx428_2, hx428_3, hx428_4, hx428_5, hx428_6, hx428_7, hx428_8, hx428_9, hx428_10, hx428_11, hx428_12, hx428_13, hx428_14, hx428_15, hx428_16, hx428_17, hx428_18, hx428_19, hx428_20, hl428_0, hi428_0, hl428_5, hi428_5, hl428_6, hi428_6, hl428_7, hi428_7, hl428_8, hi428_8, hl428_14, hi428_14, hl428_15, hi428_15, hl428_16, hi428_16, hl428_17, hi428_17, hl428_18, hi428_18, hl428_19, hi428_19, hl428_20, hi428_20⟩ := at_T49 HR0_0.out x5_1 p428 q428
    cases e428
    replace hx428_0 := upw HB.out hx428_0
    replace hx428_1 := upw HB.out hx428_1
    replace hx428_2 := upw HB.out hx428_2
    replace hx428_3 := upw HB.out hx428_3
    replace hx428_4 := upw HB.out hx428_4
    replace hx428_5 := upw HB.out hx428_5
    replace hx428_6 := upw HB.out hx428_6
    replace hx428_7 := upw HB.out hx428_7
    replace hx428_8 := upw HB.out hx428_8
    replace hx428_9 := upw HB.out hx428_9
    replace hx428_10 := upw HB.out hx428_10
    replace hx428_11 := upw HB.out hx428_11
    replace hx428_12 := upw HB.out hx428_12
    replace hx428_13 := upw HB.out hx428_13
    replace hx428_14 := upw HB.out hx428_14
    replace hx428_15 := upw HB.out hx428_15
    replace hx428_16 := upw HB.out hx428_16
    replace hx428_17 := upw HB.out hx428_17
    replace hx428_18 := upw HB.out hx428_18
    replace hx428_19 := upw HB.out hx428_19
    replace hx428_20 := upw HB.out hx428_20
    have HR428_0 := am hi428_0
    have HC428_0 := am hl428_0
    clear hi428_0 hl428_0
    have HR428_5 := am hi428_5
    have HC428_5 := am hl428_5
    clear hi428_5 hl428_5
    have HR428_6 := am hi428_6
    have HC428_6 := am hl428_6
    clear hi428_6 hl428_6
    have HR428_7 := am hi428_7
    have HC428_7 := am hl428_7
    clear hi428_7 hl428_7
    have HR428_8 := am hi428_8
    have HC428_8 := am hl428_8
    clear hi428_8 hl428_8
    have HR428_14 := am hi428_14
    have HC428_14 := am hl428_14
    clear hi428_14 hl428_14
    have HR428_15 := am hi428_15
    have HC428_15 := am hl428_15
    clear hi428_15 hl428_15
    have HR428_16 := am hi428_16
    have HC428_16 := am hl428_16
    clear hi428_16 hl428_16
    have HR428_17 := am hi428_17
    have HC428_17 := am hl428_17
    clear hi428_17 hl428_17
    have HR428_18 := am hi428_18
    have HC428_18 := am hl428_18
    clear hi428_18 hl428_18
    have HR428_19 := am hi428_19
    have HC428_19 := am hl428_19
    clear hi428_19 hl428_19
    have HR428_20 := am hi428_20
    have HC428_20 := am hl428_20
    clear hi428_20 hl428_20
    replace p428 := eq_true p428
    replace q428 := eq_true q428
    go_wp2_with (first | ((with_reducible refine gate_dst (N := 26) rfl ?_); refine wide_load (N := 26) rfl rfl (ty := 49) rfl (Cells_c hx428_0 (Cells'_c hx428_1 (Cells'_c hx428_2 (Cells'_c hx428_3 (Cells'_c hx428_4 (Cells'_c hx428_5 (Cells'_c hx428_6 (Cells'_c hx428_7 (Cells'_c hx428_8 (Cells'_c hx428_9 (Cells'_c hx428_10 (Cells'_c hx428_11 (Cells'_c hx428_12 (Cells'_c hx428_13 (Cells'_c hx428_14 (Cells'_c hx428_15 (Cells'_c hx428_16 (Cells'_c hx428_17 (Cells'_c hx428_18 (Cells'_c hx428_19 (Cells'_c hx428_20 Cells'_n))))))))))))))))))))) ?hx Try.underlying49 rfl kr ?_; (case hx => rfl)) | ((with_reducible refine gate_dst (N := 31) rfl ?_); refine wide_load (N := 31) rfl rfl (ty := 49) rfl (Cells_c hx430_0 (Cells'_c hx430_1 (Cells'_c hx430_2 (Cells'_c hx430_3 (Cells'_c hx430_4 (Cells'_c hx430_5 (Cells'_c hx430_6 (Cells'_c hx430_7 (Cells'_c hx430_8 (Cells'_c hx430_9 (Cells'_c hx430_10 (Cells'_c hx430_11 (Cells'_c hx430_12 (Cells'_c hx430_13 (Cells'_c hx430_14 (Cells'_c hx430_15 (Cells'_c hx430_16 (Cells'_c hx430_17 (Cells'_c hx430_18 (Cells'_c hx430_19 (Cells'_c hx430_20 Cells'_n))))))))))))))))))))) ?hx Try.underlying49 rfl kr ?_; (case hx => rfl)) | ((with_reducible refine gate_store (t := 49) (p := 6) rfl ?_); refine wide_boxst rfl rfl rfl (arr := #[.slice none 0 0, .int .i64 0, .string (⟨#[]⟩ : ByteArray), .int .i64 0, .int .i64 0, .slice none 0 0, .slice none 0 0, .slice none 0 0, .slice none 0 0, .int .i64 0, .int .i64 0, .string (⟨#[]⟩ : ByteArray), .int .i64 0, .int .i64 0, .slice none 0 0, .slice none 0 0, .slice none 0 0, .slice none 0 0, .slice none 0 0, .slice none 0 0, .slice none 0 0]) (by (repeat (with_reducible first | apply blk_far (hp := NB426_429.out) | apply blk_far (hp := NB426_431.out) | apply blk_far (hp := NB427_429.out) | apply blk_far (hp := NB427_431.out) | apply blk_far (hp := NB429_426.out) | apply blk_far (hp := NB429_427.out) | apply blk_far (hp := NB429_431.out) | apply blk_far (hp := NB431_426.out) | apply blk_far (hp := NB431_427.out) | apply blk_far (hp := NB431_429.out) | apply blk_drewN | apply blk_drew | apply blk_alloc)); exact BK429.out) rfl rfl rfl kr (by rfl) ?_; simp only [World.setCells, Nat.reduceAdd, Nat.zero_add]) | ((with_reducible refine gate_store (t := 49) (p := 7) rfl ?_); refine wide_boxst rfl rfl rfl (arr := #[.slice none 0 0, .int .i64 0, .string (⟨#[]⟩ : ByteArray), .int .i64 0, .int .i64 0, .slice none 0 0, .slice none 0 0, .slice none 0 0, .slice none 0 0, .int .i64 0, .int .i64 0, .string (⟨#[]⟩ : ByteArray), .int .i64 0, .int .i64 0, .slice none 0 0, .slice none 0 0, .slice none 0 0, .slice none 0 0, .slice none 0 0, .slice none 0 0, .slice none 0 0]) (by (repeat (with_reducible first | apply blk_far (hp := NB426_429.out) | apply blk_far (hp := NB426_431.out) | apply blk_far (hp := NB427_429.out) | apply blk_far (hp := NB427_431.out) | apply blk_far (hp := NB429_426.out) | apply blk_far (hp := NB429_427.out) | apply blk_far (hp := NB429_431.out) | apply blk_far (hp := NB431_426.out) | apply blk_far (hp := NB431_427.out) | apply blk_far (hp := NB431_429.out) | apply blk_drewN | apply blk_drew | apply blk_alloc)); exact BK431.out) rfl rfl rfl kr (by rfl) ?_; simp only [World.setCells, Nat.reduceAdd, Nat.zero_add]) | ((with_reducible refine gate_dst (N := 6) rfl ?_); refine box_event ?hg (N := 6) ?hd (cs := #[.slice none 0 0, .int .i64 0, .string (⟨#[]⟩ : ByteArray), .int .i64 0, .int .i64 0, .slice none 0 0, .slice none 0 0, .slice none 0 0, .slice none 0 0, .int .i64 0, .int .i64 0, .string (⟨#[]⟩ : ByteArray), .int .i64 0, .int .i64 0, .slice none 0 0, .slice none 0 0, .slice none 0 0, .slice none 0 0, .slice none 0 0, .slice none 0 0, .slice none 0 0]) (t := 49) ?hr ?_; (case hd => rfl); (case hg => rfl); (case hr => exact hrw); intro gb429 hg w39 hbox hb; have n0_ := am (blk_below (g := gb426) bkw hb); have n1_ := am (blk_below (g := gb427) bkw hb); have n2_ := am (below_step blw hb); have n3_ := am (hbox); have n4_ := am ((by rw [hg]; exact (below_size blw) : w.heap.size ≤ gb429)); have n5_ := n4_; have n6_ := am ((by rw [hg]; exact Nat.ne_of_lt (blk_lt (g := gb426) bkw) : gb426 ≠ gb429)); have n7_ := am ((by rw [hg]; exact Nat.ne_of_gt (blk_lt (g := gb426) bkw) : gb429 ≠ gb426)); have n8_ := am ((by rw [hg]; exact Nat.ne_of_lt (blk_lt (g := gb427) bkw) : gb427 ≠ gb429)); have n9_ := am ((by rw [hg]; exact Nat.ne_of_gt (blk_lt (g := gb427) bkw) : gb429 ≠ gb427)); clear BK426; clear BK427; clear HB; revert n0_ n1_ n2_ n3_ n4_ n5_ n6_ n7_ n8_ n9_; intro BK426 BK427 HB BK429 GW429 GE429 NB426_429 NB429_426 NB427_429 NB429_427; clear hb hbox hg; have hnb40 := NB429_426.out; have hnc40 := NB426_429.out; have hnb41 := NB429_427.out; have hnc41 := NB427_429.out; obtain ⟨hcz42_0, hcz42_1, hcz42_2, hcz42_3, hcz42_4, hcz42_5, hcz42_6, hcz42_7, hcz42_8, hcz42_9, hcz42_10, hcz42_11, hcz42_12, hcz42_13, hcz42_14, hcz42_15, hcz42_16, hcz42_17, hcz42_18, hcz42_19, hcz42_20⟩ := cls21 BK429.out; obtain ⟨hfz42_0, hfz42_1, hfz42_2, hfz42_3, hfz42_4, hfz42_5, hfz42_6, hfz42_7, hfz42_8, hfz42_9, hfz42_10, hfz42_11, hfz42_12, hfz42_13, hfz42_14, hfz42_15, hfz42_16, hfz42_17, hfz42_18, hfz42_19, hfz42_20⟩ := frz21 BK429.out; have hcz43_0 : w39.cell? ⟨gb427, 0, none⟩ = some (.slice A1_0 l1_0.length c1_0) := (blk_cell BK427.out 0).trans rfl; have hfz43_0 := blk_frozen BK427.out 0; have p430 : 0 ≤ (x5_1 : Int) := of_decide_eq_true asw; have q430 : x5_1 < (l1_0.length : Int) := of_decide_eq_true asw; obtain ⟨ad430, A430_0, c430_0, A430_5, c430_5, A430_6, c430_6, A430_7, c430_7, A430_8, c430_8, A430_14, c430_14, A430_15, c430_15, A430_16, c430_16, A430_17, c430_17, A430_18, c430_18, A430_19, c430_19, A430_20, c430_20, e430, hx430_0, hx430_1, hx430_2, hx430_3, hx430_4, hx430_5, hx430_6, hx430_7, hx430_8, hx430_9, hx430_10, hx430_11, hx430_12, hx430_13, hx430_14, hx430_15, hx430_16, hx430_17, hx430_18, hx430_19, hx430_20, hl430_0, hi430_0, hl430_5, hi430_5, hl430_6, hi430_6, hl430_7, hi430_7, hl430_8, hi430_8, hl430_14, hi430_14, hl430_15, hi430_15, hl430_16, hi430_16, hl430_17, hi430_17, hl430_18, hi430_18, hl430_19, hi430_19, hl430_20, hi430_20⟩ := at_T49 HR1_0.out x5_1 p430 q430; cases e430; have hn430_0 : ad430.block ≠ gb429 := Nat.ne_of_lt (Nat.lt_of_lt_of_le (by have := World.block_lt_of_cell? _ _ hx430_0; first | rwa [add_block] at this | exact this) GW429.out); have hn430_1 := hn430_0; have hn430_2 := hn430_0; have hn430_3 := hn430_0; have hn430_4 := hn430_0; have hn430_5 := hn430_0; have hn430_6 := hn430_0; have hn430_7 := hn430_0; have hn430_8 := hn430_0; have hn430_9 := hn430_0; have hn430_10 := hn430_0; have hn430_11 := hn430_0; have hn430_12 := hn430_0; have hn430_13 := hn430_0; have hn430_14 := hn430_0; have hn430_15 := hn430_0; have hn430_16 := hn430_0; have hn430_17 := hn430_0; have hn430_18 := hn430_0; have hn430_19 := hn430_0; have hn430_20 := hn430_0; replace hx430_0 := upw HB.out hx430_0; replace hx430_1 := upw HB.out hx430_1; replace hx430_2 := upw HB.out hx430_2; replace hx430_3 := upw HB.out hx430_3; replace hx430_4 := upw HB.out hx430_4; replace hx430_5 := upw HB.out hx430_5; replace hx430_6 := upw HB.out hx430_6; replace hx430_7 := upw HB.out hx430_7; replace hx430_8 := upw HB.out hx430_8; replace hx430_9 := upw HB.out hx430_9; replace hx430_10 := upw HB.out hx430_10; replace hx430_11 := upw HB.out hx430_11; replace hx430_12 := upw HB.out hx430_12; replace hx430_13 := upw HB.out hx430_13; replace hx430_14 := upw HB.out hx430_14; replace hx430_15 := upw HB.out hx430_15; replace hx430_16 := upw HB.out hx430_16; replace hx430_17 := upw HB.out hx430_17; replace hx430_18 := upw HB.out hx430_18; replace hx430_19 := upw HB.out hx430_19; replace hx430_20 := upw HB.out hx430_20; have HR430_0 := am hi430_0; have HC430_0 := am hl430_0; clear hi430_0 hl430_0; have HR430_5 := am hi430_5; have HC430_5 := am hl430_5; clear hi430_5 hl430_5; have HR430_6 := am hi430_6; have HC430_6 := am hl430_6; clear hi430_6 hl430_6; have HR430_7 := am hi430_7; have HC430_7 := am hl430_7; clear hi430_7 hl430_7; have HR430_8 := am hi430_8; have HC430_8 := am hl430_8; clear hi430_8 hl430_8; have HR430_14 := am hi430_14; have HC430_14 := am hl430_14; clear hi430_14 hl430_14; have HR430_15 := am hi430_15; have HC430_15 := am hl430_15; clear hi430_15 hl430_15; have HR430_16 := am hi430_16; have HC430_16 := am hl430_16; clear hi430_16 hl430_16; have HR430_17 := am hi430_17; have HC430_17 := am hl430_17; clear hi430_17 hl430_17; have HR430_18 := am hi430_18; have HC430_18 := am hl430_18; clear hi430_18 hl430_18; have HR430_19 := am hi430_19; have HC430_19 := am hl430_19; clear hi430_19 hl430_19; have HR430_20 := am hi430_20; have HC430_20 := am hl430_20; clear hi430_20 hl430_20; have hc_ := Cells_c hx430_0 (Cells'_c hx430_1 (Cells'_c hx430_2 (Cells'_c hx430_3 (Cells'_c hx430_4 (Cells'_c hx430_5 (Cells'_c hx430_6 (Cells'_c hx430_7 (Cells'_c hx430_8 (Cells'_c hx430_9 (Cells'_c hx430_10 (Cells'_c hx430_11 (Cells'_c hx430_12 (Cells'_c hx430_13 (Cells'_c hx430_14 (Cells'_c hx430_15 (Cells'_c hx430_16 (Cells'_c hx430_17 (Cells'_c hx430_18 (Cells'_c hx430_19 (Cells'_c hx430_20  Cells'_n)))))))))))))))))))); replace hc_ := Cells_far hc_ ⟨gb429, 0, none⟩ (by first | (rw [add_block]; exact hn430_0) | exact hn430_0) (.slice A428_0 ((rd_T49 l0_0 x5_1).f0).length c428_0); replace hc_ := Cells_far hc_ ⟨gb429, 1, none⟩ (by first | (rw [add_block]; exact hn430_1) | exact hn430_1) (.int .i64 ((rd_T49 l0_0 x5_1).f1.f0)); replace hc_ := Cells_far hc_ ⟨gb429, 2, none⟩ (by first | (rw [add_block]; exact hn430_2) | exact hn430_2) (.string ((rd_T49 l0_0 x5_1).f1.f1)); replace hc_ := Cells_far hc_ ⟨gb429, 3, none⟩ (by first | (rw [add_block]; exact hn430_3) | exact hn430_3) (.int .i64 ((rd_T49 l0_0 x5_1).f1.f2)); replace hc_ := Cells_far hc_ ⟨gb429, 4, none⟩ (by first | (rw [add_block]; exact hn430_4) | exact hn430_4) (.int .i64 ((rd_T49 l0_0 x5_1).f1.f3.f0)); replace hc_ := Cells_far hc_ ⟨gb429, 5, none⟩ (by first | (rw [add_block]; exact hn430_5) | exact hn430_5) (.slice A428_5 ((rd_T49 l0_0 x5_1).f1.f3.f1).length c428_5); replace hc_ := Cells_far hc_ ⟨gb429, 6, none⟩ (by first | (rw [add_block]; exact hn430_6) | exact hn430_6) (.slice A428_6 ((rd_T49 l0_0 x5_1).f1.f3.f2).length c428_6); replace hc_ := Cells_far hc_ ⟨gb429, 7, none⟩ (by first | (rw [add_block]; exact hn430_7) | exact hn430_7) (.slice A428_7 ((rd_T49 l0_0 x5_1).f1.f4).length c428_7); replace hc_ := Cells_far hc_ ⟨gb429, 8, none⟩ (by first | (rw [add_block]; exact hn430_8) | exact hn430_8) (.slice A428_8 ((rd_T49 l0_0 x5_1).f1.f5).length c428_8); replace hc_ := Cells_far hc_ ⟨gb429, 9, none⟩ (by first | (rw [add_block]; exact hn430_9) | exact hn430_9) (.int .i64 ((rd_T49 l0_0 x5_1).f2.f0)); replace hc_ := Cells_far hc_ ⟨gb429, 10, none⟩ (by first | (rw [add_block]; exact hn430_10) | exact hn430_10) (.int .i64 ((rd_T49 l0_0 x5_1).f2.f1.f0)); replace hc_ := Cells_far hc_ ⟨gb429, 11, none⟩ (by first | (rw [add_block]; exact hn430_11) | exact hn430_11) (.string ((rd_T49 l0_0 x5_1).f2.f1.f1)); replace hc_ := Cells_far hc_ ⟨gb429, 12, none⟩ (by first | (rw [add_block]; exact hn430_12) | exact hn430_12) (.int .i64 ((rd_T49 l0_0 x5_1).f2.f1.f2)); replace hc_ := Cells_far hc_ ⟨gb429, 13, none⟩ (by first | (rw [add_block]; exact hn430_13) | exact hn430_13) (.int .i64 ((rd_T49 l0_0 x5_1).f2.f1.f3.f0)); replace hc_ := Cells_far hc_ ⟨gb429, 14, none⟩ (by first | (rw [add_block]; exact hn430_14) | exact hn430_14) (.slice A428_14 ((rd_T49 l0_0 x5_1).f2.f1.f3.f1).length c428_14); replace hc_ := Cells_far hc_ ⟨gb429, 15, none⟩ (by first | (rw [add_block]; exact hn430_15) | exact hn430_15) (.slice A428_15 ((rd_T49 l0_0 x5_1).f2.f1.f3.f2).length c428_15); replace hc_ := Cells_far hc_ ⟨gb429, 16, none⟩ (by first | (rw [add_block]; exact hn430_16) | exact hn430_16) (.slice A428_16 ((rd_T49 l0_0 x5_1).f2.f1.f4).length c428_16); replace hc_ := Cells_far hc_ ⟨gb429, 17, none⟩ (by first | (rw [add_block]; exact hn430_17) | exact hn430_17) (.slice A428_17 ((rd_T49 l0_0 x5_1).f2.f1.f5).length c428_17); replace hc_ := Cells_far hc_ ⟨gb429, 18, none⟩ (by first | (rw [add_block]; exact hn430_18) | exact hn430_18) (.slice A428_18 ((rd_T49 l0_0 x5_1).f2.f2).length c428_18); replace hc_ := Cells_far hc_ ⟨gb429, 19, none⟩ (by first | (rw [add_block]; exact hn430_19) | exact hn430_19) (.slice A428_19 ((rd_T49 l0_0 x5_1).f2.f3).length c428_19); replace hc_ := Cells_far hc_ ⟨gb429, 20, none⟩ (by first | (rw [add_block]; exact hn430_20) | exact hn430_20) (.slice A428_20 ((rd_T49 l0_0 x5_1).f2.f4.f0).length c428_20); replace hx430_0 := hc_.1; replace hx430_1 := Cells_get hc_ 1 (by decide) rfl; replace hx430_2 := Cells_get hc_ 2 (by decide) rfl; replace hx430_3 := Cells_get hc_ 3 (by decide) rfl; replace hx430_4 := Cells_get hc_ 4 (by decide) rfl; replace hx430_5 := Cells_get hc_ 5 (by decide) rfl; replace hx430_6 := Cells_get hc_ 6 (by decide) rfl; replace hx430_7 := Cells_get hc_ 7 (by decide) rfl; replace hx430_8 := Cells_get hc_ 8 (by decide) rfl; replace hx430_9 := Cells_get hc_ 9 (by decide) rfl; replace hx430_10 := Cells_get hc_ 10 (by decide) rfl; replace hx430_11 := Cells_get hc_ 11 (by decide) rfl; replace hx430_12 := Cells_get hc_ 12 (by decide) rfl; replace hx430_13 := Cells_get hc_ 13 (by decide) rfl; replace hx430_14 := Cells_get hc_ 14 (by decide) rfl; replace hx430_15 := Cells_get hc_ 15 (by decide) rfl; replace hx430_16 := Cells_get hc_ 16 (by decide) rfl; replace hx430_17 := Cells_get hc_ 17 (by decide) rfl; replace hx430_18 := Cells_get hc_ 18 (by decide) rfl; replace hx430_19 := Cells_get hc_ 19 (by decide) rfl; replace hx430_20 := Cells_get hc_ 20 (by decide) rfl; clear hc_; clear hn430_0; clear hn430_1; clear hn430_2; clear hn430_3; clear hn430_4; clear hn430_5; clear hn430_6; clear hn430_7; clear hn430_8; clear hn430_9; clear hn430_10; clear hn430_11; clear hn430_12; clear hn430_13; clear hn430_14; clear hn430_15; clear hn430_16; clear hn430_17; clear hn430_18; clear hn430_19; clear hn430_20; replace p430 := eq_true p430; replace q430 := eq_true q430) | ((with_reducible refine gate_dst (N := 7) rfl ?_); refine box_event ?hg (N := 7) ?hd (cs := #[.slice none 0 0, .int .i64 0, .string (⟨#[]⟩ : ByteArray), .int .i64 0, .int .i64 0, .slice none 0 0, .slice none 0 0, .slice none 0 0, .slice none 0 0, .int .i64 0, .int .i64 0, .string (⟨#[]⟩ : ByteArray), .int .i64 0, .int .i64 0, .slice none 0 0, .slice none 0 0, .slice none 0 0, .slice none 0 0, .slice none 0 0, .slice none 0 0, .slice none 0 0]) (t := 49) ?hr ?_; (case hd => rfl); (case hg => rfl); (case hr => exact hrw); intro gb431 hg w44 hbox hb; have n0_ := am (blk_below (g := gb426) (o := .cells #[.slice (some ad428) l0_0.length c0_0] 29 (0, 0)) (by apply blk_sum; (repeat (with_reducible first | apply blk_sett | apply blk_far (hp := NB426_429.out) | apply blk_drewN | apply blk_drew | apply blk_alloc)); exact BK426.out; rfl) hb); have n1_ := am (blk_below (g := gb427) (o := .cells #[.slice (some ad430) l1_0.length c1_0] 29 (0, 0)) (by apply blk_sum; (repeat (with_reducible first | apply blk_sett | apply blk_far (hp := NB427_429.out) | apply blk_drewN | apply blk_drew | apply blk_alloc)); exact BK427.out; rfl) hb); have n2_ := am (blk_below (g := gb429) (by (repeat (with_reducible first | apply blk_drewN | apply blk_drew | apply blk_alloc)); apply blk_all (cs := [.slice A428_0 ((rd_T49 l0_0 x5_1).f0).length c428_0, .int .i64 ((rd_T49 l0_0 x5_1).f1.f0), .string ((rd_T49 l0_0 x5_1).f1.f1), .int .i64 ((rd_T49 l0_0 x5_1).f1.f2), .int .i64 ((rd_T49 l0_0 x5_1).f1.f3.f0), .slice A428_5 ((rd_T49 l0_0 x5_1).f1.f3.f1).length c428_5, .slice A428_6 ((rd_T49 l0_0 x5_1).f1.f3.f2).length c428_6, .slice A428_7 ((rd_T49 l0_0 x5_1).f1.f4).length c428_7, .slice A428_8 ((rd_T49 l0_0 x5_1).f1.f5).length c428_8, .int .i64 ((rd_T49 l0_0 x5_1).f2.f0), .int .i64 ((rd_T49 l0_0 x5_1).f2.f1.f0), .string ((rd_T49 l0_0 x5_1).f2.f1.f1), .int .i64 ((rd_T49 l0_0 x5_1).f2.f1.f2), .int .i64 ((rd_T49 l0_0 x5_1).f2.f1.f3.f0), .slice A428_14 ((rd_T49 l0_0 x5_1).f2.f1.f3.f1).length c428_14, .slice A428_15 ((rd_T49 l0_0 x5_1).f2.f1.f3.f2).length c428_15, .slice A428_16 ((rd_T49 l0_0 x5_1).f2.f1.f4).length c428_16, .slice A428_17 ((rd_T49 l0_0 x5_1).f2.f1.f5).length c428_17, .slice A428_18 ((rd_T49 l0_0 x5_1).f2.f2).length c428_18, .slice A428_19 ((rd_T49 l0_0 x5_1).f2.f3).length c428_19, .slice A428_20 ((rd_T49 l0_0 x5_1).f2.f4.f0).length c428_20]); (repeat (with_reducible first | apply blk_drewN | apply blk_drew | apply blk_alloc)); exact BK429.out; rfl) hb); have n3_ := am (below_step blw hb); have n4_ := am (hbox); have n5_ := am ((by rw [hg]; exact (below_size blw) : w.heap.size ≤ gb431)); have n6_ := n5_; have n7_ := am ((by rw [hg]; exact Nat.ne_of_lt (blk_lt (g := gb426) (o := .cells #[.slice (some ad428) l0_0.length c0_0] 29 (0, 0)) (by apply blk_sum; (repeat (with_reducible first | apply blk_sett | apply blk_far (hp := NB426_429.out) | apply blk_drewN | apply blk_drew | apply blk_alloc)); exact BK426.out; rfl)) : gb426 ≠ gb431)); have n8_ := am ((by rw [hg]; exact Nat.ne_of_gt (blk_lt (g := gb426) (o := .cells #[.slice (some ad428) l0_0.length c0_0] 29 (0, 0)) (by apply blk_sum; (repeat (with_reducible first | apply blk_sett | apply blk_far (hp := NB426_429.out) | apply blk_drewN | apply blk_drew | apply blk_alloc)); exact BK426.out; rfl)) : gb431 ≠ gb426)); have n9_ := am ((by rw [hg]; exact Nat.ne_of_lt (blk_lt (g := gb427) (o := .cells #[.slice (some ad430) l1_0.length c1_0] 29 (0, 0)) (by apply blk_sum; (repeat (with_reducible first | apply blk_sett | apply blk_far (hp := NB427_429.out) | apply blk_drewN | apply blk_drew | apply blk_alloc)); exact BK427.out; rfl)) : gb427 ≠ gb431)); have n10_ := am ((by rw [hg]; exact Nat.ne_of_gt (blk_lt (g := gb427) (o := .cells #[.slice (some ad430) l1_0.length c1_0] 29 (0, 0)) (by apply blk_sum; (repeat (with_reducible first | apply blk_sett | apply blk_far (hp := NB427_429.out) | apply blk_drewN | apply blk_drew | apply blk_alloc)); exact BK427.out; rfl)) : gb431 ≠ gb427)); have n11_ := am ((by rw [hg]; exact Nat.ne_of_lt (blk_lt (g := gb429) (by (repeat (with_reducible first | apply blk_drewN | apply blk_drew | apply blk_alloc)); apply blk_all (cs := [.slice A428_0 ((rd_T49 l0_0 x5_1).f0).length c428_0, .int .i64 ((rd_T49 l0_0 x5_1).f1.f0), .string ((rd_T49 l0_0 x5_1).f1.f1), .int .i64 ((rd_T49 l0_0 x5_1).f1.f2), .int .i64 ((rd_T49 l0_0 x5_1).f1.f3.f0), .slice A428_5 ((rd_T49 l0_0 x5_1).f1.f3.f1).length c428_5, .slice A428_6 ((rd_T49 l0_0 x5_1).f1.f3.f2).length c428_6, .slice A428_7 ((rd_T49 l0_0 x5_1).f1.f4).length c428_7, .slice A428_8 ((rd_T49 l0_0 x5_1).f1.f5).length c428_8, .int .i64 ((rd_T49 l0_0 x5_1).f2.f0), .int .i64 ((rd_T49 l0_0 x5_1).f2.f1.f0), .string ((rd_T49 l0_0 x5_1).f2.f1.f1), .int .i64 ((rd_T49 l0_0 x5_1).f2.f1.f2), .int .i64 ((rd_T49 l0_0 x5_1).f2.f1.f3.f0), .slice A428_14 ((rd_T49 l0_0 x5_1).f2.f1.f3.f1).length c428_14, .slice A428_15 ((rd_T49 l0_0 x5_1).f2.f1.f3.f2).length c428_15, .slice A428_16 ((rd_T49 l0_0 x5_1).f2.f1.f4).length c428_16, .slice A428_17 ((rd_T49 l0_0 x5_1).f2.f1.f5).length c428_17, .slice A428_18 ((rd_T49 l0_0 x5_1).f2.f2).length c428_18, .slice A428_19 ((rd_T49 l0_0 x5_1).f2.f3).length c428_19, .slice A428_20 ((rd_T49 l0_0 x5_1).f2.f4.f0).length c428_20]); (repeat (with_reducible first | apply blk_drewN | apply blk_drew | apply blk_alloc)); exact BK429.out; rfl)) : gb429 ≠ gb431)); have n12_ := am ((by rw [hg]; exact Nat.ne_of_gt (blk_lt (g := gb429) (by (repeat (with_reducible first | apply blk_drewN | apply blk_drew | apply blk_alloc)); apply blk_all (cs := [.slice A428_0 ((rd_T49 l0_0 x5_1).f0).length c428_0, .int .i64 ((rd_T49 l0_0 x5_1).f1.f0), .string ((rd_T49 l0_0 x5_1).f1.f1), .int .i64 ((rd_T49 l0_0 x5_1).f1.f2), .int .i64 ((rd_T49 l0_0 x5_1).f1.f3.f0), .slice A428_5 ((rd_T49 l0_0 x5_1).f1.f3.f1).length c428_5, .slice A428_6 ((rd_T49 l0_0 x5_1).f1.f3.f2).length c428_6, .slice A428_7 ((rd_T49 l0_0 x5_1).f1.f4).length c428_7, .slice A428_8 ((rd_T49 l0_0 x5_1).f1.f5).length c428_8, .int .i64 ((rd_T49 l0_0 x5_1).f2.f0), .int .i64 ((rd_T49 l0_0 x5_1).f2.f1.f0), .string ((rd_T49 l0_0 x5_1).f2.f1.f1), .int .i64 ((rd_T49 l0_0 x5_1).f2.f1.f2), .int .i64 ((rd_T49 l0_0 x5_1).f2.f1.f3.f0), .slice A428_14 ((rd_T49 l0_0 x5_1).f2.f1.f3.f1).length c428_14, .slice A428_15 ((rd_T49 l0_0 x5_1).f2.f1.f3.f2).length c428_15, .slice A428_16 ((rd_T49 l0_0 x5_1).f2.f1.f4).length c428_16, .slice A428_17 ((rd_T49 l0_0 x5_1).f2.f1.f5).length c428_17, .slice A428_18 ((rd_T49 l0_0 x5_1).f2.f2).length c428_18, .slice A428_19 ((rd_T49 l0_0 x5_1).f2.f3).length c428_19, .slice A428_20 ((rd_T49 l0_0 x5_1).f2.f4.f0).length c428_20]); (repeat (with_reducible first | apply blk_drewN | apply blk_drew | apply blk_alloc)); exact BK429.out; rfl)) : gb431 ≠ gb429)); clear BK426; clear BK427; clear BK429; clear HB; revert n0_ n1_ n2_ n3_ n4_ n5_ n6_ n7_ n8_ n9_ n10_ n11_ n12_; intro BK426 BK427 BK429 HB BK431 GW431 GE431 NB426_431 NB431_426 NB427_431 NB431_427 NB429_431 NB431_429; clear hb hbox hg; have hnb45 := NB431_426.out; have hnc45 := NB426_431.out; have hnb46 := NB431_427.out; have hnc46 := NB427_431.out; have hnb47 := NB431_429.out; have hnc47 := NB429_431.out; obtain ⟨hcz48_0, hcz48_1, hcz48_2, hcz48_3, hcz48_4, hcz48_5, hcz48_6, hcz48_7, hcz48_8, hcz48_9, hcz48_10, hcz48_11, hcz48_12, hcz48_13, hcz48_14, hcz48_15, hcz48_16, hcz48_17, hcz48_18, hcz48_19, hcz48_20⟩ := cls21 BK431.out; obtain ⟨hfz48_0, hfz48_1, hfz48_2, hfz48_3, hfz48_4, hfz48_5, hfz48_6, hfz48_7, hfz48_8, hfz48_9, hfz48_10, hfz48_11, hfz48_12, hfz48_13, hfz48_14, hfz48_15, hfz48_16, hfz48_17, hfz48_18, hfz48_19, hfz48_20⟩ := frz21 BK431.out; obtain ⟨hcz49_0, hcz49_1, hcz49_2, hcz49_3, hcz49_4, hcz49_5, hcz49_6, hcz49_7, hcz49_8, hcz49_9, hcz49_10, hcz49_11, hcz49_12, hcz49_13, hcz49_14, hcz49_15, hcz49_16, hcz49_17, hcz49_18, hcz49_19, hcz49_20⟩ := cls21 BK429.out; obtain ⟨hfz49_0, hfz49_1, hfz49_2, hfz49_3, hfz49_4, hfz49_5, hfz49_6, hfz49_7, hfz49_8, hfz49_9, hfz49_10, hfz49_11, hfz49_12, hfz49_13, hfz49_14, hfz49_15, hfz49_16, hfz49_17, hfz49_18, hfz49_19, hfz49_20⟩ := frz21 BK429.out) | ((with_reducible refine gate_callee (f := 23) rfl ?_); refine goesL_ (some 36) rfl rfl Try.func23 kr rfl #[.slice A428_0 ((rd_T49 l0_0 x5_1).f0).length c428_0, .slice A430_0 ((rd_T49 l1_0 x5_1).f0).length c430_0] rfl mpw ?_; (with_reducible refine (spec_l13EqualGens.calls k1 _ _ ((rd_T49 l0_0 x5_1).f0) _ _ ((rd_T49 l1_0 x5_1).f0) true _ ?side1 ?side2 ?side3 ?side4 A13.out).mono ?_); (case side1 => exact Kd.C_below HR428_0.out blw); (case side2 => exact HC428_0.out); (case side3 => exact Kd.C_below HR430_0.out blw); (case side4 => exact HC430_0.out); rintro e w' ⟨rfl, ⟨nd, rfl⟩⟩; refine ⟨_, rfl, ?_⟩) | (go_at_call 24; (with_reducible refine (spec_EqualTerm.calls k1 ((rd_T49 l0_0 x5_1).f1.f0) ((rd_T49 l0_0 x5_1).f1.f1) ((rd_T49 l0_0 x5_1).f1.f2) ((rd_T49 l0_0 x5_1).f1.f3.f0) _ _ ((rd_T49 l0_0 x5_1).f1.f3.f1) _ _ ((rd_T49 l0_0 x5_1).f1.f3.f2) _ _ ((rd_T49 l0_0 x5_1).f1.f4) _ _ ((rd_T49 l0_0 x5_1).f1.f5) ((rd_T49 l1_0 x5_1).f1.f0) ((rd_T49 l1_0 x5_1).f1.f1) ((rd_T49 l1_0 x5_1).f1.f2) ((rd_T49 l1_0 x5_1).f1.f3.f0) _ _ ((rd_T49 l1_0 x5_1).f1.f3.f1) _ _ ((rd_T49 l1_0 x5_1).f1.f3.f2) _ _ ((rd_T49 l1_0 x5_1).f1.f4) _ _ ((rd_T49 l1_0 x5_1).f1.f5) false _ ?side1 ?side2 ?side3 ?side4 ?side5 ?side6 ?side7 ?side8 ?side9 ?side10 ?side11 ?side12 ?side13 ?side14 ?side15 ?side16 A15.out).mono ?_); (case side1 => exact Kd.C_below HR428_5.out blw); (case side2 => exact HC428_5.out); (case side3 => exact Kd.C_below HR428_6.out blw); (case side4 => exact HC428_6.out); (case side5 => exact Kd.C_below HR428_7.out blw); (case side6 => exact HC428_7.out); (case side7 => exact Kd.C_below HR428_8.out blw); (case side8 => exact HC428_8.out); (case side9 => exact Kd.C_below HR430_5.out blw); (case side10 => exact HC430_5.out); (case side11 => exact Kd.C_below HR430_6.out blw); (case side12 => exact HC430_6.out); (case side13 => exact Kd.C_below HR430_7.out blw); (case side14 => exact HC430_7.out); (case side15 => exact Kd.C_below HR430_8.out blw); (case side16 => exact HC430_8.out); rintro e w50 ⟨rfl, hb⟩; have n0_ := am (blk_below (g := gb426) (o := .cells #[.slice (some ad428) l0_0.length c0_0] 29 (0, 0)) (by apply blk_sum; (repeat (with_reducible first | apply blk_sett | apply blk_far (hp := NB426_431.out) | apply blk_drewN | apply blk_drew | apply blk_alloc)); exact BK426.out; rfl) hb); have n1_ := am (blk_below (g := gb427) (o := .cells #[.slice (some ad430) l1_0.length c1_0] 29 (0, 0)) (by apply blk_sum; (repeat (with_reducible first | apply blk_sett | apply blk_far (hp := NB427_431.out) | apply blk_drewN | apply blk_drew | apply blk_alloc)); exact BK427.out; rfl) hb); have n2_ := am (blk_below (g := gb429) (o := .cells #[.slice A428_0 ((rd_T49 l0_0 x5_1).f0).length c428_0, .int .i64 ((rd_T49 l0_0 x5_1).f1.f0), .string ((rd_T49 l0_0 x5_1).f1.f1), .int .i64 ((rd_T49 l0_0 x5_1).f1.f2), .int .i64 ((rd_T49 l0_0 x5_1).f1.f3.f0), .slice A428_5 ((rd_T49 l0_0 x5_1).f1.f3.f1).length c428_5, .slice A428_6 ((rd_T49 l0_0 x5_1).f1.f3.f2).length c428_6, .slice A428_7 ((rd_T49 l0_0 x5_1).f1.f4).length c428_7, .slice A428_8 ((rd_T49 l0_0 x5_1).f1.f5).length c428_8, .int .i64 ((rd_T49 l0_0 x5_1).f2.f0), .int .i64 ((rd_T49 l0_0 x5_1).f2.f1.f0), .string ((rd_T49 l0_0 x5_1).f2.f1.f1), .int .i64 ((rd_T49 l0_0 x5_1).f2.f1.f2), .int .i64 ((rd_T49 l0_0 x5_1).f2.f1.f3.f0), .slice A428_14 ((rd_T49 l0_0 x5_1).f2.f1.f3.f1).length c428_14, .slice A428_15 ((rd_T49 l0_0 x5_1).f2.f1.f3.f2).length c428_15, .slice A428_16 ((rd_T49 l0_0 x5_1).f2.f1.f4).length c428_16, .slice A428_17 ((rd_T49 l0_0 x5_1).f2.f1.f5).length c428_17, .slice A428_18 ((rd_T49 l0_0 x5_1).f2.f2).length c428_18, .slice A428_19 ((rd_T49 l0_0 x5_1).f2.f3).length c428_19, .slice A428_20 ((rd_T49 l0_0 x5_1).f2.f4.f0).length c428_20] 49 (0, 0)) (by apply blk_sum; (repeat (with_reducible first | apply blk_sett | apply blk_far (hp := NB429_431.out) | apply blk_drewN | apply blk_drew | apply blk_alloc)); exact BK429.out; rfl) hb); have n3_ := am (blk_below (g := gb431) (by (repeat (with_reducible first | apply blk_drewN | apply blk_drew | apply blk_alloc)); apply blk_all (cs := [.slice A430_0 ((rd_T49 l1_0 x5_1).f0).length c430_0, .int .i64 ((rd_T49 l1_0 x5_1).f1.f0), .string ((rd_T49 l1_0 x5_1).f1.f1), .int .i64 ((rd_T49 l1_0 x5_1).f1.f2), .int .i64 ((rd_T49 l1_0 x5_1).f1.f3.f0), .slice A430_5 ((rd_T49 l1_0 x5_1).f1.f3.f1).length c430_5, .slice A430_6 ((rd_T49 l1_0 x5_1).f1.f3.f2).length c430_6, .slice A430_7 ((rd_T49 l1_0 x5_1).f1.f4).length c430_7, .slice A430_8 ((rd_T49 l1_0 x5_1).f1.f5).length c430_8, .int .i64 ((rd_T49 l1_0 x5_1).f2.f0), .int .i64 ((rd_T49 l1_0 x5_1).f2.f1.f0), .string ((rd_T49 l1_0 x5_1).f2.f1.f1), .int .i64 ((rd_T49 l1_0 x5_1).f2.f1.f2), .int .i64 ((rd_T49 l1_0 x5_1).f2.f1.f3.f0), .slice A430_14 ((rd_T49 l1_0 x5_1).f2.f1.f3.f1).length c430_14, .slice A430_15 ((rd_T49 l1_0 x5_1).f2.f1.f3.f2).length c430_15, .slice A430_16 ((rd_T49 l1_0 x5_1).f2.f1.f4).length c430_16, .slice A430_17 ((rd_T49 l1_0 x5_1).f2.f1.f5).length c430_17, .slice A430_18 ((rd_T49 l1_0 x5_1).f2.f2).length c430_18, .slice A430_19 ((rd_T49 l1_0 x5_1).f2.f3).length c430_19, .slice A430_20 ((rd_T49 l1_0 x5_1).f2.f4.f0).length c430_20]); (repeat (with_reducible first | apply blk_drewN | apply blk_drew | apply blk_alloc)); exact BK431.out; rfl) hb); have n4_ := am (below_step blw hb); clear BK426; clear BK427; clear BK429; clear BK431; clear HB; revert n0_ n1_ n2_ n3_ n4_; intro BK426 BK427 BK429 BK431 HB; (try clear hb); (try clear hb2); (try clear hk); (try clear hi)))
    go_ret
    exact ⟨rfw, blw⟩
   subst c16
   have H1 : ((spec_l13EqualHead.f k1 ((rd_T49 l0_0 x5_1).f2.f0) ((rd_T49 l0_0 x5_1).f2.f1.f0) ((rd_T49 l0_0 x5_1).f2.f1.f1) ((rd_T49 l0_0 x5_1).f2.f1.f2) ((rd_T49 l0_0 x5_1).f2.f1.f3.f0) ((rd_T49 l0_0 x5_1).f2.f1.f3.f1) ((rd_T49 l0_0 x5_1).f2.f1.f3.f2) ((rd_T49 l0_0 x5_1).f2.f1.f4) ((rd_T49 l0_0 x5_1).f2.f1.f5) ((rd_T49 l0_0 x5_1).f2.f2) ((rd_T49 l0_0 x5_1).f2.f3) ((rd_T49 l0_0 x5_1).f2.f4.f0) ((rd_T49 l1_0 x5_1).f2.f0) ((rd_T49 l1_0 x5_1).f2.f1.f0) ((rd_T49 l1_0 x5_1).f2.f1.f1) ((rd_T49 l1_0 x5_1).f2.f1.f2) ((rd_T49 l1_0 x5_1).f2.f1.f3.f0) ((rd_T49 l1_0 x5_1).f2.f1.f3.f1) ((rd_T49 l1_0 x5_1).f2.f1.f3.f2) ((rd_T49 l1_0 x5_1).f2.f1.f4) ((rd_T49 l1_0 x5_1).f2.f1.f5) ((rd_T49 l1_0 x5_1).f2.f2) ((rd_T49 l1_0 x5_1).f2.f3) ((rd_T49 l1_0 x5_1).f2.f4.f0)).bind fun t434 => (if t434 = true then (spec_EqualQuery.l0 k1 (wrap64 (x5_1 + 1)) l0_0 l1_0) else (some false))) = some r := by rw [if_pos rfl] at H; exact H
   clear H
   have H := H1
   clear H1
   replace H := Option.bind_eq_some_iff.mp H
   obtain ⟨t434, A170, H⟩ := H
   replace H : (if t434 = true then (spec_EqualQuery.l0 k1 (wrap64 (x5_1 + 1)) l0_0 l1_0) else (some false)) = some r := H
   have A17 := am A170
   clear A170
   have HC18 := am H
   clear H
   have hnb19 := NB426_427.out
   have hnc19 := NB427_426.out
   have hcz20_0 : wr.cell? ⟨gb426, 0, none⟩ = some (.slice A0_0 l0_0.length c0_0) := (blk_cell BK426.out 0).trans rfl
   have hfz20_0 := blk_frozen BK426.out 0
   have p428 : 0 ≤ (x5_1 : Int) := of_decide_eq_true asw
   have q428 : x5_1 < (l0_0.length : Int) := of_decide_eq_true asw
   obtain ⟨ad428, A428_0, c428_0, A428_5, c428_5, A428_6, c428_6, A428_7, c428_7, A428_8, c428_8, A428_14, c428_14, A428_15, c428_15, A428_16, c428_16, A428_17, c428_17, A428_18, c428_18, A428_19, c428_19, A428_20, c428_20, e428, hx428_0, hx428_1, hx428_2, hx428_3, hx428_4, hx428_5, hx428_6, hx428_7, hx428_8, hx428_9, hx428_10, hx428_11, hx428_12, hx428_13, hx428_14, hx428_15, hx428_16, hx428_17, hx428_18, hx428_19, hx428_20, hl428_0, hi428_0, hl428_5, hi428_5, hl428_6, hi428_6, hl428_7, hi428_7, hl428_8, hi428_8, hl428_14, hi428_14, hl428_15, hi428_15, hl428_16, hi428_16, hl428_17, hi428_17, hl428_18, hi428_18, hl428_19, hi428_19, hl428_20, hi428_20⟩ := at_T49 HR0_0.out x5_1 p428 q428
   cases e428
   replace hx428_0 := upw HB.out hx428_0
   replace hx428_1 := upw HB.out hx428_1
   replace hx428_2 := upw HB.out hx428_2
   replace hx428_3 := upw HB.out hx428_3
   replace hx428_4 := upw HB.out hx428_4
   replace hx428_5 := upw HB.out hx428_5
   replace hx428_6 := upw HB.out hx428_6
   replace hx428_7 := upw HB.out hx428_7
   replace hx428_8 := upw HB.out hx428_8
   replace hx428_9 := upw HB.out hx428_9
   replace hx428_10 := upw HB.out hx428_10
   replace hx428_11 := upw HB.out hx428_11
   replace hx428_12 := upw HB.out hx428_12
   replace hx428_13 := upw HB.out hx428_13
   replace hx428_14 := upw HB.out hx428_14
   replace hx428_15 := upw HB.out hx428_15
   replace hx428_16 := upw HB.out hx428_16
   replace hx428_17 := upw HB.out hx428_17
   replace hx428_18 := upw HB.out hx428_18
   replace hx428_19 := upw HB.out hx428_19
   replace hx428_20 := upw HB.out hx428_20
   have HR428_0 := am hi428_0
   have HC428_0 := am hl428_0
   clear hi428_0 hl428_0
   have HR428_5 := am hi428_5
   have HC428_5 := am hl428_5
   clear hi428_5 hl428_5
   have HR428_6 := am hi428_6
   have HC428_6 := am hl428_6
   clear hi428_6 hl428_6
   have HR428_7 := am hi428_7
   have HC428_7 := am hl428_7
   clear hi428_7 hl428_7
   have HR428_8 := am hi428_8
   have HC428_8 := am hl428_8
   clear hi428_8 hl428_8
   have HR428_14 := am hi428_14
   have HC428_14 := am hl428_14
   clear hi428_14 hl428_14
   have HR428_15 := am hi428_15
   have HC428_15 := am hl428_15
   clear hi428_15 hl428_15
   have HR428_16 := am hi428_16
   have HC428_16 := am hl428_16
   clear hi428_16 hl428_16
   have HR428_17 := am hi428_17
   have HC428_17 := am hl428_17
   clear hi428_17 hl428_17
   have HR428_18 := am hi428_18
   have HC428_18 := am hl428_18
   clear hi428_18 hl428_18
   have HR428_19 := am hi428_19
   have HC428_19 := am hl428_19
   clear hi428_19 hl428_19
   have HR428_20 := am hi428_20
   have HC428_20 := am hl428_20
   clear hi428_20 hl428_20
   replace p428 := eq_true p428
   replace q428 := eq_true q428
   go_upto_if 53 with (first | ((with_reducible refine gate_dst (N := 26) rfl ?_); refine wide_load (N := 26) rfl rfl (ty := 49) rfl (Cells_c hx428_0 (Cells'_c hx428_1 (Cells'_c hx428_2 (Cells'_c hx428_3 (Cells'_c hx428_4 (Cells'_c hx428_5 (Cells'_c hx428_6 (Cells'_c hx428_7 (Cells'_c hx428_8 (Cells'_c hx428_9 (Cells'_c hx428_10 (Cells'_c hx428_11 (Cells'_c hx428_12 (Cells'_c hx428_13 (Cells'_c hx428_14 (Cells'_c hx428_15 (Cells'_c hx428_16 (Cells'_c hx428_17 (Cells'_c hx428_18 (Cells'_c hx428_19 (Cells'_c hx428_20 Cells'_n))))))))))))))))))))) ?hx Try.underlying49 rfl kr ?_; (case hx => rfl)) | ((with_reducible refine gate_dst (N := 31) rfl ?_); refine wide_load (N := 31) rfl rfl (ty := 49) rfl (Cells_c hx430_0 (Cells'_c hx430_1 (Cells'_c hx430_2 (Cells'_c hx430_3 (Cells'_c hx430_4 (Cells'_c hx430_5 (Cells'_c hx430_6 (Cells'_c hx430_7 (Cells'_c hx430_8 (Cells'_c hx430_9 (Cells'_c hx430_10 (Cells'_c hx430_11 (Cells'_c hx430_12 (Cells'_c hx430_13 (Cells'_c hx430_14 (Cells'_c hx430_15 (Cells'_c hx430_16 (Cells'_c hx430_17 (Cells'_c hx430_18 (Cells'_c hx430_19 (Cells'_c hx430_20 Cells'_n))))))))))))))))))))) ?hx Try.underlying49 rfl kr ?_; (case hx => rfl)) | ((with_reducible refine gate_store (t := 49) (p := 6) rfl ?_); refine wide_boxst rfl rfl rfl (arr := #[.slice none 0 0, .int .i64 0, .string (⟨#[]⟩ : ByteArray), .int .i64 0, .int .i64 0, .slice none 0 0, .slice none 0 0, .slice none 0 0, .slice none 0 0, .int .i64 0, .int .i64 0, .string (⟨#[]⟩ : ByteArray), .int .i64 0, .int .i64 0, .slice none 0 0, .slice none 0 0, .slice none 0 0, .slice none 0 0, .slice none 0 0, .slice none 0 0, .slice none 0 0]) (by (repeat (with_reducible first | apply blk_far (hp := NB426_429.out) | apply blk_far (hp := NB426_431.out) | apply blk_far (hp := NB427_429.out) | apply blk_far (hp := NB427_431.out) | apply blk_far (hp := NB429_426.out) | apply blk_far (hp := NB429_427.out) | apply blk_far (hp := NB429_431.out) | apply blk_far (hp := NB431_426.out) | apply blk_far (hp := NB431_427.out) | apply blk_far (hp := NB431_429.out) | apply blk_drewN | apply blk_drew | apply blk_alloc)); exact BK429.out) rfl rfl rfl kr (by rfl) ?_; simp only [World.setCells, Nat.reduceAdd, Nat.zero_add]) | ((with_reducible refine gate_store (t := 49) (p := 7) rfl ?_); refine wide_boxst rfl rfl rfl (arr := #[.slice none 0 0, .int .i64 0, .string (⟨#[]⟩ : ByteArray), .int .i64 0, .int .i64 0, .slice none 0 0, .slice none 0 0, .slice none 0 0, .slice none 0 0, .int .i64 0, .int .i64 0, .string (⟨#[]⟩ : ByteArray), .int .i64 0, .int .i64 0, .slice none 0 0, .slice none 0 0, .slice none 0 0, .slice none 0 0, .slice none 0 0, .slice none 0 0, .slice none 0 0]) (by (repeat (with_reducible first | apply blk_far (hp := NB426_429.out) | apply blk_far (hp := NB426_431.out) | apply blk_far (hp := NB427_429.out) | apply blk_far (hp := NB427_431.out) | apply blk_far (hp := NB429_426.out) | apply blk_far (hp := NB429_427.out) | apply blk_far (hp := NB429_431.out) | apply blk_far (hp := NB431_426.out) | apply blk_far (hp := NB431_427.out) | apply blk_far (hp := NB431_429.out) | apply blk_drewN | apply blk_drew | apply blk_alloc)); exact BK431.out) rfl rfl rfl kr (by rfl) ?_; simp only [World.setCells, Nat.reduceAdd, Nat.zero_add]) | ((with_reducible refine gate_dst (N := 6) rfl ?_); refine box_event ?hg (N := 6) ?hd (cs := #[.slice none 0 0, .int .i64 0, .string (⟨#[]⟩ : ByteArray), .int .i64 0, .int .i64 0, .slice none 0 0, .slice none 0 0, .slice none 0 0, .slice none 0 0, .int .i64 0, .int .i64 0, .string (⟨#[]⟩ : ByteArray), .int .i64 0, .int .i64 0, .slice none 0 0, .slice none 0 0, .slice none 0 0, .slice none 0 0, .slice none 0 0, .slice none 0 0, .slice none 0 0]) (t := 49) ?hr ?_; (case hd => rfl); (case hg => rfl); (case hr => exact hrw); intro gb429 hg w21 hbox hb; have n0_ := am (blk_below (g := gb426) bkw hb); have n1_ := am (blk_below (g := gb427) bkw hb); have n2_ := am (below_step blw hb); have n3_ := am (hbox); have n4_ := am ((by rw [hg]; exact (below_size blw) : w.heap.size ≤ gb429)); have n5_ := n4_; have n6_ := am ((by rw [hg]; exact Nat.ne_of_lt (blk_lt (g := gb426) bkw) : gb426 ≠ gb429)); have n7_ := am ((by rw [hg]; exact Nat.ne_of_gt (blk_lt (g := gb426) bkw) : gb429 ≠ gb426)); have n8_ := am ((by rw [hg]; exact Nat.ne_of_lt (blk_lt (g := gb427) bkw) : gb427 ≠ gb429)); have n9_ := am ((by rw [hg]; exact Nat.ne_of_gt (blk_lt (g := gb427) bkw) : gb429 ≠ gb427)); clear BK426; clear BK427; clear HB; revert n0_ n1_ n2_ n3_ n4_ n5_ n6_ n7_ n8_ n9_; intro BK426 BK427 HB BK429 GW429 GE429 NB426_429 NB429_426 NB427_429 NB429_427; clear hb hbox hg; have hnb22 := NB429_426.out; have hnc22 := NB426_429.out; have hnb23 := NB429_427.out; have hnc23 := NB427_429.out; obtain ⟨hcz24_0, hcz24_1, hcz24_2, hcz24_3, hcz24_4, hcz24_5, hcz24_6, hcz24_7, hcz24_8, hcz24_9, hcz24_10, hcz24_11, hcz24_12, hcz24_13, hcz24_14, hcz24_15, hcz24_16, hcz24_17, hcz24_18, hcz24_19, hcz24_20⟩ := cls21 BK429.out; obtain ⟨hfz24_0, hfz24_1, hfz24_2, hfz24_3, hfz24_4, hfz24_5, hfz24_6, hfz24_7, hfz24_8, hfz24_9, hfz24_10, hfz24_11, hfz24_12, hfz24_13, hfz24_14, hfz24_15, hfz24_16, hfz24_17, hfz24_18, hfz24_19, hfz24_20⟩ := frz21 BK429.out; have hcz25_0 : w21.cell? ⟨gb427, 0, none⟩ = some (.slice A1_0 l1_0.length c1_0) := (blk_cell BK427.out 0).trans rfl; have hfz25_0 := blk_frozen BK427.out 0; have p430 : 0 ≤ (x5_1 : Int) := of_decide_eq_true asw; have q430 : x5_1 < (l1_0.length : Int) := of_decide_eq_true asw; obtain ⟨ad430, A430_0, c430_0, A430_5, c430_5, A430_6, c430_6, A430_7, c430_7, A430_8, c430_8, A430_14, c430_14, A430_15, c430_15, A430_16, c430_16, A430_17, c430_17, A430_18, c430_18, A430_19, c430_19, A430_20, c430_20, e430, hx430_0, hx430_1, hx430_2, hx430_3, hx430_4, hx430_5, hx430_6, hx430_7, hx430_8, hx430_9, hx430_10, hx430_11, hx430_12, hx430_13, hx430_14, hx430_15, hx430_16, hx430_17, hx430_18, hx430_19, hx430_20, hl430_0, hi430_0, hl430_5, hi430_5, hl430_6, hi430_6, hl430_7, hi430_7, hl430_8, hi430_8, hl430_14, hi430_14, hl430_15, hi430_15, hl430_16, hi430_16, hl430_17, hi430_17, hl430_18, hi430_18, hl430_19, hi430_19, hl430_20, hi430_20⟩ := at_T49 HR1_0.out x5_1 p430 q430; cases e430; have hn430_0 : ad430.block ≠ gb429 := Nat.ne_of_lt (Nat.lt_of_lt_of_le (by have := World.block_lt_of_cell? _ _ hx430_0; first | rwa [add_block] at this | exact this) GW429.out); have hn430_1 := hn430_0; have hn430_2 := hn430_0; have hn430_3 := hn430_0; have hn430_4 := hn430_0; have hn430_5 := hn430_0; have hn430_6 := hn430_0; have hn430_7 := hn430_0; have hn430_8 := hn430_0; have hn430_9 := hn430_0; have hn430_10 := hn430_0; have hn430_11 := hn430_0; have hn430_12 := hn430_0; have hn430_13 := hn430_0; have hn430_14 := hn430_0; have hn430_15 := hn430_0; have hn430_16 := hn430_0; have hn430_17 := hn430_0; have hn430_18 := hn430_0; have hn430_19 := hn430_0; have hn430_20 := hn430_0; replace hx430_0 := upw HB.out hx430_0; replace hx430_1 := upw HB.out hx430_1; replace hx430_2 := upw HB.out hx430_2; replace hx430_3 := upw HB.out hx430_3; replace hx430_4 := upw HB.out hx430_4; replace hx430_5 := upw HB.out hx430_5; replace hx430_6 := upw HB.out hx430_6; replace hx430_7 := upw HB.out hx430_7; replace hx430_8 := upw HB.out hx430_8; replace hx430_9 := upw HB.out hx430_9; replace hx430_10 := upw HB.out hx430_10; replace hx430_11 := upw HB.out hx430_11; replace hx430_12 := upw HB.out hx430_12; replace hx430_13 := upw HB.out hx430_13; replace hx430_14 := upw HB.out hx430_14; replace hx430_15 := upw HB.out hx430_15; replace hx430_16 := upw HB.out hx430_16; replace hx430_17 := upw HB.out hx430_17; replace hx430_18 := upw HB.out hx430_18; replace hx430_19 := upw HB.out hx430_19; replace hx430_20 := upw HB.out hx430_20; have HR430_0 := am hi430_0; have HC430_0 := am hl430_0; clear hi430_0 hl430_0; have HR430_5 := am hi430_5; have HC430_5 := am hl430_5; clear hi430_5 hl430_5; have HR430_6 := am hi430_6; have HC430_6 := am hl430_6; clear hi430_6 hl430_6; have HR430_7 := am hi430_7; have HC430_7 := am hl430_7; clear hi430_7 hl430_7; have HR430_8 := am hi430_8; have HC430_8 := am hl430_8; clear hi430_8 hl430_8; have HR430_14 := am hi430_14; have HC430_14 := am hl430_14; clear hi430_14 hl430_14; have HR430_15 := am hi430_15; have HC430_15 := am hl430_15; clear hi430_15 hl430_15; have HR430_16 := am hi430_16; have HC430_16 := am hl430_16; clear hi430_16 hl430_16; have HR430_17 := am hi430_17; have HC430_17 := am hl430_17; clear hi430_17 hl430_17; have HR430_18 := am hi430_18; have HC430_18 := am hl430_18; clear hi430_18 hl430_18; have HR430_19 := am hi430_19; have HC430_19 := am hl430_19; clear hi430_19 hl430_19; have HR430_20 := am hi430_20; have HC430_20 := am hl430_20; clear hi430_20 hl430_20; have hc_ := Cells_c hx430_0 (Cells'_c hx430_1 (Cells'_c hx430_2 (Cells'_c hx430_3 (Cells'_c hx430_4 (Cells'_c hx430_5 (Cells'_c hx430_6 (Cells'_c hx430_7 (Cells'_c hx430_8 (Cells'_c hx430_9 (Cells'_c hx430_10 (Cells'_c hx430_11 (Cells'_c hx430_12 (Cells'_c hx430_13 (Cells'_c hx430_14 (Cells'_c hx430_15 (Cells'_c hx430_16 (Cells'_c hx430_17 (Cells'_c hx430_18 (Cells'_c hx430_19 (Cells'_c hx430_20  Cells'_n)))))))))))))))))))); replace hc_ := Cells_far hc_ ⟨gb429, 0, none⟩ (by first | (rw [add_block]; exact hn430_0) | exact hn430_0) (.slice A428_0 ((rd_T49 l0_0 x5_1).f0).length c428_0); replace hc_ := Cells_far hc_ ⟨gb429, 1, none⟩ (by first | (rw [add_block]; exact hn430_1) | exact hn430_1) (.int .i64 ((rd_T49 l0_0 x5_1).f1.f0)); replace hc_ := Cells_far hc_ ⟨gb429, 2, none⟩ (by first | (rw [add_block]; exact hn430_2) | exact hn430_2) (.string ((rd_T49 l0_0 x5_1).f1.f1)); replace hc_ := Cells_far hc_ ⟨gb429, 3, none⟩ (by first | (rw [add_block]; exact hn430_3) | exact hn430_3) (.int .i64 ((rd_T49 l0_0 x5_1).f1.f2)); replace hc_ := Cells_far hc_ ⟨gb429, 4, none⟩ (by first | (rw [add_block]; exact hn430_4) | exact hn430_4) (.int .i64 ((rd_T49 l0_0 x5_1).f1.f3.f0)); replace hc_ := Cells_far hc_ ⟨gb429, 5, none⟩ (by first | (rw [add_block]; exact hn430_5) | exact hn430_5) (.slice A428_5 ((rd_T49 l0_0 x5_1).f1.f3.f1).length c428_5); replace hc_ := Cells_far hc_ ⟨gb429, 6, none⟩ (by first | (rw [add_block]; exact hn430_6) | exact hn430_6) (.slice A428_6 ((rd_T49 l0_0 x5_1).f1.f3.f2).length c428_6); replace hc_ := Cells_far hc_ ⟨gb429, 7, none⟩ (by first | (rw [add_block]; exact hn430_7) | exact hn430_7) (.slice A428_7 ((rd_T49 l0_0 x5_1).f1.f4).length c428_7); replace hc_ := Cells_far hc_ ⟨gb429, 8, none⟩ (by first | (rw [add_block]; exact hn430_8) | exact hn430_8) (.slice A428_8 ((rd_T49 l0_0 x5_1).f1.f5).length c428_8); replace hc_ := Cells_far hc_ ⟨gb429, 9, none⟩ (by first | (rw [add_block]; exact hn430_9) | exact hn430_9) (.int .i64 ((rd_T49 l0_0 x5_1).f2.f0)); replace hc_ := Cells_far hc_ ⟨gb429, 10, none⟩ (by first | (rw [add_block]; exact hn430_10) | exact hn430_10) (.int .i64 ((rd_T49 l0_0 x5_1).f2.f1.f0)); replace hc_ := Cells_far hc_ ⟨gb429, 11, none⟩ (by first | (rw [add_block]; exact hn430_11) | exact hn430_11) (.string ((rd_T49 l0_0 x5_1).f2.f1.f1)); replace hc_ := Cells_far hc_ ⟨gb429, 12, none⟩ (by first | (rw [add_block]; exact hn430_12) | exact hn430_12) (.int .i64 ((rd_T49 l0_0 x5_1).f2.f1.f2)); replace hc_ := Cells_far hc_ ⟨gb429, 13, none⟩ (by first | (rw [add_block]; exact hn430_13) | exact hn430_13) (.int .i64 ((rd_T49 l0_0 x5_1).f2.f1.f3.f0)); replace hc_ := Cells_far hc_ ⟨gb429, 14, none⟩ (by first | (rw [add_block]; exact hn430_14) | exact hn430_14) (.slice A428_14 ((rd_T49 l0_0 x5_1).f2.f1.f3.f1).length c428_14); replace hc_ := Cells_far hc_ ⟨gb429, 15, none⟩ (by first | (rw [add_block]; exact hn430_15) | exact hn430_15) (.slice A428_15 ((rd_T49 l0_0 x5_1).f2.f1.f3.f2).length c428_15); replace hc_ := Cells_far hc_ ⟨gb429, 16, none⟩ (by first | (rw [add_block]; exact hn430_16) | exact hn430_16) (.slice A428_16 ((rd_T49 l0_0 x5_1).f2.f1.f4).length c428_16); replace hc_ := Cells_far hc_ ⟨gb429, 17, none⟩ (by first | (rw [add_block]; exact hn430_17) | exact hn430_17) (.slice A428_17 ((rd_T49 l0_0 x5_1).f2.f1.f5).length c428_17); replace hc_ := Cells_far hc_ ⟨gb429, 18, none⟩ (by first | (rw [add_block]; exact hn430_18) | exact hn430_18) (.slice A428_18 ((rd_T49 l0_0 x5_1).f2.f2).length c428_18); replace hc_ := Cells_far hc_ ⟨gb429, 19, none⟩ (by first | (rw [add_block]; exact hn430_19) | exact hn430_19) (.slice A428_19 ((rd_T49 l0_0 x5_1).f2.f3).length c428_19); replace hc_ := Cells_far hc_ ⟨gb429, 20, none⟩ (by first | (rw [add_block]; exact hn430_20) | exact hn430_20) (.slice A428_20 ((rd_T49 l0_0 x5_1).f2.f4.f0).length c428_20); replace hx430_0 := hc_.1; replace hx430_1 := Cells_get hc_ 1 (by decide) rfl; replace hx430_2 := Cells_get hc_ 2 (by decide) rfl; replace hx430_3 := Cells_get hc_ 3 (by decide) rfl; replace hx430_4 := Cells_get hc_ 4 (by decide) rfl; replace hx430_5 := Cells_get hc_ 5 (by decide) rfl; replace hx430_6 := Cells_get hc_ 6 (by decide) rfl; replace hx430_7 := Cells_get hc_ 7 (by decide) rfl; replace hx430_8 := Cells_get hc_ 8 (by decide) rfl; replace hx430_9 := Cells_get hc_ 9 (by decide) rfl; replace hx430_10 := Cells_get hc_ 10 (by decide) rfl; replace hx430_11 := Cells_get hc_ 11 (by decide) rfl; replace hx430_12 := Cells_get hc_ 12 (by decide) rfl; replace hx430_13 := Cells_get hc_ 13 (by decide) rfl; replace hx430_14 := Cells_get hc_ 14 (by decide) rfl; replace hx430_15 := Cells_get hc_ 15 (by decide) rfl; replace hx430_16 := Cells_get hc_ 16 (by decide) rfl; replace hx430_17 := Cells_get hc_ 17 (by decide) rfl; replace hx430_18 := Cells_get hc_ 18 (by decide) rfl; replace hx430_19 := Cells_get hc_ 19 (by decide) rfl; replace hx430_20 := Cells_get hc_ 20 (by decide) rfl; clear hc_; clear hn430_0; clear hn430_1; clear hn430_2; clear hn430_3; clear hn430_4; clear hn430_5; clear hn430_6; clear hn430_7; clear hn430_8; clear hn430_9; clear hn430_10; clear hn430_11; clear hn430_12; clear hn430_13; clear hn430_14; clear hn430_15; clear hn430_16; clear hn430_17; clear hn430_18; clear hn430_19; clear hn430_20; replace p430 := eq_true p430; replace q430 := eq_true q430) | ((with_reducible refine gate_dst (N := 7) rfl ?_); refine box_event ?hg (N := 7) ?hd (cs := #[.slice none 0 0, .int .i64 0, .string (⟨#[]⟩ : ByteArray), .int .i64 0, .int .i64 0, .slice none 0 0, .slice none 0 0, .slice none 0 0, .slice none 0 0, .int .i64 0, .int .i64 0, .string (⟨#[]⟩ : ByteArray), .int .i64 0, .int .i64 0, .slice none 0 0, .slice none 0 0, .slice none 0 0, .slice none 0 0, .slice none 0 0, .slice none 0 0, .slice none 0 0]) (t := 49) ?hr ?_; (case hd => rfl); (case hg => rfl); (case hr => exact hrw); intro gb431 hg w26 hbox hb; have n0_ := am (blk_below (g := gb426) (o := .cells #[.slice (some ad428) l0_0.length c0_0] 29 (0, 0)) (by apply blk_sum; (repeat (with_reducible first | apply blk_sett | apply blk_far (hp := NB426_429.out) | apply blk_drewN | apply blk_drew | apply blk_alloc)); exact BK426.out; rfl) hb); have n1_ := am (blk_below (g := gb427) (o := .cells #[.slice (some ad430) l1_0.length c1_0] 29 (0, 0)) (by apply blk_sum; (repeat (with_reducible first | apply blk_sett | apply blk_far (hp := NB427_429.out) | apply blk_drewN | apply blk_drew | apply blk_alloc)); exact BK427.out; rfl) hb); have n2_ := am (blk_below (g := gb429) (by (repeat (with_reducible first | apply blk_drewN | apply blk_drew | apply blk_alloc)); apply blk_all (cs := [.slice A428_0 ((rd_T49 l0_0 x5_1).f0).length c428_0, .int .i64 ((rd_T49 l0_0 x5_1).f1.f0), .string ((rd_T49 l0_0 x5_1).f1.f1), .int .i64 ((rd_T49 l0_0 x5_1).f1.f2), .int .i64 ((rd_T49 l0_0 x5_1).f1.f3.f0), .slice A428_5 ((rd_T49 l0_0 x5_1).f1.f3.f1).length c428_5, .slice A428_6 ((rd_T49 l0_0 x5_1).f1.f3.f2).length c428_6, .slice A428_7 ((rd_T49 l0_0 x5_1).f1.f4).length c428_7, .slice A428_8 ((rd_T49 l0_0 x5_1).f1.f5).length c428_8, .int .i64 ((rd_T49 l0_0 x5_1).f2.f0), .int .i64 ((rd_T49 l0_0 x5_1).f2.f1.f0), .string ((rd_T49 l0_0 x5_1).f2.f1.f1), .int .i64 ((rd_T49 l0_0 x5_1).f2.f1.f2), .int .i64 ((rd_T49 l0_0 x5_1).f2.f1.f3.f0), .slice A428_14 ((rd_T49 l0_0 x5_1).f2.f1.f3.f1).length c428_14, .slice A428_15 ((rd_T49 l0_0 x5_1).f2.f1.f3.f2).length c428_15, .slice A428_16 ((rd_T49 l0_0 x5_1).f2.f1.f4).length c428_16, .slice A428_17 ((rd_T49 l0_0 x5_1).f2.f1.f5).length c428_17, .slice A428_18 ((rd_T49 l0_0 x5_1).f2.f2).length c428_18, .slice A428_19 ((rd_T49 l0_0 x5_1).f2.f3).length c428_19, .slice A428_20 ((rd_T49 l0_0 x5_1).f2.f4.f0).length c428_20]); (repeat (with_reducible first | apply blk_drewN | apply blk_drew | apply blk_alloc)); exact BK429.out; rfl) hb); have n3_ := am (below_step blw hb); have n4_ := am (hbox); have n5_ := am ((by rw [hg]; exact (below_size blw) : w.heap.size ≤ gb431)); have n6_ := n5_; have n7_ := am ((by rw [hg]; exact Nat.ne_of_lt (blk_lt (g := gb426) (o := .cells #[.slice (some ad428) l0_0.length c0_0] 29 (0, 0)) (by apply blk_sum; (repeat (with_reducible first | apply blk_sett | apply blk_far (hp := NB426_429.out) | apply blk_drewN | apply blk_drew | apply blk_alloc)); exact BK426.out; rfl)) : gb426 ≠ gb431)); have n8_ := am ((by rw [hg]; exact Nat.ne_of_gt (blk_lt (g := gb426) (o := .cells #[.slice (some ad428) l0_0.length c0_0] 29 (0, 0)) (by apply blk_sum; (repeat (with_reducible first | apply blk_sett | apply blk_far (hp := NB426_429.out) | apply blk_drewN | apply blk_drew | apply blk_alloc)); exact BK426.out; rfl)) : gb431 ≠ gb426)); have n9_ := am ((by rw [hg]; exact Nat.ne_of_lt (blk_lt (g := gb427) (o := .cells #[.slice (some ad430) l1_0.length c1_0] 29 (0, 0)) (by apply blk_sum; (repeat (with_reducible first | apply blk_sett | apply blk_far (hp := NB427_429.out) | apply blk_drewN | apply blk_drew | apply blk_alloc)); exact BK427.out; rfl)) : gb427 ≠ gb431)); have n10_ := am ((by rw [hg]; exact Nat.ne_of_gt (blk_lt (g := gb427) (o := .cells #[.slice (some ad430) l1_0.length c1_0] 29 (0, 0)) (by apply blk_sum; (repeat (with_reducible first | apply blk_sett | apply blk_far (hp := NB427_429.out) | apply blk_drewN | apply blk_drew | apply blk_alloc)); exact BK427.out; rfl)) : gb431 ≠ gb427)); have n11_ := am ((by rw [hg]; exact Nat.ne_of_lt (blk_lt (g := gb429) (by (repeat (with_reducible first | apply blk_drewN | apply blk_drew | apply blk_alloc)); apply blk_all (cs := [.slice A428_0 ((rd_T49 l0_0 x5_1).f0).length c428_0, .int .i64 ((rd_T49 l0_0 x5_1).f1.f0), .string ((rd_T49 l0_0 x5_1).f1.f1), .int .i64 ((rd_T49 l0_0 x5_1).f1.f2), .int .i64 ((rd_T49 l0_0 x5_1).f1.f3.f0), .slice A428_5 ((rd_T49 l0_0 x5_1).f1.f3.f1).length c428_5, .slice A428_6 ((rd_T49 l0_0 x5_1).f1.f3.f2).length c428_6, .slice A428_7 ((rd_T49 l0_0 x5_1).f1.f4).length c428_7, .slice A428_8 ((rd_T49 l0_0 x5_1).f1.f5).length c428_8, .int .i64 ((rd_T49 l0_0 x5_1).f2.f0), .int .i64 ((rd_T49 l0_0 x5_1).f2.f1.f0), .string ((rd_T49 l0_0 x5_1).f2.f1.f1), .int .i64 ((rd_T49 l0_0 x5_1).f2.f1.f2), .int .i64 ((rd_T49 l0_0 x5_1).f2.f1.f3.f0), .slice A428_14 ((rd_T49 l0_0 x5_1).f2.f1.f3.f1).length c428_14, .slice A428_15 ((rd_T49 l0_0 x5_1).f2.f1.f3.f2).length c428_15, .slice A428_16 ((rd_T49 l0_0 x5_1).f2.f1.f4).length c428_16, .slice A428_17 ((rd_T49 l0_0 x5_1).f2.f1.f5).length c428_17, .slice A428_18 ((rd_T49 l0_0 x5_1).f2.f2).length c428_18, .slice A428_19 ((rd_T49 l0_0 x5_1).f2.f3).length c428_19, .slice A428_20 ((rd_T49 l0_0 x5_1).f2.f4.f0).length c428_20]); (repeat (with_reducible first | apply blk_drewN | apply blk_drew | apply blk_alloc)); exact BK429.out; rfl)) : gb429 ≠ gb431)); have n12_ := am ((by rw [hg]; exact Nat.ne_of_gt (blk_lt (g := gb429) (by (repeat (with_reducible first | apply blk_drewN | apply blk_drew | apply blk_alloc)); apply blk_all (cs := [.slice A428_0 ((rd_T49 l0_0 x5_1).f0).length c428_0, .int .i64 ((rd_T49 l0_0 x5_1).f1.f0), .string ((rd_T49 l0_0 x5_1).f1.f1), .int .i64 ((rd_T49 l0_0 x5_1).f1.f2), .int .i64 ((rd_T49 l0_0 x5_1).f1.f3.f0), .slice A428_5 ((rd_T49 l0_0 x5_1).f1.f3.f1).length c428_5, .slice A428_6 ((rd_T49 l0_0 x5_1).f1.f3.f2).length c428_6, .slice A428_7 ((rd_T49 l0_0 x5_1).f1.f4).length c428_7, .slice A428_8 ((rd_T49 l0_0 x5_1).f1.f5).length c428_8, .int .i64 ((rd_T49 l0_0 x5_1).f2.f0), .int .i64 ((rd_T49 l0_0 x5_1).f2.f1.f0), .string ((rd_T49 l0_0 x5_1).f2.f1.f1), .int .i64 ((rd_T49 l0_0 x5_1).f2.f1.f2), .int .i64 ((rd_T49 l0_0 x5_1).f2.f1.f3.f0), .slice A428_14 ((rd_T49 l0_0 x5_1).f2.f1.f3.f1).length c428_14, .slice A428_15 ((rd_T49 l0_0 x5_1).f2.f1.f3.f2).length c428_15, .slice A428_16 ((rd_T49 l0_0 x5_1).f2.f1.f4).length c428_16, .slice A428_17 ((rd_T49 l0_0 x5_1).f2.f1.f5).length c428_17, .slice A428_18 ((rd_T49 l0_0 x5_1).f2.f2).length c428_18, .slice A428_19 ((rd_T49 l0_0 x5_1).f2.f3).length c428_19, .slice A428_20 ((rd_T49 l0_0 x5_1).f2.f4.f0).length c428_20]); (repeat (with_reducible first | apply blk_drewN | apply blk_drew | apply blk_alloc)); exact BK429.out; rfl)) : gb431 ≠ gb429)); clear BK426; clear BK427; clear BK429; clear HB; revert n0_ n1_ n2_ n3_ n4_ n5_ n6_ n7_ n8_ n9_ n10_ n11_ n12_; intro BK426 BK427 BK429 HB BK431 GW431 GE431 NB426_431 NB431_426 NB427_431 NB431_427 NB429_431 NB431_429; clear hb hbox hg; have hnb27 := NB431_426.out; have hnc27 := NB426_431.out; have hnb28 := NB431_427.out; have hnc28 := NB427_431.out; have hnb29 := NB431_429.out; have hnc29 := NB429_431.out; obtain ⟨hcz30_0, hcz30_1, hcz30_2, hcz30_3, hcz30_4, hcz30_5, hcz30_6, hcz30_7, hcz30_8, hcz30_9, hcz30_10, hcz30_11, hcz30_12, hcz30_13, hcz30_14, hcz30_15, hcz30_16, hcz30_17, hcz30_18, hcz30_19, hcz30_20⟩ := cls21 BK431.out; obtain ⟨hfz30_0, hfz30_1, hfz30_2, hfz30_3, hfz30_4, hfz30_5, hfz30_6, hfz30_7, hfz30_8, hfz30_9, hfz30_10, hfz30_11, hfz30_12, hfz30_13, hfz30_14, hfz30_15, hfz30_16, hfz30_17, hfz30_18, hfz30_19, hfz30_20⟩ := frz21 BK431.out; obtain ⟨hcz31_0, hcz31_1, hcz31_2, hcz31_3, hcz31_4, hcz31_5, hcz31_6, hcz31_7, hcz31_8, hcz31_9, hcz31_10, hcz31_11, hcz31_12, hcz31_13, hcz31_14, hcz31_15, hcz31_16, hcz31_17, hcz31_18, hcz31_19, hcz31_20⟩ := cls21 BK429.out; obtain ⟨hfz31_0, hfz31_1, hfz31_2, hfz31_3, hfz31_4, hfz31_5, hfz31_6, hfz31_7, hfz31_8, hfz31_9, hfz31_10, hfz31_11, hfz31_12, hfz31_13, hfz31_14, hfz31_15, hfz31_16, hfz31_17, hfz31_18, hfz31_19, hfz31_20⟩ := frz21 BK429.out) | ((with_reducible refine gate_callee (f := 23) rfl ?_); refine goesL_ (some 36) rfl rfl Try.func23 kr rfl #[.slice A428_0 ((rd_T49 l0_0 x5_1).f0).length c428_0, .slice A430_0 ((rd_T49 l1_0 x5_1).f0).length c430_0] rfl mpw ?_; (with_reducible refine (spec_l13EqualGens.calls k1 _ _ ((rd_T49 l0_0 x5_1).f0) _ _ ((rd_T49 l1_0 x5_1).f0) true _ ?side1 ?side2 ?side3 ?side4 A13.out).mono ?_); (case side1 => exact Kd.C_below HR428_0.out blw); (case side2 => exact HC428_0.out); (case side3 => exact Kd.C_below HR430_0.out blw); (case side4 => exact HC430_0.out); rintro e w' ⟨rfl, ⟨nd, rfl⟩⟩; refine ⟨_, rfl, ?_⟩) | (go_at_call 24; (with_reducible refine (spec_EqualTerm.calls k1 ((rd_T49 l0_0 x5_1).f1.f0) ((rd_T49 l0_0 x5_1).f1.f1) ((rd_T49 l0_0 x5_1).f1.f2) ((rd_T49 l0_0 x5_1).f1.f3.f0) _ _ ((rd_T49 l0_0 x5_1).f1.f3.f1) _ _ ((rd_T49 l0_0 x5_1).f1.f3.f2) _ _ ((rd_T49 l0_0 x5_1).f1.f4) _ _ ((rd_T49 l0_0 x5_1).f1.f5) ((rd_T49 l1_0 x5_1).f1.f0) ((rd_T49 l1_0 x5_1).f1.f1) ((rd_T49 l1_0 x5_1).f1.f2) ((rd_T49 l1_0 x5_1).f1.f3.f0) _ _ ((rd_T49 l1_0 x5_1).f1.f3.f1) _ _ ((rd_T49 l1_0 x5_1).f1.f3.f2) _ _ ((rd_T49 l1_0 x5_1).f1.f4) _ _ ((rd_T49 l1_0 x5_1).f1.f5) true _ ?side1 ?side2 ?side3 ?side4 ?side5 ?side6 ?side7 ?side8 ?side9 ?side10 ?side11 ?side12 ?side13 ?side14 ?side15 ?side16 A15.out).mono ?_); (case side1 => exact Kd.C_below HR428_5.out blw); (case side2 => exact HC428_5.out); (case side3 => exact Kd.C_below HR428_6.out blw); (case side4 => exact HC428_6.out); (case side5 => exact Kd.C_below HR428_7.out blw); (case side6 => exact HC428_7.out); (case side7 => exact Kd.C_below HR428_8.out blw); (case side8 => exact HC428_8.out); (case side9 => exact Kd.C_below HR430_5.out blw); (case side10 => exact HC430_5.out); (case side11 => exact Kd.C_below HR430_6.out blw); (case side12 => exact HC430_6.out); (case side13 => exact Kd.C_below HR430_7.out blw); (case side14 => exact HC430_7.out); (case side15 => exact Kd.C_below HR430_8.out blw); (case side16 => exact HC430_8.out); rintro e w32 ⟨rfl, hb⟩; have n0_ := am (blk_below (g := gb426) (o := .cells #[.slice (some ad428) l0_0.length c0_0] 29 (0, 0)) (by apply blk_sum; (repeat (with_reducible first | apply blk_sett | apply blk_far (hp := NB426_431.out) | apply blk_drewN | apply blk_drew | apply blk_alloc)); exact BK426.out; rfl) hb); have n1_ := am (blk_below (g := gb427) (o := .cells #[.slice (some ad430) l1_0.length c1_0] 29 (0, 0)) (by apply blk_sum; (repeat (with_reducible first | apply blk_sett | apply blk_far (hp := NB427_431.out) | apply blk_drewN | apply blk_drew | apply blk_alloc)); exact BK427.out; rfl) hb); have n2_ := am (blk_below (g := gb429) (o := .cells #[.slice A428_0 ((rd_T49 l0_0 x5_1).f0).length c428_0, .int .i64 ((rd_T49 l0_0 x5_1).f1.f0), .string ((rd_T49 l0_0 x5_1).f1.f1), .int .i64 ((rd_T49 l0_0 x5_1).f1.f2), .int .i64 ((rd_T49 l0_0 x5_1).f1.f3.f0), .slice A428_5 ((rd_T49 l0_0 x5_1).f1.f3.f1).length c428_5, .slice A428_6 ((rd_T49 l0_0 x5_1).f1.f3.f2).length c428_6, .slice A428_7 ((rd_T49 l0_0 x5_1).f1.f4).length c428_7, .slice A428_8 ((rd_T49 l0_0 x5_1).f1.f5).length c428_8, .int .i64 ((rd_T49 l0_0 x5_1).f2.f0), .int .i64 ((rd_T49 l0_0 x5_1).f2.f1.f0), .string ((rd_T49 l0_0 x5_1).f2.f1.f1), .int .i64 ((rd_T49 l0_0 x5_1).f2.f1.f2), .int .i64 ((rd_T49 l0_0 x5_1).f2.f1.f3.f0), .slice A428_14 ((rd_T49 l0_0 x5_1).f2.f1.f3.f1).length c428_14, .slice A428_15 ((rd_T49 l0_0 x5_1).f2.f1.f3.f2).length c428_15, .slice A428_16 ((rd_T49 l0_0 x5_1).f2.f1.f4).length c428_16, .slice A428_17 ((rd_T49 l0_0 x5_1).f2.f1.f5).length c428_17, .slice A428_18 ((rd_T49 l0_0 x5_1).f2.f2).length c428_18, .slice A428_19 ((rd_T49 l0_0 x5_1).f2.f3).length c428_19, .slice A428_20 ((rd_T49 l0_0 x5_1).f2.f4.f0).length c428_20] 49 (0, 0)) (by apply blk_sum; (repeat (with_reducible first | apply blk_sett | apply blk_far (hp := NB429_431.out) | apply blk_drewN | apply blk_drew | apply blk_alloc)); exact BK429.out; rfl) hb); have n3_ := am (blk_below (g := gb431) (by (repeat (with_reducible first | apply blk_drewN | apply blk_drew | apply blk_alloc)); apply blk_all (cs := [.slice A430_0 ((rd_T49 l1_0 x5_1).f0).length c430_0, .int .i64 ((rd_T49 l1_0 x5_1).f1.f0), .string ((rd_T49 l1_0 x5_1).f1.f1), .int .i64 ((rd_T49 l1_0 x5_1).f1.f2), .int .i64 ((rd_T49 l1_0 x5_1).f1.f3.f0), .slice A430_5 ((rd_T49 l1_0 x5_1).f1.f3.f1).length c430_5, .slice A430_6 ((rd_T49 l1_0 x5_1).f1.f3.f2).length c430_6, .slice A430_7 ((rd_T49 l1_0 x5_1).f1.f4).length c430_7, .slice A430_8 ((rd_T49 l1_0 x5_1).f1.f5).length c430_8, .int .i64 ((rd_T49 l1_0 x5_1).f2.f0), .int .i64 ((rd_T49 l1_0 x5_1).f2.f1.f0), .string ((rd_T49 l1_0 x5_1).f2.f1.f1), .int .i64 ((rd_T49 l1_0 x5_1).f2.f1.f2), .int .i64 ((rd_T49 l1_0 x5_1).f2.f1.f3.f0), .slice A430_14 ((rd_T49 l1_0 x5_1).f2.f1.f3.f1).length c430_14, .slice A430_15 ((rd_T49 l1_0 x5_1).f2.f1.f3.f2).length c430_15, .slice A430_16 ((rd_T49 l1_0 x5_1).f2.f1.f4).length c430_16, .slice A430_17 ((rd_T49 l1_0 x5_1).f2.f1.f5).length c430_17, .slice A430_18 ((rd_T49 l1_0 x5_1).f2.f2).length c430_18, .slice A430_19 ((rd_T49 l1_0 x5_1).f2.f3).length c430_19, .slice A430_20 ((rd_T49 l1_0 x5_1).f2.f4.f0).length c430_20]); (repeat (with_reducible first | apply blk_drewN | apply blk_drew | apply blk_alloc)); exact BK431.out; rfl) hb); have n4_ := am (below_step blw hb); clear BK426; clear BK427; clear BK429; clear BK431; clear HB; revert n0_ n1_ n2_ n3_ n4_; intro BK426 BK427 BK429 BK431 HB; (try clear hb); (try clear hb2); (try clear hk); (try clear hi); obtain ⟨hcz33_0, hcz33_1, hcz33_2, hcz33_3, hcz33_4, hcz33_5, hcz33_6, hcz33_7, hcz33_8, hcz33_9, hcz33_10, hcz33_11, hcz33_12, hcz33_13, hcz33_14, hcz33_15, hcz33_16, hcz33_17, hcz33_18, hcz33_19, hcz33_20⟩ := cls21 BK429.out; obtain ⟨hfz33_0, hfz33_1, hfz33_2, hfz33_3, hfz33_4, hfz33_5, hfz33_6, hfz33_7, hfz33_8, hfz33_9, hfz33_10, hfz33_11, hfz33_12, hfz33_13, hfz33_14, hfz33_15, hfz33_16, hfz33_17, hfz33_18, hfz33_19, hfz33_20⟩ := frz21 BK429.out; obtain ⟨hcz34_0, hcz34_1, hcz34_2, hcz34_3, hcz34_4, hcz34_5, hcz34_6, hcz34_7, hcz34_8, hcz34_9, hcz34_10, hcz34_11, hcz34_12, hcz34_13, hcz34_14, hcz34_15, hcz34_16, hcz34_17, hcz34_18, hcz34_19, hcz34_20⟩ := cls21 BK431.out; obtain ⟨hfz34_0, hfz34_1, hfz34_2, hfz34_3, hfz34_4, hfz34_5, hfz34_6, hfz34_7, hfz34_8, hfz34_9, hfz34_10, hfz34_11, hfz34_12, hfz34_13, hfz34_14, hfz34_15, hfz34_16, hfz34_17, hfz34_18, hfz34_19, hfz34_20⟩ := frz21 BK431.out) | (go_at_call 25; (with_reducible refine (ih_25 k1 (by have := HK1.out; omega) ((rd_T49 l0_0 x5_1).f2.f0) ((rd_T49 l0_0 x5_1).f2.f1.f0) ((rd_T49 l0_0 x5_1).f2.f1.f1) ((rd_T49 l0_0 x5_1).f2.f1.f2) ((rd_T49 l0_0 x5_1).f2.f1.f3.f0) _ _ ((rd_T49 l0_0 x5_1).f2.f1.f3.f1) _ _ ((rd_T49 l0_0 x5_1).f2.f1.f3.f2) _ _ ((rd_T49 l0_0 x5_1).f2.f1.f4) _ _ ((rd_T49 l0_0 x5_1).f2.f1.f5) _ _ ((rd_T49 l0_0 x5_1).f2.f2) _ _ ((rd_T49 l0_0 x5_1).f2.f3) _ _ ((rd_T49 l0_0 x5_1).f2.f4.f0) ((rd_T49 l1_0 x5_1).f2.f0) ((rd_T49 l1_0 x5_1).f2.f1.f0) ((rd_T49 l1_0 x5_1).f2.f1.f1) ((rd_T49 l1_0 x5_1).f2.f1.f2) ((rd_T49 l1_0 x5_1).f2.f1.f3.f0) _ _ ((rd_T49 l1_0 x5_1).f2.f1.f3.f1) _ _ ((rd_T49 l1_0 x5_1).f2.f1.f3.f2) _ _ ((rd_T49 l1_0 x5_1).f2.f1.f4) _ _ ((rd_T49 l1_0 x5_1).f2.f1.f5) _ _ ((rd_T49 l1_0 x5_1).f2.f2) _ _ ((rd_T49 l1_0 x5_1).f2.f3) _ _ ((rd_T49 l1_0 x5_1).f2.f4.f0) t434 _ ?side1 ?side2 ?side3 ?side4 ?side5 ?side6 ?side7 ?side8 ?side9 ?side10 ?side11 ?side12 ?side13 ?side14 ?side15 ?side16 ?side17 ?side18 ?side19 ?side20 ?side21 ?side22 ?side23 ?side24 ?side25 ?side26 ?side27 ?side28 A17.out).mono ?_); (case side1 => have X_ := HR428_14; exact cbl); (case side2 => exact HC428_14.out); (case side3 => have X_ := HR428_15; exact cbl); (case side4 => exact HC428_15.out); (case side5 => have X_ := HR428_16; exact cbl); (case side6 => exact HC428_16.out); (case side7 => have X_ := HR428_17; exact cbl); (case side8 => exact HC428_17.out); (case side9 => have X_ := HR428_18; exact cbl); (case side10 => exact HC428_18.out); (case side11 => have X_ := HR428_19; exact cbl); (case side12 => exact HC428_19.out); (case side13 => have X_ := HR428_20; exact cbl); (case side14 => exact HC428_20.out); (case side15 => have X_ := HR430_14; exact cbl); (case side16 => exact HC430_14.out); (case side17 => have X_ := HR430_15; exact cbl); (case side18 => exact HC430_15.out); (case side19 => have X_ := HR430_16; exact cbl); (case side20 => exact HC430_16.out); (case side21 => have X_ := HR430_17; exact cbl); (case side22 => exact HC430_17.out); (case side23 => have X_ := HR430_18; exact cbl); (case side24 => exact HC430_18.out); (case side25 => have X_ := HR430_19; exact cbl); (case side26 => exact HC430_19.out); (case side27 => have X_ := HR430_20; exact cbl); (case side28 => exact HC430_20.out); rintro e w35 ⟨rfl, hb⟩; have n0_ := am (blk_below (g := gb426) bkw hb); have n1_ := am (blk_below (g := gb427) bkw hb); have n2_ := am (blk_below (g := gb429) bkw hb); have n3_ := am (blk_below (g := gb431) bkw hb); have n4_ := am (below_step blw hb); clear BK426; clear BK427; clear BK429; clear BK431; clear HB; revert n0_ n1_ n2_ n3_ n4_; intro BK426 BK427 BK429 BK431 HB; (try clear hb); (try clear hb2); (try clear hk); (try clear hi)))
   (try clear hcz20_0); (try clear hcz24_0 hcz24_1 hcz24_10 hcz24_11 hcz24_12 hcz24_13 hcz24_14 hcz24_15 hcz24_16 hcz24_17 hcz24_18 hcz24_19 hcz24_2 hcz24_20 hcz24_3 hcz24_4 hcz24_5 hcz24_6 hcz24_7 hcz24_8 hcz24_9); (try clear hcz25_0); (try clear hcz30_0 hcz30_1 hcz30_10 hcz30_11 hcz30_12 hcz30_13 hcz30_14 hcz30_15 hcz30_16 hcz30_17 hcz30_18 hcz30_19 hcz30_2 hcz30_20 hcz30_3 hcz30_4 hcz30_5 hcz30_6 hcz30_7 hcz30_8 hcz30_9); (try clear hcz31_0 hcz31_1 hcz31_10 hcz31_11 hcz31_12 hcz31_13 hcz31_14 hcz31_15 hcz31_16 hcz31_17 hcz31_18 hcz31_19 hcz31_2 hcz31_20 hcz31_3 hcz31_4 hcz31_5 hcz31_6 hcz31_7 hcz31_8 hcz31_9); (try clear hcz33_0 hcz33_1 hcz33_10 hcz33_11 hcz33_12 hcz33_13 hcz33_14 hcz33_15 hcz33_16 hcz33_17 hcz33_18 hcz33_19 hcz33_2 hcz33_20 hcz33_3 hcz33_4 hcz33_5 hcz33_6 hcz33_7 hcz33_8 hcz33_9); (try clear hcz34_0 hcz34_1 hcz34_10 hcz34_11 hcz34_12 hcz34_13 hcz34_14 hcz34_15 hcz34_16 hcz34_17 hcz34_18 hcz34_19 hcz34_2 hcz34_20 hcz34_3 hcz34_4 hcz34_5 hcz34_6 hcz34_7 hcz34_8 hcz34_9); (try clear hcz7_0); (try clear hcz8_0); (try clear hfz20_0); (try clear hfz24_0 hfz24_1 hfz24_10 hfz24_11 hfz24_12 hfz24_13 hfz24_14 hfz24_15 hfz24_16 hfz24_17 hfz24_18 hfz24_19 hfz24_2 hfz24_20 hfz24_3 hfz24_4 hfz24_5 hfz24_6 hfz24_7 hfz24_8 hfz24_9); (try clear hfz25_0); (try clear hfz30_0 hfz30_1 hfz30_10 hfz30_11 hfz30_12 hfz30_13 hfz30_14 hfz30_15 hfz30_16 hfz30_17 hfz30_18 hfz30_19 hfz30_2 hfz30_20 hfz30_3 hfz30_4 hfz30_5 hfz30_6 hfz30_7 hfz30_8 hfz30_9); (try clear hfz31_0 hfz31_1 hfz31_10 hfz31_11 hfz31_12 hfz31_13 hfz31_14 hfz31_15 hfz31_16 hfz31_17 hfz31_18 hfz31_19 hfz31_2 hfz31_20 hfz31_3 hfz31_4 hfz31_5 hfz31_6 hfz31_7 hfz31_8 hfz31_9); (try clear hfz33_0 hfz33_1 hfz33_10 hfz33_11 hfz33_12 hfz33_13 hfz33_14 hfz33_15 hfz33_16 hfz33_17 hfz33_18 hfz33_19 hfz33_2 hfz33_20 hfz33_3 hfz33_4 hfz33_5 hfz33_6 hfz33_7 hfz33_8 hfz33_9); (try clear hfz34_0 hfz34_1 hfz34_10 hfz34_11 hfz34_12 hfz34_13 hfz34_14 hfz34_15 hfz34_16 hfz34_17 hfz34_18 hfz34_19 hfz34_2 hfz34_20 hfz34_3 hfz34_4 hfz34_5 hfz34_6 hfz34_7 hfz34_8 hfz34_9); (try clear hfz7_0); (try clear hfz8_0); (try clear hn430_0 hn430_1 hn430_10 hn430_11 hn430_12 hn430_13 hn430_14 hn430_15 hn430_16 hn430_17 hn430_18 hn430_19 hn430_2 hn430_20 hn430_3 hn430_4 hn430_5 hn430_6 hn430_7 hn430_8 hn430_9); (try clear hx428_0 hx428_1 hx428_10 hx428_11 hx428_12 hx428_13 hx428_14 hx428_15 hx428_16 hx428_17 hx428_18 hx428_19 hx428_2 hx428_20 hx428_3 hx428_4 hx428_5 hx428_6 hx428_7 hx428_8 hx428_9); (try clear hx430_0 hx430_1 hx430_10 hx430_11 hx430_12 hx430_13 hx430_14 hx430_15 hx430_16 hx430_17 hx430_18 hx430_19 hx430_2 hx430_20 hx430_3 hx430_4 hx430_5 hx430_6 hx430_7 hx430_8)
   try clear hx430_9
   have H := HC18.out
   clear HC18
   by_cases c36 : t434 = true
   case neg =>
    replace c36 := Bool.eq_false_iff.mpr c36
    subst c36
    have H1 : (some false) = some r := by rw [if_neg (show ¬ (false = true) by decide)] at H; exact H
    clear H
    have H := H1
    clear H1
    obtain rfl := Option.some.inj H
    go_wp2
    go_ret
    exact ⟨rfw, blw⟩
   subst c36
   have H1 : (spec_EqualQuery.l0 k1 (wrap64 (x5_1 + 1)) l0_0 l1_0) = some r := by rw [if_pos rfl] at H; exact H
   clear H
   have H := H1
   clear H1
   have H' := am H
   clear H
   go_wp2
   go_roundg k1
   case measure => have := HK1.out; omega
   case rel => exact ⟨(wrap64 (x5_1 + 1)), rfs, H', ⟨by have := HK1.out; omega⟩, ⟨bkw⟩, ⟨bkw⟩, ⟨blw⟩⟩

/-! ### spec_l13EqualHead: function 25 -/
def spec_l13EqualHead.T6 : Bool × List (List Nat × List Nat) := (true, [([], []), ([0], [0]), ([], []), ([1, 2], [1, 2]), ([3], [3]), ([], []), ([5], [5]), ([], []), ([6, 7], [6, 7]), ([8], [8]), ([4, 9], [4, 9]), ([10], [10])])
def spec_l13EqualHead.B6 : List Nat := [0, 1, 0, 7, 15, 0, 32, 0, 224, 480, 1023, 2047]
theorem spec_l13EqualHead.tab6 : rtab .any (opsOf Try.f25 6) = spec_l13EqualHead.T6 := by kernel_rfl
theorem spec_l13EqualHead.bits6 : waitsOk spec_l13EqualHead.T6.2 spec_l13EqualHead.B6 = true := by kernel_rfl
theorem spec_l13EqualHead.step (k : Nat) (ih : ∀ m, m < k → spec_l13EqualHead.T m) (ih_13 : ∀ m, m < k → spec_EqualQuery.T m) : spec_l13EqualHead.T k := by
 intro a0_0 a0_1 a0_2 a0_3 a0_4 A0_5 c0_5 l0_5 A0_6 c0_6 l0_6 A0_7 c0_7 l0_7 A0_8 c0_8 l0_8 A0_9 c0_9 l0_9 A0_10 c0_10 l0_10 A0_11 c0_11 l0_11 a1_0 a1_1 a1_2 a1_3 a1_4 A1_5 c1_5 l1_5 A1_6 c1_6 l1_6 A1_7 c1_7 l1_7 A1_8 c1_8 l1_8 A1_9 c1_9 l1_9 A1_10 c1_10 l1_10 A1_11 c1_11 l1_11 r w hr0_5 hc0_5 hr0_6 hc0_6 hr0_7 hc0_7 hr0_8 hc0_8 hr0_9 hc0_9 hr0_10 hc0_10 hr0_11 hc0_11 hr1_5 hc1_5 hr1_6 hc1_6 hr1_7 hc1_7 hr1_8 hc1_8 hr1_9 hc1_9 hr1_10 hc1_10 hr1_11 hc1_11 h
 cases k with
 | zero => exact absurd h (by simp [spec_l13EqualHead.f])
 | succ k =>
 simp only [spec_l13EqualHead.f] at h
 have hu47 := Try.underlying47
 have hu44 := Try.underlying44
 have hu29 := Try.underlying29
 have HR0_5 := am hr0_5
 have HC0_5 := am hc0_5
 clear hr0_5 hc0_5
 have HR0_6 := am hr0_6
 have HC0_6 := am hc0_6
 clear hr0_6 hc0_6
 have HR0_7 := am hr0_7
 have HC0_7 := am hc0_7
 clear hr0_7 hc0_7
 have HR0_8 := am hr0_8
 have HC0_8 := am hc0_8
 clear hr0_8 hc0_8
 have HR0_9 := am hr0_9
 have HC0_9 := am hc0_9
 clear hr0_9 hc0_9
 have HR0_10 := am hr0_10
 have HC0_10 := am hc0_10
 clear hr0_10 hc0_10
 have HR0_11 := am hr0_11
 have HC0_11 := am hc0_11
 clear hr0_11 hc0_11
 have HR1_5 := am hr1_5
 have HC1_5 := am hc1_5
 clear hr1_5 hc1_5
 have HR1_6 := am hr1_6
 have HC1_6 := am hc1_6
 clear hr1_6 hc1_6
 have HR1_7 := am hr1_7
 have HC1_7 := am hc1_7
 clear hr1_7 hc1_7
 have HR1_8 := am hr1_8
 have HC1_8 := am hc1_8
 clear hr1_8 hc1_8
 have HR1_9 := am hr1_9
 have HC1_9 := am hc1_9
 clear hr1_9 hc1_9
 have HR1_10 := am hr1_10
 have HC1_10 := am hc1_10
 clear hr1_10 hc1_10
 have HR1_11 := am hr1_11
 have HC1_11 := am hc1_11
 clear hr1_11 hc1_11
 have HB := am (Below.refl w.heap.size w)
 have H : (if a0_0 = a1_0 then ((spec_EqualTerm.f k a0_1 a0_2 a0_3 a0_4 l0_5 l0_6 l0_7 l0_8 a1_1 a1_2 a1_3 a1_4 l1_5 l1_6 l1_7 l1_8).bind fun t437 => (if t437 = true then ((spec_l3Texts.f k l0_9 l1_9).bind fun t438 => (if t438 = true then (if (l0_10.length : Int) = (l1_10.length : Int) then ((spec_EqualQuery.f k l0_11 l1_11).bind fun t439 => (spec_l13EqualHead.j0 k (!t439) a0_0 a0_1 a0_2 a0_3 a0_4 l0_5 l0_6 l0_7 l0_8 l0_9 l0_10 l0_11 a1_0 a1_1 a1_2 a1_3 a1_4 l1_5 l1_6 l1_7 l1_8 l1_9 l1_10 l1_11)) else (spec_l13EqualHead.j0 k true a0_0 a0_1 a0_2 a0_3 a0_4 l0_5 l0_6 l0_7 l0_8 l0_9 l0_10 l0_11 a1_0 a1_1 a1_2 a1_3 a1_4 l1_5 l1_6 l1_7 l1_8 l1_9 l1_10 l1_11)) else (spec_l13EqualHead.j0 k true a0_0 a0_1 a0_2 a0_3 a0_4 l0_5 l0_6 l0_7 l0_8 l0_9 l0_10 l0_11 a1_0 a1_1 a1_2 a1_3 a1_4 l1_5 l1_6 l1_7 l1_8 l1_9 l1_10 l1_11))) else (spec_l13EqualHead.j0 k true a0_0 a0_1 a0_2 a0_3 a0_4 l0_5 l0_6 l0_7 l0_8 l0_9 l0_10 l0_11 a1_0 a1_1 a1_2 a1_3 a1_4 l1_5 l1_6 l1_7 l1_8 l1_9 l1_10 l1_11))) else (spec_l13EqualHead.j0 k true a0_0 a0_1 a0_2 a0_3 a0_4 l0_5 l0_6 l0_7 l0_8 l0_9 l0_10 l0_11 a1_0 a1_1 a1_2 a1_3 a1_4 l1_5 l1_6 l1_7 l1_8 l1_9 l1_10 l1_11)) = some r := h
 clear h
 have HC3 := am H
 clear H
 go_enter Try.func25, Try.ntmps25
 go_upto_region 1 with (first | ((with_reducible refine gate_dst (N := 2) rfl ?_); (try (refine gate_guard (by rfl) ?_; dsimp only)); refine box_event ?hg (N := 2) ?hd (cs := #[.int .i64 a0_0, .int .i64 a0_1, .string a0_2, .int .i64 a0_3, .int .i64 a0_4, .slice A0_5 l0_5.length c0_5, .slice A0_6 l0_6.length c0_6, .slice A0_7 l0_7.length c0_7, .slice A0_8 l0_8.length c0_8, .slice A0_9 l0_9.length c0_9, .slice A0_10 l0_10.length c0_10, .slice A0_11 l0_11.length c0_11]) (t := 47) ?hr ?_; (case hd => rfl); (case hg => rfl); (case hr => exact hrw); intro gb435 hg w4 hbox hb; have n0_ := am (below_step blw hb); have n1_ := am (hbox); have n2_ := am ((by rw [hg]; exact (below_size blw) : w.heap.size ≤ gb435)); have n3_ := n2_; clear HB; revert n0_ n1_ n2_ n3_; intro HB BK435 GW435 GE435; clear hb hbox hg) | ((with_reducible refine gate_dst (N := 3) rfl ?_); (try (refine gate_guard (by rfl) ?_; dsimp only)); refine box_event ?hg (N := 3) ?hd (cs := #[.int .i64 a1_0, .int .i64 a1_1, .string a1_2, .int .i64 a1_3, .int .i64 a1_4, .slice A1_5 l1_5.length c1_5, .slice A1_6 l1_6.length c1_6, .slice A1_7 l1_7.length c1_7, .slice A1_8 l1_8.length c1_8, .slice A1_9 l1_9.length c1_9, .slice A1_10 l1_10.length c1_10, .slice A1_11 l1_11.length c1_11]) (t := 47) ?hr ?_; (case hd => rfl); (case hg => rfl); (case hr => exact hrw); intro gb436 hg w5 hbox hb; have n0_ := am (blk_below (g := gb435) bkw hb); have n1_ := am (below_step blw hb); have n2_ := am (hbox); have n3_ := am ((by rw [hg]; exact (below_size blw) : w.heap.size ≤ gb436)); have n4_ := n3_; have n5_ := am ((by rw [hg]; exact Nat.ne_of_lt (blk_lt (g := gb435) bkw) : gb435 ≠ gb436)); have n6_ := am ((by rw [hg]; exact Nat.ne_of_gt (blk_lt (g := gb435) bkw) : gb436 ≠ gb435)); clear BK435; clear HB; revert n0_ n1_ n2_ n3_ n4_ n5_ n6_; intro BK435 HB BK436 GW436 GE436 NB435_436 NB436_435; clear hb hbox hg))
 (try simp only [Act.put, List.setIfInBounds_toArray, List.set_cons_zero, List.set_cons_succ])
 go_cut [43] (fun v43 wc => ∃ (kq : Nat) (x43_2 : Bool), v43 = .bool x43_2 ∧ Aside0 (spec_l13EqualHead.j0 kq x43_2 a0_0 a0_1 a0_2 a0_3 a0_4 l0_5 l0_6 l0_7 l0_8 l0_9 l0_10 l0_11 a1_0 a1_1 a1_2 a1_3 a1_4 l1_5 l1_6 l1_7 l1_8 l1_9 l1_10 l1_11 = some r) ∧ Aside0 (kq ≤ k) ∧ Aside0 (wc.heap[gb435]? = some (.cells #[.int .i64 a0_0, .int .i64 a0_1, .string a0_2, .int .i64 a0_3, .int .i64 a0_4, (.slice A0_5 l0_5.length c0_5), (.slice A0_6 l0_6.length c0_6), (.slice A0_7 l0_7.length c0_7), (.slice A0_8 l0_8.length c0_8), (.slice A0_9 l0_9.length c0_9), (.slice A0_10 l0_10.length c0_10), (.slice A0_11 l0_11.length c0_11)] 47 (0, 0))) ∧ Aside0 (wc.heap[gb436]? = some (.cells #[.int .i64 a1_0, .int .i64 a1_1, .string a1_2, .int .i64 a1_3, .int .i64 a1_4, (.slice A1_5 l1_5.length c1_5), (.slice A1_6 l1_6.length c1_6), (.slice A1_7 l1_7.length c1_7), (.slice A1_8 l1_8.length c1_8), (.slice A1_9 l1_9.length c1_9), (.slice A1_10 l1_10.length c1_10), (.slice A1_11 l1_11.length c1_11)] 47 (0, 0))) ∧ Aside0 (Below w.heap.size w wc))
 case first =>
  have H := HC3.out
  clear HC3
  by_cases c6 : a0_0 = a1_0
  case neg =>
   rw [if_neg c6] at H
   have c6b0 : (a0_0 == a1_0) = false := beq_eq_false_iff_ne.mpr c6
   have c6b1 : (a0_0 != a1_0) = true := bne_iff_ne.mpr c6
   (first | rw [c6b0] | (simp only [i64_w, i32_w]; rw [c6b0]) | (rw [c6b1]; (try simp only [Bool.not_true, Bool.not_false])) | skip)
   have H' := am H
   clear H
   have hnb36 := NB435_436.out
   have hnc36 := NB436_435.out
   obtain ⟨hcz37_0, hcz37_1, hcz37_2, hcz37_3, hcz37_4, hcz37_5, hcz37_6, hcz37_7, hcz37_8, hcz37_9, hcz37_10, hcz37_11⟩ := cls12 BK435.out
   obtain ⟨hfz37_0, hfz37_1, hfz37_2, hfz37_3, hfz37_4, hfz37_5, hfz37_6, hfz37_7, hfz37_8, hfz37_9, hfz37_10, hfz37_11⟩ := frz12 BK435.out
   obtain ⟨hcz38_0, hcz38_1, hcz38_2, hcz38_3, hcz38_4, hcz38_5, hcz38_6, hcz38_7, hcz38_8, hcz38_9, hcz38_10, hcz38_11⟩ := cls12 BK436.out
   obtain ⟨hfz38_0, hfz38_1, hfz38_2, hfz38_3, hfz38_4, hfz38_5, hfz38_6, hfz38_7, hfz38_8, hfz38_9, hfz38_10, hfz38_11⟩ := frz12 BK436.out
   go_wp2
   go_meet
   case rel => exact ⟨_, (true), rfs, H', ⟨by first | omega | exact Nat.le_refl _⟩, ⟨bkw⟩, ⟨bkw⟩, ⟨blw⟩⟩
  rw [if_pos c6] at H
  have c6b0 : (a0_0 == a1_0) = true := beq_iff_eq.mpr c6
  have c6b1 : (a0_0 != a1_0) = false := bne_eq_false_iff_eq.mpr c6
  clear c6
  (first | rw [c6b0] | (simp only [i64_w, i32_w]; rw [c6b0]) | (rw [c6b1]; (try simp only [Bool.not_true, Bool.not_false])) | skip)
  replace H := Option.bind_eq_some_iff.mp H
  obtain ⟨t437, A70, H⟩ := H
  replace H : (if t437 = true then ((spec_l3Texts.f k l0_9 l1_9).bind fun t438 => (if t438 = true then (if (l0_10.length : Int) = (l1_10.length : Int) then ((spec_EqualQuery.f k l0_11 l1_11).bind fun t439 => (spec_l13EqualHead.j0 k (!t439) a0_0 a0_1 a0_2 a0_3 a0_4 l0_5 l0_6 l0_7 l0_8 l0_9 l0_10 l0_11 a1_0 a1_1 a1_2 a1_3 a1_4 l1_5 l1_6 l1_7 l1_8 l1_9 l1_10 l1_11)) else (spec_l13EqualHead.j0 k true a0_0 a0_1 a0_2 a0_3 a0_4 l0_5 l0_6 l0_7 l0_8 l0_9 l0_10 l0_11 a1_0 a1_1 a1_2 a1_3 a1_4 l1_5 l1_6 l1_7 l1_8 l1_9 l1_10 l1_11)) else (spec_l13EqualHead.j0 k true a0_0 a0_1 a0_2 a0_3 a0_4 l0_5 l0_6 l0_7 l0_8 l0_9 l0_10 l0_11 a1_0 a1_1 a1_2 a1_3 a1_4 l1_5 l1_6 l1_7 l1_8 l1_9 l1_10 l1_11))) else (spec_l13EqualHead.j0 k true a0_0 a0_1 a0_2 a0_3 a0_4 l0_5 l0_6 l0_7 l0_8 l0_9 l0_10 l0_11 a1_0 a1_1 a1_2 a1_3 a1_4 l1_5 l1_6 l1_7 l1_8 l1_9 l1_10 l1_11)) = some r := H
  have A7 := am A70
  clear A70
  by_cases c8 : t437 = true
  case neg =>
   replace c8 := Bool.eq_false_iff.mpr c8
   subst c8
   have H1 : (spec_l13EqualHead.j0 k true a0_0 a0_1 a0_2 a0_3 a0_4 l0_5 l0_6 l0_7 l0_8 l0_9 l0_10 l0_11 a1_0 a1_1 a1_2 a1_3 a1_4 l1_5 l1_6 l1_7 l1_8 l1_9 l1_10 l1_11) = some r := by rw [if_neg (show ¬ (false = true) by decide)] at H; exact H
   clear H
   have H := H1
   clear H1
   have H' := am H
   clear H
   have hnb32 := NB435_436.out
   have hnc32 := NB436_435.out
   obtain ⟨hcz33_0, hcz33_1, hcz33_2, hcz33_3, hcz33_4, hcz33_5, hcz33_6, hcz33_7, hcz33_8, hcz33_9, hcz33_10, hcz33_11⟩ := cls12 BK435.out
   obtain ⟨hfz33_0, hfz33_1, hfz33_2, hfz33_3, hfz33_4, hfz33_5, hfz33_6, hfz33_7, hfz33_8, hfz33_9, hfz33_10, hfz33_11⟩ := frz12 BK435.out
   obtain ⟨hcz34_0, hcz34_1, hcz34_2, hcz34_3, hcz34_4, hcz34_5, hcz34_6, hcz34_7, hcz34_8, hcz34_9, hcz34_10, hcz34_11⟩ := cls12 BK436.out
   obtain ⟨hfz34_0, hfz34_1, hfz34_2, hfz34_3, hfz34_4, hfz34_5, hfz34_6, hfz34_7, hfz34_8, hfz34_9, hfz34_10, hfz34_11⟩ := frz12 BK436.out
   go_wp2_with (first | (go_at_call 24; (with_reducible refine (spec_EqualTerm.calls k a0_1 a0_2 a0_3 a0_4 _ _ l0_5 _ _ l0_6 _ _ l0_7 _ _ l0_8 a1_1 a1_2 a1_3 a1_4 _ _ l1_5 _ _ l1_6 _ _ l1_7 _ _ l1_8 false _ ?side1 ?side2 ?side3 ?side4 ?side5 ?side6 ?side7 ?side8 ?side9 ?side10 ?side11 ?side12 ?side13 ?side14 ?side15 ?side16 A7.out).mono ?_); (case side1 => have X_ := HR0_5; exact cbl); (case side2 => exact HC0_5.out); (case side3 => have X_ := HR0_6; exact cbl); (case side4 => exact HC0_6.out); (case side5 => have X_ := HR0_7; exact cbl); (case side6 => exact HC0_7.out); (case side7 => have X_ := HR0_8; exact cbl); (case side8 => exact HC0_8.out); (case side9 => have X_ := HR1_5; exact cbl); (case side10 => exact HC1_5.out); (case side11 => have X_ := HR1_6; exact cbl); (case side12 => exact HC1_6.out); (case side13 => have X_ := HR1_7; exact cbl); (case side14 => exact HC1_7.out); (case side15 => have X_ := HR1_8; exact cbl); (case side16 => exact HC1_8.out); rintro e w35 ⟨rfl, hb⟩; have n0_ := am (blk_below (g := gb435) bkw hb); have n1_ := am (blk_below (g := gb436) bkw hb); have n2_ := am (below_step blw hb); clear BK435; clear BK436; clear HB; revert n0_ n1_ n2_; intro BK435 BK436 HB; (try clear hb); (try clear hb2); (try clear hk); (try clear hi)))
   go_meet
   case rel => exact ⟨_, (true), rfs, H', ⟨by first | omega | exact Nat.le_refl _⟩, ⟨bkw⟩, ⟨bkw⟩, ⟨blw⟩⟩
  subst c8
  have H1 : ((spec_l3Texts.f k l0_9 l1_9).bind fun t438 => (if t438 = true then (if (l0_10.length : Int) = (l1_10.length : Int) then ((spec_EqualQuery.f k l0_11 l1_11).bind fun t439 => (spec_l13EqualHead.j0 k (!t439) a0_0 a0_1 a0_2 a0_3 a0_4 l0_5 l0_6 l0_7 l0_8 l0_9 l0_10 l0_11 a1_0 a1_1 a1_2 a1_3 a1_4 l1_5 l1_6 l1_7 l1_8 l1_9 l1_10 l1_11)) else (spec_l13EqualHead.j0 k true a0_0 a0_1 a0_2 a0_3 a0_4 l0_5 l0_6 l0_7 l0_8 l0_9 l0_10 l0_11 a1_0 a1_1 a1_2 a1_3 a1_4 l1_5 l1_6 l1_7 l1_8 l1_9 l1_10 l1_11)) else (spec_l13EqualHead.j0 k true a0_0 a0_1 a0_2 a0_3 a0_4 l0_5 l0_6 l0_7 l0_8 l0_9 l0_10 l0_11 a1_0 a1_1 a1_2 a1_3 a1_4 l1_5 l1_6 l1_7 l1_8 l1_9 l1_10 l1_11))) = some r := by rw [if_pos rfl] at H; exact H
  clear H
  have H := H1
  clear H1
  replace H := Option.bind_eq_some_iff.mp H
  obtain ⟨t438, A90, H⟩ := H
  replace H : (if t438 = true then (if (l0_10.length : Int) = (l1_10.length : Int) then ((spec_EqualQuery.f k l0_11 l1_11).bind fun t439 => (spec_l13EqualHead.j0 k (!t439) a0_0 a0_1 a0_2 a0_3 a0_4 l0_5 l0_6 l0_7 l0_8 l0_9 l0_10 l0_11 a1_0 a1_1 a1_2 a1_3 a1_4 l1_5 l1_6 l1_7 l1_8 l1_9 l1_10 l1_11)) else (spec_l13EqualHead.j0 k true a0_0 a0_1 a0_2 a0_3 a0_4 l0_5 l0_6 l0_7 l0_8 l0_9 l0_10 l0_11 a1_0 a1_1 a1_2 a1_3 a1_4 l1_5 l1_6 l1_7 l1_8 l1_9 l1_10 l1_11)) else (spec_l13EqualHead.j0 k true a0_0 a0_1 a0_2 a0_3 a0_4 l0_5 l0_6 l0_7 l0_8 l0_9 l0_10 l0_11 a1_0 a1_1 a1_2 a1_3 a1_4 l1_5 l1_6 l1_7 l1_8 l1_9 l1_10 l1_11)) = some r := H
  have A9 := am A90
  clear A90
  by_cases c10 : t438 = true
  case neg =>
   replace c10 := Bool.eq_false_iff.mpr c10
   subst c10
   have H1 : (spec_l13EqualHead.j0 k true a0_0 a0_1 a0_2 a0_3 a0_4 l0_5 l0_6 l0_7 l0_8 l0_9 l0_10 l0_11 a1_0 a1_1 a1_2 a1_3 a1_4 l1_5 l1_6 l1_7 l1_8 l1_9 l1_10 l1_11) = some r := by rw [if_neg (show ¬ (false = true) by decide)] at H; exact H
   clear H
   have H := H1
   clear H1
   have H' := am H
   clear H
   have hnb26 := NB435_436.out
   have hnc26 := NB436_435.out
   obtain ⟨hcz27_0, hcz27_1, hcz27_2, hcz27_3, hcz27_4, hcz27_5, hcz27_6, hcz27_7, hcz27_8, hcz27_9, hcz27_10, hcz27_11⟩ := cls12 BK435.out
   obtain ⟨hfz27_0, hfz27_1, hfz27_2, hfz27_3, hfz27_4, hfz27_5, hfz27_6, hfz27_7, hfz27_8, hfz27_9, hfz27_10, hfz27_11⟩ := frz12 BK435.out
   obtain ⟨hcz28_0, hcz28_1, hcz28_2, hcz28_3, hcz28_4, hcz28_5, hcz28_6, hcz28_7, hcz28_8, hcz28_9, hcz28_10, hcz28_11⟩ := cls12 BK436.out
   obtain ⟨hfz28_0, hfz28_1, hfz28_2, hfz28_3, hfz28_4, hfz28_5, hfz28_6, hfz28_7, hfz28_8, hfz28_9, hfz28_10, hfz28_11⟩ := frz12 BK436.out
   go_wp2_with (first | (go_at_call 24; (with_reducible refine (spec_EqualTerm.calls k a0_1 a0_2 a0_3 a0_4 _ _ l0_5 _ _ l0_6 _ _ l0_7 _ _ l0_8 a1_1 a1_2 a1_3 a1_4 _ _ l1_5 _ _ l1_6 _ _ l1_7 _ _ l1_8 true _ ?side1 ?side2 ?side3 ?side4 ?side5 ?side6 ?side7 ?side8 ?side9 ?side10 ?side11 ?side12 ?side13 ?side14 ?side15 ?side16 A7.out).mono ?_); (case side1 => have X_ := HR0_5; exact cbl); (case side2 => exact HC0_5.out); (case side3 => have X_ := HR0_6; exact cbl); (case side4 => exact HC0_6.out); (case side5 => have X_ := HR0_7; exact cbl); (case side6 => exact HC0_7.out); (case side7 => have X_ := HR0_8; exact cbl); (case side8 => exact HC0_8.out); (case side9 => have X_ := HR1_5; exact cbl); (case side10 => exact HC1_5.out); (case side11 => have X_ := HR1_6; exact cbl); (case side12 => exact HC1_6.out); (case side13 => have X_ := HR1_7; exact cbl); (case side14 => exact HC1_7.out); (case side15 => have X_ := HR1_8; exact cbl); (case side16 => exact HC1_8.out); rintro e w29 ⟨rfl, hb⟩; have n0_ := am (blk_below (g := gb435) bkw hb); have n1_ := am (blk_below (g := gb436) bkw hb); have n2_ := am (below_step blw hb); clear BK435; clear BK436; clear HB; revert n0_ n1_ n2_; intro BK435 BK436 HB; (try clear hb); (try clear hb2); (try clear hk); (try clear hi); obtain ⟨hcz30_0, hcz30_1, hcz30_2, hcz30_3, hcz30_4, hcz30_5, hcz30_6, hcz30_7, hcz30_8, hcz30_9, hcz30_10, hcz30_11⟩ := cls12 BK435.out; obtain ⟨hfz30_0, hfz30_1, hfz30_2, hfz30_3, hfz30_4, hfz30_5, hfz30_6, hfz30_7, hfz30_8, hfz30_9, hfz30_10, hfz30_11⟩ := frz12 BK435.out; obtain ⟨hcz31_0, hcz31_1, hcz31_2, hcz31_3, hcz31_4, hcz31_5, hcz31_6, hcz31_7, hcz31_8, hcz31_9, hcz31_10, hcz31_11⟩ := cls12 BK436.out; obtain ⟨hfz31_0, hfz31_1, hfz31_2, hfz31_3, hfz31_4, hfz31_5, hfz31_6, hfz31_7, hfz31_8, hfz31_9, hfz31_10, hfz31_11⟩ := frz12 BK436.out) | (go_at_call 32; (with_reducible refine (spec_l3Texts.calls k _ _ l0_9 _ _ l1_9 false _ ?side1 ?side2 ?side3 ?side4 A9.out).mono ?_); (case side1 => have X_ := HR0_9; exact cbl); (case side2 => exact HC0_9.out); (case side3 => have X_ := HR1_9; exact cbl); (case side4 => exact HC1_9.out); rintro e w' ⟨rfl, ⟨nd, rfl⟩⟩))
   go_meet
   case rel => exact ⟨_, (true), rfs, H', ⟨by first | omega | exact Nat.le_refl _⟩, ⟨bkw⟩, ⟨bkw⟩, ⟨blw⟩⟩
  subst c10
  have H1 : (if (l0_10.length : Int) = (l1_10.length : Int) then ((spec_EqualQuery.f k l0_11 l1_11).bind fun t439 => (spec_l13EqualHead.j0 k (!t439) a0_0 a0_1 a0_2 a0_3 a0_4 l0_5 l0_6 l0_7 l0_8 l0_9 l0_10 l0_11 a1_0 a1_1 a1_2 a1_3 a1_4 l1_5 l1_6 l1_7 l1_8 l1_9 l1_10 l1_11)) else (spec_l13EqualHead.j0 k true a0_0 a0_1 a0_2 a0_3 a0_4 l0_5 l0_6 l0_7 l0_8 l0_9 l0_10 l0_11 a1_0 a1_1 a1_2 a1_3 a1_4 l1_5 l1_6 l1_7 l1_8 l1_9 l1_10 l1_11)) = some r := by rw [if_pos rfl] at H; exact H
  clear H
  have H := H1
  clear H1
  by_cases c11 : (l0_10.length : Int) = (l1_10.length : Int)
  case neg =>
   rw [if_neg c11] at H
   have c11b0 : ((l0_10.length : Int) == (l1_10.length : Int)) = false := beq_eq_false_iff_ne.mpr c11
   have c11b1 : ((l0_10.length : Int) != (l1_10.length : Int)) = true := bne_iff_ne.mpr c11
   have c11b2 : (l0_10.length == l1_10.length) = false := by first | simpa using c11 | (simp at c11 ⊢; omega)
   have H' := am H
   clear H
   have hnb20 := NB435_436.out
   have hnc20 := NB436_435.out
   obtain ⟨hcz21_0, hcz21_1, hcz21_2, hcz21_3, hcz21_4, hcz21_5, hcz21_6, hcz21_7, hcz21_8, hcz21_9, hcz21_10, hcz21_11⟩ := cls12 BK435.out
   obtain ⟨hfz21_0, hfz21_1, hfz21_2, hfz21_3, hfz21_4, hfz21_5, hfz21_6, hfz21_7, hfz21_8, hfz21_9, hfz21_10, hfz21_11⟩ := frz12 BK435.out
   obtain ⟨hcz22_0, hcz22_1, hcz22_2, hcz22_3, hcz22_4, hcz22_5, hcz22_6, hcz22_7, hcz22_8, hcz22_9, hcz22_10, hcz22_11⟩ := cls12 BK436.out
   obtain ⟨hfz22_0, hfz22_1, hfz22_2, hfz22_3, hfz22_4, hfz22_5, hfz22_6, hfz22_7, hfz22_8, hfz22_9, hfz22_10, hfz22_11⟩ := frz12 BK436.out
   go_wp2_with (first | (go_at_call 24; (with_reducible refine (spec_EqualTerm.calls k a0_1 a0_2 a0_3 a0_4 _ _ l0_5 _ _ l0_6 _ _ l0_7 _ _ l0_8 a1_1 a1_2 a1_3 a1_4 _ _ l1_5 _ _ l1_6 _ _ l1_7 _ _ l1_8 true _ ?side1 ?side2 ?side3 ?side4 ?side5 ?side6 ?side7 ?side8 ?side9 ?side10 ?side11 ?side12 ?side13 ?side14 ?side15 ?side16 A7.out).mono ?_); (case side1 => have X_ := HR0_5; exact cbl); (case side2 => exact HC0_5.out); (case side3 => have X_ := HR0_6; exact cbl); (case side4 => exact HC0_6.out); (case side5 => have X_ := HR0_7; exact cbl); (case side6 => exact HC0_7.out); (case side7 => have X_ := HR0_8; exact cbl); (case side8 => exact HC0_8.out); (case side9 => have X_ := HR1_5; exact cbl); (case side10 => exact HC1_5.out); (case side11 => have X_ := HR1_6; exact cbl); (case side12 => exact HC1_6.out); (case side13 => have X_ := HR1_7; exact cbl); (case side14 => exact HC1_7.out); (case side15 => have X_ := HR1_8; exact cbl); (case side16 => exact HC1_8.out); rintro e w23 ⟨rfl, hb⟩; have n0_ := am (blk_below (g := gb435) bkw hb); have n1_ := am (blk_below (g := gb436) bkw hb); have n2_ := am (below_step blw hb); clear BK435; clear BK436; clear HB; revert n0_ n1_ n2_; intro BK435 BK436 HB; (try clear hb); (try clear hb2); (try clear hk); (try clear hi); obtain ⟨hcz24_0, hcz24_1, hcz24_2, hcz24_3, hcz24_4, hcz24_5, hcz24_6, hcz24_7, hcz24_8, hcz24_9, hcz24_10, hcz24_11⟩ := cls12 BK435.out; obtain ⟨hfz24_0, hfz24_1, hfz24_2, hfz24_3, hfz24_4, hfz24_5, hfz24_6, hfz24_7, hfz24_8, hfz24_9, hfz24_10, hfz24_11⟩ := frz12 BK435.out; obtain ⟨hcz25_0, hcz25_1, hcz25_2, hcz25_3, hcz25_4, hcz25_5, hcz25_6, hcz25_7, hcz25_8, hcz25_9, hcz25_10, hcz25_11⟩ := cls12 BK436.out; obtain ⟨hfz25_0, hfz25_1, hfz25_2, hfz25_3, hfz25_4, hfz25_5, hfz25_6, hfz25_7, hfz25_8, hfz25_9, hfz25_10, hfz25_11⟩ := frz12 BK436.out) | (go_at_call 32; (with_reducible refine (spec_l3Texts.calls k _ _ l0_9 _ _ l1_9 true _ ?side1 ?side2 ?side3 ?side4 A9.out).mono ?_); (case side1 => have X_ := HR0_9; exact cbl); (case side2 => exact HC0_9.out); (case side3 => have X_ := HR1_9; exact cbl); (case side4 => exact HC1_9.out); rintro e w' ⟨rfl, ⟨nd, rfl⟩⟩))
   go_meet
   case rel => exact ⟨_, (true), rfs, H', ⟨by first | omega | exact Nat.le_refl _⟩, ⟨bkw⟩, ⟨bkw⟩, ⟨blw⟩⟩
  rw [if_pos c11] at H
  have c11b0 : ((l0_10.length : Int) == (l1_10.length : Int)) = true := beq_iff_eq.mpr c11
  have c11b1 : ((l0_10.length : Int) != (l1_10.length : Int)) = false := bne_eq_false_iff_eq.mpr c11
  have c11b2 : (l0_10.length == l1_10.length) = true := by first | simpa using c11 | (simp at c11 ⊢; omega)
  clear c11
  replace H := Option.bind_eq_some_iff.mp H
  obtain ⟨t439, A120, H⟩ := H
  replace H : (spec_l13EqualHead.j0 k (!t439) a0_0 a0_1 a0_2 a0_3 a0_4 l0_5 l0_6 l0_7 l0_8 l0_9 l0_10 l0_11 a1_0 a1_1 a1_2 a1_3 a1_4 l1_5 l1_6 l1_7 l1_8 l1_9 l1_10 l1_11) = some r := H
  have A12 := am A120
  clear A120
  have H' := am H
  clear H
  have hnb13 := NB435_436.out
  have hnc13 := NB436_435.out
  obtain ⟨hcz14_0, hcz14_1, hcz14_2, hcz14_3, hcz14_4, hcz14_5, hcz14_6, hcz14_7, hcz14_8, hcz14_9, hcz14_10, hcz14_11⟩ := cls12 BK435.out
  obtain ⟨hfz14_0, hfz14_1, hfz14_2, hfz14_3, hfz14_4, hfz14_5, hfz14_6, hfz14_7, hfz14_8, hfz14_9, hfz14_10, hfz14_11⟩ := frz12 BK435.out
  obtain ⟨hcz15_0, hcz15_1, hcz15_2, hcz15_3, hcz15_4, hcz15_5, hcz15_6, hcz15_7, hcz15_8, hcz15_9, hcz15_10, hcz15_11⟩ := cls12 BK436.out
  obtain ⟨hfz15_0, hfz15_1, hfz15_2, hfz15_3, hfz15_4, hfz15_5, hfz15_6, hfz15_7, hfz15_8, hfz15_9, hfz15_10, hfz15_11⟩ := frz12 BK436.out
  go_wp2_with (first | (go_at_call 24; (with_reducible refine (spec_EqualTerm.calls k a0_1 a0_2 a0_3 a0_4 _ _ l0_5 _ _ l0_6 _ _ l0_7 _ _ l0_8 a1_1 a1_2 a1_3 a1_4 _ _ l1_5 _ _ l1_6 _ _ l1_7 _ _ l1_8 true _ ?side1 ?side2 ?side3 ?side4 ?side5 ?side6 ?side7 ?side8 ?side9 ?side10 ?side11 ?side12 ?side13 ?side14 ?side15 ?side16 A7.out).mono ?_); (case side1 => have X_ := HR0_5; exact cbl); (case side2 => exact HC0_5.out); (case side3 => have X_ := HR0_6; exact cbl); (case side4 => exact HC0_6.out); (case side5 => have X_ := HR0_7; exact cbl); (case side6 => exact HC0_7.out); (case side7 => have X_ := HR0_8; exact cbl); (case side8 => exact HC0_8.out); (case side9 => have X_ := HR1_5; exact cbl); (case side10 => exact HC1_5.out); (case side11 => have X_ := HR1_6; exact cbl); (case side12 => exact HC1_6.out); (case side13 => have X_ := HR1_7; exact cbl); (case side14 => exact HC1_7.out); (case side15 => have X_ := HR1_8; exact cbl); (case side16 => exact HC1_8.out); rintro e w16 ⟨rfl, hb⟩; have n0_ := am (blk_below (g := gb435) bkw hb); have n1_ := am (blk_below (g := gb436) bkw hb); have n2_ := am (below_step blw hb); clear BK435; clear BK436; clear HB; revert n0_ n1_ n2_; intro BK435 BK436 HB; (try clear hb); (try clear hb2); (try clear hk); (try clear hi); obtain ⟨hcz17_0, hcz17_1, hcz17_2, hcz17_3, hcz17_4, hcz17_5, hcz17_6, hcz17_7, hcz17_8, hcz17_9, hcz17_10, hcz17_11⟩ := cls12 BK435.out; obtain ⟨hfz17_0, hfz17_1, hfz17_2, hfz17_3, hfz17_4, hfz17_5, hfz17_6, hfz17_7, hfz17_8, hfz17_9, hfz17_10, hfz17_11⟩ := frz12 BK435.out; obtain ⟨hcz18_0, hcz18_1, hcz18_2, hcz18_3, hcz18_4, hcz18_5, hcz18_6, hcz18_7, hcz18_8, hcz18_9, hcz18_10, hcz18_11⟩ := cls12 BK436.out; obtain ⟨hfz18_0, hfz18_1, hfz18_2, hfz18_3, hfz18_4, hfz18_5, hfz18_6, hfz18_7, hfz18_8, hfz18_9, hfz18_10, hfz18_11⟩ := frz12 BK436.out) | (go_at_call 32; (with_reducible refine (spec_l3Texts.calls k _ _ l0_9 _ _ l1_9 true _ ?side1 ?side2 ?side3 ?side4 A9.out).mono ?_); (case side1 => have X_ := HR0_9; exact cbl); (case side2 => exact HC0_9.out); (case side3 => have X_ := HR1_9; exact cbl); (case side4 => exact HC1_9.out); rintro e w' ⟨rfl, ⟨nd, rfl⟩⟩) | (go_at_call 13; (with_reducible refine (ih_13 k (by omega) _ _ l0_11 _ _ l1_11 t439 _ ?side1 ?side2 ?side3 ?side4 A12.out).mono ?_); (case side1 => repeat (first | exact (Kd.C_below HR0_11.out blw) | (with_reducible refine Kd.C_alloc ?_ _) | (with_reducible refine Kd.C_drewN ?_ _) | (with_reducible refine Kd.C_drew ?_))); (case side2 => exact HC0_11.out); (case side3 => repeat (first | exact (Kd.C_below HR1_11.out blw) | (with_reducible refine Kd.C_alloc ?_ _) | (with_reducible refine Kd.C_drewN ?_ _) | (with_reducible refine Kd.C_drew ?_))); (case side4 => exact HC1_11.out); rintro e w19 ⟨rfl, hb⟩; have n0_ := am (blk_below (g := gb435) bkw hb); have n1_ := am (blk_below (g := gb436) bkw hb); have n2_ := am (below_step blw hb); clear BK435; clear BK436; clear HB; revert n0_ n1_ n2_; intro BK435 BK436 HB; (try clear hb); (try clear hb2); (try clear hk); (try clear hi)))
  go_meet
  case rel => exact ⟨_, (!t439), rfs, H', ⟨by first | omega | exact Nat.le_refl _⟩, ⟨bkw⟩, ⟨bkw⟩, ⟨blw⟩⟩
 case rest =>
  clear HC3
  (try clear c1); (try clear c2); (try clear p2); (try clear c3); (try clear c6); (try clear c6b0); (try clear c6b1); (try clear c8); (try clear c10); (try clear c11); (try clear c11b0); (try clear c11b1); (try clear c11b2); (try clear c13); (try clear c20); (try clear c25); (try clear c26); (try clear c32); (try clear c36); (try clear hcz14_0 hcz14_1 hcz14_10 hcz14_11 hcz14_2 hcz14_3 hcz14_4 hcz14_5 hcz14_6 hcz14_7 hcz14_8 hcz14_9); (try clear hcz15_0 hcz15_1 hcz15_10 hcz15_11 hcz15_2 hcz15_3 hcz15_4 hcz15_5 hcz15_6 hcz15_7 hcz15_8 hcz15_9); (try clear hcz17_0 hcz17_1 hcz17_10 hcz17_11 hcz17_2 hcz17_3 hcz17_4 hcz17_5 hcz17_6 hcz17_7 hcz17_8 hcz17_9); (try clear hcz18_0 hcz18_1 hcz18_10 hcz18_11 hcz18_2 hcz18_3 hcz18_4 hcz18_5 hcz18_6 hcz18_7 hcz18_8 hcz18_9); (try clear hcz21_0 hcz21_1 hcz21_10 hcz21_11 hcz21_2 hcz21_3 hcz21_4 hcz21_5 hcz21_6 hcz21_7 hcz21_8 hcz21_9); (try clear hcz22_0 hcz22_1 hcz22_10 hcz22_11 hcz22_2 hcz22_3 hcz22_4 hcz22_5 hcz22_6 hcz22_7 hcz22_8 hcz22_9); (try clear hcz24_0 hcz24_1 hcz24_10 hcz24_11 hcz24_2 hcz24_3 hcz24_4 hcz24_5 hcz24_6 hcz24_7 hcz24_8 hcz24_9); (try clear hcz25_0 hcz25_1 hcz25_10 hcz25_11 hcz25_2 hcz25_3 hcz25_4 hcz25_5 hcz25_6 hcz25_7 hcz25_8 hcz25_9); (try clear hcz27_0 hcz27_1 hcz27_10 hcz27_11 hcz27_2 hcz27_3 hcz27_4 hcz27_5 hcz27_6 hcz27_7 hcz27_8 hcz27_9); (try clear hcz28_0 hcz28_1 hcz28_10 hcz28_11 hcz28_2 hcz28_3 hcz28_4 hcz28_5 hcz28_6 hcz28_7 hcz28_8 hcz28_9); (try clear hcz30_0 hcz30_1 hcz30_10 hcz30_11 hcz30_2 hcz30_3 hcz30_4 hcz30_5 hcz30_6 hcz30_7 hcz30_8 hcz30_9); (try clear hcz31_0 hcz31_1 hcz31_10 hcz31_11 hcz31_2 hcz31_3 hcz31_4 hcz31_5 hcz31_6 hcz31_7 hcz31_8 hcz31_9); (try clear hcz33_0 hcz33_1 hcz33_10 hcz33_11 hcz33_2 hcz33_3 hcz33_4 hcz33_5 hcz33_6 hcz33_7 hcz33_8 hcz33_9); (try clear hcz34_0 hcz34_1 hcz34_10 hcz34_11 hcz34_2 hcz34_3 hcz34_4 hcz34_5 hcz34_6 hcz34_7 hcz34_8 hcz34_9); (try clear hcz37_0 hcz37_1 hcz37_10 hcz37_11 hcz37_2 hcz37_3 hcz37_4 hcz37_5 hcz37_6 hcz37_7 hcz37_8 hcz37_9); (try clear hcz38_0 hcz38_1 hcz38_10 hcz38_11 hcz38_2 hcz38_3 hcz38_4 hcz38_5 hcz38_6 hcz38_7 hcz38_8 hcz38_9); (try clear hfz14_0 hfz14_1 hfz14_10 hfz14_11 hfz14_2 hfz14_3 hfz14_4 hfz14_5 hfz14_6 hfz14_7 hfz14_8 hfz14_9); (try clear hfz15_0 hfz15_1 hfz15_10 hfz15_11 hfz15_2 hfz15_3 hfz15_4 hfz15_5 hfz15_6 hfz15_7 hfz15_8 hfz15_9); (try clear hfz17_0 hfz17_1 hfz17_10 hfz17_11 hfz17_2 hfz17_3 hfz17_4 hfz17_5 hfz17_6 hfz17_7 hfz17_8 hfz17_9); (try clear hfz18_0 hfz18_1 hfz18_10 hfz18_11 hfz18_2 hfz18_3 hfz18_4 hfz18_5 hfz18_6 hfz18_7 hfz18_8 hfz18_9); (try clear hfz21_0 hfz21_1 hfz21_10 hfz21_11 hfz21_2 hfz21_3 hfz21_4 hfz21_5 hfz21_6 hfz21_7 hfz21_8 hfz21_9); (try clear hfz22_0 hfz22_1 hfz22_10 hfz22_11 hfz22_2 hfz22_3 hfz22_4 hfz22_5 hfz22_6 hfz22_7 hfz22_8 hfz22_9); (try clear hfz24_0 hfz24_1 hfz24_10 hfz24_11 hfz24_2 hfz24_3 hfz24_4 hfz24_5 hfz24_6 hfz24_7 hfz24_8 hfz24_9); (try clear hfz25_0 hfz25_1 hfz25_10 hfz25_11 hfz25_2 hfz25_3 hfz25_4 hfz25_5 hfz25_6 hfz25_7 hfz25_8 hfz25_9); (try clear hfz27_0 hfz27_1 hfz27_10 hfz27_11 hfz27_2 hfz27_3 hfz27_4 hfz27_5 hfz27_6 hfz27_7 hfz27_8 hfz27_9); (try clear hfz28_0 hfz28_1 hfz28_10 hfz28_11 hfz28_2 hfz28_3 hfz28_4 hfz28_5 hfz28_6 hfz28_7 hfz28_8 hfz28_9); (try clear hfz30_0 hfz30_1 hfz30_10 hfz30_11 hfz30_2 hfz30_3 hfz30_4 hfz30_5 hfz30_6 hfz30_7 hfz30_8 hfz30_9); (try clear hfz31_0 hfz31_1 hfz31_10 hfz31_11 hfz31_2 hfz31_3 hfz31_4 hfz31_5 hfz31_6 hfz31_7 hfz31_8 hfz31_9); (try clear hfz33_0 hfz33_1 hfz33_10 hfz33_11 hfz33_2 hfz33_3 hfz33_4 hfz33_5 hfz33_6 hfz33_7 hfz33_8 hfz33_9); (try clear hfz34_0 hfz34_1 hfz34_10 hfz34_11 hfz34_2 hfz34_3 hfz34_4 hfz34_5 hfz34_6 hfz34_7 hfz34_8 hfz34_9); (try clear hfz37_0 hfz37_1 hfz37_10 hfz37_11 hfz37_2 hfz37_3 hfz37_4 hfz37_5 hfz37_6 hfz37_7 hfz37_8 hfz37_9); (try clear hfz38_0 hfz38_1 hfz38_10 hfz38_11 hfz38_2 hfz38_3 hfz38_4 hfz38_5 hfz38_6 hfz38_7 hfz38_8 hfz38_9)
  obtain ⟨kq, x43_2, rfl, HA, HJ2, BK435, BK436, HB⟩ := hcut
  cases kq with
  | zero => exact absurd HA.out (by simp [spec_l13EqualHead.j0])
  | succ kj2 =>
   have H := HA.out
   clear HA
   simp only [spec_l13EqualHead.j0] at H
   by_cases c39 : x43_2 = true
   ·subst c39
    have H1 : (some false) = some r := by rw [if_pos rfl] at H; exact H
    clear H
    have H := H1
    clear H1
    obtain rfl := Option.some.inj H
    go_wp2
    go_ret
    exact ⟨rfw, blw⟩
   replace c39 := Bool.eq_false_iff.mpr c39
   subst c39
   have H1 : (spec_l13EqualHead.l0 kj2 0 a0_0 a0_1 a0_2 a0_3 a0_4 l0_5 l0_6 l0_7 l0_8 l0_9 l0_10 l0_11 a1_0 a1_1 a1_2 a1_3 a1_4 l1_5 l1_6 l1_7 l1_8 l1_9 l1_10 l1_11) = some r := by rw [if_neg (show ¬ (false = true) by decide)] at H; exact H
   clear H
   have H := H1
   clear H1
   have H' := am H
   clear H
   go_wp2
   go_loopg [5] kj2 (fun kq v5 w' => ∃ (x5_2 : Int), v5 = .int .i64 x5_2 ∧ Aside0 (spec_l13EqualHead.l0 kq x5_2 a0_0 a0_1 a0_2 a0_3 a0_4 l0_5 l0_6 l0_7 l0_8 l0_9 l0_10 l0_11 a1_0 a1_1 a1_2 a1_3 a1_4 l1_5 l1_6 l1_7 l1_8 l1_9 l1_10 l1_11 = some r) ∧ Aside0 (kq ≤ kj2) ∧ Aside0 (w'.heap[gb435]? = some (.cells #[.int .i64 a0_0, .int .i64 a0_1, .string a0_2, .int .i64 a0_3, .int .i64 a0_4, (.slice A0_5 l0_5.length c0_5), (.slice A0_6 l0_6.length c0_6), (.slice A0_7 l0_7.length c0_7), (.slice A0_8 l0_8.length c0_8), (.slice A0_9 l0_9.length c0_9), (.slice A0_10 l0_10.length c0_10), (.slice A0_11 l0_11.length c0_11)] 47 (0, 0))) ∧ Aside0 (w'.heap[gb436]? = some (.cells #[.int .i64 a1_0, .int .i64 a1_1, .string a1_2, .int .i64 a1_3, .int .i64 a1_4, (.slice A1_5 l1_5.length c1_5), (.slice A1_6 l1_6.length c1_6), (.slice A1_7 l1_7.length c1_7), (.slice A1_8 l1_8.length c1_8), (.slice A1_9 l1_9.length c1_9), (.slice A1_10 l1_10.length c1_10), (.slice A1_11 l1_11.length c1_11)] 47 (0, 0))) ∧ Aside0 (Below w.heap.size w w'))
   case atStart => exact ⟨(0), rfs, H', ⟨Nat.le_refl _⟩, ⟨bkw⟩, ⟨bkw⟩, ⟨blw⟩⟩
   case round =>
    clear H'
    (try clear c1); (try clear c2); (try clear p2 p2); (try clear c3); (try clear c6); (try clear c6b0); (try clear c6b1); (try clear c8); (try clear c10); (try clear c11); (try clear c11b0); (try clear c11b1); (try clear c11b2); (try clear c13); (try clear c20); (try clear c25); (try clear c26); (try clear c32); (try clear c36); (try clear c39); (try clear hcz14_0 hcz14_1 hcz14_10 hcz14_11 hcz14_2 hcz14_3 hcz14_4 hcz14_5 hcz14_6 hcz14_7 hcz14_8 hcz14_9); (try clear hcz15_0 hcz15_1 hcz15_10 hcz15_11 hcz15_2 hcz15_3 hcz15_4 hcz15_5 hcz15_6 hcz15_7 hcz15_8 hcz15_9); (try clear hcz17_0 hcz17_1 hcz17_10 hcz17_11 hcz17_2 hcz17_3 hcz17_4 hcz17_5 hcz17_6 hcz17_7 hcz17_8 hcz17_9); (try clear hcz18_0 hcz18_1 hcz18_10 hcz18_11 hcz18_2 hcz18_3 hcz18_4 hcz18_5 hcz18_6 hcz18_7 hcz18_8 hcz18_9); (try clear hcz21_0 hcz21_1 hcz21_10 hcz21_11 hcz21_2 hcz21_3 hcz21_4 hcz21_5 hcz21_6 hcz21_7 hcz21_8 hcz21_9); (try clear hcz22_0 hcz22_1 hcz22_10 hcz22_11 hcz22_2 hcz22_3 hcz22_4 hcz22_5 hcz22_6 hcz22_7 hcz22_8 hcz22_9); (try clear hcz24_0 hcz24_1 hcz24_10 hcz24_11 hcz24_2 hcz24_3 hcz24_4 hcz24_5 hcz24_6 hcz24_7 hcz24_8 hcz24_9); (try clear hcz25_0 hcz25_1 hcz25_10 hcz25_11 hcz25_2 hcz25_3 hcz25_4 hcz25_5 hcz25_6 hcz25_7 hcz25_8 hcz25_9); (try clear hcz27_0 hcz27_1 hcz27_10 hcz27_11 hcz27_2 hcz27_3 hcz27_4 hcz27_5 hcz27_6 hcz27_7 hcz27_8 hcz27_9); (try clear hcz28_0 hcz28_1 hcz28_10 hcz28_11 hcz28_2 hcz28_3 hcz28_4 hcz28_5 hcz28_6 hcz28_7 hcz28_8 hcz28_9); (try clear hcz30_0 hcz30_1 hcz30_10 hcz30_11 hcz30_2 hcz30_3 hcz30_4 hcz30_5 hcz30_6 hcz30_7 hcz30_8 hcz30_9); (try clear hcz31_0 hcz31_1 hcz31_10 hcz31_11 hcz31_2 hcz31_3 hcz31_4 hcz31_5 hcz31_6 hcz31_7 hcz31_8 hcz31_9); (try clear hcz33_0 hcz33_1 hcz33_10 hcz33_11 hcz33_2 hcz33_3 hcz33_4 hcz33_5 hcz33_6 hcz33_7 hcz33_8 hcz33_9); (try clear hcz34_0 hcz34_1 hcz34_10 hcz34_11 hcz34_2 hcz34_3 hcz34_4 hcz34_5 hcz34_6 hcz34_7 hcz34_8 hcz34_9); (try clear hcz37_0 hcz37_1 hcz37_10 hcz37_11 hcz37_2 hcz37_3 hcz37_4 hcz37_5 hcz37_6 hcz37_7 hcz37_8 hcz37_9); (try clear hcz38_0 hcz38_1 hcz38_10 hcz38_11 hcz38_2 hcz38_3 hcz38_4 hcz38_5 hcz38_6 hcz38_7 hcz38_8 hcz38_9); (try clear hfz14_0 hfz14_1 hfz14_10 hfz14_11 hfz14_2 hfz14_3 hfz14_4 hfz14_5 hfz14_6 hfz14_7 hfz14_8 hfz14_9); (try clear hfz15_0 hfz15_1 hfz15_10 hfz15_11 hfz15_2 hfz15_3 hfz15_4 hfz15_5 hfz15_6 hfz15_7 hfz15_8 hfz15_9); (try clear hfz17_0 hfz17_1 hfz17_10 hfz17_11 hfz17_2 hfz17_3 hfz17_4 hfz17_5 hfz17_6 hfz17_7 hfz17_8 hfz17_9); (try clear hfz18_0 hfz18_1 hfz18_10 hfz18_11 hfz18_2 hfz18_3 hfz18_4 hfz18_5 hfz18_6 hfz18_7 hfz18_8 hfz18_9); (try clear hfz21_0 hfz21_1 hfz21_10 hfz21_11 hfz21_2 hfz21_3 hfz21_4 hfz21_5 hfz21_6 hfz21_7 hfz21_8 hfz21_9); (try clear hfz22_0 hfz22_1 hfz22_10 hfz22_11 hfz22_2 hfz22_3 hfz22_4 hfz22_5 hfz22_6 hfz22_7 hfz22_8 hfz22_9); (try clear hfz24_0 hfz24_1 hfz24_10 hfz24_11 hfz24_2 hfz24_3 hfz24_4 hfz24_5 hfz24_6 hfz24_7 hfz24_8 hfz24_9); (try clear hfz25_0 hfz25_1 hfz25_10 hfz25_11 hfz25_2 hfz25_3 hfz25_4 hfz25_5 hfz25_6 hfz25_7 hfz25_8 hfz25_9); (try clear hfz27_0 hfz27_1 hfz27_10 hfz27_11 hfz27_2 hfz27_3 hfz27_4 hfz27_5 hfz27_6 hfz27_7 hfz27_8 hfz27_9); (try clear hfz28_0 hfz28_1 hfz28_10 hfz28_11 hfz28_2 hfz28_3 hfz28_4 hfz28_5 hfz28_6 hfz28_7 hfz28_8 hfz28_9); (try clear hfz30_0 hfz30_1 hfz30_10 hfz30_11 hfz30_2 hfz30_3 hfz30_4 hfz30_5 hfz30_6 hfz30_7 hfz30_8 hfz30_9); (try clear hfz31_0 hfz31_1 hfz31_10 hfz31_11 hfz31_2 hfz31_3 hfz31_4 hfz31_5 hfz31_6 hfz31_7 hfz31_8 hfz31_9); (try clear hfz33_0 hfz33_1 hfz33_10 hfz33_11 hfz33_2 hfz33_3 hfz33_4 hfz33_5 hfz33_6 hfz33_7 hfz33_8 hfz33_9); (try clear hfz34_0 hfz34_1 hfz34_10 hfz34_11 hfz34_2 hfz34_3 hfz34_4 hfz34_5 hfz34_6 hfz34_7 hfz34_8 hfz34_9); (try clear hfz37_0 hfz37_1 hfz37_10 hfz37_11 hfz37_2 hfz37_3 hfz37_4 hfz37_5 hfz37_6 hfz37_7 hfz37_8 hfz37_9); (try clear hfz38_0 hfz38_1 hfz38_10 hfz38_11 hfz38_2 hfz38_3 hfz38_4 hfz38_5 hfz38_6 hfz38_7 hfz38_8 hfz38_9)
    obtain ⟨x5_2, rfl, HA, HK2, BK435, BK436, HB⟩ := hrel
    cases gk with
    | zero => exact absurd HA.out (by simp [spec_l13EqualHead.l0])
    | succ k2 =>
     have H := HA.out
     clear HA
     simp only [spec_l13EqualHead.l0] at H
     by_cases c40 : x5_2 < (l0_10.length : Int)
     case neg =>
      rw [if_neg c40] at H
      have c40b0 : decide (x5_2 < (l0_10.length : Int)) = false := decide_eq_false c40
      clear c40
      obtain rfl := Option.some.inj H
      have hnb50 := NB435_436.out
      have hnc50 := NB436_435.out
      obtain ⟨hcz51_0, hcz51_1, hcz51_2, hcz51_3, hcz51_4, hcz51_5, hcz51_6, hcz51_7, hcz51_8, hcz51_9, hcz51_10, hcz51_11⟩ := cls12 BK435.out
      obtain ⟨hfz51_0, hfz51_1, hfz51_2, hfz51_3, hfz51_4, hfz51_5, hfz51_6, hfz51_7, hfz51_8, hfz51_9, hfz51_10, hfz51_11⟩ := frz12 BK435.out
      go_wp2
      go_ret
      exact ⟨rfw, blw⟩
     rw [if_pos c40] at H
     have c40b0 : decide (x5_2 < (l0_10.length : Int)) = true := decide_eq_true c40
     clear c40
     by_cases c41 : 0 ≤ x5_2
     case neg =>
      rw [if_neg c41] at H
      exact absurd H (by simp)
     rw [if_pos c41] at H
     have c41b0 : decide (0 ≤ x5_2) = true := decide_eq_true c41
     clear c41
     by_cases c42 : x5_2 < (l1_10.length : Int)
     case neg =>
      rw [if_neg c42] at H
      exact absurd H (by simp)
     rw [if_pos c42] at H
     have c42b0 : decide (x5_2 < (l1_10.length : Int)) = true := decide_eq_true c42
     clear c42
     replace H := Option.bind_eq_some_iff.mp H
     obtain ⟨t442, A430, H⟩ := H
     replace H : (if t442 = true then (spec_l13EqualHead.l0 k2 (wrap64 (x5_2 + 1)) a0_0 a0_1 a0_2 a0_3 a0_4 l0_5 l0_6 l0_7 l0_8 l0_9 l0_10 l0_11 a1_0 a1_1 a1_2 a1_3 a1_4 l1_5 l1_6 l1_7 l1_8 l1_9 l1_10 l1_11) else (some false)) = some r := H
     have A43 := am A430
     clear A430
     have HC44 := am H
     clear H
     have hnb45 := NB435_436.out
     have hnc45 := NB436_435.out
     obtain ⟨hcz46_0, hcz46_1, hcz46_2, hcz46_3, hcz46_4, hcz46_5, hcz46_6, hcz46_7, hcz46_8, hcz46_9, hcz46_10, hcz46_11⟩ := cls12 BK435.out
     obtain ⟨hfz46_0, hfz46_1, hfz46_2, hfz46_3, hfz46_4, hfz46_5, hfz46_6, hfz46_7, hfz46_8, hfz46_9, hfz46_10, hfz46_11⟩ := frz12 BK435.out
     try go_wp2
     have n0_ := am (blk_drew BK435.out)
     have n1_ := am (blk_drew BK436.out)
     have n2_ := am (below_drew1 HB.out)
     clear BK435
     clear BK436
     clear HB
     revert n0_ n1_ n2_
     intro BK435 BK436 HB
     have p440 : 0 ≤ (x5_2 : Int) := of_decide_eq_true asw
     have q440 : x5_2 < (l0_10.length : Int) := of_decide_eq_true asw
     obtain ⟨ad440, A440_5, c440_5, A440_6, c440_6, A440_7, c440_7, A440_8, c440_8, A440_9, c440_9, A440_10, c440_10, A440_11, c440_11, e440, hx440_0, hx440_1, hx440_2, hx440_3, hx440_4, hx440_5, hx440_6, hx440_7, hx440_8, hx440_9, hx440_10, hx440_11, hl440_5, hi440_5, hl440_6, hi440_6, hl440_7, hi440_7, hl440_8, hi440_8, hl440_9, hi440_9, hl440_10, hi440_10, hl440_11, hi440_11⟩ := at_T47 HR0_10.out x5_2 p440 q440
     have hw440_11 := hx440_11
     have hw440_10 := hx440_10
     have hw440_9 := hx440_9
     have hw440_8 := hx440_8
     have hw440_7 := hx440_7
     have hw440_6 := hx440_6
     have hw440_5 := hx440_5
     have hw440_4 := hx440_4
     have hw440_3 := hx440_3
     have hw440_2 := hx440_2
     have hw440_1 := hx440_1
     have hw440_0 := hx440_0
     cases e440
     replace hx440_0 := upw HB.out hx440_0
     replace hx440_1 := upw HB.out hx440_1
     replace hx440_2 := upw HB.out hx440_2
     replace hx440_3 := upw HB.out hx440_3
     replace hx440_4 := upw HB.out hx440_4
     replace hx440_5 := upw HB.out hx440_5
     replace hx440_6 := upw HB.out hx440_6
     replace hx440_7 := upw HB.out hx440_7
     replace hx440_8 := upw HB.out hx440_8
     replace hx440_9 := upw HB.out hx440_9
     replace hx440_10 := upw HB.out hx440_10
     replace hx440_11 := upw HB.out hx440_11
     have HR440_5 := am hi440_5
     have HC440_5 := am hl440_5
     clear hi440_5 hl440_5
     have HR440_6 := am hi440_6
     have HC440_6 := am hl440_6
     clear hi440_6 hl440_6
     have HR440_7 := am hi440_7
     have HC440_7 := am hl440_7
     clear hi440_7 hl440_7
     have HR440_8 := am hi440_8
     have HC440_8 := am hl440_8
     clear hi440_8 hl440_8
     have HR440_9 := am hi440_9
     have HC440_9 := am hl440_9
     clear hi440_9 hl440_9
     have HR440_10 := am hi440_10
     have HC440_10 := am hl440_10
     clear hi440_10 hl440_10
     have HR440_11 := am hi440_11
     have HC440_11 := am hl440_11
     clear hi440_11 hl440_11
     replace p440 := eq_true p440
     replace q440 := eq_true q440
     have p441 : 0 ≤ (x5_2 : Int) := of_decide_eq_true asw
     have q441 : x5_2 < (l1_10.length : Int) := of_decide_eq_true asw
     obtain ⟨ad441, A441_5, c441_5, A441_6, c441_6, A441_7, c441_7, A441_8, c441_8, A441_9, c441_9, A441_10, c441_10, A441_11, c441_11, e441, hx441_0, hx441_1, hx441_2, hx441_3, hx441_4, hx441_5, hx441_6, hx441_7, hx441_8, hx441_9, hx441_10, hx441_11, hl441_5, hi441_5, hl441_6, hi441_6, hl441_7, hi441_7, hl441_8, hi441_8, hl441_9, hi441_9, hl441_10, hi441_10, hl441_11, hi441_11⟩ := at_T47 HR1_10.out x5_2 p441 q441
     have hw441_11 := hx441_11
     have hw441_10 := hx441_10
     have hw441_9 := hx441_9
     have hw441_8 := hx441_8
     have hw441_7 := hx441_7
     have hw441_6 := hx441_6
     have hw441_5 := hx441_5
     have hw441_4 := hx441_4
     have hw441_3 := hx441_3
     have hw441_2 := hx441_2
     have hw441_1 := hx441_1
     have hw441_0 := hx441_0
     cases e441
     replace hx441_0 := upw HB.out hx441_0
     replace hx441_1 := upw HB.out hx441_1
     replace hx441_2 := upw HB.out hx441_2
     replace hx441_3 := upw HB.out hx441_3
     replace hx441_4 := upw HB.out hx441_4
     replace hx441_5 := upw HB.out hx441_5
     replace hx441_6 := upw HB.out hx441_6
     replace hx441_7 := upw HB.out hx441_7
     replace hx441_8 := upw HB.out hx441_8
     replace hx441_9 := upw HB.out hx441_9
     replace hx441_10 := upw HB.out hx441_10
     replace hx441_11 := upw HB.out hx441_11
     have HR441_5 := am hi441_5
     have HC441_5 := am hl441_5
     clear hi441_5 hl441_5
     have HR441_6 := am hi441_6
     have HC441_6 := am hl441_6
     clear hi441_6 hl441_6
     have HR441_7 := am hi441_7
     have HC441_7 := am hl441_7
     clear hi441_7 hl441_7
     have HR441_8 := am hi441_8
     have HC441_8 := am hl441_8
     clear hi441_8 hl441_8
     have HR441_9 := am hi441_9
     have HC441_9 := am hl441_9
     clear hi441_9 hl441_9
     have HR441_10 := am hi441_10
     have HC441_10 := am hl441_10
     clear hi441_10 hl441_10
     have HR441_11 := am hi441_11
     have HC441_11 := am hl441_11
     clear hi441_11 hl441_11
     replace p441 := eq_true p441
     replace q441 := eq_true q441
     refine start_ (n := 12) (S := fun w' => w'.cell? ⟨gb435, 0, none⟩ = some (.int .i64 a0_0) ∧ w'.cell? ⟨gb435, 1, none⟩ = some (.int .i64 a0_1) ∧ w'.cell? ⟨gb435, 2, none⟩ = some (.string a0_2) ∧ w'.cell? ⟨gb435, 3, none⟩ = some (.int .i64 a0_3) ∧ w'.cell? ⟨gb435, 4, none⟩ = some (.int .i64 a0_4) ∧ w'.cell? ⟨gb435, 5, none⟩ = some (.slice A0_5 l0_5.length c0_5) ∧ w'.cell? ⟨gb435, 6, none⟩ = some (.slice A0_6 l0_6.length c0_6) ∧ w'.cell? ⟨gb435, 7, none⟩ = some (.slice A0_7 l0_7.length c0_7) ∧ w'.cell? ⟨gb435, 8, none⟩ = some (.slice A0_8 l0_8.length c0_8) ∧ w'.cell? ⟨gb435, 9, none⟩ = some (.slice A0_9 l0_9.length c0_9) ∧ w'.cell? ⟨gb435, 10, none⟩ = some (.slice (some ad440) l0_10.length c0_10) ∧ w'.cell? ⟨gb435, 11, none⟩ = some (.slice A0_11 l0_11.length c0_11) ∧ w'.cell? ⟨gb436, 0, none⟩ = some (.int .i64 a1_0) ∧ w'.cell? ⟨gb436, 1, none⟩ = some (.int .i64 a1_1) ∧ w'.cell? ⟨gb436, 2, none⟩ = some (.string a1_2) ∧ w'.cell? ⟨gb436, 3, none⟩ = some (.int .i64 a1_3) ∧ w'.cell? ⟨gb436, 4, none⟩ = some (.int .i64 a1_4) ∧ w'.cell? ⟨gb436, 5, none⟩ = some (.slice A1_5 l1_5.length c1_5) ∧ w'.cell? ⟨gb436, 6, none⟩ = some (.slice A1_6 l1_6.length c1_6) ∧ w'.cell? ⟨gb436, 7, none⟩ = some (.slice A1_7 l1_7.length c1_7) ∧ w'.cell? ⟨gb436, 8, none⟩ = some (.slice A1_8 l1_8.length c1_8) ∧ w'.cell? ⟨gb436, 9, none⟩ = some (.slice A1_9 l1_9.length c1_9) ∧ w'.cell? ⟨gb436, 10, none⟩ = some (.slice (some ad441) l1_10.length c1_10) ∧ w'.cell? ⟨gb436, 11, none⟩ = some (.slice A1_11 l1_11.length c1_11) ∧ w'.cell? (ad440.add ((x5_2).toNat * 12)) = some (.int .i64 ((rd_T47 l0_10 x5_2).f0)) ∧ w'.cell? ⟨(ad440.add ((x5_2).toNat * 12)).block, (ad440.add ((x5_2).toNat * 12)).off + 1, none⟩ = some (.int .i64 ((rd_T47 l0_10 x5_2).f1.f0)) ∧ w'.cell? ⟨(ad440.add ((x5_2).toNat * 12)).block, (ad440.add ((x5_2).toNat * 12)).off + 2, none⟩ = some (.string ((rd_T47 l0_10 x5_2).f1.f1)) ∧ w'.cell? ⟨(ad440.add ((x5_2).toNat * 12)).block, (ad440.add ((x5_2).toNat * 12)).off + 3, none⟩ = some (.int .i64 ((rd_T47 l0_10 x5_2).f1.f2)) ∧ w'.cell? ⟨(ad440.add ((x5_2).toNat * 12)).block, (ad440.add ((x5_2).toNat * 12)).off + 4, none⟩ = some (.int .i64 ((rd_T47 l0_10 x5_2).f1.f3.f0)) ∧ w'.cell? ⟨(ad440.add ((x5_2).toNat * 12)).block, (ad440.add ((x5_2).toNat * 12)).off + 5, none⟩ = some (.slice A440_5 ((rd_T47 l0_10 x5_2).f1.f3.f1).length c440_5) ∧ w'.cell? ⟨(ad440.add ((x5_2).toNat * 12)).block, (ad440.add ((x5_2).toNat * 12)).off + 6, none⟩ = some (.slice A440_6 ((rd_T47 l0_10 x5_2).f1.f3.f2).length c440_6) ∧ w'.cell? ⟨(ad440.add ((x5_2).toNat * 12)).block, (ad440.add ((x5_2).toNat * 12)).off + 7, none⟩ = some (.slice A440_7 ((rd_T47 l0_10 x5_2).f1.f4).length c440_7) ∧ w'.cell? ⟨(ad440.add ((x5_2).toNat * 12)).block, (ad440.add ((x5_2).toNat * 12)).off + 8, none⟩ = some (.slice A440_8 ((rd_T47 l0_10 x5_2).f1.f5).length c440_8) ∧ w'.cell? ⟨(ad440.add ((x5_2).toNat * 12)).block, (ad440.add ((x5_2).toNat * 12)).off + 9, none⟩ = some (.slice A440_9 ((rd_T47 l0_10 x5_2).f2).length c440_9) ∧ w'.cell? ⟨(ad440.add ((x5_2).toNat * 12)).block, (ad440.add ((x5_2).toNat * 12)).off + 10, none⟩ = some (.slice A440_10 ((rd_T47 l0_10 x5_2).f3).length c440_10) ∧ w'.cell? ⟨(ad440.add ((x5_2).toNat * 12)).block, (ad440.add ((x5_2).toNat * 12)).off + 11, none⟩ = some (.slice A440_11 ((rd_T47 l0_10 x5_2).f4.f0).length c440_11) ∧ w'.cell? (ad441.add ((x5_2).toNat * 12)) = some (.int .i64 ((rd_T47 l1_10 x5_2).f0)) ∧ w'.cell? ⟨(ad441.add ((x5_2).toNat * 12)).block, (ad441.add ((x5_2).toNat * 12)).off + 1, none⟩ = some (.int .i64 ((rd_T47 l1_10 x5_2).f1.f0)) ∧ w'.cell? ⟨(ad441.add ((x5_2).toNat * 12)).block, (ad441.add ((x5_2).toNat * 12)).off + 2, none⟩ = some (.string ((rd_T47 l1_10 x5_2).f1.f1)) ∧ w'.cell? ⟨(ad441.add ((x5_2).toNat * 12)).block, (ad441.add ((x5_2).toNat * 12)).off + 3, none⟩ = some (.int .i64 ((rd_T47 l1_10 x5_2).f1.f2)) ∧ w'.cell? ⟨(ad441.add ((x5_2).toNat * 12)).block, (ad441.add ((x5_2).toNat * 12)).off + 4, none⟩ = some (.int .i64 ((rd_T47 l1_10 x5_2).f1.f3.f0)) ∧ w'.cell? ⟨(ad441.add ((x5_2).toNat * 12)).block, (ad441.add ((x5_2).toNat * 12)).off + 5, none⟩ = some (.slice A441_5 ((rd_T47 l1_10 x5_2).f1.f3.f1).length c441_5) ∧ w'.cell? ⟨(ad441.add ((x5_2).toNat * 12)).block, (ad441.add ((x5_2).toNat * 12)).off + 6, none⟩ = some (.slice A441_6 ((rd_T47 l1_10 x5_2).f1.f3.f2).length c441_6) ∧ w'.cell? ⟨(ad441.add ((x5_2).toNat * 12)).block, (ad441.add ((x5_2).toNat * 12)).off + 7, none⟩ = some (.slice A441_7 ((rd_T47 l1_10 x5_2).f1.f4).length c441_7) ∧ w'.cell? ⟨(ad441.add ((x5_2).toNat * 12)).block, (ad441.add ((x5_2).toNat * 12)).off + 8, none⟩ = some (.slice A441_8 ((rd_T47 l1_10 x5_2).f1.f5).length c441_8) ∧ w'.cell? ⟨(ad441.add ((x5_2).toNat * 12)).block, (ad441.add ((x5_2).toNat * 12)).off + 9, none⟩ = some (.slice A441_9 ((rd_T47 l1_10 x5_2).f2).length c441_9) ∧ w'.cell? ⟨(ad441.add ((x5_2).toNat * 12)).block, (ad441.add ((x5_2).toNat * 12)).off + 10, none⟩ = some (.slice A441_10 ((rd_T47 l1_10 x5_2).f3).length c441_10) ∧ w'.cell? ⟨(ad441.add ((x5_2).toNat * 12)).block, (ad441.add ((x5_2).toNat * 12)).off + 11, none⟩ = some (.slice A441_11 ((rd_T47 l1_10 x5_2).f4.f0).length c441_11)) (ds := []) #[false,false,false,false,false,false,false,false,false,false,false,false] kr rfl rfl ⟨(blk_cell BK435.out 0).trans rfl, (blk_cell BK435.out 1).trans rfl, (blk_cell BK435.out 2).trans rfl, (blk_cell BK435.out 3).trans rfl, (blk_cell BK435.out 4).trans rfl, (blk_cell BK435.out 5).trans rfl, (blk_cell BK435.out 6).trans rfl, (blk_cell BK435.out 7).trans rfl, (blk_cell BK435.out 8).trans rfl, (blk_cell BK435.out 9).trans rfl, (blk_cell BK435.out 10).trans rfl, (blk_cell BK435.out 11).trans rfl, (blk_cell BK436.out 0).trans rfl, (blk_cell BK436.out 1).trans rfl, (blk_cell BK436.out 2).trans rfl, (blk_cell BK436.out 3).trans rfl, (blk_cell BK436.out 4).trans rfl, (blk_cell BK436.out 5).trans rfl, (blk_cell BK436.out 6).trans rfl, (blk_cell BK436.out 7).trans rfl, (blk_cell BK436.out 8).trans rfl, (blk_cell BK436.out 9).trans rfl, (blk_cell BK436.out 10).trans rfl, (blk_cell BK436.out 11).trans rfl, (upw HB.out hw440_0), (upw HB.out hw440_1), (upw HB.out hw440_2), (upw HB.out hw440_3), (upw HB.out hw440_4), (upw HB.out hw440_5), (upw HB.out hw440_6), (upw HB.out hw440_7), (upw HB.out hw440_8), (upw HB.out hw440_9), (upw HB.out hw440_10), (upw HB.out hw440_11), (upw HB.out hw441_0), (upw HB.out hw441_1), (upw HB.out hw441_2), (upw HB.out hw441_3), (upw HB.out hw441_4), (upw HB.out hw441_5), (upw HB.out hw441_6), (upw HB.out hw441_7), (upw HB.out hw441_8), (upw HB.out hw441_9), (upw HB.out hw441_10), (upw HB.out hw441_11)⟩ (fun hHeld => ?_); refine with_tabW spec_l13EqualHead.tab6 spec_l13EqualHead.bits6 (fun HT_ HW_ => ?_)
     generalize wr.drew = w47 at BK435 BK436 HB HR440_10 HR440_11 HR440_5 HR440_6 HR440_7 HR440_8 HR440_9 HR441_10 HR441_11 HR441_5 HR441_6 HR441_7 HR441_8 HR441_9 hx440_0 hx440_1 hx440_10 hx440_11 hx440_2 hx440_3 hx440_4 hx440_5 hx440_6 hx440_7 hx440_8 hx440_9 hx441_0 hx441_1 hx441_10 hx441_11 hx441_2 hx441_3 hx441_4 hx441_5 hx441_6 hx441_7 hx441_8 hx441_9 hHeld ⊢
     refine pure_ (i := 0) (N := some 51) (v := ?_) (a' := ?_) (bm 12 1) rfl rfl (any_of HT_.out kr) qi (Or.inl ⟨by rfl, ?_⟩) ?_ ?_
     rotate_left
     ·intro w'
      go_simp
      with_reducible rfl
     rotate_left
     ·simp only [sx]
      rfl
     refine pure_ (i := 2) (N := some 53) (v := ?_) (a' := ?_) (bm 12 5) rfl rfl (any_of HT_.out kr) qi (Or.inl ⟨by rfl, ?_⟩) ?_ ?_
     rotate_left
     ·intro w'
      go_simp
      with_reducible rfl
     rotate_left
     ·simp only [sx]
      rfl
     refine pure_ (i := 5) (N := some 56) (v := ?_) (a' := ?_) (bm 12 37) rfl rfl (any_of HT_.out kr) qi (Or.inl ⟨by rfl, ?_⟩) ?_ ?_
     rotate_left
     ·intro w'
      go_simp
      with_reducible rfl
     rotate_left
     ·simp only [sx]
      rfl
     refine pure_ (i := 7) (N := some 58) (v := ?_) (a' := ?_) (bm 12 165) rfl rfl (any_of HT_.out kr) qi (Or.inl ⟨by rfl, ?_⟩) ?_ ?_
     rotate_left
     ·intro w'
      go_simp
      with_reducible rfl
     rotate_left
     ·simp only [sx]
      rfl
     refine take_ (i := 1) (N := some 52) (v := ?_) (a' := ?_) (bm 12 167) rfl rfl (take_ofW HT_.out HW_.out kr) qi (Or.inl ⟨by rfl, ?_⟩) hHeld ?_ ?_
     rotate_left
     ·rintro w' ⟨s0, s1, s2, s3, s4, s5, s6, s7, s8, s9, s10, s11, s12, s13, s14, s15, s16, s17, s18, s19, s20, s21, s22, s23, s24, s25, s26, s27, s28, s29, s30, s31, s32, s33, s34, s35, s36, s37, s38, s39, s40, s41, s42, s43, s44, s45, s46, s47⟩
      go_simp
      with_reducible rfl
     rotate_left
     ·simp only [sx]
      rfl
     refine pure_ (i := 3) (N := some 54) (v := ?_) (a' := ?_) (bm 12 175) rfl rfl (any_of HT_.out kr) qi (Or.inl ⟨by rfl, ?_⟩) ?_ ?_
     rotate_left
     ·intro w'
      go_simp
      with_reducible rfl
     rotate_left
     ·simp only [sx]
      rfl
     refine take_ (i := 4) (N := some 55) (v := ?_) (a' := ?_) (bm 12 191) rfl rfl (take_ofW HT_.out HW_.out kr) qi (Or.inl ⟨by rfl, ?_⟩) hHeld ?_ ?_
     rotate_left
     ·rintro w' ⟨s0, s1, s2, s3, s4, s5, s6, s7, s8, s9, s10, s11, s12, s13, s14, s15, s16, s17, s18, s19, s20, s21, s22, s23, s24, s25, s26, s27, s28, s29, s30, s31, s32, s33, s34, s35, s36, s37, s38, s39, s40, s41, s42, s43, s44, s45, s46, s47⟩
      go_simp
      with_reducible rfl
     rotate_left
     ·simp only [sx]
      rfl
     refine take_ (i := 6) (N := some 57) (v := ?_) (a' := ?_) (bm 12 255) rfl rfl (take_ofW HT_.out HW_.out kr) qi (Or.inl ⟨by rfl, ?_⟩) hHeld ?_ ?_
     rotate_left
     ·rintro w' ⟨s0, s1, s2, s3, s4, s5, s6, s7, s8, s9, s10, s11, s12, s13, s14, s15, s16, s17, s18, s19, s20, s21, s22, s23, s24, s25, s26, s27, s28, s29, s30, s31, s32, s33, s34, s35, s36, s37, s38, s39, s40, s41, s42, s43, s44, s45, s46, s47⟩
      go_simp
      with_reducible rfl
     rotate_left
     ·simp only [sx]
      rfl
     refine pure_ (i := 8) (N := some 59) (v := ?_) (a' := ?_) (bm 12 511) rfl rfl (any_of HT_.out kr) qi (Or.inl ⟨by rfl, ?_⟩) ?_ ?_
     rotate_left
     ·intro w'
      go_simp
      with_reducible rfl
     rotate_left
     ·simp only [sx]
      rfl
     refine take_ (i := 9) (N := some 60) (v := ?_) (a' := ?_) (bm 12 1023) rfl rfl (take_ofW HT_.out HW_.out kr) qi (Or.inl ⟨by rfl, ?_⟩) hHeld ?_ ?_
     rotate_left
     ·rintro w' ⟨s0, s1, s2, s3, s4, s5, s6, s7, s8, s9, s10, s11, s12, s13, s14, s15, s16, s17, s18, s19, s20, s21, s22, s23, s24, s25, s26, s27, s28, s29, s30, s31, s32, s33, s34, s35, s36, s37, s38, s39, s40, s41, s42, s43, s44, s45, s46, s47⟩
      go_simp
      with_reducible rfl
     rotate_left
     ·simp only [sx]
      rfl
     refine one_ (i := 10) (N := some 61) (bm 12 2047) rfl rfl (one_of HT_.out kr) (by decide) (fun K hK => ?_)
     refine goes_ Try.func25 kr rfl #[.agg #[.int .i64 ((rd_T47 l0_10 x5_2).f0), .int .i64 ((rd_T47 l0_10 x5_2).f1.f0), .string ((rd_T47 l0_10 x5_2).f1.f1), .int .i64 ((rd_T47 l0_10 x5_2).f1.f2), .int .i64 ((rd_T47 l0_10 x5_2).f1.f3.f0), .slice A440_5 ((rd_T47 l0_10 x5_2).f1.f3.f1).length c440_5, .slice A440_6 ((rd_T47 l0_10 x5_2).f1.f3.f2).length c440_6, .slice A440_7 ((rd_T47 l0_10 x5_2).f1.f4).length c440_7, .slice A440_8 ((rd_T47 l0_10 x5_2).f1.f5).length c440_8, .slice A440_9 ((rd_T47 l0_10 x5_2).f2).length c440_9, .slice A440_10 ((rd_T47 l0_10 x5_2).f3).length c440_10, .slice A440_11 ((rd_T47 l0_10 x5_2).f4.f0).length c440_11], .agg #[.int .i64 ((rd_T47 l1_10 x5_2).f0), .int .i64 ((rd_T47 l1_10 x5_2).f1.f0), .string ((rd_T47 l1_10 x5_2).f1.f1), .int .i64 ((rd_T47 l1_10 x5_2).f1.f2), .int .i64 ((rd_T47 l1_10 x5_2).f1.f3.f0), .slice A441_5 ((rd_T47 l1_10 x5_2).f1.f3.f1).length c441_5, .slice A441_6 ((rd_T47 l1_10 x5_2).f1.f3.f2).length c441_6, .slice A441_7 ((rd_T47 l1_10 x5_2).f1.f4).length c441_7, .slice A441_8 ((rd_T47 l1_10 x5_2).f1.f5).length c441_8, .slice A441_9 ((rd_T47 l1_10 x5_2).f2).length c441_9, .slice A441_10 ((rd_T47 l1_10 x5_2).f3).length c441_10, .slice A441_11 ((rd_T47 l1_10 x5_2).f4.f0).length c441_11]] (by rfl) rfl rfl mpw ?_
     with_reducible refine (ih k2 (by have := HJ2.out; have := HK2.out; omega) ((rd_T47 l0_10 x5_2).f0) ((rd_T47 l0_10 x5_2).f1.f0) ((rd_T47 l0_10 x5_2).f1.f1) ((rd_T47 l0_10 x5_2).f1.f2) ((rd_T47 l0_10 x5_2).f1.f3.f0) _ _ ((rd_T47 l0_10 x5_2).f1.f3.f1) _ _ ((rd_T47 l0_10 x5_2).f1.f3.f2) _ _ ((rd_T47 l0_10 x5_2).f1.f4) _ _ ((rd_T47 l0_10 x5_2).f1.f5) _ _ ((rd_T47 l0_10 x5_2).f2) _ _ ((rd_T47 l0_10 x5_2).f3) _ _ ((rd_T47 l0_10 x5_2).f4.f0) ((rd_T47 l1_10 x5_2).f0) ((rd_T47 l1_10 x5_2).f1.f0) ((rd_T47 l1_10 x5_2).f1.f1) ((rd_T47 l1_10 x5_2).f1.f2) ((rd_T47 l1_10 x5_2).f1.f3.f0) _ _ ((rd_T47 l1_10 x5_2).f1.f3.f1) _ _ ((rd_T47 l1_10 x5_2).f1.f3.f2) _ _ ((rd_T47 l1_10 x5_2).f1.f4) _ _ ((rd_T47 l1_10 x5_2).f1.f5) _ _ ((rd_T47 l1_10 x5_2).f2) _ _ ((rd_T47 l1_10 x5_2).f3) _ _ ((rd_T47 l1_10 x5_2).f4.f0) t442 _ ?side1 ?side2 ?side3 ?side4 ?side5 ?side6 ?side7 ?side8 ?side9 ?side10 ?side11 ?side12 ?side13 ?side14 ?side15 ?side16 ?side17 ?side18 ?side19 ?side20 ?side21 ?side22 ?side23 ?side24 ?side25 ?side26 ?side27 ?side28 A43.out).mono ?_
     (case side1 => have X_ := HR440_5; exact cbl)
     (case side2 => exact HC440_5.out)
     (case side3 => have X_ := HR440_6; exact cbl)
     (case side4 => exact HC440_6.out)
     (case side5 => have X_ := HR440_7; exact cbl)
     (case side6 => exact HC440_7.out)
     (case side7 => have X_ := HR440_8; exact cbl)
     (case side8 => exact HC440_8.out)
     (case side9 => have X_ := HR440_9; exact cbl)
     (case side10 => exact HC440_9.out)
     (case side11 => have X_ := HR440_10; exact cbl)
     (case side12 => exact HC440_10.out)
     (case side13 => have X_ := HR440_11; exact cbl)
     (case side14 => exact HC440_11.out)
     (case side15 => have X_ := HR441_5; exact cbl)
     (case side16 => exact HC441_5.out)
     (case side17 => have X_ := HR441_6; exact cbl)
     (case side18 => exact HC441_6.out)
     (case side19 => have X_ := HR441_7; exact cbl)
     (case side20 => exact HC441_7.out)
     (case side21 => have X_ := HR441_8; exact cbl)
     (case side22 => exact HC441_8.out)
     (case side23 => have X_ := HR441_9; exact cbl)
     (case side24 => exact HC441_9.out)
     (case side25 => have X_ := HR441_10; exact cbl)
     (case side26 => exact HC441_10.out)
     (case side27 => have X_ := HR441_11; exact cbl)
     (case side28 => exact HC441_11.out)
     rintro e w48 ⟨rfl, hb⟩
     refine ⟨_, rfl, ?_⟩
     have n0_ := am (blk_below (g := gb435) bkw hb)
     have n1_ := am (blk_below (g := gb436) bkw hb)
     have n2_ := am (below_step blw hb)
     clear BK435
     clear BK436
     clear HB
     revert n0_ n1_ n2_
     intro BK435 BK436 HB
     (try clear hb)
     (try clear hb2)
     (try clear hk)
     (try clear hi)
     refine hK.out _ _ ⟨(blk_cell BK435.out 0).trans rfl, (blk_cell BK435.out 1).trans rfl, (blk_cell BK435.out 2).trans rfl, (blk_cell BK435.out 3).trans rfl, (blk_cell BK435.out 4).trans rfl, (blk_cell BK435.out 5).trans rfl, (blk_cell BK435.out 6).trans rfl, (blk_cell BK435.out 7).trans rfl, (blk_cell BK435.out 8).trans rfl, (blk_cell BK435.out 9).trans rfl, (blk_cell BK435.out 10).trans rfl, (blk_cell BK435.out 11).trans rfl, (blk_cell BK436.out 0).trans rfl, (blk_cell BK436.out 1).trans rfl, (blk_cell BK436.out 2).trans rfl, (blk_cell BK436.out 3).trans rfl, (blk_cell BK436.out 4).trans rfl, (blk_cell BK436.out 5).trans rfl, (blk_cell BK436.out 6).trans rfl, (blk_cell BK436.out 7).trans rfl, (blk_cell BK436.out 8).trans rfl, (blk_cell BK436.out 9).trans rfl, (blk_cell BK436.out 10).trans rfl, (blk_cell BK436.out 11).trans rfl, (upw HB.out hw440_0), (upw HB.out hw440_1), (upw HB.out hw440_2), (upw HB.out hw440_3), (upw HB.out hw440_4), (upw HB.out hw440_5), (upw HB.out hw440_6), (upw HB.out hw440_7), (upw HB.out hw440_8), (upw HB.out hw440_9), (upw HB.out hw440_10), (upw HB.out hw440_11), (upw HB.out hw441_0), (upw HB.out hw441_1), (upw HB.out hw441_2), (upw HB.out hw441_3), (upw HB.out hw441_4), (upw HB.out hw441_5), (upw HB.out hw441_6), (upw HB.out hw441_7), (upw HB.out hw441_8), (upw HB.out hw441_9), (upw HB.out hw441_10), (upw HB.out hw441_11)⟩ (fun hHeld => ?_)
     clear hK K
     refine norm_ (a' := ?_) ?_ ?_
     rotate_left
     ·show Act.put _ (some 61) _ = _
      simp only [sx]
      rfl
     refine pure_ (i := 11) (N := some 62) (v := ?_) (a' := ?_) (bm 12 4095) rfl rfl (any_of HT_.out kr) qi (Or.inl ⟨by rfl, ?_⟩) ?_ ?_
     rotate_left
     ·intro w'
      go_simp
      with_reducible rfl
     rotate_left
     ·simp only [sx]
      rfl
     refine done_ (done_of HT_.out kr) ?_
     go_upto_if 62 with (fail)
     have H := HC44.out
     clear HC44
     by_cases c49 : t442 = true
     case neg =>
      replace c49 := Bool.eq_false_iff.mpr c49
      subst c49
      have H1 : (some false) = some r := by rw [if_neg (show ¬ (false = true) by decide)] at H; exact H
      clear H
      have H := H1
      clear H1
      obtain rfl := Option.some.inj H
      go_wp2
      go_ret
      exact ⟨rfw, blw⟩
     subst c49
     have H1 : (spec_l13EqualHead.l0 k2 (wrap64 (x5_2 + 1)) a0_0 a0_1 a0_2 a0_3 a0_4 l0_5 l0_6 l0_7 l0_8 l0_9 l0_10 l0_11 a1_0 a1_1 a1_2 a1_3 a1_4 l1_5 l1_6 l1_7 l1_8 l1_9 l1_10 l1_11) = some r := by rw [if_pos rfl] at H; exact H
     clear H
     have H := H1
     clear H1
     have H' := am H
     clear H
     go_wp2
     go_roundg k2
     case measure => have := HJ2.out; have := HK2.out; omega
     case rel => exact ⟨(wrap64 (x5_2 + 1)), rfs, H', ⟨by have := HJ2.out; have := HK2.out; omega⟩, ⟨bkw⟩, ⟨bkw⟩, ⟨blw⟩⟩

theorem spec_EqualQuery.all (k : Nat) : (spec_EqualQuery.T k) ∧ (spec_l13EqualHead.T k) := by
 induction k using Nat.strongRecOn with
 | _ k ih =>
 exact ⟨spec_EqualQuery.step k (fun m hm_ => (ih m hm_).1) (fun m hm_ => (ih m hm_).2), spec_l13EqualHead.step k (fun m hm_ => (ih m hm_).2) (fun m hm_ => (ih m hm_).1)⟩

theorem spec_EqualQuery.calls (k : Nat) : ∀ (A0_0 : Option Addr) (c0_0 : Nat) (l0_0 : List (S49)) (A1_0 : Option Addr) (c1_0 : Nat) (l1_0 : List (S49)) (r : Bool) (w : World) (hr0_0 : Kd.C k49 w A0_0 l0_0.length l0_0) (hc0_0 : l0_0.length ≤ c0_0) (hr1_0 : Kd.C k49 w A1_0 l1_0.length l1_0) (hc1_0 : l1_0.length ≤ c1_0) (h : spec_EqualQuery.f k l0_0 l1_0 = some r),
  Calls Try.prog 13 #[.agg #[.slice A0_0 l0_0.length c0_0], .agg #[.slice A1_0 l1_0.length c1_0]] w fun e w' => e = .returned (.bool r) ∧ Below w.heap.size w w' := (spec_EqualQuery.all k).1

end Go.Proofs.Ytpkppeicceehcaa.Px
