/- Printed by a program of this session: what functions of the translation come to, each contract as it stands. No condition. -/
import Derived.Test.YtfbecaplnigmaaaZIsDBSh
import Derived.Test.YtfbecaplnigmaaaZIsDBPx0M
import Derived.Test.YtfbecaplnigmaaaZIsDBPx13M
import Derived.Test.YtfbecaplnigmaaaZIsDBPx16
namespace Go.Proofs.Ytfbecaplnigmaaa.Px
set_option maxHeartbeats 8000000
set_option maxRecDepth 100000
open Go.RowKit Go.Proofs.Ytfbecaplnigmaaa.Ext Go.Proofs.YtfbecaplnigmaaaW.PrintWords Go.Proofs.YtfbecaplnigmaaaW.PrintLast Go.Proofs.YtfbecaplnigmaaaW.PrintMore
attribute [local go_sem] max2_int min2_int max_two min_two max_three min_three max_four min_four   -- for this text's walks alone
set_option linter.unusedVariables false
set_option linter.unusedSimpArgs false

-- NOT PRINTED: function 36 (impl_Value_36)

-- NOT PRINTED: function 19 (impl_Value_19)

/-! ### impl_IsData: function 37 -/
def impl_IsData.f (k : Nat) (a0_0 : Int) (l0_1 : List ByteArray) (l0_2 : List (S51)) : Option (Bool) := (impl_typeForm.f k a0_0 l0_1 l0_2 true 1).bind fun t339 => (if t339 = true then ((impl_SizeOfType.f k a0_0 l0_1 l0_2).bind fun t340 => (some (decide (t340 ≤ 24)))) else (some false))
theorem impl_IsData.calls (k : Nat) (a0_0 : Int) (A0_1 : Option Addr) (c0_1 : Nat) (l0_1 : List ByteArray) (A0_2 : Option Addr) (c0_2 : Nat) (l0_2 : List (S51)) (r : Bool) (w : World) (hr0_1 : Kd.C Kd.string w A0_1 l0_1.length l0_1) (hc0_1 : l0_1.length ≤ c0_1) (hr0_2 : Kd.C k51 w A0_2 l0_2.length l0_2) (hc0_2 : l0_2.length ≤ c0_2) (h : impl_IsData.f k a0_0 l0_1 l0_2 = some r) :
  Calls Try.prog 37 #[.agg #[.int .i64 a0_0, .slice A0_1 l0_1.length c0_1, .slice A0_2 l0_2.length c0_2]] w fun e w' => e = .returned (.bool r) ∧ Below w.heap.size w w' := by
 have hu51 := Try.underlying51
 have HR0_1 := Aside0.mk hr0_1
 have HC0_1 := Aside0.mk hc0_1
 clear hr0_1 hc0_1
 have HR0_2 := Aside0.mk hr0_2
 have HC0_2 := Aside0.mk hc0_2
 clear hr0_2 hc0_2
 have HB := Aside0.mk (Below.refl w.heap.size w)
 have H : ((impl_typeForm.f k a0_0 l0_1 l0_2 true 1).bind fun t339 => (if t339 = true then ((impl_SizeOfType.f k a0_0 l0_1 l0_2).bind fun t340 => (some (decide (t340 ≤ 24)))) else (some false))) = some r := h
 clear h
 replace H := Option.bind_eq_some_iff.mp H
 obtain ⟨t339, A20, H⟩ := H
 replace H : (if t339 = true then ((impl_SizeOfType.f k a0_0 l0_1 l0_2).bind fun t340 => (some (decide (t340 ≤ 24)))) else (some false)) = some r := H
 have A2 := Aside0.mk A20
 clear A20
 by_cases c3 : t339 = true
 case neg =>
  replace c3 := Bool.eq_false_iff.mpr c3
  subst c3
  have H1 : (some false) = some r := by rw [if_neg (show ¬ (false = true) by decide)] at H; exact H
  clear H
  have H := H1
  clear H1
  obtain rfl := Option.some.inj H
  go_enter Try.func37, Try.ntmps37
  go_wp2_with (first | ((with_reducible refine gate_dst (N := 1) rfl ?_); refine box_event ?hg (N := 1) ?hd (cs := #[.int .i64 a0_0, .slice A0_1 l0_1.length c0_1, .slice A0_2 l0_2.length c0_2]) (t := 51) ?hr ?_; (case hd => rfl); (case hg => rfl); (case hr => exact hrw); intro gb338 hg w9 hbox hb; have n0_ := Aside0.mk (below_step blw hb); have n1_ := Aside0.mk (hbox); have n2_ := Aside0.mk ((by rw [hg]; exact (below_size blw) : w.heap.size ≤ gb338)); have n3_ := n2_; clear HB; revert n0_ n1_ n2_ n3_; intro HB BK338 GW338 GE338; clear hb hbox hg) | ((with_reducible refine gate_callee (f := 57) rfl ?_); refine goesL_ (some 3) rfl rfl Try.func57 kr rfl #[.pointer (some ⟨gb338, 0, none⟩), .bool true, .int .i64 1] rfl mpw ?_; (with_reducible refine (impl_typeForm.calls k ⟨gb338, 0, none⟩ a0_0 A0_1 c0_1 l0_1 A0_2 c0_2 l0_2 true 1 false _ ?side1 ?side2 ?side3 ?side4 ?side5 A2.out).mono ?_); (case side1 => exact Cells_blk bkw); (case side2 => have X_ := HR0_1; exact cbl); (case side3 => exact HC0_1.out); (case side4 => have X_ := HR0_2; exact cbl); (case side5 => exact HC0_2.out); rintro e w10 ⟨rfl, hb⟩; refine ⟨_, rfl, ?_⟩; have n0_ := Aside0.mk (blk_below (g := gb338) (o := .cells #[.int .i64 a0_0, .slice A0_1 l0_1.length c0_1, .slice A0_2 l0_2.length c0_2] 51 (0, 0)) bkw hb); have n1_ := Aside0.mk (below_step blw hb); clear BK338; clear HB; revert n0_ n1_; intro BK338 HB; (try clear hb); (try clear hb2); (try clear hk); (try clear hi)))
  go_ret
  exact ⟨rfw, blw⟩
 subst c3
 have H1 : ((impl_SizeOfType.f k a0_0 l0_1 l0_2).bind fun t340 => (some (decide (t340 ≤ 24)))) = some r := by rw [if_pos rfl] at H; exact H
 clear H
 have H := H1
 clear H1
 replace H := Option.bind_eq_some_iff.mp H
 obtain ⟨t340, A40, H⟩ := H
 replace H : (some (decide (t340 ≤ 24))) = some r := H
 have A4 := Aside0.mk A40
 clear A40
 obtain rfl := Option.some.inj H
 go_enter Try.func37, Try.ntmps37
 go_wp2_with (first | ((with_reducible refine gate_dst (N := 1) rfl ?_); refine box_event ?hg (N := 1) ?hd (cs := #[.int .i64 a0_0, .slice A0_1 l0_1.length c0_1, .slice A0_2 l0_2.length c0_2]) (t := 51) ?hr ?_; (case hd => rfl); (case hg => rfl); (case hr => exact hrw); intro gb338 hg w5 hbox hb; have n0_ := Aside0.mk (below_step blw hb); have n1_ := Aside0.mk (hbox); have n2_ := Aside0.mk ((by rw [hg]; exact (below_size blw) : w.heap.size ≤ gb338)); have n3_ := n2_; clear HB; revert n0_ n1_ n2_ n3_; intro HB BK338 GW338 GE338; clear hb hbox hg) | ((with_reducible refine gate_callee (f := 57) rfl ?_); refine goesL_ (some 3) rfl rfl Try.func57 kr rfl #[.pointer (some ⟨gb338, 0, none⟩), .bool true, .int .i64 1] rfl mpw ?_; (with_reducible refine (impl_typeForm.calls k ⟨gb338, 0, none⟩ a0_0 A0_1 c0_1 l0_1 A0_2 c0_2 l0_2 true 1 true _ ?side1 ?side2 ?side3 ?side4 ?side5 A2.out).mono ?_); (case side1 => exact Cells_blk bkw); (case side2 => have X_ := HR0_1; exact cbl); (case side3 => exact HC0_1.out); (case side4 => have X_ := HR0_2; exact cbl); (case side5 => exact HC0_2.out); rintro e w6 ⟨rfl, hb⟩; refine ⟨_, rfl, ?_⟩; have n0_ := Aside0.mk (blk_below (g := gb338) (o := .cells #[.int .i64 a0_0, .slice A0_1 l0_1.length c0_1, .slice A0_2 l0_2.length c0_2] 51 (0, 0)) bkw hb); have n1_ := Aside0.mk (below_step blw hb); clear BK338; clear HB; revert n0_ n1_; intro BK338 HB; (try clear hb); (try clear hb2); (try clear hk); (try clear hi); obtain ⟨hcz7_0, hcz7_1, hcz7_2⟩ := cls3 BK338.out; obtain ⟨hfz7_0, hfz7_1, hfz7_2⟩ := frz3 BK338.out) | (go_at_call 58; (with_reducible refine (impl_SizeOfType.calls k a0_0 _ _ l0_1 _ _ l0_2 t340 _ ?side1 ?side2 ?side3 ?side4 A4.out).mono ?_); (case side1 => have X_ := HR0_1; exact cbl); (case side2 => exact HC0_1.out); (case side3 => have X_ := HR0_2; exact cbl); (case side4 => exact HC0_2.out); rintro e w8 ⟨rfl, hb⟩; have n0_ := Aside0.mk (blk_below (g := gb338) (o := .cells #[.int .i64 a0_0, .slice A0_1 l0_1.length c0_1, .slice A0_2 l0_2.length c0_2] 51 (0, 0)) bkw hb); have n1_ := Aside0.mk (below_step blw hb); clear BK338; clear HB; revert n0_ n1_; intro BK338 HB; (try clear hb); (try clear hb2); (try clear hk); (try clear hi)))
 go_ret
 exact ⟨rfw, blw⟩

/-! ### impl_SizeOfValue: function 38 -/
mutual
def impl_SizeOfValue.l0 : Nat → Int → Int → Int → Int → Int → List ByteArray → List (S56) → Option (Int)
 | 0, _, _, _, _, _, _, _ => none
 | k + 1, x3, x7, x8, x342000, x342001, x342002, x342003 => if x8 < x7 then (if 0 ≤ x8 then (if x8 < (x342003.length : Int) then ((impl_SizeOfValue.f k ((rd_T56 x342003 x8).f0) ((rd_T56 x342003 x8).f1) ((rd_T56 x342003 x8).f2) ((rd_T56 x342003 x8).f3)).bind fun t343 => (impl_SizeOfValue.l0 k (wrap64 (x3 + t343)) x7 (wrap64 (x8 + 1)) x342000 x342001 x342002 x342003)) else (none)) else (none)) else (some x3)
def impl_SizeOfValue.f : Nat → Int → Int → List ByteArray → List (S56) → Option (Int)
 | 0, _, _, _, _ => none
 | k + 1, a0_0, a0_1, l0_2, l0_3 => impl_SizeOfValue.l0 k 1 (l0_3.length : Int) 0 a0_0 a0_1 l0_2 l0_3
end
theorem impl_SizeOfValue.calls (k : Nat) : ∀ (a0_0 : Int) (a0_1 : Int) (A0_2 : Option Addr) (c0_2 : Nat) (l0_2 : List ByteArray) (A0_3 : Option Addr) (c0_3 : Nat) (l0_3 : List (S56)) (r : Int) (w : World) (hr0_2 : Kd.C Kd.string w A0_2 l0_2.length l0_2) (hc0_2 : l0_2.length ≤ c0_2) (hr0_3 : Kd.C k56 w A0_3 l0_3.length l0_3) (hc0_3 : l0_3.length ≤ c0_3) (h : impl_SizeOfValue.f k a0_0 a0_1 l0_2 l0_3 = some r),
  Calls Try.prog 38 #[.agg #[.int .i64 a0_0, .int .i64 a0_1, .slice A0_2 l0_2.length c0_2, .slice A0_3 l0_3.length c0_3]] w fun e w' => e = .returned (.int .i64 r) ∧ Below w.heap.size w w' := by
 induction k using Nat.strongRecOn with
 | _ k ih =>
 intro a0_0 a0_1 A0_2 c0_2 l0_2 A0_3 c0_3 l0_3 r w hr0_2 hc0_2 hr0_3 hc0_3 h
 cases k with
 | zero => exact absurd h (by simp [impl_SizeOfValue.f])
 | succ k =>
 simp only [impl_SizeOfValue.f] at h
 have hu56 := Try.underlying56
 have HR0_2 := Aside0.mk hr0_2
 have HC0_2 := Aside0.mk hc0_2
 clear hr0_2 hc0_2
 have HR0_3 := Aside0.mk hr0_3
 have HC0_3 := Aside0.mk hc0_3
 clear hr0_3 hc0_3
 have HB := Aside0.mk (Below.refl w.heap.size w)
 have H : (impl_SizeOfValue.l0 k 1 (l0_3.length : Int) 0 a0_0 a0_1 l0_2 l0_3) = some r := h
 clear h
 have H' := Aside0.mk H
 clear H
 go_enter Try.func38, Try.ntmps38
 go_wp2_with (first | ((with_reducible refine gate_dst (N := 1) rfl ?_); refine box_event ?hg (N := 1) ?hd (cs := #[.int .i64 a0_0, .int .i64 a0_1, .slice A0_2 l0_2.length c0_2, .slice A0_3 l0_3.length c0_3]) (t := 56) ?hr ?_; (case hd => rfl); (case hg => rfl); (case hr => exact hrw); intro gb341 hg w2 hbox hb; have n0_ := Aside0.mk (below_step blw hb); have n1_ := Aside0.mk (hbox); have n2_ := Aside0.mk ((by rw [hg]; exact (below_size blw) : w.heap.size ≤ gb341)); have n3_ := n2_; clear HB; revert n0_ n1_ n2_ n3_; intro HB BK341 GW341 GE341; clear hb hbox hg; obtain ⟨hcz3_0, hcz3_1, hcz3_2, hcz3_3⟩ := cls4 BK341.out; obtain ⟨hfz3_0, hfz3_1, hfz3_2, hfz3_3⟩ := frz4 BK341.out))
 go_loopg [3, 8] k (fun kq v3 v8 w' => ∃ (x3_1 : Int) (x8_1 : Int), v3 = .int .i64 x3_1 ∧ v8 = .int .i64 x8_1 ∧ Aside0 (impl_SizeOfValue.l0 kq x3_1 (l0_3.length : Int) x8_1 a0_0 a0_1 l0_2 l0_3 = some r) ∧ Aside0 (kq ≤ k) ∧ Aside0 (w'.heap[gb341]? = some (.cells #[.int .i64 a0_0, .int .i64 a0_1, (.slice A0_2 l0_2.length c0_2), (.slice A0_3 l0_3.length c0_3)] 56 (0, 0))) ∧ Aside0 (Below w.heap.size w w'))
 case atStart => exact ⟨(1), (0), rfs, rfs, H', ⟨Nat.le_refl _⟩, ⟨bkw⟩, ⟨blw⟩⟩
 case round =>
  clear H'
  (try clear p2); (try clear c3); (try clear hcz3_0); (try clear hcz3_1); (try clear hcz3_2); (try clear hcz3_3); (try clear hfz3_0); (try clear hfz3_1); (try clear hfz3_2); (try clear hfz3_3)
  obtain ⟨x3_1, x8_1, rfl, rfl, HA, HK1, BK341, HB⟩ := hrel
  cases gk with
  | zero => exact absurd HA.out (by simp [impl_SizeOfValue.l0])
  | succ k1 =>
   have H := HA.out
   clear HA
   simp only [impl_SizeOfValue.l0] at H
   by_cases c4 : x8_1 < (l0_3.length : Int)
   case neg =>
    rw [if_neg c4] at H
    have c4b0 : decide (x8_1 < (l0_3.length : Int)) = false := decide_eq_false c4
    clear c4
    obtain rfl := Option.some.inj H
    go_wp2
    go_ret
    exact ⟨rfw, blw⟩
   rw [if_pos c4] at H
   have c4b0 : decide (x8_1 < (l0_3.length : Int)) = true := decide_eq_true c4
   clear c4
   by_cases c5 : 0 ≤ x8_1
   case neg =>
    rw [if_neg c5] at H
    exact absurd H (by simp)
   rw [if_pos c5] at H
   have c5b0 : decide (0 ≤ x8_1) = true := decide_eq_true c5
   clear c5
   by_cases c6 : x8_1 < (l0_3.length : Int)
   case neg =>
    rw [if_neg c6] at H
    exact absurd H (by simp)
   rw [if_pos c6] at H
   have c6b0 : decide (x8_1 < (l0_3.length : Int)) = true := decide_eq_true c6
   clear c6
   replace H := Option.bind_eq_some_iff.mp H
   obtain ⟨t343, A70, H⟩ := H
   replace H : (impl_SizeOfValue.l0 k1 (wrap64 (x3_1 + t343)) (l0_3.length : Int) (wrap64 (x8_1 + 1)) a0_0 a0_1 l0_2 l0_3) = some r := H
   have A7 := Aside0.mk A70
   clear A70
   have H' := Aside0.mk H
   clear H
   obtain ⟨hcz8_0, hcz8_1, hcz8_2, hcz8_3⟩ := cls4 BK341.out
   obtain ⟨hfz8_0, hfz8_1, hfz8_2, hfz8_3⟩ := frz4 BK341.out
   have p342 : 0 ≤ (x8_1 : Int) := of_decide_eq_true asw
   have q342 : x8_1 < (l0_3.length : Int) := of_decide_eq_true asw
   obtain ⟨ad342, A342_2, c342_2, A342_3, c342_3, e342, hx342_0, hx342_1, hx342_2, hx342_3, hl342_2, hi342_2, hl342_3, hi342_3⟩ := at_T56 HR0_3.out x8_1 p342 q342
   cases e342
   replace hx342_0 := upw HB.out hx342_0
   replace hx342_1 := upw HB.out hx342_1
   replace hx342_2 := upw HB.out hx342_2
   replace hx342_3 := upw HB.out hx342_3
   have HR342_2 := Aside0.mk hi342_2
   have HC342_2 := Aside0.mk hl342_2
   clear hi342_2 hl342_2
   have HR342_3 := Aside0.mk hi342_3
   have HC342_3 := Aside0.mk hl342_3
   clear hi342_3 hl342_3
   replace p342 := eq_true p342
   replace q342 := eq_true q342
   go_wp2_with (first | ((with_reducible refine gate_callee (f := 38) rfl ?_); refine goesL_ (some 17) rfl rfl Try.func38 kr rfl #[.agg #[.int .i64 ((rd_T56 l0_3 x8_1).f0), .int .i64 ((rd_T56 l0_3 x8_1).f1), .slice A342_2 ((rd_T56 l0_3 x8_1).f2).length c342_2, .slice A342_3 ((rd_T56 l0_3 x8_1).f3).length c342_3]] rfl mpw ?_; (with_reducible refine (ih k1 (by have := HK1.out; omega) ((rd_T56 l0_3 x8_1).f0) ((rd_T56 l0_3 x8_1).f1) _ _ ((rd_T56 l0_3 x8_1).f2) _ _ ((rd_T56 l0_3 x8_1).f3) t343 _ ?side1 ?side2 ?side3 ?side4 A7.out).mono ?_); (case side1 => have X_ := HR342_2; exact cbl); (case side2 => exact HC342_2.out); (case side3 => have X_ := HR342_3; exact cbl); (case side4 => exact HC342_3.out); rintro e w9 ⟨rfl, hb⟩; refine ⟨_, rfl, ?_⟩; have n0_ := Aside0.mk (blk_below (g := gb341) (o := .cells #[.int .i64 a0_0, .int .i64 a0_1, .slice A0_2 l0_2.length c0_2, .slice (some ad342) l0_3.length c0_3] 56 (0, 0)) bkw hb); have n1_ := Aside0.mk (below_step blw hb); clear BK341; clear HB; revert n0_ n1_; intro BK341 HB; (try clear hb); (try clear hb2); (try clear hk); (try clear hi)))
   go_roundg k1
   case measure => have := HK1.out; omega
   case rel => exact ⟨(wrap64 (x3_1 + t343)), (wrap64 (x8_1 + 1)), rfs, rfs, H', ⟨by have := HK1.out; omega⟩, ⟨bkw⟩, ⟨blw⟩⟩

/-! ### impl_plainOk: function 59 -/
def impl_plainOk.f (a0_0 : Int) (a0_1 : Int) (l0_2 : List ByteArray) (l0_3 : List (S56)) : Option (Bool) := if (l0_2.length : Int) = 0 then (if (l0_3.length : Int) = 0 then (if a0_0 = 1 then (some true) else (if a0_0 = 2 then (if a0_1 = 0 then (some true) else (some (a0_1 == 1))) else (some false))) else (some false)) else (some false)
theorem impl_plainOk.calls (ad0 : Addr) (a0_0 : Int) (a0_1 : Int) (A0_2 : Option Addr) (c0_2 : Nat) (l0_2 : List ByteArray) (A0_3 : Option Addr) (c0_3 : Nat) (l0_3 : List (S56)) (r : Bool) (w : World) (hp0 : Cells w ad0 [.int .i64 a0_0, .int .i64 a0_1, .slice A0_2 l0_2.length c0_2, .slice A0_3 l0_3.length c0_3]) (hr0_2 : Kd.C Kd.string w A0_2 l0_2.length l0_2) (hc0_2 : l0_2.length ≤ c0_2) (hr0_3 : Kd.C k56 w A0_3 l0_3.length l0_3) (hc0_3 : l0_3.length ≤ c0_3) (h : impl_plainOk.f a0_0 a0_1 l0_2 l0_3 = some r) :
  Calls Try.prog 59 #[.pointer (some ad0)] w fun e w' => e = .returned (.bool r) ∧ Drawn0 w w' := by
 have HP0 := Aside0.mk hp0
 clear hp0
 have HR0_2 := Aside0.mk hr0_2
 have HC0_2 := Aside0.mk hc0_2
 clear hr0_2 hc0_2
 have HR0_3 := Aside0.mk hr0_3
 have HC0_3 := Aside0.mk hc0_3
 clear hr0_3 hc0_3
 have H : (if (l0_2.length : Int) = 0 then (if (l0_3.length : Int) = 0 then (if a0_0 = 1 then (some true) else (if a0_0 = 2 then (if a0_1 = 0 then (some true) else (some (a0_1 == 1))) else (some false))) else (some false)) else (some false)) = some r := h
 clear h
 by_cases c2 : (l0_2.length : Int) = 0
 case neg =>
  rw [if_neg c2] at H
  have c2b0 : ((l0_2.length : Int) == 0) = false := beq_eq_false_iff_ne.mpr c2
  have c2b1 : ((l0_2.length : Int) != 0) = true := bne_iff_ne.mpr c2
  have c2b2 : ¬ (l0_2 = []) := fun h_ => c2 (by rw [h_]; rfl)
  obtain rfl := Option.some.inj H
  have hxr12_0 : w.cell? ad0 = some (.int .i64 a0_0) := HP0.out.1
  have hxr12_1 : w.cell? ⟨ad0.block, ad0.off + 1, none⟩ = some (.int .i64 a0_1) := HP0.out.2.1
  have hxr12_2 : w.cell? ⟨ad0.block, ad0.off + 2, none⟩ = some (.slice A0_2 l0_2.length c0_2) := HP0.out.2.2.1
  have hxr12_3 : w.cell? ⟨ad0.block, ad0.off + 3, none⟩ = some (.slice A0_3 l0_3.length c0_3) := HP0.out.2.2.2.1
  go_enter Try.func59, Try.ntmps59
  go_wp2
  go_ret
  exact ⟨rfs, by repeat (first | exact Drawn0.refl _ | apply Drawn0.step)⟩
 rw [if_pos c2] at H
 have c2b0 : ((l0_2.length : Int) == 0) = true := beq_iff_eq.mpr c2
 have c2b1 : ((l0_2.length : Int) != 0) = false := bne_eq_false_iff_eq.mpr c2
 clear c2
 by_cases c3 : (l0_3.length : Int) = 0
 case neg =>
  rw [if_neg c3] at H
  have c3b0 : ((l0_3.length : Int) == 0) = false := beq_eq_false_iff_ne.mpr c3
  have c3b1 : ((l0_3.length : Int) != 0) = true := bne_iff_ne.mpr c3
  have c3b2 : ¬ (l0_3 = []) := fun h_ => c3 (by rw [h_]; rfl)
  obtain rfl := Option.some.inj H
  have hxr11_0 : w.cell? ad0 = some (.int .i64 a0_0) := HP0.out.1
  have hxr11_1 : w.cell? ⟨ad0.block, ad0.off + 1, none⟩ = some (.int .i64 a0_1) := HP0.out.2.1
  have hxr11_2 : w.cell? ⟨ad0.block, ad0.off + 2, none⟩ = some (.slice A0_2 l0_2.length c0_2) := HP0.out.2.2.1
  have hxr11_3 : w.cell? ⟨ad0.block, ad0.off + 3, none⟩ = some (.slice A0_3 l0_3.length c0_3) := HP0.out.2.2.2.1
  go_enter Try.func59, Try.ntmps59
  go_wp2
  go_ret
  exact ⟨rfs, by repeat (first | exact Drawn0.refl _ | apply Drawn0.step)⟩
 rw [if_pos c3] at H
 have c3b0 : ((l0_3.length : Int) == 0) = true := beq_iff_eq.mpr c3
 have c3b1 : ((l0_3.length : Int) != 0) = false := bne_eq_false_iff_eq.mpr c3
 clear c3
 by_cases c4 : a0_0 = 1
 ·rw [if_pos c4] at H
  have c4b0 : (a0_0 == 1) = true := beq_iff_eq.mpr c4
  have c4b1 : (a0_0 != 1) = false := bne_eq_false_iff_eq.mpr c4
  clear c4
  obtain rfl := Option.some.inj H
  have hxr5_0 : w.cell? ad0 = some (.int .i64 a0_0) := HP0.out.1
  have hxr5_1 : w.cell? ⟨ad0.block, ad0.off + 1, none⟩ = some (.int .i64 a0_1) := HP0.out.2.1
  have hxr5_2 : w.cell? ⟨ad0.block, ad0.off + 2, none⟩ = some (.slice A0_2 l0_2.length c0_2) := HP0.out.2.2.1
  have hxr5_3 : w.cell? ⟨ad0.block, ad0.off + 3, none⟩ = some (.slice A0_3 l0_3.length c0_3) := HP0.out.2.2.2.1
  go_enter Try.func59, Try.ntmps59
  go_wp2
  go_ret
  exact ⟨rfs, by repeat (first | exact Drawn0.refl _ | apply Drawn0.step)⟩
 rw [if_neg c4] at H
 have c4b0 : (a0_0 == 1) = false := beq_eq_false_iff_ne.mpr c4
 have c4b1 : (a0_0 != 1) = true := bne_iff_ne.mpr c4
 by_cases c6 : a0_0 = 2
 case neg =>
  rw [if_neg c6] at H
  have c6b0 : (a0_0 == 2) = false := beq_eq_false_iff_ne.mpr c6
  have c6b1 : (a0_0 != 2) = true := bne_iff_ne.mpr c6
  obtain rfl := Option.some.inj H
  have hxr10_0 : w.cell? ad0 = some (.int .i64 a0_0) := HP0.out.1
  have hxr10_1 : w.cell? ⟨ad0.block, ad0.off + 1, none⟩ = some (.int .i64 a0_1) := HP0.out.2.1
  have hxr10_2 : w.cell? ⟨ad0.block, ad0.off + 2, none⟩ = some (.slice A0_2 l0_2.length c0_2) := HP0.out.2.2.1
  have hxr10_3 : w.cell? ⟨ad0.block, ad0.off + 3, none⟩ = some (.slice A0_3 l0_3.length c0_3) := HP0.out.2.2.2.1
  go_enter Try.func59, Try.ntmps59
  go_wp2
  go_ret
  exact ⟨rfs, by repeat (first | exact Drawn0.refl _ | apply Drawn0.step)⟩
 rw [if_pos c6] at H
 have c6b0 : (a0_0 == 2) = true := beq_iff_eq.mpr c6
 have c6b1 : (a0_0 != 2) = false := bne_eq_false_iff_eq.mpr c6
 clear c6
 by_cases c7 : a0_1 = 0
 case neg =>
  rw [if_neg c7] at H
  have c7b0 : (a0_1 == 0) = false := beq_eq_false_iff_ne.mpr c7
  have c7b1 : (a0_1 != 0) = true := bne_iff_ne.mpr c7
  obtain rfl := Option.some.inj H
  have hxr9_0 : w.cell? ad0 = some (.int .i64 a0_0) := HP0.out.1
  have hxr9_1 : w.cell? ⟨ad0.block, ad0.off + 1, none⟩ = some (.int .i64 a0_1) := HP0.out.2.1
  have hxr9_2 : w.cell? ⟨ad0.block, ad0.off + 2, none⟩ = some (.slice A0_2 l0_2.length c0_2) := HP0.out.2.2.1
  have hxr9_3 : w.cell? ⟨ad0.block, ad0.off + 3, none⟩ = some (.slice A0_3 l0_3.length c0_3) := HP0.out.2.2.2.1
  go_enter Try.func59, Try.ntmps59
  go_wp2
  go_ret
  exact ⟨rfs, by repeat (first | exact Drawn0.refl _ | apply Drawn0.step)⟩
 rw [if_pos c7] at H
 have c7b0 : (a0_1 == 0) = true := beq_iff_eq.mpr c7
 have c7b1 : (a0_1 != 0) = false := bne_eq_false_iff_eq.mpr c7
 clear c7
 obtain rfl := Option.some.inj H
 have hxr8_0 : w.cell? ad0 = some (.int .i64 a0_0) := HP0.out.1
 have hxr8_1 : w.cell? ⟨ad0.block, ad0.off + 1, none⟩ = some (.int .i64 a0_1) := HP0.out.2.1
 have hxr8_2 : w.cell? ⟨ad0.block, ad0.off + 2, none⟩ = some (.slice A0_2 l0_2.length c0_2) := HP0.out.2.2.1
 have hxr8_3 : w.cell? ⟨ad0.block, ad0.off + 3, none⟩ = some (.slice A0_3 l0_3.length c0_3) := HP0.out.2.2.2.1
 go_enter Try.func59, Try.ntmps59
 go_wp2
 go_ret
 exact ⟨rfs, by repeat (first | exact Drawn0.refl _ | apply Drawn0.step)⟩

/-! ### slices_Equal_string: function 61 -/
def slices_Equal_string.l0 : Nat → List ByteArray → List ByteArray → Int → Int → Option (Bool)
 | 0, _, _, _, _ => none
 | k + 1, x0, x1, x12, x13 => if x13 < x12 then (if 0 ≤ x13 then (if x13 < (x0.length : Int) then (if x13 < (x1.length : Int) then (if (rdOf ByteArray.empty x0 x13).toList = (rdOf ByteArray.empty x1 x13).toList then (slices_Equal_string.l0 k x0 x1 x12 (wrap64 (x13 + 1))) else (some false)) else (none)) else (none)) else (none)) else (some true)
def slices_Equal_string.f (k : Nat) (l0 : List ByteArray) (l1 : List ByteArray) : Option (Bool) := if (l0.length : Int) = (l1.length : Int) then (slices_Equal_string.l0 k l0 l1 (l0.length : Int) 0) else (some false)
theorem slices_Equal_string.calls (k : Nat) (A0 : Option Addr) (c0 : Nat) (l0 : List ByteArray) (A1 : Option Addr) (c1 : Nat) (l1 : List ByteArray) (r : Bool) (w : World) (hr0 : Kd.C Kd.string w A0 l0.length l0) (hc0 : l0.length ≤ c0) (hr1 : Kd.C Kd.string w A1 l1.length l1) (hc1 : l1.length ≤ c1) (h : slices_Equal_string.f k l0 l1 = some r) :
  Calls Try.prog 61 #[.slice A0 l0.length c0, .slice A1 l1.length c1] w fun e w' => e = .returned (.bool r) ∧ Drawn0 w w' := by
 have HR0 := Aside0.mk hr0
 have HC0 := Aside0.mk hc0
 clear hr0 hc0
 have HR1 := Aside0.mk hr1
 have HC1 := Aside0.mk hc1
 clear hr1 hc1
 have H : (if (l0.length : Int) = (l1.length : Int) then (slices_Equal_string.l0 k l0 l1 (l0.length : Int) 0) else (some false)) = some r := h
 clear h
 by_cases c3 : (l0.length : Int) = (l1.length : Int)
 case neg =>
  rw [if_neg c3] at H
  have c3b0 : ((l0.length : Int) == (l1.length : Int)) = false := beq_eq_false_iff_ne.mpr c3
  have c3b1 : ((l0.length : Int) != (l1.length : Int)) = true := bne_iff_ne.mpr c3
  have c3b2 : (l0.length == l1.length) = false := by first | simpa using c3 | (simp at c3 ⊢; omega)
  obtain rfl := Option.some.inj H
  go_enter Try.func61, Try.ntmps61
  go_wp2
  repeat (go_quiet (fail); try go_wp2)
  go_ret
  exact ⟨rfs, by repeat (first | exact Drawn0.refl _ | apply Drawn0.step)⟩
 rw [if_pos c3] at H
 have c3b0 : ((l0.length : Int) == (l1.length : Int)) = true := beq_iff_eq.mpr c3
 have c3b1 : ((l0.length : Int) != (l1.length : Int)) = false := bne_eq_false_iff_eq.mpr c3
 have c3b2 : (l0.length == l1.length) = true := by first | simpa using c3 | (simp at c3 ⊢; omega)
 clear c3
 have H' := Aside0.mk H
 clear H
 go_enter Try.func61, Try.ntmps61
 go_wp2
 repeat (go_quiet (fail); try go_wp2)
 go_loopg [13] k (fun kq v13 w' => ∃ (x13_1 : Int), v13 = .int .i64 x13_1 ∧ Aside0 (slices_Equal_string.l0 kq l0 l1 (l0.length : Int) x13_1 = some r) ∧ Aside0 (kq ≤ k) ∧ Drawn0 w w')
 case atStart => exact ⟨(0), rfs, H', ⟨Nat.le_refl _⟩, by repeat (first | exact Drawn0.refl _ | apply Drawn0.step)⟩
 case round =>
  clear H'
  (try clear c1); (try clear p2); (try clear c3); (try clear c3b0); (try clear c3b1); (try clear c3b2)
  obtain ⟨x13_1, rfl, HA, HK1, ⟨m1, rfl⟩⟩ := hrel
  cases gk with
  | zero => exact absurd HA.out (by simp [slices_Equal_string.l0])
  | succ k1 =>
   have H := HA.out
   clear HA
   simp only [slices_Equal_string.l0] at H
   by_cases c4 : x13_1 < (l0.length : Int)
   case neg =>
    rw [if_neg c4] at H
    have c4b0 : decide (x13_1 < (l0.length : Int)) = false := decide_eq_false c4
    clear c4
    obtain rfl := Option.some.inj H
    go_wp2
    repeat (go_quiet (fail); try go_wp2)
    go_ret
    exact ⟨rfs, by repeat (first | exact Drawn0.refl _ | apply Drawn0.step)⟩
   rw [if_pos c4] at H
   have c4b0 : decide (x13_1 < (l0.length : Int)) = true := decide_eq_true c4
   clear c4
   by_cases c5 : 0 ≤ x13_1
   case neg =>
    rw [if_neg c5] at H
    exact absurd H (by simp)
   rw [if_pos c5] at H
   have c5b0 : decide (0 ≤ x13_1) = true := decide_eq_true c5
   clear c5
   by_cases c6 : x13_1 < (l0.length : Int)
   case neg =>
    rw [if_neg c6] at H
    exact absurd H (by simp)
   rw [if_pos c6] at H
   have c6b0 : decide (x13_1 < (l0.length : Int)) = true := decide_eq_true c6
   clear c6
   by_cases c7 : x13_1 < (l1.length : Int)
   case neg =>
    rw [if_neg c7] at H
    exact absurd H (by simp)
   rw [if_pos c7] at H
   have c7b0 : decide (x13_1 < (l1.length : Int)) = true := decide_eq_true c7
   clear c7
   by_cases c8 : (rdOf ByteArray.empty l0 x13_1).toList = (rdOf ByteArray.empty l1 x13_1).toList
   case neg =>
    rw [if_neg c8] at H
    have c8b0 : ((rdOf ByteArray.empty l0 x13_1).toList == (rdOf ByteArray.empty l1 x13_1).toList) = false := beq_eq_false_iff_ne.mpr c8
    have c8b1 : ((rdOf ByteArray.empty l0 x13_1).toList != (rdOf ByteArray.empty l1 x13_1).toList) = true := bne_iff_ne.mpr c8
    obtain rfl := Option.some.inj H
    have p344 : 0 ≤ (x13_1 : Int) := of_decide_eq_true asw
    have q344 : x13_1 < (l0.length : Int) := of_decide_eq_true asw
    obtain ⟨ad344, e344, hx344_0⟩ := Kd.at_string HR0.out x13_1 p344 q344
    cases e344
    replace p344 := eq_true p344
    replace q344 := eq_true q344
    have p345 : 0 ≤ (x13_1 : Int) := of_decide_eq_true asw
    have q345 : x13_1 < (l1.length : Int) := of_decide_eq_true asw
    obtain ⟨ad345, e345, hx345_0⟩ := Kd.at_string HR1.out x13_1 p345 q345
    cases e345
    replace p345 := eq_true p345
    replace q345 := eq_true q345
    go_wp2
    repeat (go_quiet (fail); try go_wp2)
    go_ret
    exact ⟨rfs, by repeat (first | exact Drawn0.refl _ | apply Drawn0.step)⟩
   rw [if_pos c8] at H
   have c8b0 : ((rdOf ByteArray.empty l0 x13_1).toList == (rdOf ByteArray.empty l1 x13_1).toList) = true := beq_iff_eq.mpr c8
   have c8b1 : ((rdOf ByteArray.empty l0 x13_1).toList != (rdOf ByteArray.empty l1 x13_1).toList) = false := bne_eq_false_iff_eq.mpr c8
   clear c8
   have H' := Aside0.mk H
   clear H
   have p344 : 0 ≤ (x13_1 : Int) := of_decide_eq_true asw
   have q344 : x13_1 < (l0.length : Int) := of_decide_eq_true asw
   obtain ⟨ad344, e344, hx344_0⟩ := Kd.at_string HR0.out x13_1 p344 q344
   cases e344
   replace p344 := eq_true p344
   replace q344 := eq_true q344
   have p345 : 0 ≤ (x13_1 : Int) := of_decide_eq_true asw
   have q345 : x13_1 < (l1.length : Int) := of_decide_eq_true asw
   obtain ⟨ad345, e345, hx345_0⟩ := Kd.at_string HR1.out x13_1 p345 q345
   cases e345
   replace p345 := eq_true p345
   replace q345 := eq_true q345
   go_wp2
   repeat (go_quiet (fail); try go_wp2)
   go_roundg k1
   case measure => have := HK1.out; omega
   case rel => exact ⟨(wrap64 (x13_1 + 1)), rfs, H', ⟨by have := HK1.out; omega⟩, by repeat (first | exact Drawn0.refl _ | apply Drawn0.step)⟩

end Go.Proofs.Ytfbecaplnigmaaa.Px
