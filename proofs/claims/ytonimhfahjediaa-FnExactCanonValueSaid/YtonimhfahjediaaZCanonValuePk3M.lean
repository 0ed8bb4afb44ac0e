/- Printed by a program of this session: what functions of the translation come to, each contract as it stands. No condition. -/
import Derived.Test.YtonimhfahjediaaZCanonValueSh
import Derived.Test.YtonimhfahjediaaZCanonValueWTabM
section
namespace Go.Proofs.Ytonimhfahjediaa.Pk
set_option maxHeartbeats 8000000
set_option maxRecDepth 100000
open Go.RowKit Go.Proofs.Ytonimhfahjediaa.Ext Go.Proofs.YtonimhfahjediaaW.PrintWords Go.Proofs.YtonimhfahjediaaW.PrintLast Go.Proofs.YtonimhfahjediaaW.PrintMore
attribute [local go_sem] max2_int min2_int max_two min_two max_three min_three max_four min_four   -- for this text's walks alone
set_option linter.unusedVariables false
set_option linter.unusedSimpArgs false

mutual
def laws_eqValue.f : Nat → Int → Int → List ByteArray → List (S30) → Int → Int → List ByteArray → List (S30) → Option (Bool)
 | 0, _, _, _, _, _, _, _, _ => none
 | k + 1, a0_0, a0_1, l0_2, l0_3, a1_0, a1_1, l1_2, l1_3 => if a0_0 = a1_0 then (if a0_1 = a1_1 then ((laws_eqStringS.f k l0_2 l1_2).bind fun t138 => (if t138 = true then ((laws_eqValueS.f k l0_3 l1_3).bind fun t139 => (if t139 = true then (some true) else (some false))) else (some false))) else (some false)) else (some false)
def laws_eqValueS.l0 : Nat → List (S30) → List (S30) → Int → Option (Bool)
 | 0, _, _, _ => none
 | k + 1, x0, x1, x5 => if x5 < (x0.length : Int) then (if 0 ≤ x5 then (if x5 < (x1.length : Int) then ((laws_eqValue.f k ((rd_T30 x0 x5).f0) ((rd_T30 x0 x5).f1) ((rd_T30 x0 x5).f2) ((rd_T30 x0 x5).f3) ((rd_T30 x1 x5).f0) ((rd_T30 x1 x5).f1) ((rd_T30 x1 x5).f2) ((rd_T30 x1 x5).f3)).bind fun t142 => (if t142 = true then (laws_eqValueS.l0 k x0 x1 (wrap64 (x5 + 1))) else (some false))) else (none)) else (none)) else (some true)
def laws_eqValueS.f : Nat → List (S30) → List (S30) → Option (Bool)
 | 0, _, _ => none
 | k + 1, l0, l1 => if (l0.length : Int) = (l1.length : Int) then (laws_eqValueS.l0 k l0 l1 0) else (some false)
end
abbrev laws_eqValue.T (k : Nat) : Prop := ∀ (a0_0 : Int) (a0_1 : Int) (A0_2 : Option Addr) (c0_2 : Nat) (l0_2 : List ByteArray) (A0_3 : Option Addr) (c0_3 : Nat) (l0_3 : List (S30)) (a1_0 : Int) (a1_1 : Int) (A1_2 : Option Addr) (c1_2 : Nat) (l1_2 : List ByteArray) (A1_3 : Option Addr) (c1_3 : Nat) (l1_3 : List (S30)) (r : Bool) (w : World) (hr0_2 : Kd.C Kd.string w A0_2 l0_2.length l0_2) (hc0_2 : l0_2.length ≤ c0_2) (hr0_3 : Kd.C k30 w A0_3 l0_3.length l0_3) (hc0_3 : l0_3.length ≤ c0_3) (hr1_2 : Kd.C Kd.string w A1_2 l1_2.length l1_2) (hc1_2 : l1_2.length ≤ c1_2) (hr1_3 : Kd.C k30 w A1_3 l1_3.length l1_3) (hc1_3 : l1_3.length ≤ c1_3) (h : laws_eqValue.f k a0_0 a0_1 l0_2 l0_3 a1_0 a1_1 l1_2 l1_3 = some r),
  Calls Try.prog 10 #[.agg #[.int .i64 a0_0, .int .i64 a0_1, .slice A0_2 l0_2.length c0_2, .slice A0_3 l0_3.length c0_3], .agg #[.int .i64 a1_0, .int .i64 a1_1, .slice A1_2 l1_2.length c1_2, .slice A1_3 l1_3.length c1_3]] w fun e w' => e = .returned (.bool r) ∧ Below w.heap.size w w'
abbrev laws_eqValueS.T (k : Nat) : Prop := ∀ (A0 : Option Addr) (c0 : Nat) (l0 : List (S30)) (A1 : Option Addr) (c1 : Nat) (l1 : List (S30)) (r : Bool) (w : World) (hr0 : Kd.C k30 w A0 l0.length l0) (hc0 : l0.length ≤ c0) (hr1 : Kd.C k30 w A1 l1.length l1) (hc1 : l1.length ≤ c1) (h : laws_eqValueS.f k l0 l1 = some r),
  Calls Try.prog 24 #[.slice A0 l0.length c0, .slice A1 l1.length c1] w fun e w' => e = .returned (.bool r) ∧ Below w.heap.size w w'
/-! ### laws_eqValue: function 10 -/
theorem laws_eqValue.step (k : Nat) (ih : ∀ m, m < k → laws_eqValue.T m) (ih_24 : ∀ m, m < k → laws_eqValueS.T m) : laws_eqValue.T k := by
 intro a0_0 a0_1 A0_2 c0_2 l0_2 A0_3 c0_3 l0_3 a1_0 a1_1 A1_2 c1_2 l1_2 A1_3 c1_3 l1_3 r w hr0_2 hc0_2 hr0_3 hc0_3 hr1_2 hc1_2 hr1_3 hc1_3 h
 cases k with
 | zero => exact absurd h (by simp [laws_eqValue.f])
 | succ k =>
 simp only [laws_eqValue.f] at h
 have hu30 := Try.underlying30
 have HR0_2 := am hr0_2
 have HC0_2 := am hc0_2
 clear hr0_2 hc0_2
 have HR0_3 := am hr0_3
 have HC0_3 := am hc0_3
 clear hr0_3 hc0_3
 have HR1_2 := am hr1_2
 have HC1_2 := am hc1_2
 clear hr1_2 hc1_2
 have HR1_3 := am hr1_3
 have HC1_3 := am hc1_3
 clear hr1_3 hc1_3
 have HB := am (Below.refl w.heap.size w)
 have H : (if a0_0 = a1_0 then (if a0_1 = a1_1 then ((laws_eqStringS.f k l0_2 l1_2).bind fun t138 => (if t138 = true then ((laws_eqValueS.f k l0_3 l1_3).bind fun t139 => (if t139 = true then (some true) else (some false))) else (some false))) else (some false)) else (some false)) = some r := h
 clear h
 have HC3 := am H
 clear H
 go_enter Try.func10, Try.ntmps10
 go_upto_if 9 with (first | ((with_reducible refine gate_dst (N := 2) rfl ?_); refine box_event ?hg (N := 2) ?hd (cs := #[.int .i64 a0_0, .int .i64 a0_1, .slice A0_2 l0_2.length c0_2, .slice A0_3 l0_3.length c0_3]) (t := 30) ?hr ?_; (case hd => rfl); (case hg => rfl); (case hr => exact hrw); intro gb136 hg w4 hbox hb; have n0_ := am (below_step blw hb); have n1_ := am (hbox); have n2_ := am ((by rw [hg]; exact (below_size blw) : w.heap.size ≤ gb136)); have n3_ := n2_; clear HB; revert n0_ n1_ n2_ n3_; intro HB BK136 GW136 GE136; clear hb hbox hg) | ((with_reducible refine gate_dst (N := 3) rfl ?_); refine box_event ?hg (N := 3) ?hd (cs := #[.int .i64 a1_0, .int .i64 a1_1, .slice A1_2 l1_2.length c1_2, .slice A1_3 l1_3.length c1_3]) (t := 30) ?hr ?_; (case hd => rfl); (case hg => rfl); (case hr => exact hrw); intro gb137 hg w5 hbox hb; have n0_ := am (blk_below (g := gb136) bkw hb); have n1_ := am (below_step blw hb); have n2_ := am (hbox); have n3_ := am ((by rw [hg]; exact (below_size blw) : w.heap.size ≤ gb137)); have n4_ := n3_; have n5_ := am ((by rw [hg]; exact Nat.ne_of_lt (blk_lt (g := gb136) bkw) : gb136 ≠ gb137)); have n6_ := am ((by rw [hg]; exact Nat.ne_of_gt (blk_lt (g := gb136) bkw) : gb137 ≠ gb136)); clear BK136; clear HB; revert n0_ n1_ n2_ n3_ n4_ n5_ n6_; intro BK136 HB BK137 GW137 GE137 NB136_137 NB137_136; clear hb hbox hg; have hnb6 := NB136_137.out; have hnc6 := NB137_136.out; obtain ⟨hcz7_0, hcz7_1, hcz7_2, hcz7_3⟩ := cls4 BK136.out; obtain ⟨hfz7_0, hfz7_1, hfz7_2, hfz7_3⟩ := frz4 BK136.out; obtain ⟨hcz8_0, hcz8_1, hcz8_2, hcz8_3⟩ := cls4 BK137.out; obtain ⟨hfz8_0, hfz8_1, hfz8_2, hfz8_3⟩ := frz4 BK137.out))
 have H := HC3.out
 clear HC3
 by_cases c9 : a0_0 = a1_0
 case neg =>
  rw [if_neg c9] at H
  have c9b0 : (a0_0 == a1_0) = false := beq_eq_false_iff_ne.mpr c9
  have c9b1 : (a0_0 != a1_0) = true := bne_iff_ne.mpr c9
  (first | rw [c9b0] | (simp only [i64_w, i32_w]; rw [c9b0]) | (rw [c9b1]; (try simp only [Bool.not_true, Bool.not_false])) | skip)
  obtain rfl := Option.some.inj H
  go_wp2
  go_ret
  exact ⟨rfw, blw⟩
 rw [if_pos c9] at H
 have c9b0 : (a0_0 == a1_0) = true := beq_iff_eq.mpr c9
 have c9b1 : (a0_0 != a1_0) = false := bne_eq_false_iff_eq.mpr c9
 clear c9
 (first | rw [c9b0] | (simp only [i64_w, i32_w]; rw [c9b0]) | (rw [c9b1]; (try simp only [Bool.not_true, Bool.not_false])) | skip)
 by_cases c10 : a0_1 = a1_1
 case neg =>
  rw [if_neg c10] at H
  have c10b0 : (a0_1 == a1_1) = false := beq_eq_false_iff_ne.mpr c10
  have c10b1 : (a0_1 != a1_1) = true := bne_iff_ne.mpr c10
  obtain rfl := Option.some.inj H
  have hnb24 := NB136_137.out
  have hnc24 := NB137_136.out
  obtain ⟨hcz25_0, hcz25_1, hcz25_2, hcz25_3⟩ := cls4 BK136.out
  obtain ⟨hfz25_0, hfz25_1, hfz25_2, hfz25_3⟩ := frz4 BK136.out
  obtain ⟨hcz26_0, hcz26_1, hcz26_2, hcz26_3⟩ := cls4 BK137.out
  obtain ⟨hfz26_0, hfz26_1, hfz26_2, hfz26_3⟩ := frz4 BK137.out
  go_wp2
  go_ret
  exact ⟨rfw, blw⟩
 rw [if_pos c10] at H
 have c10b0 : (a0_1 == a1_1) = true := beq_iff_eq.mpr c10
 have c10b1 : (a0_1 != a1_1) = false := bne_eq_false_iff_eq.mpr c10
 clear c10
 replace H := Option.bind_eq_some_iff.mp H
 obtain ⟨t138, A110, H⟩ := H
 replace H : (if t138 = true then ((laws_eqValueS.f k l0_3 l1_3).bind fun t139 => (if t139 = true then (some true) else (some false))) else (some false)) = some r := H
 have A11 := am A110
 clear A110
 have HC12 := am H
 clear H
 have hnb13 := NB136_137.out
 have hnc13 := NB137_136.out
 obtain ⟨hcz14_0, hcz14_1, hcz14_2, hcz14_3⟩ := cls4 BK136.out
 obtain ⟨hfz14_0, hfz14_1, hfz14_2, hfz14_3⟩ := frz4 BK136.out
 obtain ⟨hcz15_0, hcz15_1, hcz15_2, hcz15_3⟩ := cls4 BK137.out
 obtain ⟨hfz15_0, hfz15_1, hfz15_2, hfz15_3⟩ := frz4 BK137.out
 go_upto_if 20 with (first | ((with_reducible refine gate_callee (f := 23) rfl ?_); refine goesL_ (some 19) rfl rfl Try.func23 kr rfl #[.slice A0_2 l0_2.length c0_2, .slice A1_2 l1_2.length c1_2] rfl mpw ?_; (with_reducible refine (laws_eqStringS.calls k _ _ l0_2 _ _ l1_2 t138 _ ?side1 ?side2 ?side3 ?side4 A11.out).mono ?_); (case side1 => have X_ := HR0_2; exact cbl); (case side2 => exact HC0_2.out); (case side3 => have X_ := HR1_2; exact cbl); (case side4 => exact HC1_2.out); rintro e w' ⟨rfl, ⟨nd, rfl⟩⟩; refine ⟨_, rfl, ?_⟩))
 have H := HC12.out
 clear HC12
 by_cases c16 : t138 = true
 case neg =>
  replace c16 := Bool.eq_false_iff.mpr c16
  subst c16
  have H1 : (some false) = some r := by rw [if_neg (show ¬ (false = true) by decide)] at H; exact H
  clear H
  have H := H1
  clear H1
  obtain rfl := Option.some.inj H
  go_wp2
  go_ret
  exact ⟨rfw, blw⟩
 subst c16
 have H1 : ((laws_eqValueS.f k l0_3 l1_3).bind fun t139 => (if t139 = true then (some true) else (some false))) = some r := by rw [if_pos rfl] at H; exact H
 clear H
 have H := H1
 clear H1
 replace H := Option.bind_eq_some_iff.mp H
 obtain ⟨t139, A170, H⟩ := H
 replace H : (if t139 = true then (some true) else (some false)) = some r := H
 have A17 := am A170
 clear A170
 have HC18 := am H
 clear H
 have hnb19 := NB136_137.out
 have hnc19 := NB137_136.out
 obtain ⟨hcz20_0, hcz20_1, hcz20_2, hcz20_3⟩ := cls4 BK136.out
 obtain ⟨hfz20_0, hfz20_1, hfz20_2, hfz20_3⟩ := frz4 BK136.out
 obtain ⟨hcz21_0, hcz21_1, hcz21_2, hcz21_3⟩ := cls4 BK137.out
 obtain ⟨hfz21_0, hfz21_1, hfz21_2, hfz21_3⟩ := frz4 BK137.out
 go_upto_if 26 with (first | ((with_reducible refine gate_callee (f := 24) rfl ?_); refine goesL_ (some 25) rfl rfl Try.func24 kr rfl #[.slice A0_3 l0_3.length c0_3, .slice A1_3 l1_3.length c1_3] rfl mpw ?_; (with_reducible refine (ih_24 k (by omega) _ _ l0_3 _ _ l1_3 t139 _ ?side1 ?side2 ?side3 ?side4 A17.out).mono ?_); (case side1 => have X_ := HR0_3; exact cbl); (case side2 => exact HC0_3.out); (case side3 => have X_ := HR1_3; exact cbl); (case side4 => exact HC1_3.out); rintro e w22 ⟨rfl, hb⟩; refine ⟨_, rfl, ?_⟩; have n0_ := am (blk_below (g := gb136) bkw hb); have n1_ := am (blk_below (g := gb137) bkw hb); have n2_ := am (below_step blw hb); clear BK136; clear BK137; clear HB; revert n0_ n1_ n2_; intro BK136 BK137 HB; (try clear hb); (try clear hb2); (try clear hk); (try clear hi)))
 have H := HC18.out
 clear HC18
 by_cases c23 : t139 = true
 ·subst c23
  have H1 : (some true) = some r := by rw [if_pos rfl] at H; exact H
  clear H
  have H := H1
  clear H1
  obtain rfl := Option.some.inj H
  go_wp2
  go_ret
  exact ⟨rfw, blw⟩
 replace c23 := Bool.eq_false_iff.mpr c23
 subst c23
 have H1 : (some false) = some r := by rw [if_neg (show ¬ (false = true) by decide)] at H; exact H
 clear H
 have H := H1
 clear H1
 obtain rfl := Option.some.inj H
 go_wp2
 go_ret
 exact ⟨rfw, blw⟩

/-! ### laws_eqValueS: function 24 -/
def laws_eqValueS.T6 : Bool × List (List Nat × List Nat) := (true, [([], []), ([], []), ([0, 1], [0, 1]), ([2], [2]), ([], []), ([], []), ([4, 5], [4, 5]), ([6], [6]), ([3, 7], [3, 7]), ([8], [8])])
def laws_eqValueS.B6 : List Nat := [0, 0, 3, 7, 0, 0, 48, 112, 255, 511]
theorem laws_eqValueS.tab6 : rtab .any (opsOf Try.f24 6) = laws_eqValueS.T6 := by kernel_rfl
theorem laws_eqValueS.bits6 : waitsOk laws_eqValueS.T6.2 laws_eqValueS.B6 = true := by kernel_rfl
theorem laws_eqValueS.step (k : Nat) (ih : ∀ m, m < k → laws_eqValueS.T m) (ih_10 : ∀ m, m < k → laws_eqValue.T m) : laws_eqValueS.T k := by
 intro A0 c0 l0 A1 c1 l1 r w hr0 hc0 hr1 hc1 h
 cases k with
 | zero => exact absurd h (by simp [laws_eqValueS.f])
 | succ k =>
 simp only [laws_eqValueS.f] at h
 have hu30 := Try.underlying30
 have HR0 := am hr0
 have HC0 := am hc0
 clear hr0 hc0
 have HR1 := am hr1
 have HC1 := am hc1
 clear hr1 hc1
 have HB := am (Below.refl w.heap.size w)
 have H : (if (l0.length : Int) = (l1.length : Int) then (laws_eqValueS.l0 k l0 l1 0) else (some false)) = some r := h
 clear h
 by_cases c3 : (l0.length : Int) = (l1.length : Int)
 case neg =>
  rw [if_neg c3] at H
  have c3b0 : ((l0.length : Int) == (l1.length : Int)) = false := beq_eq_false_iff_ne.mpr c3
  have c3b1 : ((l0.length : Int) != (l1.length : Int)) = true := bne_iff_ne.mpr c3
  have c3b2 : (l0.length == l1.length) = false := by first | simpa using c3 | (simp at c3 ⊢; omega)
  obtain rfl := Option.some.inj H
  go_enter Try.func24, Try.ntmps24
  go_wp2
  go_ret
  exact ⟨rfw, blw⟩
 rw [if_pos c3] at H
 have c3b0 : ((l0.length : Int) == (l1.length : Int)) = true := beq_iff_eq.mpr c3
 have c3b1 : ((l0.length : Int) != (l1.length : Int)) = false := bne_eq_false_iff_eq.mpr c3
 have c3b2 : (l0.length == l1.length) = true := by first | simpa using c3 | (simp at c3 ⊢; omega)
 clear c3
 have H' := am H
 clear H
 go_enter Try.func24, Try.ntmps24
 go_wp2
 go_loopg [5] k (fun kq v5 w' => ∃ (x5_1 : Int), v5 = .int .i64 x5_1 ∧ Aside0 (laws_eqValueS.l0 kq l0 l1 x5_1 = some r) ∧ Aside0 (kq ≤ k) ∧ Aside0 (Below w.heap.size w w'))
 case atStart => exact ⟨(0), rfs, H', ⟨Nat.le_refl _⟩, ⟨blw⟩⟩
 case round =>
  clear H'
  (try clear c1); (try clear c2); (try clear p2); (try clear c3); (try clear c3b0); (try clear c3b1); (try clear c3b2)
  obtain ⟨x5_1, rfl, HA, HK1, HB⟩ := hrel
  cases gk with
  | zero => exact absurd HA.out (by simp [laws_eqValueS.l0])
  | succ k1 =>
   have H := HA.out
   clear HA
   simp only [laws_eqValueS.l0] at H
   by_cases c4 : x5_1 < (l0.length : Int)
   case neg =>
    rw [if_neg c4] at H
    have c4b0 : decide (x5_1 < (l0.length : Int)) = false := decide_eq_false c4
    clear c4
    obtain rfl := Option.some.inj H
    go_wp2
    go_ret
    exact ⟨rfw, blw⟩
   rw [if_pos c4] at H
   have c4b0 : decide (x5_1 < (l0.length : Int)) = true := decide_eq_true c4
   clear c4
   by_cases c5 : 0 ≤ x5_1
   case neg =>
    rw [if_neg c5] at H
    exact absurd H (by simp)
   rw [if_pos c5] at H
   have c5b0 : decide (0 ≤ x5_1) = true := decide_eq_true c5
   clear c5
   by_cases c6 : x5_1 < (l1.length : Int)
   case neg =>
    rw [if_neg c6] at H
    exact absurd H (by simp)
   rw [if_pos c6] at H
   have c6b0 : decide (x5_1 < (l1.length : Int)) = true := decide_eq_true c6
   clear c6
   replace H := Option.bind_eq_some_iff.mp H
   obtain ⟨t142, A70, H⟩ := H
   replace H : (if t142 = true then (laws_eqValueS.l0 k1 l0 l1 (wrap64 (x5_1 + 1))) else (some false)) = some r := H
   have A7 := am A70
   clear A70
   have HC8 := am H
   clear H
   try go_wp2
   have n0_ := am (below_drew1 HB.out)
   clear HB
   revert n0_
   intro HB
   have p140 : 0 ≤ (x5_1 : Int) := of_decide_eq_true asw
   have q140 : x5_1 < (l0.length : Int) := of_decide_eq_true asw
   obtain ⟨ad140, A140_2, c140_2, A140_3, c140_3, e140, hx140_0, hx140_1, hx140_2, hx140_3, hl140_2, hi140_2, hl140_3, hi140_3⟩ := at_T30 HR0.out x5_1 p140 q140
   have hw140_3 := hx140_3
   have hw140_2 := hx140_2
   have hw140_1 := hx140_1
   have hw140_0 := hx140_0
   cases e140
   replace hx140_0 := upw HB.out hx140_0
   replace hx140_1 := upw HB.out hx140_1
   replace hx140_2 := upw HB.out hx140_2
   replace hx140_3 := upw HB.out hx140_3
   have HR140_2 := am hi140_2
   have HC140_2 := am hl140_2
   clear hi140_2 hl140_2
   have HR140_3 := am hi140_3
   have HC140_3 := am hl140_3
   clear hi140_3 hl140_3
   replace p140 := eq_true p140
   replace q140 := eq_true q140
   have p141 : 0 ≤ (x5_1 : Int) := of_decide_eq_true asw
   have q141 : x5_1 < (l1.length : Int) := of_decide_eq_true asw
   obtain ⟨ad141, A141_2, c141_2, A141_3, c141_3, e141, hx141_0, hx141_1, hx141_2, hx141_3, hl141_2, hi141_2, hl141_3, hi141_3⟩ := at_T30 HR1.out x5_1 p141 q141
   have hw141_3 := hx141_3
   have hw141_2 := hx141_2
   have hw141_1 := hx141_1
   have hw141_0 := hx141_0
   cases e141
   replace hx141_0 := upw HB.out hx141_0
   replace hx141_1 := upw HB.out hx141_1
   replace hx141_2 := upw HB.out hx141_2
   replace hx141_3 := upw HB.out hx141_3
   have HR141_2 := am hi141_2
   have HC141_2 := am hl141_2
   clear hi141_2 hl141_2
   have HR141_3 := am hi141_3
   have HC141_3 := am hl141_3
   clear hi141_3 hl141_3
   replace p141 := eq_true p141
   replace q141 := eq_true q141
   refine start_ (n := 10) (S := fun w' => w'.cell? (ad140.add ((x5_1).toNat * 4)) = some (.int .i64 ((rd_T30 l0 x5_1).f0)) ∧ w'.cell? ⟨(ad140.add ((x5_1).toNat * 4)).block, (ad140.add ((x5_1).toNat * 4)).off + 1, none⟩ = some (.int .i64 ((rd_T30 l0 x5_1).f1)) ∧ w'.cell? ⟨(ad140.add ((x5_1).toNat * 4)).block, (ad140.add ((x5_1).toNat * 4)).off + 2, none⟩ = some (.slice A140_2 ((rd_T30 l0 x5_1).f2).length c140_2) ∧ w'.cell? ⟨(ad140.add ((x5_1).toNat * 4)).block, (ad140.add ((x5_1).toNat * 4)).off + 3, none⟩ = some (.slice A140_3 ((rd_T30 l0 x5_1).f3).length c140_3) ∧ w'.cell? (ad141.add ((x5_1).toNat * 4)) = some (.int .i64 ((rd_T30 l1 x5_1).f0)) ∧ w'.cell? ⟨(ad141.add ((x5_1).toNat * 4)).block, (ad141.add ((x5_1).toNat * 4)).off + 1, none⟩ = some (.int .i64 ((rd_T30 l1 x5_1).f1)) ∧ w'.cell? ⟨(ad141.add ((x5_1).toNat * 4)).block, (ad141.add ((x5_1).toNat * 4)).off + 2, none⟩ = some (.slice A141_2 ((rd_T30 l1 x5_1).f2).length c141_2) ∧ w'.cell? ⟨(ad141.add ((x5_1).toNat * 4)).block, (ad141.add ((x5_1).toNat * 4)).off + 3, none⟩ = some (.slice A141_3 ((rd_T30 l1 x5_1).f3).length c141_3)) (ds := []) #[false,false,false,false,false,false,false,false,false,false] kr rfl rfl ⟨((upw HB.out hw140_0 : _)), ((upw HB.out hw140_1 : _)), ((upw HB.out hw140_2 : _)), ((upw HB.out hw140_3 : _)), ((upw HB.out hw141_0 : _)), ((upw HB.out hw141_1 : _)), ((upw HB.out hw141_2 : _)), ((upw HB.out hw141_3 : _))⟩ (fun hHeld => ?_); refine with_tabW laws_eqValueS.tab6 laws_eqValueS.bits6 (fun HT_ HW_ => ?_)
   generalize wr.drew = w9 at HB HR140_2 HR140_3 HR141_2 HR141_3 hx140_0 hx140_1 hx140_2 hx140_3 hx141_0 hx141_1 hx141_2 hx141_3 hHeld ⊢
   refine pure_ (i := 0) (N := some 17) (v := ?_) (a' := ?_) (bm 10 1) rfl rfl (any_of HT_.out kr) qi (Or.inl ⟨by rfl, ?_⟩) ?_ ?_
   rotate_left
   ·intro w'
    go_simp
    with_reducible rfl
   rotate_left
   ·simp only [sx]
    rfl
   refine pure_ (i := 1) (N := some 18) (v := ?_) (a' := ?_) (bm 10 3) rfl rfl (any_of HT_.out kr) qi (Or.inl ⟨by rfl, ?_⟩) ?_ ?_
   rotate_left
   ·intro w'
    go_simp
    with_reducible rfl
   rotate_left
   ·simp only [sx]
    rfl
   refine pure_ (i := 2) (N := some 19) (v := ?_) (a' := ?_) (bm 10 7) rfl rfl (any_of HT_.out kr) qi (Or.inl ⟨by rfl, ?_⟩) ?_ ?_
   rotate_left
   ·intro w'
    go_simp
    with_reducible rfl
   rotate_left
   ·simp only [sx]
    rfl
   refine pure_ (i := 4) (N := some 21) (v := ?_) (a' := ?_) (bm 10 23) rfl rfl (any_of HT_.out kr) qi (Or.inl ⟨by rfl, ?_⟩) ?_ ?_
   rotate_left
   ·intro w'
    go_simp
    with_reducible rfl
   rotate_left
   ·simp only [sx]
    rfl
   refine pure_ (i := 5) (N := some 22) (v := ?_) (a' := ?_) (bm 10 55) rfl rfl (any_of HT_.out kr) qi (Or.inl ⟨by rfl, ?_⟩) ?_ ?_
   rotate_left
   ·intro w'
    go_simp
    with_reducible rfl
   rotate_left
   ·simp only [sx]
    rfl
   refine pure_ (i := 6) (N := some 23) (v := ?_) (a' := ?_) (bm 10 119) rfl rfl (any_of HT_.out kr) qi (Or.inl ⟨by rfl, ?_⟩) ?_ ?_
   rotate_left
   ·intro w'
    go_simp
    with_reducible rfl
   rotate_left
   ·simp only [sx]
    rfl
   refine take_ (i := 3) (N := some 20) (v := ?_) (a' := ?_) (bm 10 127) rfl rfl (take_ofW HT_.out HW_.out kr) qi (Or.inl ⟨by rfl, ?_⟩) hHeld ?_ ?_
   rotate_left
   ·rintro w' ⟨s0, s1, s2, s3, s4, s5, s6, s7⟩
    go_simp
    with_reducible rfl
   rotate_left
   ·simp only [sx]
    rfl
   refine take_ (i := 7) (N := some 24) (v := ?_) (a' := ?_) (bm 10 255) rfl rfl (take_ofW HT_.out HW_.out kr) qi (Or.inl ⟨by rfl, ?_⟩) hHeld ?_ ?_
   rotate_left
   ·rintro w' ⟨s0, s1, s2, s3, s4, s5, s6, s7⟩
    go_simp
    with_reducible rfl
   rotate_left
   ·simp only [sx]
    rfl
   refine one_ (i := 8) (N := some 25) (bm 10 511) rfl rfl (one_of HT_.out kr) (by decide) (fun K hK => ?_)
   refine goes_ Try.func10 kr rfl #[.agg #[.int .i64 ((rd_T30 l0 x5_1).f0), .int .i64 ((rd_T30 l0 x5_1).f1), .slice A140_2 ((rd_T30 l0 x5_1).f2).length c140_2, .slice A140_3 ((rd_T30 l0 x5_1).f3).length c140_3], .agg #[.int .i64 ((rd_T30 l1 x5_1).f0), .int .i64 ((rd_T30 l1 x5_1).f1), .slice A141_2 ((rd_T30 l1 x5_1).f2).length c141_2, .slice A141_3 ((rd_T30 l1 x5_1).f3).length c141_3]] (by rfl) rfl rfl mpw ?_
   with_reducible refine (ih_10 k1 (by have := HK1.out; omega) ((rd_T30 l0 x5_1).f0) ((rd_T30 l0 x5_1).f1) _ _ ((rd_T30 l0 x5_1).f2) _ _ ((rd_T30 l0 x5_1).f3) ((rd_T30 l1 x5_1).f0) ((rd_T30 l1 x5_1).f1) _ _ ((rd_T30 l1 x5_1).f2) _ _ ((rd_T30 l1 x5_1).f3) t142 _ ?side1 ?side2 ?side3 ?side4 ?side5 ?side6 ?side7 ?side8 A7.out).mono ?_
   (case side1 => have X_ := HR140_2; exact cbl)
   (case side2 => exact HC140_2.out)
   (case side3 => have X_ := HR140_3; exact cbl)
   (case side4 => exact HC140_3.out)
   (case side5 => have X_ := HR141_2; exact cbl)
   (case side6 => exact HC141_2.out)
   (case side7 => have X_ := HR141_3; exact cbl)
   (case side8 => exact HC141_3.out)
   rintro e w10 ⟨rfl, hb⟩
   refine ⟨_, rfl, ?_⟩
   have n0_ := am (below_step blw hb)
   clear HB
   revert n0_
   intro HB
   (try clear hb)
   (try clear hb2)
   (try clear hk)
   (try clear hi)
   refine hK.out _ _ ⟨((upw HB.out hw140_0 : _)), ((upw HB.out hw140_1 : _)), ((upw HB.out hw140_2 : _)), ((upw HB.out hw140_3 : _)), ((upw HB.out hw141_0 : _)), ((upw HB.out hw141_1 : _)), ((upw HB.out hw141_2 : _)), ((upw HB.out hw141_3 : _))⟩ (fun hHeld => ?_)
   clear hK K
   refine norm_ (a' := ?_) ?_ ?_
   rotate_left
   ·show Act.put _ (some 25) _ = _
    simp only [sx]
    rfl
   refine pure_ (i := 9) (N := some 26) (v := ?_) (a' := ?_) (bm 10 1023) rfl rfl (any_of HT_.out kr) qi (Or.inl ⟨by rfl, ?_⟩) ?_ ?_
   rotate_left
   ·intro w'
    go_simp
    with_reducible rfl
   rotate_left
   ·simp only [sx]
    rfl
   refine done_ (done_of HT_.out kr) ?_
   go_upto_if 26 with (fail)
   have H := HC8.out
   clear HC8
   by_cases c11 : t142 = true
   case neg =>
    replace c11 := Bool.eq_false_iff.mpr c11
    subst c11
    have H1 : (some false) = some r := by rw [if_neg (show ¬ (false = true) by decide)] at H; exact H
    clear H
    have H := H1
    clear H1
    obtain rfl := Option.some.inj H
    go_wp2
    go_ret
    exact ⟨rfw, blw⟩
   subst c11
   have H1 : (laws_eqValueS.l0 k1 l0 l1 (wrap64 (x5_1 + 1))) = some r := by rw [if_pos rfl] at H; exact H
   clear H
   have H := H1
   clear H1
   have H' := am H
   clear H
   go_wp2
   go_roundg k1
   case measure => have := HK1.out; omega
   case rel => exact ⟨(wrap64 (x5_1 + 1)), rfs, H', ⟨by have := HK1.out; omega⟩, ⟨blw⟩⟩

theorem laws_eqValue.all (k : Nat) : (laws_eqValue.T k) ∧ (laws_eqValueS.T k) := by
 induction k using Nat.strongRecOn with
 | _ k ih =>
 exact ⟨laws_eqValue.step k (fun m hm_ => (ih m hm_).1) (fun m hm_ => (ih m hm_).2), laws_eqValueS.step k (fun m hm_ => (ih m hm_).2) (fun m hm_ => (ih m hm_).1)⟩

theorem laws_eqValue.calls (k : Nat) : ∀ (a0_0 : Int) (a0_1 : Int) (A0_2 : Option Addr) (c0_2 : Nat) (l0_2 : List ByteArray) (A0_3 : Option Addr) (c0_3 : Nat) (l0_3 : List (S30)) (a1_0 : Int) (a1_1 : Int) (A1_2 : Option Addr) (c1_2 : Nat) (l1_2 : List ByteArray) (A1_3 : Option Addr) (c1_3 : Nat) (l1_3 : List (S30)) (r : Bool) (w : World) (hr0_2 : Kd.C Kd.string w A0_2 l0_2.length l0_2) (hc0_2 : l0_2.length ≤ c0_2) (hr0_3 : Kd.C k30 w A0_3 l0_3.length l0_3) (hc0_3 : l0_3.length ≤ c0_3) (hr1_2 : Kd.C Kd.string w A1_2 l1_2.length l1_2) (hc1_2 : l1_2.length ≤ c1_2) (hr1_3 : Kd.C k30 w A1_3 l1_3.length l1_3) (hc1_3 : l1_3.length ≤ c1_3) (h : laws_eqValue.f k a0_0 a0_1 l0_2 l0_3 a1_0 a1_1 l1_2 l1_3 = some r),
  Calls Try.prog 10 #[.agg #[.int .i64 a0_0, .int .i64 a0_1, .slice A0_2 l0_2.length c0_2, .slice A0_3 l0_3.length c0_3], .agg #[.int .i64 a1_0, .int .i64 a1_1, .slice A1_2 l1_2.length c1_2, .slice A1_3 l1_3.length c1_3]] w fun e w' => e = .returned (.bool r) ∧ Below w.heap.size w w' := (laws_eqValue.all k).1

/-! ### spec_l1Bit: function 25 -/
def spec_l1Bit.f (a0 : Bool) : Option (Int) := if a0 = true then (some 1) else (some 0)
theorem spec_l1Bit.calls (a0 : Bool) (r : Int) (w : World) (h : spec_l1Bit.f a0 = some r) :
  Calls Try.prog 25 #[.bool a0] w fun e w' => e = .returned (.int .i64 r) ∧ Drawn0 w w' := by
 have H : (if a0 = true then (some 1) else (some 0)) = some r := h
 clear h
 by_cases c2 : a0 = true
 ·subst c2
  have H1 : (some 1) = some r := by rw [if_pos rfl] at H; exact H
  clear H
  have H := H1
  clear H1
  obtain rfl := Option.some.inj H
  go_enter Try.func25, Try.ntmps25
  go_wp2
  go_ret
  exact ⟨rfs, by repeat (first | exact Drawn0.refl _ | apply Drawn0.step)⟩
 replace c2 := Bool.eq_false_iff.mpr c2
 subst c2
 have H1 : (some 0) = some r := by rw [if_neg (show ¬ (false = true) by decide)] at H; exact H
 clear H
 have H := H1
 clear H1
 obtain rfl := Option.some.inj H
 go_enter Try.func25, Try.ntmps25
 go_wp2
 go_ret
 exact ⟨rfs, by repeat (first | exact Drawn0.refl _ | apply Drawn0.step)⟩

/-! ### spec_l5Number: function 33 -/
def spec_l5Number.f (a0 : Int) (a1 : Int) : Option (Int) := (spec_l1Bit.f (decide (a0 > a1))).bind fun t143 => ((spec_l1Bit.f (decide (a0 < a1))).bind fun t144 => (some (wrap64 (t143 - t144))))
theorem spec_l5Number.calls (a0 : Int) (a1 : Int) (r : Int) (w : World) (h : spec_l5Number.f a0 a1 = some r) :
  Calls Try.prog 33 #[.int .i64 a0, .int .i64 a1] w fun e w' => e = .returned (.int .i64 r) ∧ Drawn0 w w' := by
 have H : ((spec_l1Bit.f (decide (a0 > a1))).bind fun t143 => ((spec_l1Bit.f (decide (a0 < a1))).bind fun t144 => (some (wrap64 (t143 - t144))))) = some r := h
 clear h
 replace H := Option.bind_eq_some_iff.mp H
 obtain ⟨t143, A30, H⟩ := H
 replace H : ((spec_l1Bit.f (decide (a0 < a1))).bind fun t144 => (some (wrap64 (t143 - t144)))) = some r := H
 have A3 := am A30
 clear A30
 replace H := Option.bind_eq_some_iff.mp H
 obtain ⟨t144, A40, H⟩ := H
 replace H : (some (wrap64 (t143 - t144))) = some r := H
 have A4 := am A40
 clear A40
 obtain rfl := Option.some.inj H
 go_enter Try.func33, Try.ntmps33
 go_wp2_with (first | ((with_reducible refine gate_callee (f := 25) rfl ?_); refine goesL_ (some 8) rfl rfl Try.func25 kr rfl #[.bool (decide (a0 > a1))] rfl mpw ?_; (with_reducible refine (spec_l1Bit.calls (decide (a0 > a1)) t143 _ A3.out).mono ?_); rintro e w' ⟨rfl, ⟨nd, rfl⟩⟩; refine ⟨_, rfl, ?_⟩) | ((with_reducible refine gate_callee (f := 25) rfl ?_); refine goesL_ (some 12) rfl rfl Try.func25 kr rfl #[.bool (decide (a0 < a1))] rfl mpw ?_; (with_reducible refine (spec_l1Bit.calls (decide (a0 < a1)) t144 _ A4.out).mono ?_); rintro e w' ⟨rfl, ⟨nd, rfl⟩⟩; refine ⟨_, rfl, ?_⟩))
 go_ret
 exact ⟨rfs, by repeat (first | exact Drawn0.refl _ | apply Drawn0.step)⟩

end Go.Proofs.Ytonimhfahjediaa.Pk
end
section
namespace Go.Proofs.Ytonimhfahjediaa.Pk
open Go.RowKit Go.Proofs.Ytonimhfahjediaa.Ext Go.Proofs.YtonimhfahjediaaW.PrintWords Go.Proofs.YtonimhfahjediaaW.PrintLast Go.Proofs.YtonimhfahjediaaW.PrintMore
attribute [local go_sem] max2_int min2_int max_two min_two max_three min_three max_four min_four   -- for this text's walks alone
set_option linter.unusedVariables false
set_option linter.unusedSimpArgs false

/-! ### spec_l5Labels: function 34 -/
mutual
def spec_l5Labels.l0 : Nat → List ByteArray → List ByteArray → Int → Option (Int)
 | 0, _, _, _ => none
 | k + 1, x0, x1, x5 => if x5 < (x0.length : Int) then (spec_l5Labels.j1 k x0 x1 x5 (decide (x5 < (x1.length : Int)))) else (spec_l5Labels.j1 k x0 x1 x5 false)
def spec_l5Labels.j1 : Nat → List ByteArray → List ByteArray → Int → Bool → Option (Int)
 | 0, _, _, _, _ => none
 | k + 1, x0, x1, x5, x15 => if x15 = true then (if 0 ≤ x5 then (if x5 < (x0.length : Int) then (if x5 < (x1.length : Int) then (if (rdOf ByteArray.empty x0 x5).toList = (rdOf ByteArray.empty x1 x5).toList then (spec_l5Labels.l0 k x0 x1 (wrap64 (x5 + 1))) else ((spec_l1Bit.f (Op.bytesLess ((rdOf ByteArray.empty x1 x5).toList) ((rdOf ByteArray.empty x0 x5).toList))).bind fun t150 => ((spec_l1Bit.f (Op.bytesLess ((rdOf ByteArray.empty x0 x5).toList) ((rdOf ByteArray.empty x1 x5).toList))).bind fun t153 => (some (wrap64 (t150 - t153)))))) else (none)) else (none)) else (none)) else ((spec_l5Number.f (x0.length : Int) (x1.length : Int)).bind fun t145 => (some t145))
end
def spec_l5Labels.f (k : Nat) (l0 : List ByteArray) (l1 : List ByteArray) : Option (Int) := spec_l5Labels.l0 k l0 l1 0
set_option maxHeartbeats 8000000 in
set_option maxRecDepth 100000 in
theorem spec_l5Labels.calls (k : Nat) (A0 : Option Addr) (c0 : Nat) (l0 : List ByteArray) (A1 : Option Addr) (c1 : Nat) (l1 : List ByteArray) (r : Int) (w : World) (hr0 : Kd.C Kd.string w A0 l0.length l0) (hc0 : l0.length ≤ c0) (hr1 : Kd.C Kd.string w A1 l1.length l1) (hc1 : l1.length ≤ c1) (h : spec_l5Labels.f k l0 l1 = some r) :
  Calls Try.prog 34 #[.slice A0 l0.length c0, .slice A1 l1.length c1] w fun e w' => e = .returned (.int .i64 r) ∧ Drawn0 w w' := by
 have HR0 := am hr0
 have HC0 := am hc0
 clear hr0 hc0
 have HR1 := am hr1
 have HC1 := am hc1
 clear hr1 hc1
 have H : (spec_l5Labels.l0 k l0 l1 0) = some r := h
 clear h
 have H' := am H
 clear H
 go_enter Try.func34, Try.ntmps34
 go_wp2
 repeat (go_quiet (fail); try go_wp2)
 go_loopg [5] k (fun kq v5 w' => ∃ (x5_1 : Int), v5 = .int .i64 x5_1 ∧ Aside0 (spec_l5Labels.l0 kq l0 l1 x5_1 = some r) ∧ Aside0 (kq ≤ k) ∧ Drawn0 w w')
 case atStart => exact ⟨(0), rfs, H', ⟨Nat.le_refl _⟩, by repeat (first | exact Drawn0.refl _ | apply Drawn0.step)⟩
 case round =>
  clear H'
  (try clear c1); (try clear p2)
  obtain ⟨x5_1, rfl, HA, HK1, ⟨m1, rfl⟩⟩ := hrel
  cases gk with
  | zero => exact absurd HA.out (by simp [spec_l5Labels.l0])
  | succ k1 =>
   have H := HA.out
   clear HA
   simp only [spec_l5Labels.l0] at H
   have HC3 := am H
   clear H
   go_upto_region 2 with (fail)
   repeat (go_quiet (fail); go_upto_region 2 with (fail))
   go_cut [15] (fun v15 wc => ∃ (kq : Nat) (x15_2 : Bool), v15 = .bool x15_2 ∧ Aside0 (spec_l5Labels.j1 kq l0 l1 x5_1 x15_2 = some r) ∧ Aside0 (kq ≤ k1) ∧ Drawn0 w wc)
   case first =>
    have H := HC3.out
    clear HC3
    by_cases c4 : x5_1 < (l0.length : Int)
    case neg =>
     rw [if_neg c4] at H
     have c4b0 : decide (x5_1 < (l0.length : Int)) = false := decide_eq_false c4
     clear c4
     (first | rw [c4b0] | (simp only [i64_w, i32_w]; rw [c4b0]) | skip)
     have H' := am H
     clear H
     go_wp2
     repeat (go_quiet (fail); try go_wp2)
     go_meet
     case rel => exact ⟨_, (false), rfs, H', ⟨by have := HK1.out; first | omega | exact Nat.le_refl _⟩, by repeat (first | exact Drawn0.refl _ | apply Drawn0.step)⟩
    rw [if_pos c4] at H
    have c4b0 : decide (x5_1 < (l0.length : Int)) = true := decide_eq_true c4
    clear c4
    (first | rw [c4b0] | (simp only [i64_w, i32_w]; rw [c4b0]) | skip)
    have H' := am H
    clear H
    go_wp2
    repeat (go_quiet (fail); try go_wp2)
    go_meet
    case rel => exact ⟨_, (decide (x5_1 < (l1.length : Int))), rfs, H', ⟨by have := HK1.out; first | omega | exact Nat.le_refl _⟩, by repeat (first | exact Drawn0.refl _ | apply Drawn0.step)⟩
   case rest =>
    clear HC3
    (try clear c1); (try clear p2 p2); (try clear c3); (try clear c4); (try clear c4b0)
    obtain ⟨kq, x15_2, rfl, HA, HJ2, ⟨mc2, rfl⟩⟩ := hcut
    cases kq with
    | zero => exact absurd HA.out (by simp [spec_l5Labels.j1])
    | succ kj2 =>
     have H := HA.out
     clear HA
     simp only [spec_l5Labels.j1] at H
     by_cases c5 : x15_2 = true
     case neg =>
      replace c5 := Bool.eq_false_iff.mpr c5
      subst c5
      have H1 : ((spec_l5Number.f (l0.length : Int) (l1.length : Int)).bind fun t145 => (some t145)) = some r := by rw [if_neg (show ¬ (false = true) by decide)] at H; exact H
      clear H
      have H := H1
      clear H1
      replace H := Option.bind_eq_some_iff.mp H
      obtain ⟨t145, A120, H⟩ := H
      replace H : (some t145) = some r := H
      have A12 := am A120
      clear A120
      obtain rfl := Option.some.inj H
      go_wp2_with (first | (go_at_call 33; (with_reducible refine (spec_l5Number.calls (l0.length : Int) (l1.length : Int) t145 _ A12.out).mono ?_); rintro e w' ⟨rfl, ⟨nd, rfl⟩⟩; (try exact qdw)))
      repeat (go_quiet (first | (go_at_call 33; (with_reducible refine (spec_l5Number.calls (l0.length : Int) (l1.length : Int) t145 _ A12.out).mono ?_); rintro e w' ⟨rfl, ⟨nd, rfl⟩⟩; (try exact qdw))); try go_wp2_with (first | (go_at_call 33; (with_reducible refine (spec_l5Number.calls (l0.length : Int) (l1.length : Int) t145 _ A12.out).mono ?_); rintro e w' ⟨rfl, ⟨nd, rfl⟩⟩; (try exact qdw))))
      go_ret
      exact ⟨rfs, by repeat (first | exact Drawn0.refl _ | apply Drawn0.step)⟩
     subst c5
     have H1 : (if 0 ≤ x5_1 then (if x5_1 < (l0.length : Int) then (if x5_1 < (l1.length : Int) then (if (rdOf ByteArray.empty l0 x5_1).toList = (rdOf ByteArray.empty l1 x5_1).toList then (spec_l5Labels.l0 kj2 l0 l1 (wrap64 (x5_1 + 1))) else ((spec_l1Bit.f (Op.bytesLess ((rdOf ByteArray.empty l1 x5_1).toList) ((rdOf ByteArray.empty l0 x5_1).toList))).bind fun t150 => ((spec_l1Bit.f (Op.bytesLess ((rdOf ByteArray.empty l0 x5_1).toList) ((rdOf ByteArray.empty l1 x5_1).toList))).bind fun t153 => (some (wrap64 (t150 - t153)))))) else (none)) else (none)) else (none)) = some r := by rw [if_pos rfl] at H; exact H
     clear H
     have H := H1
     clear H1
     by_cases c6 : 0 ≤ x5_1
     case neg =>
      rw [if_neg c6] at H
      exact absurd H (by simp)
     rw [if_pos c6] at H
     have c6b0 : decide (0 ≤ x5_1) = true := decide_eq_true c6
     clear c6
     by_cases c7 : x5_1 < (l0.length : Int)
     case neg =>
      rw [if_neg c7] at H
      exact absurd H (by simp)
     rw [if_pos c7] at H
     have c7b0 : decide (x5_1 < (l0.length : Int)) = true := decide_eq_true c7
     clear c7
     by_cases c8 : x5_1 < (l1.length : Int)
     case neg =>
      rw [if_neg c8] at H
      exact absurd H (by simp)
     rw [if_pos c8] at H
     have c8b0 : decide (x5_1 < (l1.length : Int)) = true := decide_eq_true c8
     clear c8
     by_cases c9 : (rdOf ByteArray.empty l0 x5_1).toList = (rdOf ByteArray.empty l1 x5_1).toList
     ·rw [if_pos c9] at H
      have c9b0 : ((rdOf ByteArray.empty l0 x5_1).toList == (rdOf ByteArray.empty l1 x5_1).toList) = true := beq_iff_eq.mpr c9
      have c9b1 : ((rdOf ByteArray.empty l0 x5_1).toList != (rdOf ByteArray.empty l1 x5_1).toList) = false := bne_eq_false_iff_eq.mpr c9
      clear c9
      have H' := am H
      clear H
      have p146 : 0 ≤ (x5_1 : Int) := of_decide_eq_true asw
      have q146 : x5_1 < (l0.length : Int) := of_decide_eq_true asw
      obtain ⟨ad146, e146, hx146_0⟩ := Kd.at_string HR0.out x5_1 p146 q146
      cases e146
      replace p146 := eq_true p146
      replace q146 := eq_true q146
      have p147 : 0 ≤ (x5_1 : Int) := of_decide_eq_true asw
      have q147 : x5_1 < (l1.length : Int) := of_decide_eq_true asw
      obtain ⟨ad147, e147, hx147_0⟩ := Kd.at_string HR1.out x5_1 p147 q147
      cases e147
      replace p147 := eq_true p147
      replace q147 := eq_true q147
      go_wp2
      repeat (go_quiet (fail); try go_wp2)
      go_roundg kj2
      case measure => have := HK1.out; have := HJ2.out; omega
      case rel => exact ⟨(wrap64 (x5_1 + 1)), rfs, H', ⟨by have := HK1.out; have := HJ2.out; omega⟩, by repeat (first | exact Drawn0.refl _ | apply Drawn0.step)⟩
     rw [if_neg c9] at H
     have c9b0 : ((rdOf ByteArray.empty l0 x5_1).toList == (rdOf ByteArray.empty l1 x5_1).toList) = false := beq_eq_false_iff_ne.mpr c9
     have c9b1 : ((rdOf ByteArray.empty l0 x5_1).toList != (rdOf ByteArray.empty l1 x5_1).toList) = true := bne_iff_ne.mpr c9
     replace H := Option.bind_eq_some_iff.mp H
     obtain ⟨t150, A100, H⟩ := H
     replace H : ((spec_l1Bit.f (Op.bytesLess ((rdOf ByteArray.empty l0 x5_1).toList) ((rdOf ByteArray.empty l1 x5_1).toList))).bind fun t153 => (some (wrap64 (t150 - t153)))) = some r := H
     have A10 := am A100
     clear A100
     replace H := Option.bind_eq_some_iff.mp H
     obtain ⟨t153, A110, H⟩ := H
     replace H : (some (wrap64 (t150 - t153))) = some r := H
     have A11 := am A110
     clear A110
     obtain rfl := Option.some.inj H
     have p146 : 0 ≤ (x5_1 : Int) := of_decide_eq_true asw
     have q146 : x5_1 < (l0.length : Int) := of_decide_eq_true asw
     obtain ⟨ad146, e146, hx146_0⟩ := Kd.at_string HR0.out x5_1 p146 q146
     cases e146
     replace p146 := eq_true p146
     replace q146 := eq_true q146
     have p147 : 0 ≤ (x5_1 : Int) := of_decide_eq_true asw
     have q147 : x5_1 < (l1.length : Int) := of_decide_eq_true asw
     obtain ⟨ad147, e147, hx147_0⟩ := Kd.at_string HR1.out x5_1 p147 q147
     cases e147
     replace p147 := eq_true p147
     replace q147 := eq_true q147
     have p148 : 0 ≤ (x5_1 : Int) := of_decide_eq_true asw
     have q148 : x5_1 < (l0.length : Int) := of_decide_eq_true asw
     obtain ⟨ad148, e148, hx148_0⟩ := Kd.at_string HR0.out x5_1 p148 q148
     obtain rfl : ad146 = ad148 := (by injection e148)
     replace p148 := eq_true p148
     replace q148 := eq_true q148
     have p149 : 0 ≤ (x5_1 : Int) := of_decide_eq_true asw
     have q149 : x5_1 < (l1.length : Int) := of_decide_eq_true asw
     obtain ⟨ad149, e149, hx149_0⟩ := Kd.at_string HR1.out x5_1 p149 q149
     obtain rfl : ad147 = ad149 := (by injection e149)
     replace p149 := eq_true p149
     replace q149 := eq_true q149
     go_wp2_with (first | (go_at_call 25; (with_reducible refine (spec_l1Bit.calls (Op.bytesLess ((rdOf ByteArray.empty l1 x5_1).toList) ((rdOf ByteArray.empty l0 x5_1).toList)) t150 _ A10.out).mono ?_); rintro e w' ⟨rfl, ⟨nd, rfl⟩⟩; (try exact qdw); have p151 : 0 ≤ (x5_1 : Int) := of_decide_eq_true asw; have q151 : x5_1 < (l0.length : Int) := of_decide_eq_true asw; obtain ⟨ad151, e151, hx151_0⟩ := Kd.at_string HR0.out x5_1 p151 q151; obtain rfl : ad146 = ad151 := (by injection e151); replace p151 := eq_true p151; replace q151 := eq_true q151; have p152 : 0 ≤ (x5_1 : Int) := of_decide_eq_true asw; have q152 : x5_1 < (l1.length : Int) := of_decide_eq_true asw; obtain ⟨ad152, e152, hx152_0⟩ := Kd.at_string HR1.out x5_1 p152 q152; obtain rfl : ad147 = ad152 := (by injection e152); replace p152 := eq_true p152; replace q152 := eq_true q152) | (go_at_call 25; (with_reducible refine (spec_l1Bit.calls (Op.bytesLess ((rdOf ByteArray.empty l0 x5_1).toList) ((rdOf ByteArray.empty l1 x5_1).toList)) t153 _ A11.out).mono ?_); rintro e w' ⟨rfl, ⟨nd, rfl⟩⟩; (try exact qdw)))
     repeat (go_quiet (first | (go_at_call 25; (with_reducible refine (spec_l1Bit.calls (Op.bytesLess ((rdOf ByteArray.empty l1 x5_1).toList) ((rdOf ByteArray.empty l0 x5_1).toList)) t150 _ A10.out).mono ?_); rintro e w' ⟨rfl, ⟨nd, rfl⟩⟩; (try exact qdw); have p151 : 0 ≤ (x5_1 : Int) := of_decide_eq_true asw; have q151 : x5_1 < (l0.length : Int) := of_decide_eq_true asw; obtain ⟨ad151, e151, hx151_0⟩ := Kd.at_string HR0.out x5_1 p151 q151; obtain rfl : ad146 = ad151 := (by injection e151); replace p151 := eq_true p151; replace q151 := eq_true q151; have p152 : 0 ≤ (x5_1 : Int) := of_decide_eq_true asw; have q152 : x5_1 < (l1.length : Int) := of_decide_eq_true asw; obtain ⟨ad152, e152, hx152_0⟩ := Kd.at_string HR1.out x5_1 p152 q152; obtain rfl : ad147 = ad152 := (by injection e152); replace p152 := eq_true p152; replace q152 := eq_true q152) | (go_at_call 25; (with_reducible refine (spec_l1Bit.calls (Op.bytesLess ((rdOf ByteArray.empty l0 x5_1).toList) ((rdOf ByteArray.empty l1 x5_1).toList)) t153 _ A11.out).mono ?_); rintro e w' ⟨rfl, ⟨nd, rfl⟩⟩; (try exact qdw))); try go_wp2_with (first | (go_at_call 25; (with_reducible refine (spec_l1Bit.calls (Op.bytesLess ((rdOf ByteArray.empty l1 x5_1).toList) ((rdOf ByteArray.empty l0 x5_1).toList)) t150 _ A10.out).mono ?_); rintro e w' ⟨rfl, ⟨nd, rfl⟩⟩; (try exact qdw); have p151 : 0 ≤ (x5_1 : Int) := of_decide_eq_true asw; have q151 : x5_1 < (l0.length : Int) := of_decide_eq_true asw; obtain ⟨ad151, e151, hx151_0⟩ := Kd.at_string HR0.out x5_1 p151 q151; obtain rfl : ad146 = ad151 := (by injection e151); replace p151 := eq_true p151; replace q151 := eq_true q151; have p152 : 0 ≤ (x5_1 : Int) := of_decide_eq_true asw; have q152 : x5_1 < (l1.length : Int) := of_decide_eq_true asw; obtain ⟨ad152, e152, hx152_0⟩ := Kd.at_string HR1.out x5_1 p152 q152; obtain rfl : ad147 = ad152 := (by injection e152); replace p152 := eq_true p152; replace q152 := eq_true q152) | (go_at_call 25; (with_reducible refine (spec_l1Bit.calls (Op.bytesLess ((rdOf ByteArray.empty l0 x5_1).toList) ((rdOf ByteArray.empty l1 x5_1).toList)) t153 _ A11.out).mono ?_); rintro e w' ⟨rfl, ⟨nd, rfl⟩⟩; (try exact qdw))))
     go_ret
     exact ⟨rfs, by repeat (first | exact Drawn0.refl _ | apply Drawn0.step)⟩

end Go.Proofs.Ytonimhfahjediaa.Pk
end
section
namespace Go.Proofs.Ytonimhfahjediaa.Pk
open Go.RowKit Go.Proofs.Ytonimhfahjediaa.Ext Go.Proofs.YtonimhfahjediaaW.PrintWords Go.Proofs.YtonimhfahjediaaW.PrintLast Go.Proofs.YtonimhfahjediaaW.PrintMore
attribute [local go_sem] max2_int min2_int max_two min_two max_three min_three max_four min_four   -- for this text's walks alone
set_option linter.unusedVariables false
set_option linter.unusedSimpArgs false

/-! ### spec_CompareValues: function 19 -/
mutual
def spec_CompareValues.l0 : Nat → Int → Int → Int → Int → List ByteArray → List (S30) → Int → Int → List ByteArray → List (S30) → Option (Int)
 | 0, _, _, _, _, _, _, _, _, _, _ => none
 | k + 1, x5, x6, x155000, x155001, x155002, x155003, x156000, x156001, x156002, x156003 => if x6 < (x155003.length : Int) then (if x5 = 0 then (if 0 ≤ x6 then (if x6 < (x156003.length : Int) then ((spec_CompareValues.f k ((rd_T30 x155003 x6).f0) ((rd_T30 x155003 x6).f1) ((rd_T30 x155003 x6).f2) ((rd_T30 x155003 x6).f3) ((rd_T30 x156003 x6).f0) ((rd_T30 x156003 x6).f1) ((rd_T30 x156003 x6).f2) ((rd_T30 x156003 x6).f3)).bind fun t162 => (spec_CompareValues.l0 k t162 (wrap64 (x6 + 1)) x155000 x155001 x155002 x155003 x156000 x156001 x156002 x156003)) else (none)) else (none)) else (some x5)) else (some x5)
def spec_CompareValues.f : Nat → Int → Int → List ByteArray → List (S30) → Int → Int → List ByteArray → List (S30) → Option (Int)
 | 0, _, _, _, _, _, _, _, _ => none
 | k + 1, a0_0, a0_1, l0_2, l0_3, a1_0, a1_1, l1_2, l1_3 => if a0_0 = a1_0 then (if a0_1 = a1_1 then (if (l0_3.length : Int) = (l1_3.length : Int) then ((spec_l5Labels.f k l0_2 l1_2).bind fun t159 => (spec_CompareValues.l0 k t159 0 a0_0 a0_1 l0_2 l0_3 a1_0 a1_1 l1_2 l1_3)) else ((spec_l5Number.f (l0_3.length : Int) (l1_3.length : Int)).bind fun t158 => (some t158))) else ((spec_l5Number.f a0_1 a1_1).bind fun t157 => (some t157))) else ((spec_l5Number.f a0_0 a1_0).bind fun t156 => (some t156))
end
def spec_CompareValues.T11 : Bool × List (List Nat × List Nat) := (true, [([], []), ([0], [0]), ([], []), ([1, 2], [1, 2]), ([3], [3]), ([], []), ([5], [5]), ([], []), ([6, 7], [6, 7]), ([8], [8]), ([4, 9], [4, 9]), ([10, 10, 0, 1, 2, 3, 4, 5, 6, 7, 8, 9, 10], [10])])
def spec_CompareValues.B11 : List Nat := [0, 1, 0, 7, 15, 0, 32, 0, 224, 480, 1023, 2047]
theorem spec_CompareValues.tab11 : rtab .any (opsOf Try.f19 11) = spec_CompareValues.T11 := by kernel_rfl
theorem spec_CompareValues.bits11 : waitsOk spec_CompareValues.T11.2 spec_CompareValues.B11 = true := by kernel_rfl
set_option maxHeartbeats 8000000 in
set_option maxRecDepth 100000 in
theorem spec_CompareValues.calls (k : Nat) : ∀ (a0_0 : Int) (a0_1 : Int) (A0_2 : Option Addr) (c0_2 : Nat) (l0_2 : List ByteArray) (A0_3 : Option Addr) (c0_3 : Nat) (l0_3 : List (S30)) (a1_0 : Int) (a1_1 : Int) (A1_2 : Option Addr) (c1_2 : Nat) (l1_2 : List ByteArray) (A1_3 : Option Addr) (c1_3 : Nat) (l1_3 : List (S30)) (r : Int) (w : World) (hr0_2 : Kd.C Kd.string w A0_2 l0_2.length l0_2) (hc0_2 : l0_2.length ≤ c0_2) (hr0_3 : Kd.C k30 w A0_3 l0_3.length l0_3) (hc0_3 : l0_3.length ≤ c0_3) (hr1_2 : Kd.C Kd.string w A1_2 l1_2.length l1_2) (hc1_2 : l1_2.length ≤ c1_2) (hr1_3 : Kd.C k30 w A1_3 l1_3.length l1_3) (hc1_3 : l1_3.length ≤ c1_3) (h : spec_CompareValues.f k a0_0 a0_1 l0_2 l0_3 a1_0 a1_1 l1_2 l1_3 = some r),
  Calls Try.prog 19 #[.agg #[.int .i64 a0_0, .int .i64 a0_1, .slice A0_2 l0_2.length c0_2, .slice A0_3 l0_3.length c0_3], .agg #[.int .i64 a1_0, .int .i64 a1_1, .slice A1_2 l1_2.length c1_2, .slice A1_3 l1_3.length c1_3]] w fun e w' => e = .returned (.int .i64 r) ∧ Below w.heap.size w w' := by
 induction k using Nat.strongRecOn with
 | _ k ih =>
 intro a0_0 a0_1 A0_2 c0_2 l0_2 A0_3 c0_3 l0_3 a1_0 a1_1 A1_2 c1_2 l1_2 A1_3 c1_3 l1_3 r w hr0_2 hc0_2 hr0_3 hc0_3 hr1_2 hc1_2 hr1_3 hc1_3 h
 cases k with
 | zero => exact absurd h (by simp [spec_CompareValues.f])
 | succ k =>
 simp only [spec_CompareValues.f] at h
 have hu30 := Try.underlying30
 have HR0_2 := am hr0_2
 have HC0_2 := am hc0_2
 clear hr0_2 hc0_2
 have HR0_3 := am hr0_3
 have HC0_3 := am hc0_3
 clear hr0_3 hc0_3
 have HR1_2 := am hr1_2
 have HC1_2 := am hc1_2
 clear hr1_2 hc1_2
 have HR1_3 := am hr1_3
 have HC1_3 := am hc1_3
 clear hr1_3 hc1_3
 have HB := am (Below.refl w.heap.size w)
 have H : (if a0_0 = a1_0 then (if a0_1 = a1_1 then (if (l0_3.length : Int) = (l1_3.length : Int) then ((spec_l5Labels.f k l0_2 l1_2).bind fun t159 => (spec_CompareValues.l0 k t159 0 a0_0 a0_1 l0_2 l0_3 a1_0 a1_1 l1_2 l1_3)) else ((spec_l5Number.f (l0_3.length : Int) (l1_3.length : Int)).bind fun t158 => (some t158))) else ((spec_l5Number.f a0_1 a1_1).bind fun t157 => (some t157))) else ((spec_l5Number.f a0_0 a1_0).bind fun t156 => (some t156))) = some r := h
 clear h
 have HC3 := am H
 clear H
 go_enter Try.func19, Try.ntmps19
 go_upto_if 11 with (first | ((with_reducible refine gate_dst (N := 2) rfl ?_); refine box_event ?hg (N := 2) ?hd (cs := #[.int .i64 a0_0, .int .i64 a0_1, .slice A0_2 l0_2.length c0_2, .slice A0_3 l0_3.length c0_3]) (t := 30) ?hr ?_; (case hd => rfl); (case hg => rfl); (case hr => exact hrw); intro gb154 hg w4 hbox hb; have n0_ := am (below_step blw hb); have n1_ := am (hbox); have n2_ := am ((by rw [hg]; exact (below_size blw) : w.heap.size ≤ gb154)); have n3_ := n2_; clear HB; revert n0_ n1_ n2_ n3_; intro HB BK154 GW154 GE154; clear hb hbox hg) | ((with_reducible refine gate_dst (N := 3) rfl ?_); refine box_event ?hg (N := 3) ?hd (cs := #[.int .i64 a1_0, .int .i64 a1_1, .slice A1_2 l1_2.length c1_2, .slice A1_3 l1_3.length c1_3]) (t := 30) ?hr ?_; (case hd => rfl); (case hg => rfl); (case hr => exact hrw); intro gb155 hg w5 hbox hb; have n0_ := am (blk_below (g := gb154) bkw hb); have n1_ := am (below_step blw hb); have n2_ := am (hbox); have n3_ := am ((by rw [hg]; exact (below_size blw) : w.heap.size ≤ gb155)); have n4_ := n3_; have n5_ := am ((by rw [hg]; exact Nat.ne_of_lt (blk_lt (g := gb154) bkw) : gb154 ≠ gb155)); have n6_ := am ((by rw [hg]; exact Nat.ne_of_gt (blk_lt (g := gb154) bkw) : gb155 ≠ gb154)); clear BK154; clear HB; revert n0_ n1_ n2_ n3_ n4_ n5_ n6_; intro BK154 HB BK155 GW155 GE155 NB154_155 NB155_154; clear hb hbox hg; have hnb6 := NB154_155.out; have hnc6 := NB155_154.out; obtain ⟨hcz7_0, hcz7_1, hcz7_2, hcz7_3⟩ := cls4 BK154.out; obtain ⟨hfz7_0, hfz7_1, hfz7_2, hfz7_3⟩ := frz4 BK154.out; obtain ⟨hcz8_0, hcz8_1, hcz8_2, hcz8_3⟩ := cls4 BK155.out; obtain ⟨hfz8_0, hfz8_1, hfz8_2, hfz8_3⟩ := frz4 BK155.out))
 have H := HC3.out
 clear HC3
 by_cases c9 : a0_0 = a1_0
 case neg =>
  rw [if_neg c9] at H
  have c9b0 : (a0_0 == a1_0) = false := beq_eq_false_iff_ne.mpr c9
  have c9b1 : (a0_0 != a1_0) = true := bne_iff_ne.mpr c9
  (first | rw [c9b0] | (simp only [i64_w, i32_w]; rw [c9b0]) | (rw [c9b1]; (try simp only [Bool.not_true, Bool.not_false])) | skip)
  replace H := Option.bind_eq_some_iff.mp H
  obtain ⟨t156, A410, H⟩ := H
  replace H : (some t156) = some r := H
  have A41 := am A410
  clear A410
  obtain rfl := Option.some.inj H
  have hnb42 := NB154_155.out
  have hnc42 := NB155_154.out
  obtain ⟨hcz43_0, hcz43_1, hcz43_2, hcz43_3⟩ := cls4 BK154.out
  obtain ⟨hfz43_0, hfz43_1, hfz43_2, hfz43_3⟩ := frz4 BK154.out
  obtain ⟨hcz44_0, hcz44_1, hcz44_2, hcz44_3⟩ := cls4 BK155.out
  obtain ⟨hfz44_0, hfz44_1, hfz44_2, hfz44_3⟩ := frz4 BK155.out
  go_wp2_with (first | ((with_reducible refine gate_callee (f := 33) rfl ?_); refine goesL_ (some 16) rfl rfl Try.func33 kr rfl #[.int .i64 a0_0, .int .i64 a1_0] rfl mpw ?_; (with_reducible refine (spec_l5Number.calls a0_0 a1_0 t156 _ A41.out).mono ?_); rintro e w' ⟨rfl, ⟨nd, rfl⟩⟩; refine ⟨_, rfl, ?_⟩))
  go_ret
  exact ⟨rfw, blw⟩
 rw [if_pos c9] at H
 have c9b0 : (a0_0 == a1_0) = true := beq_iff_eq.mpr c9
 have c9b1 : (a0_0 != a1_0) = false := bne_eq_false_iff_eq.mpr c9
 clear c9
 (first | rw [c9b0] | (simp only [i64_w, i32_w]; rw [c9b0]) | (rw [c9b1]; (try simp only [Bool.not_true, Bool.not_false])) | skip)
 by_cases c10 : a0_1 = a1_1
 case neg =>
  rw [if_neg c10] at H
  have c10b0 : (a0_1 == a1_1) = false := beq_eq_false_iff_ne.mpr c10
  have c10b1 : (a0_1 != a1_1) = true := bne_iff_ne.mpr c10
  replace H := Option.bind_eq_some_iff.mp H
  obtain ⟨t157, A370, H⟩ := H
  replace H : (some t157) = some r := H
  have A37 := am A370
  clear A370
  obtain rfl := Option.some.inj H
  have hnb38 := NB154_155.out
  have hnc38 := NB155_154.out
  obtain ⟨hcz39_0, hcz39_1, hcz39_2, hcz39_3⟩ := cls4 BK154.out
  obtain ⟨hfz39_0, hfz39_1, hfz39_2, hfz39_3⟩ := frz4 BK154.out
  obtain ⟨hcz40_0, hcz40_1, hcz40_2, hcz40_3⟩ := cls4 BK155.out
  obtain ⟨hfz40_0, hfz40_1, hfz40_2, hfz40_3⟩ := frz4 BK155.out
  go_wp2_with (first | ((with_reducible refine gate_callee (f := 33) rfl ?_); refine goesL_ (some 26) rfl rfl Try.func33 kr rfl #[.int .i64 a0_1, .int .i64 a1_1] rfl mpw ?_; (with_reducible refine (spec_l5Number.calls a0_1 a1_1 t157 _ A37.out).mono ?_); rintro e w' ⟨rfl, ⟨nd, rfl⟩⟩; refine ⟨_, rfl, ?_⟩))
  go_ret
  exact ⟨rfw, blw⟩
 rw [if_pos c10] at H
 have c10b0 : (a0_1 == a1_1) = true := beq_iff_eq.mpr c10
 have c10b1 : (a0_1 != a1_1) = false := bne_eq_false_iff_eq.mpr c10
 clear c10
 have HC11 := am H
 clear H
 have hnb12 := NB154_155.out
 have hnc12 := NB155_154.out
 obtain ⟨hcz13_0, hcz13_1, hcz13_2, hcz13_3⟩ := cls4 BK154.out
 obtain ⟨hfz13_0, hfz13_1, hfz13_2, hfz13_3⟩ := frz4 BK154.out
 obtain ⟨hcz14_0, hcz14_1, hcz14_2, hcz14_3⟩ := cls4 BK155.out
 obtain ⟨hfz14_0, hfz14_1, hfz14_2, hfz14_3⟩ := frz4 BK155.out
 go_upto_if 33 with (fail)
 have H := HC11.out
 clear HC11
 by_cases c15 : (l0_3.length : Int) = (l1_3.length : Int)
 case neg =>
  rw [if_neg c15] at H
  have c15b0 : ((l0_3.length : Int) == (l1_3.length : Int)) = false := beq_eq_false_iff_ne.mpr c15
  have c15b1 : ((l0_3.length : Int) != (l1_3.length : Int)) = true := bne_iff_ne.mpr c15
  have c15b2 : (l0_3.length == l1_3.length) = false := by first | simpa using c15 | (simp at c15 ⊢; omega)
  (first | rw [c15b0] | (simp only [i64_w, i32_w]; rw [c15b0]) | (rw [c15b1]; (try simp only [Bool.not_true, Bool.not_false])) | (rw [c15b2]; (try simp only [Bool.not_true, Bool.not_false])) | skip)
  replace H := Option.bind_eq_some_iff.mp H
  obtain ⟨t158, A330, H⟩ := H
  replace H : (some t158) = some r := H
  have A33 := am A330
  clear A330
  obtain rfl := Option.some.inj H
  have hnb34 := NB154_155.out
  have hnc34 := NB155_154.out
  obtain ⟨hcz35_0, hcz35_1, hcz35_2, hcz35_3⟩ := cls4 BK154.out
  obtain ⟨hfz35_0, hfz35_1, hfz35_2, hfz35_3⟩ := frz4 BK154.out
  obtain ⟨hcz36_0, hcz36_1, hcz36_2, hcz36_3⟩ := cls4 BK155.out
  obtain ⟨hfz36_0, hfz36_1, hfz36_2, hfz36_3⟩ := frz4 BK155.out
  go_wp2_with (first | ((with_reducible refine gate_callee (f := 33) rfl ?_); refine goesL_ (some 40) rfl rfl Try.func33 kr rfl #[.int .i64 (l0_3.length : Int), .int .i64 (l1_3.length : Int)] rfl mpw ?_; (with_reducible refine (spec_l5Number.calls (l0_3.length : Int) (l1_3.length : Int) t158 _ A33.out).mono ?_); rintro e w' ⟨rfl, ⟨nd, rfl⟩⟩; refine ⟨_, rfl, ?_⟩))
  go_ret
  exact ⟨rfw, blw⟩
 rw [if_pos c15] at H
 have c15b0 : ((l0_3.length : Int) == (l1_3.length : Int)) = true := beq_iff_eq.mpr c15
 have c15b1 : ((l0_3.length : Int) != (l1_3.length : Int)) = false := bne_eq_false_iff_eq.mpr c15
 have c15b2 : (l0_3.length == l1_3.length) = true := by first | simpa using c15 | (simp at c15 ⊢; omega)
 clear c15
 (first | rw [c15b0] | (simp only [i64_w, i32_w]; rw [c15b0]) | (rw [c15b1]; (try simp only [Bool.not_true, Bool.not_false])) | (rw [c15b2]; (try simp only [Bool.not_true, Bool.not_false])) | skip)
 replace H := Option.bind_eq_some_iff.mp H
 obtain ⟨t159, A160, H⟩ := H
 replace H : (spec_CompareValues.l0 k t159 0 a0_0 a0_1 l0_2 l0_3 a1_0 a1_1 l1_2 l1_3) = some r := H
 have A16 := am A160
 clear A160
 have H' := am H
 clear H
 have hnb17 := NB154_155.out
 have hnc17 := NB155_154.out
 obtain ⟨hcz18_0, hcz18_1, hcz18_2, hcz18_3⟩ := cls4 BK154.out
 obtain ⟨hfz18_0, hfz18_1, hfz18_2, hfz18_3⟩ := frz4 BK154.out
 obtain ⟨hcz19_0, hcz19_1, hcz19_2, hcz19_3⟩ := cls4 BK155.out
 obtain ⟨hfz19_0, hfz19_1, hfz19_2, hfz19_3⟩ := frz4 BK155.out
 go_wp2_with (first | ((with_reducible refine gate_callee (f := 34) rfl ?_); refine goesL_ (some 45) rfl rfl Try.func34 kr rfl #[.slice A0_2 l0_2.length c0_2, .slice A1_2 l1_2.length c1_2] rfl mpw ?_; (with_reducible refine (spec_l5Labels.calls k _ _ l0_2 _ _ l1_2 t159 _ ?side1 ?side2 ?side3 ?side4 A16.out).mono ?_); (case side1 => have X_ := HR0_2; exact cbl); (case side2 => exact HC0_2.out); (case side3 => have X_ := HR1_2; exact cbl); (case side4 => exact HC1_2.out); rintro e w' ⟨rfl, ⟨nd, rfl⟩⟩; refine ⟨_, rfl, ?_⟩))
 go_loopg [5, 6] k (fun kq v5 v6 w' => ∃ (x5_1 : Int) (x6_1 : Int), v5 = .int .i64 x5_1 ∧ v6 = .int .i64 x6_1 ∧ Aside0 (spec_CompareValues.l0 kq x5_1 x6_1 a0_0 a0_1 l0_2 l0_3 a1_0 a1_1 l1_2 l1_3 = some r) ∧ Aside0 (kq ≤ k) ∧ Aside0 (w'.heap[gb154]? = some (.cells #[.int .i64 a0_0, .int .i64 a0_1, (.slice A0_2 l0_2.length c0_2), (.slice A0_3 l0_3.length c0_3)] 30 (0, 0))) ∧ Aside0 (w'.heap[gb155]? = some (.cells #[.int .i64 a1_0, .int .i64 a1_1, (.slice A1_2 l1_2.length c1_2), (.slice A1_3 l1_3.length c1_3)] 30 (0, 0))) ∧ Aside0 (Below w.heap.size w w'))
 case atStart => exact ⟨(t159), (0), rfs, rfs, H', ⟨Nat.le_refl _⟩, ⟨bkw⟩, ⟨bkw⟩, ⟨blw⟩⟩
 case round =>
  clear H'
  (try clear c1); (try clear p2); (try clear c3); (try clear c6); (try clear c9); (try clear c9b0); (try clear c9b1); (try clear c10); (try clear c10b0); (try clear c10b1); (try clear c12); (try clear c15); (try clear c15b0); (try clear c15b1); (try clear c15b2); (try clear c17); (try clear c19); (try clear hcz13_0 hcz13_1 hcz13_2 hcz13_3); (try clear hcz14_0 hcz14_1 hcz14_2 hcz14_3); (try clear hcz18_0 hcz18_1 hcz18_2 hcz18_3); (try clear hcz19_0 hcz19_1 hcz19_2 hcz19_3); (try clear hcz7_0 hcz7_1 hcz7_2 hcz7_3); (try clear hcz8_0 hcz8_1 hcz8_2 hcz8_3); (try clear hfz13_0 hfz13_1 hfz13_2 hfz13_3); (try clear hfz14_0 hfz14_1 hfz14_2 hfz14_3); (try clear hfz18_0 hfz18_1 hfz18_2 hfz18_3); (try clear hfz19_0 hfz19_1 hfz19_2 hfz19_3); (try clear hfz7_0 hfz7_1 hfz7_2 hfz7_3); (try clear hfz8_0 hfz8_1 hfz8_2 hfz8_3)
  obtain ⟨x5_1, x6_1, rfl, rfl, HA, HK1, BK154, BK155, HB⟩ := hrel
  cases gk with
  | zero => exact absurd HA.out (by simp [spec_CompareValues.l0])
  | succ k1 =>
   have H := HA.out
   clear HA
   simp only [spec_CompareValues.l0] at H
   by_cases c20 : x6_1 < (l0_3.length : Int)
   case neg =>
    rw [if_neg c20] at H
    have c20b0 : decide (x6_1 < (l0_3.length : Int)) = false := decide_eq_false c20
    clear c20
    obtain rfl := Option.some.inj H
    have hnb31 := NB154_155.out
    have hnc31 := NB155_154.out
    obtain ⟨hcz32_0, hcz32_1, hcz32_2, hcz32_3⟩ := cls4 BK154.out
    obtain ⟨hfz32_0, hfz32_1, hfz32_2, hfz32_3⟩ := frz4 BK154.out
    go_wp2
    go_ret
    exact ⟨rfw, blw⟩
   rw [if_pos c20] at H
   have c20b0 : decide (x6_1 < (l0_3.length : Int)) = true := decide_eq_true c20
   clear c20
   by_cases c21 : x5_1 = 0
   case neg =>
    rw [if_neg c21] at H
    have c21b0 : (x5_1 == 0) = false := beq_eq_false_iff_ne.mpr c21
    have c21b1 : (x5_1 != 0) = true := bne_iff_ne.mpr c21
    obtain rfl := Option.some.inj H
    have hnb29 := NB154_155.out
    have hnc29 := NB155_154.out
    obtain ⟨hcz30_0, hcz30_1, hcz30_2, hcz30_3⟩ := cls4 BK154.out
    obtain ⟨hfz30_0, hfz30_1, hfz30_2, hfz30_3⟩ := frz4 BK154.out
    go_wp2
    go_ret
    exact ⟨rfw, blw⟩
   rw [if_pos c21] at H
   have c21b0 : (x5_1 == 0) = true := beq_iff_eq.mpr c21
   have c21b1 : (x5_1 != 0) = false := bne_eq_false_iff_eq.mpr c21
   clear c21
   by_cases c22 : 0 ≤ x6_1
   case neg =>
    rw [if_neg c22] at H
    exact absurd H (by simp)
   rw [if_pos c22] at H
   have c22b0 : decide (0 ≤ x6_1) = true := decide_eq_true c22
   clear c22
   by_cases c23 : x6_1 < (l1_3.length : Int)
   case neg =>
    rw [if_neg c23] at H
    exact absurd H (by simp)
   rw [if_pos c23] at H
   have c23b0 : decide (x6_1 < (l1_3.length : Int)) = true := decide_eq_true c23
   clear c23
   replace H := Option.bind_eq_some_iff.mp H
   obtain ⟨t162, A240, H⟩ := H
   replace H : (spec_CompareValues.l0 k1 t162 (wrap64 (x6_1 + 1)) a0_0 a0_1 l0_2 l0_3 a1_0 a1_1 l1_2 l1_3) = some r := H
   have A24 := am A240
   clear A240
   have H' := am H
   clear H
   have hnb25 := NB154_155.out
   have hnc25 := NB155_154.out
   obtain ⟨hcz26_0, hcz26_1, hcz26_2, hcz26_3⟩ := cls4 BK154.out
   obtain ⟨hfz26_0, hfz26_1, hfz26_2, hfz26_3⟩ := frz4 BK154.out
   try go_wp2
   have n0_ := am (blk_drew BK154.out)
   have n1_ := am (blk_drew BK155.out)
   have n2_ := am (below_drew1 HB.out)
   clear BK154
   clear BK155
   clear HB
   revert n0_ n1_ n2_
   intro BK154 BK155 HB
   have p160 : 0 ≤ (x6_1 : Int) := of_decide_eq_true asw
   have q160 : x6_1 < (l0_3.length : Int) := of_decide_eq_true asw
   obtain ⟨ad160, A160_2, c160_2, A160_3, c160_3, e160, hx160_0, hx160_1, hx160_2, hx160_3, hl160_2, hi160_2, hl160_3, hi160_3⟩ := at_T30 HR0_3.out x6_1 p160 q160
   have hw160_3 := hx160_3
   have hw160_2 := hx160_2
   have hw160_1 := hx160_1
   have hw160_0 := hx160_0
   cases e160
   replace hx160_0 := upw HB.out hx160_0
   replace hx160_1 := upw HB.out hx160_1
   replace hx160_2 := upw HB.out hx160_2
   replace hx160_3 := upw HB.out hx160_3
   have HR160_2 := am hi160_2
   have HC160_2 := am hl160_2
   clear hi160_2 hl160_2
   have HR160_3 := am hi160_3
   have HC160_3 := am hl160_3
   clear hi160_3 hl160_3
   replace p160 := eq_true p160
   replace q160 := eq_true q160
   have p161 : 0 ≤ (x6_1 : Int) := of_decide_eq_true asw
   have q161 : x6_1 < (l1_3.length : Int) := of_decide_eq_true asw
   obtain ⟨ad161, A161_2, c161_2, A161_3, c161_3, e161, hx161_0, hx161_1, hx161_2, hx161_3, hl161_2, hi161_2, hl161_3, hi161_3⟩ := at_T30 HR1_3.out x6_1 p161 q161
   have hw161_3 := hx161_3
   have hw161_2 := hx161_2
   have hw161_1 := hx161_1
   have hw161_0 := hx161_0
   cases e161
   replace hx161_0 := upw HB.out hx161_0
   replace hx161_1 := upw HB.out hx161_1
   replace hx161_2 := upw HB.out hx161_2
   replace hx161_3 := upw HB.out hx161_3
   have HR161_2 := am hi161_2
   have HC161_2 := am hl161_2
   clear hi161_2 hl161_2
   have HR161_3 := am hi161_3
   have HC161_3 := am hl161_3
   clear hi161_3 hl161_3
   replace p161 := eq_true p161
   replace q161 := eq_true q161
   refine start_ (n := 12) (S := fun w' => w'.cell? ⟨gb154, 0, none⟩ = some (.int .i64 a0_0) ∧ w'.cell? ⟨gb154, 1, none⟩ = some (.int .i64 a0_1) ∧ w'.cell? ⟨gb154, 2, none⟩ = some (.slice A0_2 l0_2.length c0_2) ∧ w'.cell? ⟨gb154, 3, none⟩ = some (.slice (some ad160) l0_3.length c0_3) ∧ w'.cell? ⟨gb155, 0, none⟩ = some (.int .i64 a1_0) ∧ w'.cell? ⟨gb155, 1, none⟩ = some (.int .i64 a1_1) ∧ w'.cell? ⟨gb155, 2, none⟩ = some (.slice A1_2 l1_2.length c1_2) ∧ w'.cell? ⟨gb155, 3, none⟩ = some (.slice (some ad161) l1_3.length c1_3) ∧ w'.cell? (ad160.add ((x6_1).toNat * 4)) = some (.int .i64 ((rd_T30 l0_3 x6_1).f0)) ∧ w'.cell? ⟨(ad160.add ((x6_1).toNat * 4)).block, (ad160.add ((x6_1).toNat * 4)).off + 1, none⟩ = some (.int .i64 ((rd_T30 l0_3 x6_1).f1)) ∧ w'.cell? ⟨(ad160.add ((x6_1).toNat * 4)).block, (ad160.add ((x6_1).toNat * 4)).off + 2, none⟩ = some (.slice A160_2 ((rd_T30 l0_3 x6_1).f2).length c160_2) ∧ w'.cell? ⟨(ad160.add ((x6_1).toNat * 4)).block, (ad160.add ((x6_1).toNat * 4)).off + 3, none⟩ = some (.slice A160_3 ((rd_T30 l0_3 x6_1).f3).length c160_3) ∧ w'.cell? (ad161.add ((x6_1).toNat * 4)) = some (.int .i64 ((rd_T30 l1_3 x6_1).f0)) ∧ w'.cell? ⟨(ad161.add ((x6_1).toNat * 4)).block, (ad161.add ((x6_1).toNat * 4)).off + 1, none⟩ = some (.int .i64 ((rd_T30 l1_3 x6_1).f1)) ∧ w'.cell? ⟨(ad161.add ((x6_1).toNat * 4)).block, (ad161.add ((x6_1).toNat * 4)).off + 2, none⟩ = some (.slice A161_2 ((rd_T30 l1_3 x6_1).f2).length c161_2) ∧ w'.cell? ⟨(ad161.add ((x6_1).toNat * 4)).block, (ad161.add ((x6_1).toNat * 4)).off + 3, none⟩ = some (.slice A161_3 ((rd_T30 l1_3 x6_1).f3).length c161_3)) (ds := []) #[false,false,false,false,false,false,false,false,false,false,false,false] kr rfl rfl ⟨(blk_cell BK154.out 0).trans rfl, (blk_cell BK154.out 1).trans rfl, (blk_cell BK154.out 2).trans rfl, (blk_cell BK154.out 3).trans rfl, (blk_cell BK155.out 0).trans rfl, (blk_cell BK155.out 1).trans rfl, (blk_cell BK155.out 2).trans rfl, (blk_cell BK155.out 3).trans rfl, ((upw HB.out hw160_0 : _)), ((upw HB.out hw160_1 : _)), ((upw HB.out hw160_2 : _)), ((upw HB.out hw160_3 : _)), ((upw HB.out hw161_0 : _)), ((upw HB.out hw161_1 : _)), ((upw HB.out hw161_2 : _)), ((upw HB.out hw161_3 : _))⟩ (fun hHeld => ?_); refine with_tabW spec_CompareValues.tab11 spec_CompareValues.bits11 (fun HT_ HW_ => ?_)
   generalize wr.drew = w27 at BK154 BK155 HB HR160_2 HR160_3 HR161_2 HR161_3 hx160_0 hx160_1 hx160_2 hx160_3 hx161_0 hx161_1 hx161_2 hx161_3 hHeld ⊢
   refine pure_ (i := 0) (N := some 57) (v := ?_) (a' := ?_) (bm 12 1) rfl rfl (any_of HT_.out kr) qi (Or.inl ⟨by rfl, ?_⟩) ?_ ?_
   rotate_left
   ·intro w'
    go_simp
    with_reducible rfl
   rotate_left
   ·simp only [sx]
    rfl
   refine pure_ (i := 2) (N := some 59) (v := ?_) (a' := ?_) (bm 12 5) rfl rfl (any_of HT_.out kr) qi (Or.inl ⟨by rfl, ?_⟩) ?_ ?_
   rotate_left
   ·intro w'
    go_simp
    with_reducible rfl
   rotate_left
   ·simp only [sx]
    rfl
   refine pure_ (i := 5) (N := some 62) (v := ?_) (a' := ?_) (bm 12 37) rfl rfl (any_of HT_.out kr) qi (Or.inl ⟨by rfl, ?_⟩) ?_ ?_
   rotate_left
   ·intro w'
    go_simp
    with_reducible rfl
   rotate_left
   ·simp only [sx]
    rfl
   refine pure_ (i := 7) (N := some 64) (v := ?_) (a' := ?_) (bm 12 165) rfl rfl (any_of HT_.out kr) qi (Or.inl ⟨by rfl, ?_⟩) ?_ ?_
   rotate_left
   ·intro w'
    go_simp
    with_reducible rfl
   rotate_left
   ·simp only [sx]
    rfl
   refine take_ (i := 1) (N := some 58) (v := ?_) (a' := ?_) (bm 12 167) rfl rfl (take_ofW HT_.out HW_.out kr) qi (Or.inl ⟨by rfl, ?_⟩) hHeld ?_ ?_
   rotate_left
   ·rintro w' ⟨s0, s1, s2, s3, s4, s5, s6, s7, s8, s9, s10, s11, s12, s13, s14, s15⟩
    go_simp
    with_reducible rfl
   rotate_left
   ·simp only [sx]
    rfl
   refine pure_ (i := 3) (N := some 60) (v := ?_) (a' := ?_) (bm 12 175) rfl rfl (any_of HT_.out kr) qi (Or.inl ⟨by rfl, ?_⟩) ?_ ?_
   rotate_left
   ·intro w'
    go_simp
    with_reducible rfl
   rotate_left
   ·simp only [sx]
    rfl
   refine take_ (i := 4) (N := some 61) (v := ?_) (a' := ?_) (bm 12 191) rfl rfl (take_ofW HT_.out HW_.out kr) qi (Or.inl ⟨by rfl, ?_⟩) hHeld ?_ ?_
   rotate_left
   ·rintro w' ⟨s0, s1, s2, s3, s4, s5, s6, s7, s8, s9, s10, s11, s12, s13, s14, s15⟩
    go_simp
    with_reducible rfl
   rotate_left
   ·simp only [sx]
    rfl
   refine take_ (i := 6) (N := some 63) (v := ?_) (a' := ?_) (bm 12 255) rfl rfl (take_ofW HT_.out HW_.out kr) qi (Or.inl ⟨by rfl, ?_⟩) hHeld ?_ ?_
   rotate_left
   ·rintro w' ⟨s0, s1, s2, s3, s4, s5, s6, s7, s8, s9, s10, s11, s12, s13, s14, s15⟩
    go_simp
    with_reducible rfl
   rotate_left
   ·simp only [sx]
    rfl
   refine pure_ (i := 8) (N := some 65) (v := ?_) (a' := ?_) (bm 12 511) rfl rfl (any_of HT_.out kr) qi (Or.inl ⟨by rfl, ?_⟩) ?_ ?_
   rotate_left
   ·intro w'
    go_simp
    with_reducible rfl
   rotate_left
   ·simp only [sx]
    rfl
   refine take_ (i := 9) (N := some 66) (v := ?_) (a' := ?_) (bm 12 1023) rfl rfl (take_ofW HT_.out HW_.out kr) qi (Or.inl ⟨by rfl, ?_⟩) hHeld ?_ ?_
   rotate_left
   ·rintro w' ⟨s0, s1, s2, s3, s4, s5, s6, s7, s8, s9, s10, s11, s12, s13, s14, s15⟩
    go_simp
    with_reducible rfl
   rotate_left
   ·simp only [sx]
    rfl
   refine one_ (i := 10) (N := some 67) (bm 12 2047) rfl rfl (one_of HT_.out kr) (by decide) (fun K hK => ?_)
   refine goes_ Try.func19 kr rfl #[.agg #[.int .i64 ((rd_T30 l0_3 x6_1).f0), .int .i64 ((rd_T30 l0_3 x6_1).f1), .slice A160_2 ((rd_T30 l0_3 x6_1).f2).length c160_2, .slice A160_3 ((rd_T30 l0_3 x6_1).f3).length c160_3], .agg #[.int .i64 ((rd_T30 l1_3 x6_1).f0), .int .i64 ((rd_T30 l1_3 x6_1).f1), .slice A161_2 ((rd_T30 l1_3 x6_1).f2).length c161_2, .slice A161_3 ((rd_T30 l1_3 x6_1).f3).length c161_3]] (by rfl) rfl rfl mpw ?_
   with_reducible refine (ih k1 (by have := HK1.out; omega) ((rd_T30 l0_3 x6_1).f0) ((rd_T30 l0_3 x6_1).f1) _ _ ((rd_T30 l0_3 x6_1).f2) _ _ ((rd_T30 l0_3 x6_1).f3) ((rd_T30 l1_3 x6_1).f0) ((rd_T30 l1_3 x6_1).f1) _ _ ((rd_T30 l1_3 x6_1).f2) _ _ ((rd_T30 l1_3 x6_1).f3) t162 _ ?side1 ?side2 ?side3 ?side4 ?side5 ?side6 ?side7 ?side8 A24.out).mono ?_
   (case side1 => have X_ := HR160_2; exact cbl)
   (case side2 => exact HC160_2.out)
   (case side3 => have X_ := HR160_3; exact cbl)
   (case side4 => exact HC160_3.out)
   (case side5 => have X_ := HR161_2; exact cbl)
   (case side6 => exact HC161_2.out)
   (case side7 => have X_ := HR161_3; exact cbl)
   (case side8 => exact HC161_3.out)
   rintro e w28 ⟨rfl, hb⟩
   refine ⟨_, rfl, ?_⟩
   have n0_ := am (blk_below (g := gb154) bkw hb)
   have n1_ := am (blk_below (g := gb155) bkw hb)
   have n2_ := am (below_step blw hb)
   clear BK154
   clear BK155
   clear HB
   revert n0_ n1_ n2_
   intro BK154 BK155 HB
   (try clear hb)
   (try clear hb2)
   (try clear hk)
   (try clear hi)
   refine hK.out _ _ ⟨(blk_cell BK154.out 0).trans rfl, (blk_cell BK154.out 1).trans rfl, (blk_cell BK154.out 2).trans rfl, (blk_cell BK154.out 3).trans rfl, (blk_cell BK155.out 0).trans rfl, (blk_cell BK155.out 1).trans rfl, (blk_cell BK155.out 2).trans rfl, (blk_cell BK155.out 3).trans rfl, ((upw HB.out hw160_0 : _)), ((upw HB.out hw160_1 : _)), ((upw HB.out hw160_2 : _)), ((upw HB.out hw160_3 : _)), ((upw HB.out hw161_0 : _)), ((upw HB.out hw161_1 : _)), ((upw HB.out hw161_2 : _)), ((upw HB.out hw161_3 : _))⟩ (fun hHeld => ?_)
   clear hK K
   refine norm_ (a' := ?_) ?_ ?_
   rotate_left
   ·show Act.put _ (some 67) _ = _
    simp only [sx]
    rfl
   refine pure_ (i := 11) (N := some 5) (v := ?_) (a' := ?_) (bm 12 4095) rfl rfl (any_of HT_.out kr) qi (Or.inl ⟨by rfl, ?_⟩) ?_ ?_
   rotate_left
   ·intro w'
    go_simp
    with_reducible rfl
   rotate_left
   ·simp only [sx]
    rfl
   refine done_ (done_of HT_.out kr) ?_
   try go_wp2
   go_roundg k1
   case measure => have := HK1.out; omega
   case rel => exact ⟨(t162), (wrap64 (x6_1 + 1)), rfs, rfs, H', ⟨by have := HK1.out; omega⟩, ⟨bkw⟩, ⟨bkw⟩, ⟨blw⟩⟩

-- NOT PRINTED: function 26 (spec_l5Sort)

end Go.Proofs.Ytonimhfahjediaa.Pk
end
section
namespace Go.Proofs.Ytonimhfahjediaa.Pk
set_option maxHeartbeats 8000000
set_option maxRecDepth 100000
open Go.RowKit Go.Proofs.Ytonimhfahjediaa.Ext Go.Proofs.YtonimhfahjediaaW.PrintWords Go.Proofs.YtonimhfahjediaaW.PrintLast Go.Proofs.YtonimhfahjediaaW.PrintMore
attribute [local go_sem] max2_int min2_int max_two min_two max_three min_three max_four min_four   -- for this text's walks alone
set_option linter.unusedVariables false
set_option linter.unusedSimpArgs false

/-! ### laws_markText: function 39 -/
def laws_markText.l0 : Nat → Int → ByteArray → Option (ByteArray)
 | 0, _, _ => none
 | k + 1, x0, x3 => if x0 > 0 then ((some (([(wrap64 (48 + (Int.tmod x0 10))) % 256] : List Int) : List Int)).bind fun y259 => (if (strOfNums y259).size + x3.size ≤ 9223372036854775807 then (laws_markText.l0 k (wrap64 (Int.tdiv x0 10)) ((strOfNums y259) ++ x3)) else (none))) else (if 1 + x3.size ≤ 9223372036854775807 then (some ((⟨#[109]⟩ : ByteArray) ++ x3)) else (none))
def laws_markText.f (k : Nat) (a0 : Int) : Option (ByteArray) := if a0 ≤ 0 then (some (⟨#[109, 48]⟩ : ByteArray)) else (laws_markText.l0 k a0 (⟨#[]⟩ : ByteArray))
theorem laws_markText.calls (k : Nat) (a0 : Int) (r : ByteArray) (w : World) (h : laws_markText.f k a0 = some r) :
  Calls Try.prog 39 #[.int .i64 a0] w fun e w' => e = .returned (.string r) ∧ Below w.heap.size w w' := by
 have HB := am (Below.refl w.heap.size w)
 have H : (if a0 ≤ 0 then (some (⟨#[109, 48]⟩ : ByteArray)) else (laws_markText.l0 k a0 (⟨#[]⟩ : ByteArray))) = some r := h
 clear h
 by_cases c2 : a0 ≤ 0
 ·rw [if_pos c2] at H
  have c2b0 : decide (a0 ≤ 0) = true := decide_eq_true c2
  clear c2
  obtain rfl := Option.some.inj H
  go_enter Try.func39, Try.ntmps39
  go_wp2
  go_ret
  exact ⟨rfw, blw⟩
 rw [if_neg c2] at H
 have c2b0 : decide (a0 ≤ 0) = false := decide_eq_false c2
 clear c2
 have H' := am H
 clear H
 go_enter Try.func39, Try.ntmps39
 go_wp2
 go_loopg [0, 3] k (fun kq v0 v3 w' => ∃ (x0_1 : Int) (x3_1 : ByteArray), v0 = .int .i64 x0_1 ∧ v3 = .string x3_1 ∧ Aside0 (laws_markText.l0 kq x0_1 x3_1 = some r) ∧ Aside0 (kq ≤ k) ∧ Aside0 (Below w.heap.size w w'))
 case atStart => exact ⟨(a0), ((⟨#[]⟩ : ByteArray)), rfs, rfs, H', ⟨Nat.le_refl _⟩, ⟨blw⟩⟩
 case round =>
  clear H'
  (try clear c2); (try clear c2b0); (try clear p2)
  obtain ⟨x0_1, x3_1, rfl, rfl, HA, HK1, HB⟩ := hrel
  cases gk with
  | zero => exact absurd HA.out (by simp [laws_markText.l0])
  | succ k1 =>
   have H := HA.out
   clear HA
   simp only [laws_markText.l0] at H
   by_cases c3 : x0_1 > 0
   case neg =>
    rw [if_neg c3] at H
    have c3b0 : decide (0 < x0_1) = false := decide_eq_false c3
    clear c3
    by_cases c8 : 1 + x3_1.size ≤ 9223372036854775807
    case neg =>
     rw [if_neg c8] at H
     exact absurd H (by simp)
    rw [if_pos c8] at H
    have c8b0 := eq_true c8
    have c8b1 : decide (1 + x3_1.size ≤ 9223372036854775807) = true := decide_eq_true c8
    try have c8b2 : (9223372036854775807 < 1 + x3_1.size) = False := eq_false (Nat.not_lt.2 c8)
    obtain rfl := Option.some.inj H
    go_wp2
    go_ret
    exact ⟨rfw, blw⟩
   rw [if_pos c3] at H
   have c3b0 : decide (0 < x0_1) = true := decide_eq_true c3
   clear c3
   obtain ⟨y259, hy259⟩ : ∃ y_ : List Int, y_ = (([(wrap64 (48 + (Int.tmod x0_1 10))) % 256] : List Int)) := ⟨_, rfl⟩
   replace H : (if (strOfNums y259).size + x3_1.size ≤ 9223372036854775807 then (laws_markText.l0 k1 (wrap64 (Int.tdiv x0_1 10)) ((strOfNums y259) ++ x3_1)) else (none)) = some r := by first | (rw [hy259]; with_reducible exact H) | (have H2_ := (Option.bind_some _ _).symm.trans H; rw [hy259]; with_reducible exact H2_) | (have H2_ := (Option.bind_some _ _).symm.trans H; with_reducible exact H2_) | with_reducible exact H | (rw [hy259]; exact H) | exact H
   have Ny259 := am hy259
   clear hy259
   by_cases c4 : (strOfNums y259).size + x3_1.size ≤ 9223372036854775807
   case neg =>
    rw [if_neg c4] at H
    exact absurd H (by simp)
   rw [if_pos c4] at H
   have c4b0 := eq_true c4
   have c4b1 : decide ((strOfNums y259).size + x3_1.size ≤ 9223372036854775807) = true := decide_eq_true c4
   try have c4b2 : (9223372036854775807 < (strOfNums y259).size + x3_1.size) = False := eq_false (Nat.not_lt.2 c4)
   have H' := am H
   clear H
   go_wp2_with (first | ((with_reducible refine gate_dst (N := 12) rfl ?_); refine Kd.R_lit (Kd.int .u8) _ 5 ?hg (N := 12) ?hd (xs := ([(wrap64 (48 + (Int.tmod x0_1 10))) % 256] : List Int)) (inner := [.int .u8 ((wrap64 (48 + (Int.tmod x0_1 10))) % 256)]) (ok := fun _ => True) (okp := fun _ => True) ?hr ?hp (fun _ hk => hk) trivial (Below.refl _ _) (Nat.le_refl _) (by simp) ?_; (case hd => rfl); (case hg => rfl); (case hr => exact hrw); (case hp => exact (Reps.one (show Kd.M (Kd.int .u8) _ _ _ ((wrap64 (48 + (Int.tmod x0_1 10))) % 256) [.int .u8 ((wrap64 (48 + (Int.tmod x0_1 10))) % 256)] from rfl) (Reps.none _ _))); intro v260 w5 ho6 hb hg_ hnew_; clear hg_ hnew_; (first | rw [← Ny259.out] at ho6 | (simp only [Int.reduceToNat] at ho6; rw [← Ny259.out] at ho6)); have n0_ := am (Kd.R_lower ho6 (below_size blw)); have n1_ := am (below_step blw hb); clear HB; revert n0_ n1_; intro HO261 HB; clear hb ho6; have hcv7 := own_string (P := Try.prog) Try.underlying57 Try.underlying5 Try.underlying9 (Kd.own_of_R HO261.out)))
   go_roundg k1
   case measure => have := HK1.out; omega
   case rel => exact ⟨(wrap64 (Int.tdiv x0_1 10)), ((strOfNums y259) ++ x3_1), rfs, rfs, H', ⟨by have := HK1.out; omega⟩, ⟨blw⟩⟩

/-! ### laws_markStringS: function 29 -/
def laws_markStringS.l0 : Nat → List ByteArray → Int → Int → Option (Int × List ByteArray)
 | 0, _, _, _ => none
 | k + 1, x0, x1, x5 => if x5 < (x0.length : Int) then ((laws_markText.f k x1).bind fun t262 => (if 0 ≤ x5 then (laws_markStringS.l0 k (x0.set (x5 : Int).toNat t262) (wrap64 (x1 + 1)) (wrap64 (x5 + 1))) else (none))) else (some (x1, x0))
def laws_markStringS.f (k : Nat) (l0 : List ByteArray) (a1 : Int) : Option (Int × List ByteArray) := laws_markStringS.l0 k l0 a1 0
theorem laws_markStringS.calls (k : Nat) (P0_ : Nat → Prop) (u9000_ : Value) (l0 : List ByteArray) (a1 : Int) (r1 : Int) (r2 : List ByteArray) (w0 w : World) (hB : Below w0.heap.size w0 w) (ho0 : Kd.R Kd.string 9 w w0.heap.size P0_ u9000_ l0) (h : laws_markStringS.f k l0 a1 = some (r1, r2)) :
  Calls Try.prog 29 #[u9000_, .int .i64 a1] w fun e w' => e = .returned (.int .i64 r1) ∧ Kd.R Kd.string 9 w' w0.heap.size (fun k_ => (P0_ k_ ∨ w.heap.size ≤ k_)) u9000_ r2 ∧ Below w0.heap.size w0 w' ∧ Kept w w' (fun k_ => P0_ k_) := by
 have HO0 := am (show Kd.R Kd.string 9 w w0.heap.size (fun k_ => (P0_ k_ ∨ w.heap.size ≤ k_)) u9000_ l0 from Kd.R_mono ho0 (fun k_ hk => (.inl hk)))
 have HK := am (Kept.refl w (fun k_ => P0_ k_))
 have HW0 := am hB.size
 have HB := am hB
 clear hB
 have H : (laws_markStringS.l0 k l0 a1 0) = some (r1, r2) := h
 clear h
 have H' := am H
 clear H
 go_enter Try.func29, Try.ntmps29
 go_wp2
 go_loopg [1, 5] k (fun kq v1 v5 w' => ∃ (x0_1 : List ByteArray) (x1_1 : Int) (x5_1 : Int), v1 = .int .i64 x1_1 ∧ v5 = .int .i64 x5_1 ∧ Aside0 (laws_markStringS.l0 kq x0_1 x1_1 x5_1 = some (r1, r2)) ∧ Aside0 (kq ≤ k) ∧ Aside0 (Kd.R Kd.string 9 w' w0.heap.size (fun k_ => (P0_ k_ ∨ w.heap.size ≤ k_)) u9000_ x0_1) ∧ Aside0 (Kept w w' (fun k_ => P0_ k_)) ∧ Aside0 (Below w0.heap.size w0 w'))
 case atStart => exact ⟨(l0), (a1), (0), rfs, rfs, H', ⟨Nat.le_refl _⟩, ⟨by (with_reducible repeat (first | apply Kd.R_alloc | apply Kd.R_drewN | apply Kd.R_drew)); exact HO0.out⟩, ⟨by repeat (first | (with_reducible first | exact HK.out | apply Kept.alloc | apply Kept.drewN | apply Kept.drew) | exact HK.out)⟩, ⟨blw⟩⟩
 case round =>
  clear H'
  (try clear c2); (try clear p2)
  obtain ⟨x0_1, x1_1, x5_1, rfl, rfl, HA, HK1, HO_0, HK, HB⟩ := hrel
  cases gk with
  | zero => exact absurd HA.out (by simp [laws_markStringS.l0])
  | succ k1 =>
   have H := HA.out
   clear HA
   simp only [laws_markStringS.l0] at H
   by_cases c3 : x5_1 < (x0_1.length : Int)
   case neg =>
    rw [if_neg c3] at H
    have c3b0 : decide (x5_1 < (x0_1.length : Int)) = false := decide_eq_false c3
    clear c3
    simp only [Option.some.injEq, Prod.mk.injEq] at H
    obtain ⟨rfl, rfl⟩ := H
    obtain ⟨Ao11, co11, eo11⟩ := Kd.R_slice HO_0.out
    subst eo11
    go_wp2
    go_ret
    exact ⟨rfw, by (with_reducible repeat (first | apply Kd.R_alloc | apply Kd.R_drewN | apply Kd.R_drew)); exact HO_0.out, blw, by repeat (first | (with_reducible first | exact HK.out | apply Kept.alloc | apply Kept.drewN | apply Kept.drew) | exact HK.out)⟩
   rw [if_pos c3] at H
   have c3b0 : decide (x5_1 < (x0_1.length : Int)) = true := decide_eq_true c3
   clear c3
   replace H := Option.bind_eq_some_iff.mp H
   obtain ⟨t262, A40, H⟩ := H
   replace H : (if 0 ≤ x5_1 then (laws_markStringS.l0 k1 (x0_1.set (x5_1 : Int).toNat t262) (wrap64 (x1_1 + 1)) (wrap64 (x5_1 + 1))) else (none)) = some (r1, r2) := H
   have A4 := am A40
   clear A40
   by_cases c5 : 0 ≤ x5_1
   case neg =>
    rw [if_neg c5] at H
    exact absurd H (by simp)
   rw [if_pos c5] at H
   have c5b0 : decide (0 ≤ x5_1) = true := decide_eq_true c5
   clear c5
   obtain ⟨y263, hy263⟩ : ∃ y_ : List ByteArray, y_ = (x0_1.set (x5_1 : Int).toNat t262) := ⟨_, rfl⟩
   replace H : (laws_markStringS.l0 k1 y263 (wrap64 (x1_1 + 1)) (wrap64 (x5_1 + 1))) = some (r1, r2) := by first | (rw [hy263]; with_reducible exact H) | (have H2_ := (Option.bind_some _ _).symm.trans H; rw [hy263]; with_reducible exact H2_) | (have H2_ := (Option.bind_some _ _).symm.trans H; with_reducible exact H2_) | with_reducible exact H | (rw [hy263]; exact H) | exact H
   have Ny263 := am hy263
   clear hy263
   have H' := am H
   clear H
   obtain ⟨Ao7, co7, eo7⟩ := Kd.R_slice HO_0.out
   subst eo7
   go_wp2_with (first | ((with_reducible refine gate_callee (f := 39) rfl ?_); refine goesL_ (some 15) rfl rfl Try.func39 kr rfl #[.int .i64 x1_1] rfl mpw ?_; (with_reducible refine (laws_markText.calls k1 x1_1 t262 _ A4.out).mono ?_); rintro e w8 ⟨rfl, hb⟩; refine ⟨_, rfl, ?_⟩; have n0_ := am (Kd.R_below (by (with_reducible repeat (first | apply Kd.R_alloc | apply Kd.R_drewN | apply Kd.R_drew)); exact HO_0.out) hb); have n1_ := am (Kept.below (S := (fun k_ => P0_ k_)) (by repeat (first | (with_reducible first | exact HK.out | apply Kept.alloc | apply Kept.drewN | apply Kept.drew) | exact HK.out)) hb); have n2_ := am (below_step blw hb); clear HO_0; clear HK; clear HB; revert n0_ n1_ n2_; intro HO_0 HK HB; (try clear hb); (try clear hb2); (try clear hk); (try clear hi); have p6 : 0 ≤ (x5_1 : Int) := of_decide_eq_true asw; have q6 : (x5_1 : Int) < ((x0_1.length : Int) : Int) := of_decide_eq_true asw; obtain ⟨go6, co6, eo6, gb6, gl6, cl6, HG6⟩ := Kd.R_form HO_0.out (by omega); (first | cases eo6 | (injection eo6 with ea_ en_ ec_; (first | subst ea_ | (injection ea_ with ea_; subst ea_)); subst ec_; clear en_)); have GB6 := am gb6; have GG6 := am HG6; clear gb6 gl6 HG6; have HMgo6 := am (show (P0_ go6 ∨ w.heap.size ≤ go6) from (HO_0.out.1 _ rfl)); obtain ⟨hx6_0, hf6_0⟩ := Kd.R_celln (⟨#[]⟩ : ByteArray) HO_0.out (x5_1 : Int) p6 q6; replace p6 := eq_true p6; replace q6 := eq_true q6; obtain ⟨hy9_, hz9_⟩ := Kd.R_celln (⟨#[]⟩ : ByteArray) HO_0.out (x5_1 : Int) (of_decide_eq_true asw) (of_decide_eq_true asw); have HP9 := Kd.R_putg HO_0.out (x5_1 : Int) t262) | ((with_reducible refine gate_store (t := 9) (p := 16) rfl ?_); refine store_event (t := 9) (p := 16) (v := ?vo_w10) (w1 := (w8.setCell ⟨go6, (x5_1 : Int).toNat, none⟩ (.string t262))) ?hg ?ho ?hn ?hr ?_; (case ho => rfl); (case hg => rfl); (case hn => rfl); (case hr => exact hrw); intro w10 hw; have hg : w8.grownBy w10 (some go6) := (by rw [hw]; exact HP9.2); have hp_ : Kd.R Kd.string 9 w10 w0.heap.size (fun k_ => (P0_ k_ ∨ w.heap.size ≤ k_)) (.slice (some ⟨go6, 0, none⟩) x0_1.length co7) y263 := (by rw [hw, Ny263.out]; exact HP9.1); clear HP9; have n0_ := am (hp_); have n1_ := am ((by rw [hw]; exact below_set (HB.out) GB6.out : Below w0.heap.size w0 w10)); have n2_ := am (Kept.of_grown (S := (fun k_ => P0_ k_)) hg (by repeat (first | (with_reducible first | exact HK.out | apply Kept.alloc | apply Kept.drewN | apply Kept.drew) | exact HK.out)) (fun k_ e_ => (HO_0.out.1 k_ e_))); clear HO_0; clear HB; clear HK; revert n0_ n1_ n2_; intro HO_0 HB HK; clear hg hw hp_))
   go_roundg k1
   case measure => have := HK1.out; omega
   case rel => exact ⟨(y263), (wrap64 (x1_1 + 1)), (wrap64 (x5_1 + 1)), rfs, rfs, H', ⟨by have := HK1.out; omega⟩, ⟨by (with_reducible repeat (first | apply Kd.R_alloc | apply Kd.R_drewN | apply Kd.R_drew)); exact HO_0.out⟩, ⟨by repeat (first | (with_reducible first | exact HK.out | apply Kept.alloc | apply Kept.drewN | apply Kept.drew) | exact HK.out)⟩, ⟨blw⟩⟩

-- NOT PRINTED: function 30 (laws_markValueS)

-- NOT PRINTED: function 15 (laws_markValue)

/-! ### laws_heldStringS: function 31 -/
def laws_heldStringS.l0 : Nat → List ByteArray → Int → Int → Option (Int)
 | 0, _, _, _ => none
 | k + 1, x0, x1, x5 => if x5 < (x0.length : Int) then (if 0 ≤ x5 then ((laws_markText.f k x1).bind fun t268 => (if (rdOf ByteArray.empty x0 x5).toList = t268.toList then (laws_heldStringS.l0 k x0 (wrap64 (x1 + 1)) (wrap64 (x5 + 1))) else (some (-1)))) else (none)) else (some x1)
def laws_heldStringS.f (k : Nat) (l0 : List ByteArray) (a1 : Int) : Option (Int) := laws_heldStringS.l0 k l0 a1 0
theorem laws_heldStringS.calls (k : Nat) (A0 : Option Addr) (c0 : Nat) (l0 : List ByteArray) (a1 : Int) (r : Int) (w : World) (hr0 : Kd.C Kd.string w A0 l0.length l0) (hc0 : l0.length ≤ c0) (h : laws_heldStringS.f k l0 a1 = some r) :
  Calls Try.prog 31 #[.slice A0 l0.length c0, .int .i64 a1] w fun e w' => e = .returned (.int .i64 r) ∧ Below w.heap.size w w' := by
 have HR0 := am hr0
 have HC0 := am hc0
 clear hr0 hc0
 have HB := am (Below.refl w.heap.size w)
 have H : (laws_heldStringS.l0 k l0 a1 0) = some r := h
 clear h
 have H' := am H
 clear H
 go_enter Try.func31, Try.ntmps31
 go_wp2
 go_loopg [1, 5] k (fun kq v1 v5 w' => ∃ (x1_1 : Int) (x5_1 : Int), v1 = .int .i64 x1_1 ∧ v5 = .int .i64 x5_1 ∧ Aside0 (laws_heldStringS.l0 kq l0 x1_1 x5_1 = some r) ∧ Aside0 (kq ≤ k) ∧ Aside0 (Below w.heap.size w w'))
 case atStart => exact ⟨(a1), (0), rfs, rfs, H', ⟨Nat.le_refl _⟩, ⟨blw⟩⟩
 case round =>
  clear H'
  try clear p2
  obtain ⟨x1_1, x5_1, rfl, rfl, HA, HK1, HB⟩ := hrel
  cases gk with
  | zero => exact absurd HA.out (by simp [laws_heldStringS.l0])
  | succ k1 =>
   have H := HA.out
   clear HA
   simp only [laws_heldStringS.l0] at H
   by_cases c3 : x5_1 < (l0.length : Int)
   case neg =>
    rw [if_neg c3] at H
    have c3b0 : decide (x5_1 < (l0.length : Int)) = false := decide_eq_false c3
    clear c3
    obtain rfl := Option.some.inj H
    go_wp2
    go_ret
    exact ⟨rfw, blw⟩
   rw [if_pos c3] at H
   have c3b0 : decide (x5_1 < (l0.length : Int)) = true := decide_eq_true c3
   clear c3
   by_cases c4 : 0 ≤ x5_1
   case neg =>
    rw [if_neg c4] at H
    exact absurd H (by simp)
   rw [if_pos c4] at H
   have c4b0 : decide (0 ≤ x5_1) = true := decide_eq_true c4
   clear c4
   replace H := Option.bind_eq_some_iff.mp H
   obtain ⟨t268, A50, H⟩ := H
   replace H : (if (rdOf ByteArray.empty l0 x5_1).toList = t268.toList then (laws_heldStringS.l0 k1 l0 (wrap64 (x1_1 + 1)) (wrap64 (x5_1 + 1))) else (some (-1))) = some r := H
   have A5 := am A50
   clear A50
   have HC6 := am H
   clear H
   try go_wp2
   have n0_ := am (below_drew1 HB.out)
   clear HB
   revert n0_
   intro HB
   have p267 : 0 ≤ (x5_1 : Int) := of_decide_eq_true asw
   have q267 : x5_1 < (l0.length : Int) := of_decide_eq_true asw
   obtain ⟨ad267, e267, hx267_0⟩ := Kd.at_string HR0.out x5_1 p267 q267
   have hw267_0 := hx267_0
   cases e267
   replace hx267_0 := upw HB.out hx267_0
   replace p267 := eq_true p267
   replace q267 := eq_true q267
   refine start_ (n := 7) (S := fun w' => w'.cell? (ad267.add (x5_1).toNat) = some (.string (rdOf ByteArray.empty l0 x5_1))) (ds := []) #[false,false,false,false,false,false,false] kr rfl rfl (((upw HB.out hw267_0 : _))) (fun hHeld => ?_)
   generalize wr.drew = w7 at HB hx267_0 hHeld ⊢
   refine pure_ (i := 0) (N := some 12) (v := ?_) (a' := ?_) (bm 7 1) rfl rfl kr qi (Or.inl ⟨by rfl, ?_⟩) ?_ ?_
   rotate_left
   ·intro w'
    go_simp
    with_reducible rfl
   rotate_left
   ·simp only [sx]
    rfl
   refine pure_ (i := 1) (N := some 13) (v := ?_) (a' := ?_) (bm 7 3) rfl rfl kr qi (Or.inl ⟨by rfl, ?_⟩) ?_ ?_
   rotate_left
   ·intro w'
    go_simp
    with_reducible rfl
   rotate_left
   ·simp only [sx]
    rfl
   refine pure_ (i := 2) (N := some 14) (v := ?_) (a' := ?_) (bm 7 7) rfl rfl kr qi (Or.inl ⟨by rfl, ?_⟩) ?_ ?_
   rotate_left
   ·intro w'
    go_simp
    with_reducible rfl
   rotate_left
   ·simp only [sx]
    rfl
   refine pure_ (i := 4) (N := some 16) (v := ?_) (a' := ?_) (bm 7 23) rfl rfl kr qi (Or.inl ⟨by rfl, ?_⟩) ?_ ?_
   rotate_left
   ·intro w'
    go_simp
    with_reducible rfl
   rotate_left
   ·simp only [sx]
    rfl
   refine take_ (i := 3) (N := some 15) (v := ?_) (a' := ?_) (bm 7 31) rfl rfl kr qi (Or.inl ⟨by rfl, ?_⟩) hHeld ?_ ?_
   rotate_left
   ·intro w' s0
    go_simp
    with_reducible rfl
   rotate_left
   ·simp only [sx]
    rfl
   refine one_ (i := 5) (N := some 17) (bm 7 63) rfl rfl kr (by decide) (fun K hK => ?_)
   refine goes_ Try.func39 kr rfl #[.int .i64 x1_1] (by rfl) rfl rfl mpw ?_
   with_reducible refine (laws_markText.calls k1 x1_1 t268 _ A5.out).mono ?_
   rintro e w8 ⟨rfl, hb⟩
   refine ⟨_, rfl, ?_⟩
   have n0_ := am (below_step blw hb)
   clear HB
   revert n0_
   intro HB
   (try clear hb)
   (try clear hb2)
   (try clear hk)
   (try clear hi)
   refine hK.out _ _ (((upw HB.out hw267_0 : _))) (fun hHeld => ?_)
   clear hK K
   refine norm_ (a' := ?_) ?_ ?_
   rotate_left
   ·show Act.put _ (some 17) _ = _
    simp only [sx]
    rfl
   refine pure_ (i := 6) (N := some 18) (v := ?_) (a' := ?_) (bm 7 127) rfl rfl kr qi (Or.inl ⟨by rfl, ?_⟩) ?_ ?_
   rotate_left
   ·intro w'
    go_simp
    with_reducible rfl
   rotate_left
   ·simp only [sx]
    rfl
   refine done_ kr ?_
   go_upto_if 18 with (fail)
   have H := HC6.out
   clear HC6
   by_cases c9 : (rdOf ByteArray.empty l0 x5_1).toList = t268.toList
   case neg =>
    rw [if_neg c9] at H
    have c9b0 : ((rdOf ByteArray.empty l0 x5_1).toList == t268.toList) = false := beq_eq_false_iff_ne.mpr c9
    have c9b1 : ((rdOf ByteArray.empty l0 x5_1).toList != t268.toList) = true := bne_iff_ne.mpr c9
    (first | rw [c9b0] | (simp only [i64_w, i32_w]; rw [c9b0]) | (rw [c9b1]; (try simp only [Bool.not_true, Bool.not_false])) | skip)
    obtain rfl := Option.some.inj H
    go_wp2
    go_ret
    exact ⟨rfw, blw⟩
   rw [if_pos c9] at H
   have c9b0 : ((rdOf ByteArray.empty l0 x5_1).toList == t268.toList) = true := beq_iff_eq.mpr c9
   have c9b1 : ((rdOf ByteArray.empty l0 x5_1).toList != t268.toList) = false := bne_eq_false_iff_eq.mpr c9
   clear c9
   (first | rw [c9b0] | (simp only [i64_w, i32_w]; rw [c9b0]) | (rw [c9b1]; (try simp only [Bool.not_true, Bool.not_false])) | skip)
   have H' := am H
   clear H
   go_wp2
   go_roundg k1
   case measure => have := HK1.out; omega
   case rel => exact ⟨(wrap64 (x1_1 + 1)), (wrap64 (x5_1 + 1)), rfs, rfs, H', ⟨by have := HK1.out; omega⟩, ⟨blw⟩⟩

end Go.Proofs.Ytonimhfahjediaa.Pk
end
