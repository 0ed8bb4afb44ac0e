/- Printed by a program of this session: what functions of the translation come to, each contract as it stands. No condition. -/
import Derived.Test.YtgplgphchdgedaaDoorZFormatTermSh
import Derived.Test.YtgplgphchdgedaaDoorZFormatTermPx0M
import Derived.Test.YtgplgphchdgedaaDoorZFormatTermPx24M
import Derived.Test.YtgplgphchdgedaaDoorZFormatTermPx14
import Derived.Test.YtgplgphchdgedaaDoorZFormatTermPx15M
import Derived.Test.YtgplgphchdgedaaDoorZFormatTermPx17M
import Derived.Test.YtgplgphchdgedaaDoorZFormatTermPx4M
import Derived.Test.YtgplgphchdgedaaDoorZFormatTermWLastM
import Derived.Test.YtgplgphchdgedaaDoorZFormatTermPx10M
import Derived.Test.YtgplgphchdgedaaDoorZFormatTermPx21M
section
namespace Go.Proofs.YtgplgphchdgedaaDoor.Px
set_option maxHeartbeats 8000000
set_option maxRecDepth 100000
open Go.RowKit Go.Proofs.YtgplgphchdgedaaDoor.Ext Go.Proofs.YtgplgphchdgedaaDoorW.PrintWords Go.Proofs.YtgplgphchdgedaaDoorW.PrintLast Go.Proofs.YtgplgphchdgedaaDoorW.PrintMore
attribute [local go_sem] max2_int min2_int max_two min_two max_three min_three max_four min_four   -- for this text's walks alone
set_option linter.unusedVariables false
set_option linter.unusedSimpArgs false

mutual
def laws_eqType.f : Nat → Int → List ByteArray → List (S33) → Int → List ByteArray → List (S33) → Option (Bool)
 | 0, _, _, _, _, _, _ => none
 | k + 1, a0_0, l0_1, l0_2, a1_0, l1_1, l1_2 => if a0_0 = a1_0 then ((laws_eqStringS.f k l0_1 l1_1).bind fun t391 => (if t391 = true then ((laws_eqTypeS.f k l0_2 l1_2).bind fun t392 => (if t392 = true then (some true) else (some false))) else (some false))) else (some false)
def laws_eqTypeS.l0 : Nat → List (S33) → List (S33) → Int → Option (Bool)
 | 0, _, _, _ => none
 | k + 1, x0, x1, x5 => if x5 < (x0.length : Int) then (if 0 ≤ x5 then (if x5 < (x1.length : Int) then ((laws_eqType.f k ((rd_T33 x0 x5).f0) ((rd_T33 x0 x5).f1) ((rd_T33 x0 x5).f2) ((rd_T33 x1 x5).f0) ((rd_T33 x1 x5).f1) ((rd_T33 x1 x5).f2)).bind fun t395 => (if t395 = true then (laws_eqTypeS.l0 k x0 x1 (wrap64 (x5 + 1))) else (some false))) else (none)) else (none)) else (some true)
def laws_eqTypeS.f : Nat → List (S33) → List (S33) → Option (Bool)
 | 0, _, _ => none
 | k + 1, l0, l1 => if (l0.length : Int) = (l1.length : Int) then (laws_eqTypeS.l0 k l0 l1 0) else (some false)
end
abbrev laws_eqType.T (k : Nat) : Prop := ∀ (a0_0 : Int) (A0_1 : Option Addr) (c0_1 : Nat) (l0_1 : List ByteArray) (A0_2 : Option Addr) (c0_2 : Nat) (l0_2 : List (S33)) (a1_0 : Int) (A1_1 : Option Addr) (c1_1 : Nat) (l1_1 : List ByteArray) (A1_2 : Option Addr) (c1_2 : Nat) (l1_2 : List (S33)) (r : Bool) (w : World) (hr0_1 : Kd.C Kd.string w A0_1 l0_1.length l0_1) (hc0_1 : l0_1.length ≤ c0_1) (hr0_2 : Kd.C k33 w A0_2 l0_2.length l0_2) (hc0_2 : l0_2.length ≤ c0_2) (hr1_1 : Kd.C Kd.string w A1_1 l1_1.length l1_1) (hc1_1 : l1_1.length ≤ c1_1) (hr1_2 : Kd.C k33 w A1_2 l1_2.length l1_2) (hc1_2 : l1_2.length ≤ c1_2) (h : laws_eqType.f k a0_0 l0_1 l0_2 a1_0 l1_1 l1_2 = some r),
  Calls Tryd.prog 19 #[.agg #[.int .i64 a0_0, .slice A0_1 l0_1.length c0_1, .slice A0_2 l0_2.length c0_2], .agg #[.int .i64 a1_0, .slice A1_1 l1_1.length c1_1, .slice A1_2 l1_2.length c1_2]] w fun e w' => e = .returned (.bool r) ∧ Below w.heap.size w w'
abbrev laws_eqTypeS.T (k : Nat) : Prop := ∀ (A0 : Option Addr) (c0 : Nat) (l0 : List (S33)) (A1 : Option Addr) (c1 : Nat) (l1 : List (S33)) (r : Bool) (w : World) (hr0 : Kd.C k33 w A0 l0.length l0) (hc0 : l0.length ≤ c0) (hr1 : Kd.C k33 w A1 l1.length l1) (hc1 : l1.length ≤ c1) (h : laws_eqTypeS.f k l0 l1 = some r),
  Calls Tryd.prog 36 #[.slice A0 l0.length c0, .slice A1 l1.length c1] w fun e w' => e = .returned (.bool r) ∧ Below w.heap.size w w'
/-! ### laws_eqType: function 19 -/
theorem laws_eqType.step (k : Nat) (ih : ∀ m, m < k → laws_eqType.T m) (ih_36 : ∀ m, m < k → laws_eqTypeS.T m) : laws_eqType.T k := by
 intro a0_0 A0_1 c0_1 l0_1 A0_2 c0_2 l0_2 a1_0 A1_1 c1_1 l1_1 A1_2 c1_2 l1_2 r w hr0_1 hc0_1 hr0_2 hc0_2 hr1_1 hc1_1 hr1_2 hc1_2 h
 cases k with
 | zero => exact absurd h (by simp [laws_eqType.f])
 | succ k =>
 simp only [laws_eqType.f] at h
 have hu33 := Tryd.underlying33
 have HR0_1 := am hr0_1
 have HC0_1 := am hc0_1
 clear hr0_1 hc0_1
 have HR0_2 := am hr0_2
 have HC0_2 := am hc0_2
 clear hr0_2 hc0_2
 have HR1_1 := am hr1_1
 have HC1_1 := am hc1_1
 clear hr1_1 hc1_1
 have HR1_2 := am hr1_2
 have HC1_2 := am hc1_2
 clear hr1_2 hc1_2
 have HB := am (Below.refl w.heap.size w)
 have H : (if a0_0 = a1_0 then ((laws_eqStringS.f k l0_1 l1_1).bind fun t391 => (if t391 = true then ((laws_eqTypeS.f k l0_2 l1_2).bind fun t392 => (if t392 = true then (some true) else (some false))) else (some false))) else (some false)) = some r := h
 clear h
 have HC3 := am H
 clear H
 go_enter Tryd.func19, Tryd.ntmps19
 go_upto_if 9 with (first | ((with_reducible refine gate_dst (N := 2) rfl ?_); refine box_event ?hg (N := 2) ?hd (cs := #[.int .i64 a0_0, .slice A0_1 l0_1.length c0_1, .slice A0_2 l0_2.length c0_2]) (t := 33) ?hr ?_; (case hd => rfl); (case hg => rfl); (case hr => exact hrw); intro gb389 hg w4 hbox hb; have n0_ := am (below_step blw hb); have n1_ := am (hbox); have n2_ := am ((by rw [hg]; exact (below_size blw) : w.heap.size ≤ gb389)); have n3_ := n2_; clear HB; revert n0_ n1_ n2_ n3_; intro HB BK389 GW389 GE389; clear hb hbox hg) | ((with_reducible refine gate_dst (N := 3) rfl ?_); refine box_event ?hg (N := 3) ?hd (cs := #[.int .i64 a1_0, .slice A1_1 l1_1.length c1_1, .slice A1_2 l1_2.length c1_2]) (t := 33) ?hr ?_; (case hd => rfl); (case hg => rfl); (case hr => exact hrw); intro gb390 hg w5 hbox hb; have n0_ := am (blk_below (g := gb389) bkw hb); have n1_ := am (below_step blw hb); have n2_ := am (hbox); have n3_ := am ((by rw [hg]; exact (below_size blw) : w.heap.size ≤ gb390)); have n4_ := n3_; have n5_ := am ((by rw [hg]; exact Nat.ne_of_lt (blk_lt (g := gb389) bkw) : gb389 ≠ gb390)); have n6_ := am ((by rw [hg]; exact Nat.ne_of_gt (blk_lt (g := gb389) bkw) : gb390 ≠ gb389)); clear BK389; clear HB; revert n0_ n1_ n2_ n3_ n4_ n5_ n6_; intro BK389 HB BK390 GW390 GE390 NB389_390 NB390_389; clear hb hbox hg; have hnb6 := NB389_390.out; have hnc6 := NB390_389.out; obtain ⟨hcz7_0, hcz7_1, hcz7_2⟩ := cls3 BK389.out; obtain ⟨hfz7_0, hfz7_1, hfz7_2⟩ := frz3 BK389.out; obtain ⟨hcz8_0, hcz8_1, hcz8_2⟩ := cls3 BK390.out; obtain ⟨hfz8_0, hfz8_1, hfz8_2⟩ := frz3 BK390.out))
 have H := HC3.out
 clear HC3
 by_cases c9 : a0_0 = a1_0
 case neg =>
  rw [if_neg c9] at H
  have c9b0 : (a0_0 == a1_0) = false := beq_eq_false_iff_ne.mpr c9
  have c9b1 : (a0_0 != a1_0) = true := bne_iff_ne.mpr c9
  (first | rw [c9b0] | (simp only [i64_w, i32_w]; rw [c9b0]) | (rw [c9b1]; (try simp only [Bool.not_true, Bool.not_false])) | skip)
  obtain rfl := Option.some.inj H
  go_wp2
  go_ret
  exact ⟨rfw, blw⟩
 rw [if_pos c9] at H
 have c9b0 : (a0_0 == a1_0) = true := beq_iff_eq.mpr c9
 have c9b1 : (a0_0 != a1_0) = false := bne_eq_false_iff_eq.mpr c9
 clear c9
 (first | rw [c9b0] | (simp only [i64_w, i32_w]; rw [c9b0]) | (rw [c9b1]; (try simp only [Bool.not_true, Bool.not_false])) | skip)
 replace H := Option.bind_eq_some_iff.mp H
 obtain ⟨t391, A100, H⟩ := H
 replace H : (if t391 = true then ((laws_eqTypeS.f k l0_2 l1_2).bind fun t392 => (if t392 = true then (some true) else (some false))) else (some false)) = some r := H
 have A10 := am A100
 clear A100
 have HC11 := am H
 clear H
 have hnb12 := NB389_390.out
 have hnc12 := NB390_389.out
 obtain ⟨hcz13_0, hcz13_1, hcz13_2⟩ := cls3 BK389.out
 obtain ⟨hfz13_0, hfz13_1, hfz13_2⟩ := frz3 BK389.out
 obtain ⟨hcz14_0, hcz14_1, hcz14_2⟩ := cls3 BK390.out
 obtain ⟨hfz14_0, hfz14_1, hfz14_2⟩ := frz3 BK390.out
 go_upto_if 15 with (first | ((with_reducible refine gate_callee (f := 20) rfl ?_); refine goesL_ (some 14) rfl rfl Tryd.func20 kr rfl #[.slice A0_1 l0_1.length c0_1, .slice A1_1 l1_1.length c1_1] rfl mpw ?_; (with_reducible refine (laws_eqStringS.calls k _ _ l0_1 _ _ l1_1 t391 _ ?side1 ?side2 ?side3 ?side4 A10.out).mono ?_); (case side1 => have X_ := HR0_1; exact cbl); (case side2 => exact HC0_1.out); (case side3 => have X_ := HR1_1; exact cbl); (case side4 => exact HC1_1.out); rintro e w' ⟨rfl, ⟨nd, rfl⟩⟩; refine ⟨_, rfl, ?_⟩))
 have H := HC11.out
 clear HC11
 by_cases c15 : t391 = true
 case neg =>
  replace c15 := Bool.eq_false_iff.mpr c15
  subst c15
  have H1 : (some false) = some r := by rw [if_neg (show ¬ (false = true) by decide)] at H; exact H
  clear H
  have H := H1
  clear H1
  obtain rfl := Option.some.inj H
  go_wp2
  go_ret
  exact ⟨rfw, blw⟩
 subst c15
 have H1 : ((laws_eqTypeS.f k l0_2 l1_2).bind fun t392 => (if t392 = true then (some true) else (some false))) = some r := by rw [if_pos rfl] at H; exact H
 clear H
 have H := H1
 clear H1
 replace H := Option.bind_eq_some_iff.mp H
 obtain ⟨t392, A160, H⟩ := H
 replace H : (if t392 = true then (some true) else (some false)) = some r := H
 have A16 := am A160
 clear A160
 have HC17 := am H
 clear H
 have hnb18 := NB389_390.out
 have hnc18 := NB390_389.out
 obtain ⟨hcz19_0, hcz19_1, hcz19_2⟩ := cls3 BK389.out
 obtain ⟨hfz19_0, hfz19_1, hfz19_2⟩ := frz3 BK389.out
 obtain ⟨hcz20_0, hcz20_1, hcz20_2⟩ := cls3 BK390.out
 obtain ⟨hfz20_0, hfz20_1, hfz20_2⟩ := frz3 BK390.out
 go_upto_if 21 with (first | ((with_reducible refine gate_callee (f := 36) rfl ?_); refine goesL_ (some 20) rfl rfl Tryd.func36 kr rfl #[.slice A0_2 l0_2.length c0_2, .slice A1_2 l1_2.length c1_2] rfl mpw ?_; (with_reducible refine (ih_36 k (by omega) _ _ l0_2 _ _ l1_2 t392 _ ?side1 ?side2 ?side3 ?side4 A16.out).mono ?_); (case side1 => have X_ := HR0_2; exact cbl); (case side2 => exact HC0_2.out); (case side3 => have X_ := HR1_2; exact cbl); (case side4 => exact HC1_2.out); rintro e w21 ⟨rfl, hb⟩; refine ⟨_, rfl, ?_⟩; have n0_ := am (blk_below (g := gb389) bkw hb); have n1_ := am (blk_below (g := gb390) bkw hb); have n2_ := am (below_step blw hb); clear BK389; clear BK390; clear HB; revert n0_ n1_ n2_; intro BK389 BK390 HB; (try clear hb); (try clear hb2); (try clear hk); (try clear hi)))
 have H := HC17.out
 clear HC17
 by_cases c22 : t392 = true
 ·subst c22
  have H1 : (some true) = some r := by rw [if_pos rfl] at H; exact H
  clear H
  have H := H1
  clear H1
  obtain rfl := Option.some.inj H
  go_wp2
  go_ret
  exact ⟨rfw, blw⟩
 replace c22 := Bool.eq_false_iff.mpr c22
 subst c22
 have H1 : (some false) = some r := by rw [if_neg (show ¬ (false = true) by decide)] at H; exact H
 clear H
 have H := H1
 clear H1
 obtain rfl := Option.some.inj H
 go_wp2
 go_ret
 exact ⟨rfw, blw⟩

/-! ### laws_eqTypeS: function 36 -/
def laws_eqTypeS.T6 : Bool × List (List Nat × List Nat) := (true, [([], []), ([], []), ([0, 1], [0, 1]), ([2], [2]), ([], []), ([], []), ([4, 5], [4, 5]), ([6], [6]), ([3, 7], [3, 7]), ([8], [8])])
def laws_eqTypeS.B6 : List Nat := [0, 0, 3, 7, 0, 0, 48, 112, 255, 511]
theorem laws_eqTypeS.tab6 : rtab .any (opsOf Tryd.f36 6) = laws_eqTypeS.T6 := by kernel_rfl
theorem laws_eqTypeS.bits6 : waitsOk laws_eqTypeS.T6.2 laws_eqTypeS.B6 = true := by kernel_rfl
theorem laws_eqTypeS.step (k : Nat) (ih : ∀ m, m < k → laws_eqTypeS.T m) (ih_19 : ∀ m, m < k → laws_eqType.T m) : laws_eqTypeS.T k := by
 intro A0 c0 l0 A1 c1 l1 r w hr0 hc0 hr1 hc1 h
 cases k with
 | zero => exact absurd h (by simp [laws_eqTypeS.f])
 | succ k =>
 simp only [laws_eqTypeS.f] at h
 have hu33 := Tryd.underlying33
 have HR0 := am hr0
 have HC0 := am hc0
 clear hr0 hc0
 have HR1 := am hr1
 have HC1 := am hc1
 clear hr1 hc1
 have HB := am (Below.refl w.heap.size w)
 have H : (if (l0.length : Int) = (l1.length : Int) then (laws_eqTypeS.l0 k l0 l1 0) else (some false)) = some r := h
 clear h
 by_cases c3 : (l0.length : Int) = (l1.length : Int)
 case neg =>
  rw [if_neg c3] at H
  have c3b0 : ((l0.length : Int) == (l1.length : Int)) = false := beq_eq_false_iff_ne.mpr c3
  have c3b1 : ((l0.length : Int) != (l1.length : Int)) = true := bne_iff_ne.mpr c3
  have c3b2 : (l0.length == l1.length) = false := by first | simpa using c3 | (simp at c3 ⊢; omega)
  obtain rfl := Option.some.inj H
  go_enter Tryd.func36, Tryd.ntmps36
  go_wp2
  go_ret
  exact ⟨rfw, blw⟩
 rw [if_pos c3] at H
 have c3b0 : ((l0.length : Int) == (l1.length : Int)) = true := beq_iff_eq.mpr c3
 have c3b1 : ((l0.length : Int) != (l1.length : Int)) = false := bne_eq_false_iff_eq.mpr c3
 have c3b2 : (l0.length == l1.length) = true := by first | simpa using c3 | (simp at c3 ⊢; omega)
 clear c3
 have H' := am H
 clear H
 go_enter Tryd.func36, Tryd.ntmps36
 go_wp2
 go_loopg [5] k (fun kq v5 w' => ∃ (x5_1 : Int), v5 = .int .i64 x5_1 ∧ Aside0 (laws_eqTypeS.l0 kq l0 l1 x5_1 = some r) ∧ Aside0 (kq ≤ k) ∧ Aside0 (Below w.heap.size w w'))
 case atStart => exact ⟨(0), rfs, H', ⟨Nat.le_refl _⟩, ⟨blw⟩⟩
 case round =>
  clear H'
  (try clear c1); (try clear p2); (try clear c3); (try clear c3b0); (try clear c3b1); (try clear c3b2)
  obtain ⟨x5_1, rfl, HA, HK1, HB⟩ := hrel
  cases gk with
  | zero => exact absurd HA.out (by simp [laws_eqTypeS.l0])
  | succ k1 =>
   have H := HA.out
   clear HA
   simp only [laws_eqTypeS.l0] at H
   by_cases c4 : x5_1 < (l0.length : Int)
   case neg =>
    rw [if_neg c4] at H
    have c4b0 : decide (x5_1 < (l0.length : Int)) = false := decide_eq_false c4
    clear c4
    obtain rfl := Option.some.inj H
    go_wp2
    go_ret
    exact ⟨rfw, blw⟩
   rw [if_pos c4] at H
   have c4b0 : decide (x5_1 < (l0.length : Int)) = true := decide_eq_true c4
   clear c4
   by_cases c5 : 0 ≤ x5_1
   case neg =>
    rw [if_neg c5] at H
    exact absurd H (by simp)
   rw [if_pos c5] at H
   have c5b0 : decide (0 ≤ x5_1) = true := decide_eq_true c5
   clear c5
   by_cases c6 : x5_1 < (l1.length : Int)
   case neg =>
    rw [if_neg c6] at H
    exact absurd H (by simp)
   rw [if_pos c6] at H
   have c6b0 : decide (x5_1 < (l1.length : Int)) = true := decide_eq_true c6
   clear c6
   replace H := Option.bind_eq_some_iff.mp H
   obtain ⟨t395, A70, H⟩ := H
   replace H : (if t395 = true then (laws_eqTypeS.l0 k1 l0 l1 (wrap64 (x5_1 + 1))) else (some false)) = some r := H
   have A7 := am A70
   clear A70
   have HC8 := am H
   clear H
   try go_wp2
   have n0_ := am (below_drew1 HB.out)
   clear HB
   revert n0_
   intro HB
   have p393 : 0 ≤ (x5_1 : Int) := of_decide_eq_true asw
   have q393 : x5_1 < (l0.length : Int) := of_decide_eq_true asw
   obtain ⟨ad393, A393_1, c393_1, A393_2, c393_2, e393, hx393_0, hx393_1, hx393_2, hl393_1, hi393_1, hl393_2, hi393_2⟩ := at_T33 HR0.out x5_1 p393 q393
   have hw393_2 := hx393_2
   have hw393_1 := hx393_1
   have hw393_0 := hx393_0
   cases e393
   replace hx393_0 := upw HB.out hx393_0
   replace hx393_1 := upw HB.out hx393_1
   replace hx393_2 := upw HB.out hx393_2
   have HR393_1 := am hi393_1
   have HC393_1 := am hl393_1
   clear hi393_1 hl393_1
   have HR393_2 := am hi393_2
   have HC393_2 := am hl393_2
   clear hi393_2 hl393_2
   replace p393 := eq_true p393
   replace q393 := eq_true q393
   have p394 : 0 ≤ (x5_1 : Int) := of_decide_eq_true asw
   have q394 : x5_1 < (l1.length : Int) := of_decide_eq_true asw
   obtain ⟨ad394, A394_1, c394_1, A394_2, c394_2, e394, hx394_0, hx394_1, hx394_2, hl394_1, hi394_1, hl394_2, hi394_2⟩ := at_T33 HR1.out x5_1 p394 q394
   have hw394_2 := hx394_2
   have hw394_1 := hx394_1
   have hw394_0 := hx394_0
   cases e394
   replace hx394_0 := upw HB.out hx394_0
   replace hx394_1 := upw HB.out hx394_1
   replace hx394_2 := upw HB.out hx394_2
   have HR394_1 := am hi394_1
   have HC394_1 := am hl394_1
   clear hi394_1 hl394_1
   have HR394_2 := am hi394_2
   have HC394_2 := am hl394_2
   clear hi394_2 hl394_2
   replace p394 := eq_true p394
   replace q394 := eq_true q394
   refine start_ (n := 10) (S := fun w' => w'.cell? (ad393.add ((x5_1).toNat * 3)) = some (.int .i64 ((rd_T33 l0 x5_1).f0)) ∧ w'.cell? ⟨(ad393.add ((x5_1).toNat * 3)).block, (ad393.add ((x5_1).toNat * 3)).off + 1, none⟩ = some (.slice A393_1 ((rd_T33 l0 x5_1).f1).length c393_1) ∧ w'.cell? ⟨(ad393.add ((x5_1).toNat * 3)).block, (ad393.add ((x5_1).toNat * 3)).off + 2, none⟩ = some (.slice A393_2 ((rd_T33 l0 x5_1).f2).length c393_2) ∧ w'.cell? (ad394.add ((x5_1).toNat * 3)) = some (.int .i64 ((rd_T33 l1 x5_1).f0)) ∧ w'.cell? ⟨(ad394.add ((x5_1).toNat * 3)).block, (ad394.add ((x5_1).toNat * 3)).off + 1, none⟩ = some (.slice A394_1 ((rd_T33 l1 x5_1).f1).length c394_1) ∧ w'.cell? ⟨(ad394.add ((x5_1).toNat * 3)).block, (ad394.add ((x5_1).toNat * 3)).off + 2, none⟩ = some (.slice A394_2 ((rd_T33 l1 x5_1).f2).length c394_2)) (ds := []) #[false,false,false,false,false,false,false,false,false,false] kr rfl rfl ⟨((upw HB.out hw393_0 : _)), ((upw HB.out hw393_1 : _)), ((upw HB.out hw393_2 : _)), ((upw HB.out hw394_0 : _)), ((upw HB.out hw394_1 : _)), ((upw HB.out hw394_2 : _))⟩ (fun hHeld => ?_); refine with_tabW laws_eqTypeS.tab6 laws_eqTypeS.bits6 (fun HT_ HW_ => ?_)
   generalize wr.drew = w9 at HB HR393_1 HR393_2 HR394_1 HR394_2 hx393_0 hx393_1 hx393_2 hx394_0 hx394_1 hx394_2 hHeld ⊢
   refine pure_ (i := 0) (N := some 17) (v := ?_) (a' := ?_) (bm 10 1) rfl rfl (any_of HT_.out kr) qi (Or.inl ⟨by rfl, ?_⟩) ?_ ?_
   rotate_left
   ·intro w'
    go_simp
    with_reducible rfl
   rotate_left
   ·simp only [sx]
    rfl
   refine pure_ (i := 1) (N := some 18) (v := ?_) (a' := ?_) (bm 10 3) rfl rfl (any_of HT_.out kr) qi (Or.inl ⟨by rfl, ?_⟩) ?_ ?_
   rotate_left
   ·intro w'
    go_simp
    with_reducible rfl
   rotate_left
   ·simp only [sx]
    rfl
   refine pure_ (i := 2) (N := some 19) (v := ?_) (a' := ?_) (bm 10 7) rfl rfl (any_of HT_.out kr) qi (Or.inl ⟨by rfl, ?_⟩) ?_ ?_
   rotate_left
   ·intro w'
    go_simp
    with_reducible rfl
   rotate_left
   ·simp only [sx]
    rfl
   refine pure_ (i := 4) (N := some 21) (v := ?_) (a' := ?_) (bm 10 23) rfl rfl (any_of HT_.out kr) qi (Or.inl ⟨by rfl, ?_⟩) ?_ ?_
   rotate_left
   ·intro w'
    go_simp
    with_reducible rfl
   rotate_left
   ·simp only [sx]
    rfl
   refine pure_ (i := 5) (N := some 22) (v := ?_) (a' := ?_) (bm 10 55) rfl rfl (any_of HT_.out kr) qi (Or.inl ⟨by rfl, ?_⟩) ?_ ?_
   rotate_left
   ·intro w'
    go_simp
    with_reducible rfl
   rotate_left
   ·simp only [sx]
    rfl
   refine pure_ (i := 6) (N := some 23) (v := ?_) (a' := ?_) (bm 10 119) rfl rfl (any_of HT_.out kr) qi (Or.inl ⟨by rfl, ?_⟩) ?_ ?_
   rotate_left
   ·intro w'
    go_simp
    with_reducible rfl
   rotate_left
   ·simp only [sx]
    rfl
   refine take_ (i := 3) (N := some 20) (v := ?_) (a' := ?_) (bm 10 127) rfl rfl (take_ofW HT_.out HW_.out kr) qi (Or.inl ⟨by rfl, ?_⟩) hHeld ?_ ?_
   rotate_left
   ·rintro w' ⟨s0, s1, s2, s3, s4, s5⟩
    go_simp
    with_reducible rfl
   rotate_left
   ·simp only [sx]
    rfl
   refine take_ (i := 7) (N := some 24) (v := ?_) (a' := ?_) (bm 10 255) rfl rfl (take_ofW HT_.out HW_.out kr) qi (Or.inl ⟨by rfl, ?_⟩) hHeld ?_ ?_
   rotate_left
   ·rintro w' ⟨s0, s1, s2, s3, s4, s5⟩
    go_simp
    with_reducible rfl
   rotate_left
   ·simp only [sx]
    rfl
   refine one_ (i := 8) (N := some 25) (bm 10 511) rfl rfl (one_of HT_.out kr) (by decide) (fun K hK => ?_)
   refine goes_ Tryd.func19 kr rfl #[.agg #[.int .i64 ((rd_T33 l0 x5_1).f0), .slice A393_1 ((rd_T33 l0 x5_1).f1).length c393_1, .slice A393_2 ((rd_T33 l0 x5_1).f2).length c393_2], .agg #[.int .i64 ((rd_T33 l1 x5_1).f0), .slice A394_1 ((rd_T33 l1 x5_1).f1).length c394_1, .slice A394_2 ((rd_T33 l1 x5_1).f2).length c394_2]] (by rfl) rfl rfl mpw ?_
   with_reducible refine (ih_19 k1 (by have := HK1.out; omega) ((rd_T33 l0 x5_1).f0) _ _ ((rd_T33 l0 x5_1).f1) _ _ ((rd_T33 l0 x5_1).f2) ((rd_T33 l1 x5_1).f0) _ _ ((rd_T33 l1 x5_1).f1) _ _ ((rd_T33 l1 x5_1).f2) t395 _ ?side1 ?side2 ?side3 ?side4 ?side5 ?side6 ?side7 ?side8 A7.out).mono ?_
   (case side1 => have X_ := HR393_1; exact cbl)
   (case side2 => exact HC393_1.out)
   (case side3 => have X_ := HR393_2; exact cbl)
   (case side4 => exact HC393_2.out)
   (case side5 => have X_ := HR394_1; exact cbl)
   (case side6 => exact HC394_1.out)
   (case side7 => have X_ := HR394_2; exact cbl)
   (case side8 => exact HC394_2.out)
   rintro e w10 ⟨rfl, hb⟩
   refine ⟨_, rfl, ?_⟩
   have n0_ := am (below_step blw hb)
   clear HB
   revert n0_
   intro HB
   (try clear hb)
   (try clear hb2)
   (try clear hk)
   (try clear hi)
   refine hK.out _ _ ⟨((upw HB.out hw393_0 : _)), ((upw HB.out hw393_1 : _)), ((upw HB.out hw393_2 : _)), ((upw HB.out hw394_0 : _)), ((upw HB.out hw394_1 : _)), ((upw HB.out hw394_2 : _))⟩ (fun hHeld => ?_)
   clear hK K
   refine norm_ (a' := ?_) ?_ ?_
   rotate_left
   ·show Act.put _ (some 25) _ = _
    simp only [sx]
    rfl
   refine pure_ (i := 9) (N := some 26) (v := ?_) (a' := ?_) (bm 10 1023) rfl rfl (any_of HT_.out kr) qi (Or.inl ⟨by rfl, ?_⟩) ?_ ?_
   rotate_left
   ·intro w'
    go_simp
    with_reducible rfl
   rotate_left
   ·simp only [sx]
    rfl
   refine done_ (done_of HT_.out kr) ?_
   go_upto_if 26 with (fail)
   have H := HC8.out
   clear HC8
   by_cases c11 : t395 = true
   case neg =>
    replace c11 := Bool.eq_false_iff.mpr c11
    subst c11
    have H1 : (some false) = some r := by rw [if_neg (show ¬ (false = true) by decide)] at H; exact H
    clear H
    have H := H1
    clear H1
    obtain rfl := Option.some.inj H
    go_wp2
    go_ret
    exact ⟨rfw, blw⟩
   subst c11
   have H1 : (laws_eqTypeS.l0 k1 l0 l1 (wrap64 (x5_1 + 1))) = some r := by rw [if_pos rfl] at H; exact H
   clear H
   have H := H1
   clear H1
   have H' := am H
   clear H
   go_wp2
   go_roundg k1
   case measure => have := HK1.out; omega
   case rel => exact ⟨(wrap64 (x5_1 + 1)), rfs, H', ⟨by have := HK1.out; omega⟩, ⟨blw⟩⟩

theorem laws_eqType.all (k : Nat) : (laws_eqType.T k) ∧ (laws_eqTypeS.T k) := by
 induction k using Nat.strongRecOn with
 | _ k ih =>
 exact ⟨laws_eqType.step k (fun m hm_ => (ih m hm_).1) (fun m hm_ => (ih m hm_).2), laws_eqTypeS.step k (fun m hm_ => (ih m hm_).2) (fun m hm_ => (ih m hm_).1)⟩

theorem laws_eqType.calls (k : Nat) : ∀ (a0_0 : Int) (A0_1 : Option Addr) (c0_1 : Nat) (l0_1 : List ByteArray) (A0_2 : Option Addr) (c0_2 : Nat) (l0_2 : List (S33)) (a1_0 : Int) (A1_1 : Option Addr) (c1_1 : Nat) (l1_1 : List ByteArray) (A1_2 : Option Addr) (c1_2 : Nat) (l1_2 : List (S33)) (r : Bool) (w : World) (hr0_1 : Kd.C Kd.string w A0_1 l0_1.length l0_1) (hc0_1 : l0_1.length ≤ c0_1) (hr0_2 : Kd.C k33 w A0_2 l0_2.length l0_2) (hc0_2 : l0_2.length ≤ c0_2) (hr1_1 : Kd.C Kd.string w A1_1 l1_1.length l1_1) (hc1_1 : l1_1.length ≤ c1_1) (hr1_2 : Kd.C k33 w A1_2 l1_2.length l1_2) (hc1_2 : l1_2.length ≤ c1_2) (h : laws_eqType.f k a0_0 l0_1 l0_2 a1_0 l1_1 l1_2 = some r),
  Calls Tryd.prog 19 #[.agg #[.int .i64 a0_0, .slice A0_1 l0_1.length c0_1, .slice A0_2 l0_2.length c0_2], .agg #[.int .i64 a1_0, .slice A1_1 l1_1.length c1_1, .slice A1_2 l1_2.length c1_2]] w fun e w' => e = .returned (.bool r) ∧ Below w.heap.size w w' := (laws_eqType.all k).1

end Go.Proofs.YtgplgphchdgedaaDoor.Px
end
section
namespace Go.Proofs.YtgplgphchdgedaaDoor.Px
open Go.RowKit Go.Proofs.YtgplgphchdgedaaDoorW.PrintWords Go.Proofs.YtgplgphchdgedaaDoor.Pl
set_option linter.unusedVariables false
set_option linter.unusedSimpArgs false
theorem szStringS_ev (xs : List ByteArray) (hx : xs.length ≤ maxLen ∧ ∀ y ∈ xs, y.size ≤ maxLen) (left : Int) (h0 : 0 ≤ left) (hl : left ≤ 1048576) : Ev (fun k => laws_szStringS.f k xs left) (cut (wts xs) left) := by
  simp only [laws_szStringS.f]
  have hs := cut_sub (n := xs.length) h0 hl hx.1
  by_cases hc : cut xs.length left < 0
  · exact Ev.pos (hs.1.2 hc) (Ev.const (cut_add' hc).symm)
  · refine Ev.neg (fun h => hc (hs.1.1 h)) ?_
    rw [hs.2 (by omega)]
    have hl2 := cut_le (n := xs.length) h0
    have hw := sz_loop' xs.length (fun k left i => laws_szStringS.l0 k xs left (i : Int)) (fun i => (xs.getD i ByteArray.empty).size) (fun k left i hi h0 hl => by
      have hz := cut_sub (n := (xs.getD i ByteArray.empty).size) h0 hl (hx.2 _ (mem_getD xs _ i hi))
      simp only [laws_szStringS.l0, rdOf_str]
      rw [if_pos (by omega), if_pos (by omega)]
      by_cases hc : cut (xs.getD i ByteArray.empty).size left < 0
      · rw [if_pos (hz.1.2 hc), if_pos hc]
      · rw [if_neg (fun h => hc (hz.1.1 h)), if_neg hc, hz.2 (by omega), w1 hi hx.1]) (fun k left => by simp only [laws_szStringS.l0]; rw [if_neg (by omega)]) xs.length 0 _ (by omega) (show 0 ≤ cut xs.length left by omega) (by omega)
    refine Ev.eq hw ?_
    rw [cut_add (by omega), sumF_list ByteArray.size ByteArray.empty xs xs.length 0 (by omega)]
    rfl
theorem toStringS_ev (xs : List ByteArray) (hx : xs.length ≤ 1048576) : Ev (fun k => laws_toStringS.f k xs) xs := by
  simp only [laws_toStringS.f]
  refine Ev.pos (by omega) (Ev.pos (by omega) ?_)
  have hw := to_loop xs.length (fun k i => some (xs.getD i ByteArray.empty)) (fun k out i => laws_toStringS.l0 k xs out (i : Int)) (fun i => xs.getD i ByteArray.empty) (fun k out i hi hl => by
    simp only [laws_toStringS.l0, rdOf_str]
    rw [if_pos (by omega), if_pos (by omega), if_pos (by omega), w1' hi hx]
    rfl) (fun k out => by simp only [laws_toStringS.l0]; rw [if_neg (by omega)]) (fun i hi => Ev.now _) xs.length 0 (List.replicate ((xs.length : Int)).toNat (⟨#[]⟩ : ByteArray)) (by omega) (by simp)
  refine Ev.eq hw ?_
  rw [List.take_zero, List.nil_append, range_map_getElem (fun x => x) ByteArray.empty xs, List.map_id']
theorem eqStringS_ev (xs : List ByteArray) (hx : xs.length ≤ 1048576) : Ev (fun k => laws_eqStringS.f k xs xs) true := by
  simp only [laws_eqStringS.f]
  refine Ev.pos (by simp) ?_
  exact eq_loop xs.length (fun k i => some true) (fun k i => laws_eqStringS.l0 k xs xs (i : Int)) (fun k i hi => by
    simp only [laws_eqStringS.l0]
    rw [if_pos (by omega), if_pos (by omega), if_pos (by omega), w1' hi hx]
    simp) (fun k => by simp only [laws_eqStringS.l0]; rw [if_neg (by omega)]) (fun i hi => Ev.now _) xs.length 0 (by omega)
end Go.Proofs.YtgplgphchdgedaaDoor.Px
end
section
namespace Go.Proofs.YtgplgphchdgedaaDoor.Px
open Go.RowKit Go.Proofs.YtgplgphchdgedaaDoorW.PrintWords Go.Proofs.YtgplgphchdgedaaDoor.Pl
set_option linter.unusedVariables false
set_option linter.unusedSimpArgs false
mutual
def wtType : S25 → Nat
  | ⟨x0, x1, x2⟩ => wts x1 + (x2.length + wtTypeS x2)
def wtTypeS : List S25 → Nat
  | [] => 0
  | x :: r => wtType x + wtTypeS r
end
mutual
def cvType : S25 → S33
  | ⟨x0, x1, x2⟩ => ⟨x0, x1, (cvTypeS x2)⟩
def cvTypeS : List S25 → List S33
  | [] => []
  | x :: r => cvType x :: cvTypeS r
end
theorem wtTypeS_sum (xs : List S25) : wtTypeS xs = (xs.map wtType).sum := by
  induction xs with
  | nil => rfl
  | cons x r ih => simp [wtTypeS, ih]
theorem cvTypeS_map (xs : List S25) : cvTypeS xs = xs.map cvType := by
  induction xs with
  | nil => rfl
  | cons x r ih => simp [cvTypeS, ih]
theorem wtType_eq (x : S25) : wtType x = wts x.f1 + (x.f2.length + wtTypeS x.f2) := by cases x; simp only [wtType]
theorem cvType_eq (x : S25) : cvType x = ⟨x.f0, x.f1, (cvTypeS x.f2)⟩ := by cases x; simp only [cvType]
theorem indTypeL {P : S25 → Prop} (h : ∀ x, (∀ y ∈ x.f2, P y) → P x) : ∀ x, P x
  | ⟨x0, x1, x2⟩ => h _ (fun y hy => indTypeL h y)
termination_by x => SizeOf.sizeOf x
decreasing_by
  have := List.sizeOf_lt_of_mem hy
  simp at this ⊢
  omega
theorem indTypeI {P : S33 → Prop} (h : ∀ x, (∀ y ∈ x.f2, P y) → P x) : ∀ x, P x
  | ⟨x0, x1, x2⟩ => h _ (fun y hy => indTypeI h y)
termination_by x => SizeOf.sizeOf x
decreasing_by
  have := List.sizeOf_lt_of_mem hy
  simp at this ⊢
  omega
inductive SmType : S33 → Prop
  | mk {x : S33} : ((Lit.int .i64 x.f0).wf = true) → ((x.f1.length ≤ 1048576 ∧ ∀ y ∈ x.f1, y.size ≤ 1048576)) → x.f2.length ≤ 1048576 → (∀ y ∈ x.f2, SmType y) → SmType x
theorem SmType.p0 {x : S33} (h : SmType x) : (Lit.int .i64 x.f0).wf = true := by cases h; assumption
theorem SmType.p1 {x : S33} (h : SmType x) : (x.f1.length ≤ 1048576 ∧ ∀ y ∈ x.f1, y.size ≤ 1048576) := by cases h; assumption
theorem SmType.p2 {x : S33} (h : SmType x) : x.f2.length ≤ 1048576 ∧ ∀ y ∈ x.f2, SmType y := by cases h; constructor <;> assumption
theorem etaType (x : S33) : (⟨x.f0, x.f1, x.f2⟩ : S33) = x := by obtain ⟨_, _, _⟩ := x; rfl
mutual
def ndType : S33 → Nat
  | ⟨x0, x1, x2⟩ => 1 + ndTypeS x2
def ndTypeS : List S33 → Nat
  | [] => 0
  | x :: r => ndType x + ndTypeS r
end
theorem ndTypeS_sum (xs : List S33) : ndTypeS xs = (xs.map ndType).sum := by
  induction xs with
  | nil => rfl
  | cons x r ih => simp [ndTypeS, ih]
theorem ndType_eq (x : S33) : ndType x = 1 + (x.f2.map ndType).sum := by cases x; simp only [ndType, ndTypeS_sum]
theorem ndType_cv : ∀ x : S25, ndType (cvType x) ≤ wtType x + 1 := by
  refine indTypeL fun x ih => ?_
  rw [ndType_eq, cvType_eq, wtType_eq]
  have hL : ∀ l : List S25, (∀ y ∈ l, ndType (cvType y) ≤ wtType y + 1) → ((l.map cvType).map ndType).sum ≤ l.length + (l.map wtType).sum := by
    intro l
    induction l with
    | nil => intro _; simp
    | cons y r ih2 =>
      intro h
      have h1 := h y (List.mem_cons_self ..)
      have h2 := ih2 (fun z hz => h z (List.mem_cons_of_mem _ hz))
      simp only [List.map_cons, List.sum_cons, List.length_cons] at h2 ⊢
      omega
  have := hL x.f2 ih
  (try dsimp only)
  rw [cvTypeS_map, wtTypeS_sum]
  omega
theorem smType_of : ∀ x : S25, W25 x → wtType x ≤ 1048576 → SmType (cvType x) := by
  refine indTypeL fun x ih hw hw2 => ?_
  have hb := hw2
  rw [wtType_eq] at hb
  rw [cvType_eq]
  exact SmType.mk (hw.p0) (⟨by (try dsimp only); unfold wts at hb; omega, fun y hy => by (try dsimp only at hy); have := sum_le_of_mem ByteArray.size hy; unfold wts szs at hb; omega⟩) (by (try dsimp only); rw [cvTypeS_map, List.length_map]; omega) (fun z hz => by
      (try dsimp only at hz)
      rw [cvTypeS_map] at hz
      obtain ⟨y, hy, rfl⟩ := List.mem_map.1 hz
      exact ih y hy (hw.p2.2 y hy) (by have := sum_le_of_mem wtType hy; rw [← wtTypeS_sum] at this; omega))
theorem szTypeS_of (xs : List S25) (hx : xs.length ≤ maxLen) (h : ∀ y ∈ xs, ∀ left : Int, 0 ≤ left → left ≤ 1048576 → Ev (fun k => laws_szType.f k (y.f0) (y.f1) (y.f2) left) (cut (wtType y) left)) (left : Int) (h0 : 0 ≤ left) (hl : left ≤ 1048576) : Ev (fun k => laws_szTypeS.f k xs left) (cut (xs.length + wtTypeS xs) left) := by
  refine Ev.up ?_
  simp only [laws_szTypeS.f]
  have hs := cut_sub (n := xs.length) h0 hl hx
  by_cases hc : cut xs.length left < 0
  · exact Ev.pos (hs.1.2 hc) (Ev.const (cut_add' hc).symm)
  · refine Ev.neg (fun h => hc (hs.1.1 h)) ?_
    rw [hs.2 (by omega)]
    have hl2 := cut_le (n := xs.length) h0
    have hw := sz_loop xs.length (fun k i left => laws_szType.f k ((rd_T25 xs (i : Int)).f0) ((rd_T25 xs (i : Int)).f1) ((rd_T25 xs (i : Int)).f2) left) (fun k left i => laws_szTypeS.l0 k xs left (i : Int)) (fun i => wtType (xs.getD i z25)) (fun k left i hi => by
      simp only [laws_szTypeS.l0]
      rw [if_pos (by omega), if_pos (by omega), w1 hi hx]) (fun k left => by simp only [laws_szTypeS.l0]; rw [if_neg (by omega)]) (fun i left hi h0 hl => h _ (mem_getD xs z25 i hi) left h0 hl) xs.length 0 _ (by omega) (show 0 ≤ cut xs.length left by omega) (by omega)
    refine Ev.eq hw ?_
    rw [cut_add (by omega), sumF_list wtType z25 xs xs.length 0 (by omega), wtTypeS_sum]
    rfl
theorem szType_ev : ∀ x : S25, W25 x → ∀ left : Int, 0 ≤ left → left ≤ 1048576 → Ev (fun k => laws_szType.f k (x.f0) (x.f1) (x.f2) left) (cut (wtType x) left) := by
  refine indTypeL fun x ih hw left h0 hl => ?_
  refine Ev.up ?_
  simp only [laws_szType.f]
  rw [wtType_eq]
  have hb0 : (0 : Int) ≤ left ∧ left ≤ 1048576 := ⟨h0, hl⟩
  refine Ev.bind (szStringS_ev x.f1 hw.p1 _ hb0.1 hb0.2) ?_
  by_cases hc0 : cut (wts x.f1) left < 0
  · refine Ev.pos hc0 (Ev.const ?_)
    have hn : cut (wts x.f1) left < 0 := hc0
    have hn : cut (wts x.f1 + (x.f2.length + wtTypeS x.f2)) left < 0 := by rw [cut_add' hn]; omega
    have hv := cut_neg.1 hn; unfold cut; rw [if_neg hv]
  refine Ev.neg hc0 ?_
  have hb1 : (0 : Int) ≤ cut (wts x.f1) left ∧ cut (wts x.f1) left ≤ 1048576 := ⟨by omega, by have := cut_le (n := wts x.f1) h0; omega⟩
  refine Ev.bind (szTypeS_of x.f2 hw.p2.1 (fun y hy => ih y hy (hw.p2.2 y hy)) _ hb1.1 hb1.2) ?_
  by_cases hc1 : cut ((x.f2.length + wtTypeS x.f2)) (cut (wts x.f1) left) < 0
  · refine Ev.pos hc1 (Ev.const ?_)
    have hn : cut (wts x.f1 + (x.f2.length + wtTypeS x.f2)) left < 0 := by rw [← cut_add (by omega)]; exact hc1
    have hv := cut_neg.1 hn; unfold cut; rw [if_neg hv]
  refine Ev.neg hc1 ?_
  rw [cut_add (by omega)] at hc1 ⊢
  have hb2 : (0 : Int) ≤ cut (wts x.f1 + (x.f2.length + wtTypeS x.f2)) left ∧ cut (wts x.f1 + (x.f2.length + wtTypeS x.f2)) left ≤ 1048576 := ⟨by omega, by have := cut_le (n := wts x.f1 + (x.f2.length + wtTypeS x.f2)) h0; omega⟩
  exact Ev.const rfl
theorem toTypeS_of (xs : List S25) (hx : xs.length ≤ 1048576) (h : ∀ y ∈ xs, Ev (fun k => laws_toType.f k (y.f0) (y.f1) (y.f2)) ((cvType y).f0, (cvType y).f1, (cvType y).f2)) : Ev (fun k => laws_toTypeS.f k xs) (cvTypeS xs) := by
  refine Ev.up ?_
  simp only [laws_toTypeS.f]
  refine Ev.pos (by omega) (Ev.pos (by omega) ?_)
  have hw := to_loop xs.length (fun k i => (laws_toType.f k ((rd_T25 xs (i : Int)).f0) ((rd_T25 xs (i : Int)).f1) ((rd_T25 xs (i : Int)).f2)).map fun t => (⟨t.1, t.2.1, t.2.2⟩ : S33)) (fun k out i => laws_toTypeS.l0 k xs out (i : Int)) (fun i => cvType (xs.getD i z25)) (fun k out i hi hl => by
    simp only [laws_toTypeS.l0]
    rw [if_pos (by omega), if_pos (by omega)]
    rcases laws_toType.f k ((rd_T25 xs (i : Int)).f0) ((rd_T25 xs (i : Int)).f1) ((rd_T25 xs (i : Int)).f2) with _ | t
    · rfl
    · simp only [Option.map_some, Option.bind_some]
      rw [if_pos (by omega), w1' hi hx]
      rfl) (fun k out => by simp only [laws_toTypeS.l0]; rw [if_neg (by omega)]) (fun i hi => Ev.eq (Ev.map (fun t => (⟨t.1, t.2.1, t.2.2⟩ : S33)) (h _ (mem_getD xs z25 i hi))) (etaType _)) xs.length 0 (List.replicate ((xs.length : Int)).toNat z33) (by omega) (by simp)
  refine Ev.eq hw ?_
  rw [List.take_zero, List.nil_append, range_map_getElem cvType z25 xs, cvTypeS_map]
theorem toType_ev : ∀ x : S25, wtType x ≤ 1048576 → Ev (fun k => laws_toType.f k (x.f0) (x.f1) (x.f2)) ((cvType x).f0, (cvType x).f1, (cvType x).f2) := by
  refine indTypeL fun x ih hw2 => ?_
  refine Ev.up ?_
  simp only [laws_toType.f]
  have hb := hw2
  rw [wtType_eq] at hb
  refine Ev.bind (toStringS_ev x.f1 (by unfold wts at hb; omega)) ?_
  refine Ev.bind (toTypeS_of x.f2 (by omega) (fun y hy => ih y hy (by have := sum_le_of_mem wtType hy; rw [← wtTypeS_sum] at this; omega))) ?_
  exact Ev.const (by rw [cvType_eq])
theorem eqTypeS_of (xs : List S33) (hx : xs.length ≤ 1048576) (h : ∀ y ∈ xs, Ev (fun k => laws_eqType.f k (y.f0) (y.f1) (y.f2) (y.f0) (y.f1) (y.f2)) true) : Ev (fun k => laws_eqTypeS.f k xs xs) true := by
  refine Ev.up ?_
  simp only [laws_eqTypeS.f]
  refine Ev.pos (by simp) ?_
  exact eq_loop xs.length (fun k i => laws_eqType.f k ((rd_T33 xs (i : Int)).f0) ((rd_T33 xs (i : Int)).f1) ((rd_T33 xs (i : Int)).f2) ((rd_T33 xs (i : Int)).f0) ((rd_T33 xs (i : Int)).f1) ((rd_T33 xs (i : Int)).f2)) (fun k i => laws_eqTypeS.l0 k xs xs (i : Int)) (fun k i hi => by
    simp only [laws_eqTypeS.l0]
    rw [if_pos (by omega), if_pos (by omega), if_pos (by omega), w1' hi hx]) (fun k => by simp only [laws_eqTypeS.l0]; rw [if_neg (by omega)]) (fun i hi => h _ (mem_getD xs z33 i hi)) xs.length 0 (by omega)
theorem eqType_ev : ∀ x : S33, SmType x → Ev (fun k => laws_eqType.f k (x.f0) (x.f1) (x.f2) (x.f0) (x.f1) (x.f2)) true := by
  refine indTypeI fun x ih hs => ?_
  refine Ev.up ?_
  simp only [laws_eqType.f]
  refine Ev.pos (by simp) ?_
  refine Ev.bind (eqStringS_ev x.f1 hs.p1.1) (Ev.pos (by simp) ?_)
  refine Ev.bind (eqTypeS_of x.f2 hs.p2.1 (fun y hy => ih y hy (hs.p2.2 y hy))) (Ev.pos (by simp) ?_)
  exact Ev.now _
end Go.Proofs.YtgplgphchdgedaaDoor.Px
end
section
namespace Go.Proofs.YtgplgphchdgedaaDoor.Px
open Go.RowKit Go.Proofs.YtgplgphchdgedaaDoorW.PrintWords Go.Proofs.YtgplgphchdgedaaDoorW.PrintLast Go.Proofs.YtgplgphchdgedaaDoor.Pl Go.Proofs.YtgplgphchdgedaaDoor.Ext
set_option linter.unusedVariables false
set_option linter.unusedSimpArgs false
def small (c : Int) : Bool := decide (97 ≤ c) && decide (c ≤ 122)
def dig (c : Int) : Bool := decide (48 ≤ c) && decide (c ≤ 57)
def chkS (s : ByteArray) : Nat → Nat → Bool
  | _, 0 => true
  | i, m + 1 => (small (bt s i) || (i != 0 && dig (bt s i))) && chkS s (i + 1) m
def chkI (s : ByteArray) : Nat → Nat → Bool
  | _, 0 => true
  | i, m + 1 => (small (bt s i) || dig (bt s i)) && chkI s (i + 1) m
def isName (s : ByteArray) : Bool := chkS s 0 s.size && (decide (1 ≤ s.size ∧ s.size ≤ 4) && (s.toList != ([105, 102] : List UInt8) && s.toList != ([102, 111, 114] : List UInt8)))
theorem chk_later (s : ByteArray) : ∀ m i, i ≠ 0 → chkI s i m = chkS s i m := by
  intro m
  induction m with
  | zero => intro i h; rfl
  | succ m ih =>
    intro i h
    simp only [chkI, chkS]
    rw [ih (i + 1) (by omega)]
    have : (i != 0) = true := by simpa using h
    rw [this, Bool.true_and]
theorem isSmall_eq (c : Int) : impl_isSmall.f c = some (small c) := by
  unfold impl_isSmall.f small
  split
  · rename_i h; simp [show (97 : Int) ≤ c from h]
  · rename_i h; simp [show ¬ (97 : Int) ≤ c from h]
theorem isDigit_eq (c : Int) : impl_isDigit.f c = some (dig c) := by
  unfold impl_isDigit.f dig
  split
  · rename_i h; simp [show (48 : Int) ≤ c from h]
  · rename_i h; simp [show ¬ (48 : Int) ≤ c from h]
theorem small_pos {c : Int} (h : 97 ≤ c) (h2 : c ≤ 122) : small c = true := by simp [small, h, h2]
theorem small_neg {c : Int} (h : ¬ (97 ≤ c ∧ c ≤ 122)) : small c = false := by
  unfold small
  by_cases h1 : 97 ≤ c
  · by_cases h2 : c ≤ 122
    · exact absurd ⟨h1, h2⟩ h
    · simp [h2]
  · simp [h1]
theorem dig_pos {c : Int} (h : 48 ≤ c) (h2 : c ≤ 57) : dig c = true := by simp [dig, h, h2]
theorem dig_neg {c : Int} (h : ¬ (48 ≤ c ∧ c ≤ 57)) : dig c = false := by
  unfold dig
  by_cases h1 : 48 ≤ c
  · by_cases h2 : c ≤ 57
    · exact absurd ⟨h1, h2⟩ h
    · simp [h2]
  · simp [h1]
theorem spec_IsName_ev (s : ByteArray) (hs : s.size ≤ 1048576) : Ev (fun k => spec_IsName.f k s) (isName s) := by
  have hend : Ev (fun (k : Nat) => ((spec_l1In.f (s.size : Int) 1 4).bind fun t => (if t = true then (if s.toList = ([105, 102] : List UInt8) then (some false) else (some (s.toList != ([102, 111, 114] : List UInt8)))) else (some false)))) (decide (1 ≤ s.size ∧ s.size ≤ 4) && (s.toList != ([105, 102] : List UInt8) && s.toList != ([102, 111, 114] : List UInt8))) := by
    refine ⟨0, fun k _ => ?_⟩
    unfold spec_l1In.f
    by_cases h1 : 1 ≤ s.size
    · by_cases h2 : s.size ≤ 4
      · rw [if_pos (by omega), Option.bind_some, if_pos (by simpa using (by omega : (s.size : Int) ≤ 4))]
        by_cases h3 : s.toList = ([105, 102] : List UInt8)
        · rw [if_pos h3]; simp [h3]
        · rw [if_neg h3]
          have : (s.toList != ([105, 102] : List UInt8)) = true := by simpa using h3
          rw [this]; simp [h1, h2]
      · rw [if_pos (by omega), Option.bind_some, if_neg (by simpa using (by omega : (4 : Int) < s.size))]
        simp [h2]
    · rw [if_neg (by omega), Option.bind_some, if_neg (by simp)]
      simp [h1]
  suffices h : ∀ m i, i + m = s.size → Ev (fun k => spec_IsName.l0 k s (i : Int)) (chkS s i m && (decide (1 ≤ s.size ∧ s.size ≤ 4) && (s.toList != ([105, 102] : List UInt8) && s.toList != ([102, 111, 114] : List UInt8)))) from h s.size 0 (by omega)
  intro m
  induction m with
  | zero =>
    intro i hi
    refine Ev.up ?_
    simp only [spec_IsName.l0]
    exact Ev.neg (by omega) (Ev.eq hend (by simp [chkS]))
  | succ m ih =>
    intro i hi
    refine Ev.up ?_
    simp only [spec_IsName.l0, chkS]
    rw [w1' (n := s.size) (by omega) hs]
    have hr := ih (i + 1) (by omega)
    have hdig : ∀ (hsm : small (bt s (i : Int)) = false), Ev (fun k => if (i : Int) = 0 then some false else if bt s (i : Int) < 48 then some false else if bt s (i : Int) > 57 then some false else spec_IsName.l0 k s ((i + 1 : Nat) : Int)) ((small (bt s (i : Int)) || (i != 0 && dig (bt s (i : Int)))) && chkS s (i + 1) m && (decide (1 ≤ s.size ∧ s.size ≤ 4) && (s.toList != ([105, 102] : List UInt8) && s.toList != ([102, 111, 114] : List UInt8)))) := by
      intro hsm
      rw [hsm, Bool.false_or]
      refine Ev.cases (fun h0 => ?_) (fun h0 => Ev.cases (fun h1 => ?_) (fun h1 => Ev.cases (fun h2 => ?_) (fun h2 => ?_)))
      · obtain rfl : i = 0 := by omega
        exact Ev.const (by simp)
      · rw [dig_neg (by omega)]; exact Ev.const (by simp)
      · rw [dig_neg (by omega)]; exact Ev.const (by simp)
      · rw [dig_pos (by omega) (by omega)]
        have hi0 : (i != 0) = true := by simpa using (show i ≠ 0 by omega)
        exact Ev.eq hr (by rw [hi0, Bool.true_and, Bool.true_and])
    refine Ev.pos (by omega) (Ev.pos (by omega) (Ev.cases (fun h1 => Ev.cases (fun h2 => ?_) (fun h2 => hdig (small_neg (by omega)))) (fun h1 => hdig (small_neg (by omega)))))
    rw [small_pos (by omega) h2, Bool.true_or, Bool.true_and]
    exact hr
theorem impl_IsName_ev (s : ByteArray) (hs : s.size ≤ 1048576) : Ev (fun k => impl_IsName.f k s) (isName s) := by
  have hl : ∀ m i, i + m = s.size → Ev (fun k => impl_IsName.l0 k s (s.size : Int) (i : Int)) (chkI s i m) := by
    intro m
    induction m with
    | zero =>
      intro i hi
      refine Ev.up ?_
      simp only [impl_IsName.l0]
      exact Ev.neg (by omega) (Ev.now _)
    | succ m ih =>
      intro i hi
      refine Ev.up ?_
      simp only [impl_IsName.l0, chkI]
      rw [w1' (n := s.size) (by omega) hs]
      refine Ev.pos (by omega) (Ev.pos (by omega) (Ev.pos (by omega) (Ev.fix (isSmall_eq _) ?_)))
      refine Ev.cases (fun h1 => ?_) (fun h1 => Ev.fix (isDigit_eq _) (Ev.cases (fun h2 => ?_) (fun h2 => ?_)))
      · rw [h1, Bool.true_or, Bool.true_and]; exact ih (i + 1) (by omega)
      · rw [h2, Bool.or_true, Bool.true_and]; exact ih (i + 1) (by omega)
      · rw [Bool.eq_false_iff.2 h1, Bool.eq_false_iff.2 h2]; exact Ev.const (by simp)
  have hj : ∀ b, Ev (fun k => impl_IsName.j0 k s b) (!b && chkI s 0 s.size) := by
    intro b
    refine Ev.up ?_
    simp only [impl_IsName.j0]
    refine Ev.cases (fun h => ?_) (fun h => ?_)
    · rw [h]; exact Ev.const (by simp)
    · rw [Bool.eq_false_iff.2 h]; exact Ev.eq (hl s.size 0 (by omega)) (by simp)
  have hjt : Ev (fun k => impl_IsName.j0 k s true) false := Ev.eq (hj true) (by simp)
  have hfail : ¬ (1 ≤ s.size ∧ s.size ≤ 4) → isName s = false := by intro h; simp only [isName]; rw [decide_eq_false h]; simp
  simp only [impl_IsName.f]
  refine Ev.cases (fun h1 => ?_) (fun h1 => Ev.cases (fun h2 => ?_) (fun h2 => Ev.pos (by omega) (Ev.fix (isSmall_eq _) ?_)))
  · rw [hfail (by omega)]; exact hjt
  · rw [hfail (by omega)]; exact hjt
  · obtain ⟨n, hn⟩ : ∃ n, s.size = n + 1 := ⟨s.size - 1, by omega⟩
    have hc : isName s = ((small (bt s 0) && chkS s 1 n) && (s.toList != ([105, 102] : List UInt8) && s.toList != ([102, 111, 114] : List UInt8))) := by
      simp only [isName]
      rw [decide_eq_true (show 1 ≤ s.size ∧ s.size ≤ 4 by omega), Bool.true_and, hn]
      simp [chkS]
    rw [hc]
    refine Ev.cases (fun h3 => ?_) (fun h3 => ?_)
    · have hk : chkI s 0 s.size = chkS s 1 n := by
        rw [hn]
        simp only [chkI]
        rw [chk_later s n (0 + 1) (by omega)]
        rw [show small (bt s ((0 : Nat) : Int)) = true from h3, Bool.true_or, Bool.true_and]
      rw [h3, Bool.true_and]
      refine Ev.cases (fun h4 => ?_) (fun h4 => ?_)
      · rw [h4]; exact Ev.eq hjt (by simp)
      · have h4' : (s.toList != ([105, 102] : List UInt8)) = true := by simpa using h4
        refine Ev.eq (hj _) ?_
        rw [hk, h4', Bool.true_and, Bool.and_comm]
        rfl
    · rw [Bool.eq_false_iff.2 h3]; exact Ev.eq hjt (by simp)
end Go.Proofs.YtgplgphchdgedaaDoor.Px
end
section
namespace Go.Proofs.YtgplgphchdgedaaDoor.Px
open Go.RowKit Go.Proofs.YtgplgphchdgedaaDoorW.PrintWords Go.Proofs.YtgplgphchdgedaaDoorW.PrintLast Go.Proofs.YtgplgphchdgedaaDoor.Pl Go.Proofs.YtgplgphchdgedaaDoor.Ext
set_option linter.unusedVariables false
set_option linter.unusedSimpArgs false
/-- The texts of a list, joined. -/
def joinL (xs : List ByteArray) (s : ByteArray) : List UInt8 := Lib.join (xs.map (·.data.toList)) s.data.toList
def joinB (xs : List ByteArray) (s : ByteArray) : ByteArray := ⟨(joinL xs s).toArray⟩
/-- Bytes as_ numbers. -/
def nu (l : List UInt8) : List Int := l.map fun b => (b.toNat : Int)
theorem bytesOf_nu (s : ByteArray) : bytesOf s = nu s.data.toList := rfl
theorem nu_append (a b : List UInt8) : nu (a ++ b) = nu a ++ nu b := by simp [nu]
theorem nu_length (a : List UInt8) : (nu a).length = a.length := by simp [nu]
theorem strOfNums_nu (l : List UInt8) : strOfNums (nu l) = ⟨l.toArray⟩ := by
  have : (nu l).map (fun n => UInt8.ofNat n.toNat) = l := by
    induction l with
    | nil => rfl
    | cons b r ih =>
      simp only [nu, List.map_cons, Int.toNat_natCast, UInt8.ofNat_toNat] at ih ⊢
      rw [ih]
  rw [strOfNums, this]
theorem szs_lens (xs : List ByteArray) : Lib.lens (xs.map (·.data.toList)) = szs xs := by
  induction xs with
  | nil => rfl
  | cons x r ih =>
    simp only [Lib.lens, szs, List.map_cons, List.sum_cons] at ih ⊢
    rw [ih, data_length]
theorem joinL_length (xs : List ByteArray) (s : ByteArray) : (joinL xs s).length ≤ szs xs + xs.length * s.size := by
  cases xs with
  | nil => simp [joinL, Lib.join_nil]
  | cons x r =>
    have h := Lib.join_length x.data.toList (r.map (·.data.toList)) s.data.toList
    have e := szs_lens (x :: r)
    rw [List.map_cons] at e
    rw [List.length_map, e, data_length] at h
    simp only [joinL, List.map_cons, List.length_cons]
    rw [h, Nat.add_mul, Nat.mul_comm s.size]
    omega
theorem joinB_size (xs : List ByteArray) (s : ByteArray) : (joinB xs s).size = (joinL xs s).length := by simp [joinB, ByteArray.size]
theorem joinL_succ (x : ByteArray) (r : List ByteArray) (s : ByteArray) (j : Nat) (hj : j < r.length) : joinL (x :: r.take (j + 1)) s = joinL (x :: r.take j) s ++ s.data.toList ++ (r.getD j ByteArray.empty).data.toList := by
  simp only [joinL, List.map_cons, Lib.join_cons, List.map_take]
  rw [Lib.joinTail_take_succ _ _ j ((r.getD j ByteArray.empty).data.toList) (by simp [List.getD_eq_getElem?_getD, hj])]
  simp [List.append_assoc]
theorem szs_take_le (xs : List ByteArray) (i : Nat) : szs (xs.take i) ≤ szs xs := by
  rw [← szs_lens, ← szs_lens, List.map_take]
  exact Lib.lens_take_le _ _
theorem spec_Join_ev (xs : List ByteArray) (s : ByteArray) (hx : xs.length ≤ 1048576) (hb : szs xs + xs.length * s.size < 140737488355328) : Ev (fun k => spec_Join.f k xs s) (joinB xs s) := by
  simp only [spec_Join.f]
  suffices h : ∀ m i, i + m = xs.length → Ev (fun k => spec_Join.l0 k xs s (nu (joinL (xs.take i) s)) (i : Int)) (joinB xs s) from by simpa [joinL, Lib.join_nil, nu] using h xs.length 0 (by omega)
  intro m
  induction m with
  | zero =>
    intro i hi
    refine Ev.up ?_
    simp only [spec_Join.l0]
    refine Ev.neg (by omega) (Ev.const ?_)
    rw [strOfNums_nu, List.take_of_length_le (by omega)]
    rfl
  | succ m ih =>
    intro i hi
    have hlt : i < xs.length := by omega
    have hT : (joinL (xs.take (i + 1)) s).length < 140737488355328 := by
      have h1 := joinL_length (xs.take (i + 1)) s
      have h2 := szs_take_le xs (i + 1)
      have h3 : (xs.take (i + 1)).length * s.size ≤ xs.length * s.size := Nat.mul_le_mul_right _ (by rw [List.length_take]; omega)
      omega
    have ih' := ih (i + 1) (by omega)
    refine Ev.up ?_
    simp only [spec_Join.l0, bytesOf_nu, rdOf_str, Option.bind_some]
    refine Ev.pos (by omega) ?_
    rw [w1' hlt hx]
    cases xs with
    | nil => simp at hlt
    | cons x r =>
      cases i with
      | zero =>
        have e : joinL ((x :: r).take (0 + 1)) s = ((x :: r).getD 0 ByteArray.empty).data.toList := by
          simp [joinL, Lib.join_one]
        rw [e] at hT ih'
        have e0 : joinL ((x :: r).take 0) s = [] := by simp [joinL, Lib.join_nil]
        rw [e0]
        rw [data_length] at hT
        refine Ev.neg (by decide) (Ev.pos (by decide) (Ev.pos ?_ ?_))
        · rw [nu_length]; simpa using hT
        · exact ih'
      | succ j =>
        have hj : j < r.length := by simp at hlt; omega
        have e : joinL ((x :: r).take (j + 1 + 1)) s = joinL ((x :: r).take (j + 1)) s ++ s.data.toList ++ ((x :: r).getD (j + 1) ByteArray.empty).data.toList := by
          have := joinL_succ x r s j hj
          simpa [List.take_succ_cons] using this
        rw [e] at hT ih'
        rw [List.length_append, List.length_append, data_length, data_length] at hT
        refine Ev.pos (by omega) (Ev.pos ?_ (Ev.pos (by omega) (Ev.pos ?_ ?_)))
        · rw [nu_length]; omega
        · rw [List.length_append, nu_length, nu_length, data_length]; omega
        · rw [← nu_append, ← nu_append]; exact ih'
theorem strings_Join_eq (xs : List ByteArray) (s : ByteArray) (hx : xs.length ≤ 1048576) (hb : szs xs + xs.length * s.size < 140737488355328) : strings_Join.f xs s = some (joinB xs s) := by
  have h := joinL_length xs s
  unfold strings_Join.f
  rw [if_pos ⟨by omega, by show (joinL xs s).length ≤ _; omega⟩]
  rfl

end Go.Proofs.YtgplgphchdgedaaDoor.Px
end
section
namespace Go.Proofs.YtgplgphchdgedaaDoor.Px
open Go.RowKit Go.Proofs.YtgplgphchdgedaaDoorW.PrintWords Go.Proofs.YtgplgphchdgedaaDoorW.PrintLast Go.Proofs.YtgplgphchdgedaaDoor.Pl Go.Proofs.YtgplgphchdgedaaDoor.Ext
set_option linter.unusedVariables false
set_option linter.unusedSimpArgs false
/-- Are the names ascending, from an index on? -/
def asc (xs : List ByteArray) : Nat → Nat → Bool
  | _, 0 => true
  | i, m + 1 => Op.bytesLess (xs.getD (i - 1) ByteArray.empty).toList (xs.getD i ByteArray.empty).toList && asc xs (i + 1) m
theorem rdm (xs : List ByteArray) (i : Nat) (h : 1 ≤ i) (hi : i ≤ 1048576) : wrap64 ((i : Int) - 1) = ((i - 1 : Nat) : Int) := by unfold wrap64; omega
theorem spec_AreAscending_ev (xs : List ByteArray) (hx : xs.length ≤ 1048576) : Ev (fun k => spec_AreAscending.f k xs) (asc xs 1 (xs.length - 1)) := by
  suffices h : ∀ m i, 1 ≤ i → (i + m = xs.length ∨ m = 0 ∧ xs.length ≤ i) → i ≤ 1048576 → Ev (fun k => spec_AreAscending.l0 k xs (i : Int)) (asc xs i m) by
    exact h (xs.length - 1) 1 (by omega) (by omega) (by omega)
  intro m
  induction m with
  | zero =>
    intro i h1 hi hl
    refine Ev.up ?_
    simp only [spec_AreAscending.l0]
    exact Ev.neg (by omega) (Ev.now _)
  | succ m ih =>
    intro i h1 hi hl
    refine Ev.up ?_
    simp only [spec_AreAscending.l0]
    rw [rdm xs i h1 hl]
    refine Ev.pos (by omega) (Ev.pos (by omega) (Ev.pos (by omega) (Ev.pos (by omega) ?_)))
    simp only [rdOf_str, asc]
    by_cases hc : Op.bytesLess (xs.getD (i - 1) ByteArray.empty).toList (xs.getD i ByteArray.empty).toList = true
    · refine Ev.pos hc ?_
      rw [w1' (n := xs.length) (by omega) hx, hc, Bool.true_and]
      exact ih (i + 1) (by omega) (by omega) (by omega)
    · refine Ev.neg hc ?_
      rw [Bool.eq_false_iff.2 hc, Bool.false_and]
      exact Ev.now _
theorem impl_AreAscending_ev (xs : List ByteArray) (hx : xs.length ≤ 1048576) : Ev (fun k => impl_AreAscending.f k xs) (asc xs 1 (xs.length - 1)) := by
  suffices h : ∀ m i, 1 ≤ i → (i + m = xs.length ∨ m = 0 ∧ xs.length ≤ i) → i ≤ 1048576 → Ev (fun k => impl_AreAscending.l0 k xs (i : Int)) (asc xs i m) by
    exact h (xs.length - 1) 1 (by omega) (by omega) (by omega)
  intro m
  induction m with
  | zero =>
    intro i h1 hi hl
    refine Ev.up ?_
    simp only [impl_AreAscending.l0]
    exact Ev.neg (by omega) (Ev.now _)
  | succ m ih =>
    intro i h1 hi hl
    refine Ev.up ?_
    simp only [impl_AreAscending.l0]
    rw [rdm xs i h1 hl]
    refine Ev.pos (by omega) (Ev.pos (by omega) (Ev.pos (by omega) (Ev.pos (by omega) ?_)))
    simp only [rdOf_str, asc]
    by_cases hc : Op.bytesLess (xs.getD (i - 1) ByteArray.empty).toList (xs.getD i ByteArray.empty).toList = true
    · refine Ev.pos hc ?_
      rw [w1' (n := xs.length) (by omega) hx, hc, Bool.true_and]
      exact ih (i + 1) (by omega) (by omega) (by omega)
    · refine Ev.neg hc ?_
      rw [Bool.eq_false_iff.2 hc, Bool.false_and]
      exact Ev.now _
end Go.Proofs.YtgplgphchdgedaaDoor.Px
end
section
namespace Go.Proofs.YtgplgphchdgedaaDoor.Px
open Go.RowKit Go.Proofs.YtgplgphchdgedaaDoorW.PrintWords Go.Proofs.YtgplgphchdgedaaDoorW.PrintLast Go.Proofs.YtgplgphchdgedaaDoor.Pl Go.Proofs.YtgplgphchdgedaaDoor.Ext
set_option linter.unusedVariables false
set_option linter.unusedSimpArgs false
/-- Can a list be that of a record's labels? -/
def labB (xs : List ByteArray) : Bool := xs.all isName && (decide (1 ≤ xs.length ∧ xs.length ≤ 4) && asc xs 1 (xs.length - 1))
theorem spec_l1In_eq (a b c : Int) : spec_l1In.f a b c = some (decide (b ≤ a ∧ a ≤ c)) := by
  unfold spec_l1In.f
  by_cases h : a ≥ b
  · rw [if_pos h]
    have h' : b ≤ a := h
    simp [h']
  · rw [if_neg h]
    have h' : ¬ b ≤ a := h
    simp [h']
theorem spec_l3Labels_ev (xs : List ByteArray) (hx : xs.length ≤ 1048576) (hy : ∀ y ∈ xs, y.size ≤ 1048576) : Ev (fun k => spec_l3Labels.f k xs) (labB xs) := by
  simp only [spec_l3Labels.f, labB]
  refine all_ev xs ByteArray.empty isName _ (fun k i => spec_l3Labels.l0 k xs (i : Int)) (fun k i => spec_IsName.f k (rdOf ByteArray.empty xs (i : Int))) (fun k i hi => ?_) ?_ (fun i hi => ?_)
  · simp only [spec_l3Labels.l0]
    rw [if_pos (by omega), if_pos (by omega), w1' hi hx]
  · refine Ev.up ?_
    simp only [spec_l3Labels.l0, spec_l1In_eq, Option.bind_some]
    refine Ev.neg (by omega) ?_
    refine Ev.cases (fun h => ?_) (fun h => ?_)
    · have h2 : (1 ≤ xs.length ∧ xs.length ≤ 4) := by simp at h; omega
      rw [decide_eq_true h2, Bool.true_and]
      exact Ev.bind (spec_AreAscending_ev xs hx) (Ev.now _)
    · have h2 : ¬ (1 ≤ xs.length ∧ xs.length ≤ 4) := by intro h3; apply h; simp; omega
      rw [decide_eq_false h2, Bool.false_and]
      exact Ev.now _
  · rw [rdOf_str]
    exact spec_IsName_ev _ (hy _ (mem_getD xs _ i hi))
theorem IndexFunc_labels (xs : List ByteArray) (hx : xs.length ≤ 1048576) (hy : ∀ y ∈ xs, y.size ≤ 1048576) : ∃ r : Int, Ev (fun k => slices_IndexFunc_string_of_labelsOk_1.l0 k xs (xs.length : Int) 0) r ∧ decide (r ≥ 0) = !(xs.all isName) := by
  suffices h : ∀ m i, i + m = xs.length → ∃ r : Int, Ev (fun k => slices_IndexFunc_string_of_labelsOk_1.l0 k xs (xs.length : Int) (i : Int)) r ∧ decide (r ≥ 0) = !((xs.drop i).all isName) from by simpa using h xs.length 0 (by omega)
  intro m
  induction m with
  | zero =>
    intro i hi
    refine ⟨-1, Ev.up ?_, by rw [List.drop_of_length_le (by omega)]; rfl⟩
    simp only [slices_IndexFunc_string_of_labelsOk_1.l0]
    exact Ev.neg (by omega) (Ev.now _)
  | succ m ih =>
    intro i hi
    have hlt : i < xs.length := by omega
    have e : xs.getD i ByteArray.empty = xs[i] := by simp [List.getD_eq_getElem?_getD, hlt]
    have hn : Ev (fun k => impl_labelsOk_1.f k (rdOf ByteArray.empty xs (i : Int))) (!(isName xs[i])) := by
      simp only [impl_labelsOk_1.f]
      rw [rdOf_str, e]
      exact Ev.bind (impl_IsName_ev _ (by rw [← e]; exact hy _ (mem_getD xs _ i hlt))) (Ev.now _)
    rw [List.drop_eq_getElem_cons hlt, List.all_cons]
    cases hp : isName xs[i]
    · refine ⟨(i : Int), Ev.up ?_, by simp⟩
      simp only [slices_IndexFunc_string_of_labelsOk_1.l0]
      rw [hp] at hn
      exact Ev.pos (by omega) (Ev.pos (by omega) (Ev.pos (by omega) (Ev.bind hn (Ev.pos (by simp) (Ev.now _)))))
    · obtain ⟨r, h1, h2⟩ := ih (i + 1) (by omega)
      refine ⟨r, Ev.up ?_, by rw [h2]; simp⟩
      simp only [slices_IndexFunc_string_of_labelsOk_1.l0, w1' hlt hx]
      rw [hp] at hn
      exact Ev.pos (by omega) (Ev.pos (by omega) (Ev.pos (by omega) (Ev.bind hn (Ev.neg (by simp) h1))))
theorem impl_labelsOk_ev (xs : List ByteArray) (hx : xs.length ≤ 1048576) (hy : ∀ y ∈ xs, y.size ≤ 1048576) : Ev (fun k => impl_labelsOk.f k xs) (labB xs) := by
  simp only [impl_labelsOk.f, labB, slices_ContainsFunc_string_of_labelsOk_1.f, slices_IndexFunc_string_of_labelsOk_1.f]
  by_cases h1 : xs.length < 1
  · refine Ev.pos (by omega) (Ev.const ?_)
    rw [decide_eq_false (by omega)]; simp
  refine Ev.neg (by omega) ?_
  by_cases h2 : xs.length > 4
  · refine Ev.pos (by omega) (Ev.const ?_)
    rw [decide_eq_false (by omega)]; simp
  refine Ev.neg (by omega) ?_
  rw [decide_eq_true (by omega), Bool.true_and]
  refine Ev.bind (impl_AreAscending_ev xs hx) ?_
  refine Ev.cases (fun h => ?_) (fun h => ?_)
  · obtain ⟨r, g1, g2⟩ := IndexFunc_labels xs hx hy
    refine Ev.bind (Ev.bind g1 (Ev.now _)) (Ev.const ?_)
    rw [g2, h]; simp
  · rw [Bool.eq_false_iff.2 h]
    exact Ev.const (by simp)

end Go.Proofs.YtgplgphchdgedaaDoor.Px
end
section
namespace Go.Proofs.YtgplgphchdgedaaDoor.Px
open Go.RowKit Go.Proofs.YtgplgphchdgedaaDoorW.PrintWords Go.Proofs.YtgplgphchdgedaaDoorW.PrintLast Go.Proofs.YtgplgphchdgedaaDoor.Pl Go.Proofs.YtgplgphchdgedaaDoor.Ext
set_option linter.unusedVariables false
set_option linter.unusedSimpArgs false
mutual
/-- Does a kind stand in a type? -/
def hasT (n : Int) : S33 → Bool
  | ⟨a, _, xs⟩ => hasTS n xs || a == n
def hasTS (n : Int) : List S33 → Bool
  | [] => false
  | x :: r => hasT n x || hasTS n r
end
mutual
/-- How deep is a type? -/
def depT : S33 → Nat
  | ⟨_, _, xs⟩ => depTS xs + 1
def depTS : List S33 → Nat
  | [] => 0
  | x :: r => max (depT x) (depTS r)
end
/-- How many arguments has a kind? -/
def wantT (a : Int) : Int := if a = 1 ∨ a = 2 then 0 else if a = 4 then 1 else if a = 5 then 2 else -1
/-- One node of a right type. -/
def topT (a : Int) (l : List ByteArray) (xs : List S33) : Bool :=
  if a = 3 then decide ((xs.length : Int) = l.length) && (labB l && !(hasTS 5 xs))
  else if a = 4 ∧ xs.length = 1 ∧ hasTS 5 xs = true then false
  else decide ((l.length : Int) = 0) && decide ((xs.length : Int) = wantT a)
mutual
def formT : S33 → Bool
  | ⟨a, l, xs⟩ => formTS xs && topT a l xs
def formTS : List S33 → Bool
  | [] => true
  | x :: r => formT x && formTS r
end
/-- One node, as_ the program looks at it. -/
def topI (plain : Bool) (deep : Int) (a : Int) (l : List ByteArray) (n : Nat) : Bool :=
  (decide (1 ≤ a ∧ a ≤ 5 ∧ deep ≤ 7) && decide ((n : Int) = imPut (imPut (imPut im0 4 1) 5 2) 3 (l.length : Int) a)) && (!(decide (a = 5) && plain) && (!(decide (a = 3) && !(labB l)) && (decide (a = 3) || decide (l.length = 0))))
mutual
def tfT (plain : Bool) (deep : Int) : S33 → Bool
  | ⟨a, l, xs⟩ => topI plain deep a l xs.length && tfTS (plain || (decide (a = 3) || decide (a = 4))) (deep + 1) xs
def tfTS (plain : Bool) (deep : Int) : List S33 → Bool
  | [] => true
  | x :: r => tfT plain deep x && tfTS plain deep r
end
theorem hasT_eq (n : Int) (x : S33) : hasT n x = (hasTS n x.f2 || x.f0 == n) := by cases x; simp only [hasT]
theorem depT_eq (x : S33) : depT x = depTS x.f2 + 1 := by cases x; simp only [depT]
theorem formT_eq (x : S33) : formT x = (formTS x.f2 && topT x.f0 x.f1 x.f2) := by cases x; simp only [formT]
theorem tfT_eq (p : Bool) (d : Int) (x : S33) : tfT p d x = (topI p d x.f0 x.f1 x.f2.length && tfTS (p || (decide (x.f0 = 3) || decide (x.f0 = 4))) (d + 1) x.f2) := by cases x; simp only [tfT]
theorem hasTS_any (n : Int) (xs : List S33) : hasTS n xs = xs.any (hasT n) := by
  induction xs with
  | nil => rfl
  | cons x r ih => simp [hasTS, ih]
theorem formTS_all (xs : List S33) : formTS xs = xs.all formT := by
  induction xs with
  | nil => rfl
  | cons x r ih => simp [formTS, ih]
theorem tfTS_all (p : Bool) (d : Int) (xs : List S33) : tfTS p d xs = xs.all (tfT p d) := by
  induction xs with
  | nil => rfl
  | cons x r ih => simp [tfTS, ih]
theorem depT_le (xs : List S33) (n : Nat) : depTS xs ≤ n ↔ ∀ y ∈ xs, depT y ≤ n := by
  induction xs with
  | nil => simp [depTS]
  | cons x r ih => simp [depTS, Nat.max_le, ih]
theorem depT_nd : ∀ x : S33, depT x ≤ ndType x := by
  refine indTypeI fun x ih => ?_
  rw [depT_eq, ndType_eq]
  have : depTS x.f2 ≤ (x.f2.map ndType).sum := (depT_le _ _).2 fun y hy => Nat.le_trans (ih y hy) (sum_le_of_mem ndType hy)
  omega
theorem many_eq (a : Int) (n : Nat) : imPut (imPut (imPut im0 4 1) 5 2) 3 (n : Int) a = if a = 3 then (n : Int) else if a = 5 then 2 else if a = 4 then 1 else 0 := by
  simp only [imPut, im0]
theorem tfT_iff : ∀ x : S33, ∀ p d, tfT p d x = true ↔ formT x = true ∧ (p = true → hasT 5 x = false) ∧ d + (depT x : Int) ≤ 8 := by
  refine indTypeI fun x ih p d => ?_
  rw [tfT_eq, formT_eq, hasT_eq, depT_eq]
  have hS : ∀ q, tfTS q (d + 1) x.f2 = true ↔ formTS x.f2 = true ∧ (q = true → hasTS 5 x.f2 = false) ∧ (x.f2 = [] ∨ d + (depTS x.f2 : Int) ≤ 7) := by
    intro q
    rw [tfTS_all, formTS_all, hasTS_any, List.all_eq_true, List.all_eq_true]
    constructor
    · intro h
      refine ⟨fun y hy => ((ih y hy q (d + 1)).1 (h y hy)).1, fun hq => ?_, ?_⟩
      · rw [Bool.eq_false_iff]
        intro hc
        obtain ⟨y, hy, h5⟩ := List.any_eq_true.1 hc
        rw [((ih y hy q (d + 1)).1 (h y hy)).2.1 hq] at h5
        exact absurd h5 (by decide)
      · by_cases he : x.f2 = []
        · exact Or.inl he
        refine Or.inr ?_
        have hb : ∀ y ∈ x.f2, (depT y : Int) ≤ 7 - d := fun y hy => by have := ((ih y hy q (d + 1)).1 (h y hy)).2.2; omega
        obtain ⟨y0, hy0⟩ := List.exists_mem_of_ne_nil _ he
        have h0 := hb y0 hy0
        have : depTS x.f2 ≤ (7 - d).toNat := (depT_le _ _).2 fun y hy => by have := hb y hy; omega
        omega
    · intro h y hy
      refine (ih y hy q (d + 1)).2 ⟨h.1 y hy, fun hq => ?_, ?_⟩
      · rw [Bool.eq_false_iff]
        intro hc
        have := h.2.1 hq
        rw [Bool.eq_false_iff] at this
        exact this (List.any_eq_true.2 ⟨y, hy, hc⟩)
      · rcases h.2.2 with he | hd
        · rw [he] at hy; cases hy
        have := (depT_le x.f2 (depTS x.f2)).1 (Nat.le_refl _) y hy
        omega
  rw [Bool.and_eq_true, hS]
  have hlen : x.f2 = [] ↔ x.f2.length = 0 := by cases x.f2 <;> simp
  have hdep : x.f2 = [] → depTS x.f2 = 0 := fun h => by rw [h]; rfl
  have hno : x.f2 = [] → hasTS 5 x.f2 = false := fun h => by rw [h]; rfl
  generalize x.f2 = xs at *
  generalize x.f0 = a at *
  generalize x.f1 = l at *
  simp only [topI, topT, many_eq, wantT]
  by_cases h3 : a = 3
  · subst h3
    simp only [if_true, Bool.and_eq_true, decide_eq_true_eq, Bool.or_eq_true, Bool.not_eq_true', Bool.and_eq_false_iff, decide_eq_false_iff_not, Bool.not_eq_false', Bool.or_eq_false_iff, beq_eq_false_iff_ne, true_or, or_true, true_implies, true_and, and_true, not_true_eq_false, false_or, or_false]
    constructor
    · rintro ⟨⟨⟨⟨_, _, h7⟩, hn⟩, _, hl⟩, hf, hh, hd⟩
      refine ⟨⟨hf, hn, hl, hh⟩, fun _ => ⟨hh, by decide⟩, ?_⟩
      rcases hd with he | hd
      · rw [hdep he]; omega
      · omega
    · rintro ⟨⟨hf, hn, hl, hh⟩, _, hd⟩
      refine ⟨⟨⟨⟨by decide, by decide, by omega⟩, hn⟩, Or.inl (by decide), hl⟩, hf, hh, Or.inr (by omega)⟩
  · by_cases h4 : a = 4
    · subst h4
      simp only [show ¬ ((4 : Int) = 3) by decide, show ¬ ((4 : Int) = 5) by decide, show ¬ ((4 : Int) = 1 ∨ (4 : Int) = 2) by decide, if_false, if_true, Bool.and_eq_true, decide_eq_true_eq, Bool.or_eq_true, Bool.not_eq_true', Bool.and_eq_false_iff, decide_eq_false_iff_not, Bool.not_eq_false', Bool.or_eq_false_iff, beq_eq_false_iff_ne, true_and, false_or, or_true, true_or, not_false_eq_true, and_true, true_implies]
      constructor
      · rintro ⟨⟨⟨⟨_, _, h7⟩, hn⟩, hl⟩, hf, hh, hd⟩
        have h1 : xs.length = 1 := by omega
        have hd' : d + (depTS xs : Int) ≤ 7 := by
          rcases hd with he | hd
          · rw [hlen] at he; omega
          · exact hd
        rw [if_neg (by rintro ⟨_, h⟩; rw [hh] at h; cases h)]
        simp [hf, hl, h1, hh]
        omega
      · rintro ⟨⟨hf, ht⟩, hp, hd⟩
        by_cases hc : xs.length = 1 ∧ hasTS 5 xs = true
        · rw [if_pos hc] at ht; cases ht
        rw [if_neg hc] at ht
        simp at ht
        have h1 : xs.length = 1 := by omega
        have hh : hasTS 5 xs = false := by
          rw [Bool.eq_false_iff]; exact fun h => hc ⟨h1, h⟩
        exact ⟨⟨⟨⟨by decide, by decide, by omega⟩, by omega⟩, by simp [ht.1]⟩, hf, hh, Or.inr (by omega)⟩
    · have e34 : (decide (a = 3) || decide (a = 4)) = false := by simp [h3, h4]
      simp only [h3, h4, if_false, false_and, Bool.and_eq_true, decide_eq_true_eq, Bool.or_eq_true, Bool.not_eq_true', Bool.and_eq_false_iff, decide_eq_false_iff_not, Bool.not_eq_false', Bool.or_eq_false_iff, beq_eq_false_iff_ne, true_or, false_or, true_and, or_false, not_false_eq_true]
      constructor
      · rintro ⟨⟨⟨⟨h1, h5, h7⟩, hn⟩, hp5, hl⟩, hf, hh, hd⟩
        have hl0 : l = [] := by simpa using hl
        have hd' : d + (depTS xs : Int) ≤ 7 := by
          rcases hd with he | hd
          · rw [hdep he]; omega
          · exact hd
        refine ⟨⟨hf, ?_⟩, fun hp => ⟨hh hp, ?_⟩, by omega⟩
        · rw [hl0]
          simp
          split <;> (split at hn <;> omega)
        · intro h
          rcases hp5 with h' | h'
          · exact h' h
          · rw [h'] at hp; cases hp
      · rintro ⟨⟨hf, ht⟩, hp, hd⟩
        simp at ht
        have hl0 : l = [] := ht.1
        have hw := ht.2
        refine ⟨⟨⟨⟨?_, ?_, by omega⟩, ?_⟩, ?_, by simp [hl0]⟩, hf, fun h => (hp h).1, Or.inr (by omega)⟩
        · split at hw <;> (try split at hw) <;> omega
        · split at hw <;> (try split at hw) <;> omega
        · split at hw <;> (try split at hw) <;> (try split) <;> omega
        · by_cases h5 : a = 5
          · refine Or.inr ?_
            rw [Bool.eq_false_iff]
            exact fun h => (hp h).2 h5
          · exact Or.inl h5
theorem spec_l3Has_ev (n : Int) : ∀ x : S33, SmType x → Ev (fun k => spec_l3Has.f k x.f0 x.f1 x.f2 n) (hasT n x) := by
  refine indTypeI fun x ih hs => ?_
  rw [hasT_eq, hasTS_any]
  refine Ev.up ?_
  simp only [spec_l3Has.f]
  refine any_ev x.f2 z33 (hasT n) _ (fun k i => spec_l3Has.l0 k n (i : Int) x.f0 x.f1 x.f2) (fun k i => spec_l3Has.f k (rd_T33 x.f2 (i : Int)).f0 (rd_T33 x.f2 (i : Int)).f1 (rd_T33 x.f2 (i : Int)).f2 n) (fun k i hi => ?_) ?_ (fun i hi => ih (x.f2.getD i z33) (mem_getD x.f2 z33 i hi) (hs.p2.2 _ (mem_getD x.f2 z33 i hi)))
  · simp only [spec_l3Has.l0]
    rw [if_pos (by omega), if_pos (by omega), w1' hi hs.p2.1]
  · refine Ev.up ?_
    simp only [spec_l3Has.l0]
    exact Ev.neg (by omega) (Ev.now _)

end Go.Proofs.YtgplgphchdgedaaDoor.Px
end
section
namespace Go.Proofs.YtgplgphchdgedaaDoor.Px
open Go.RowKit Go.Proofs.YtgplgphchdgedaaDoorW.PrintWords Go.Proofs.YtgplgphchdgedaaDoorW.PrintLast Go.Proofs.YtgplgphchdgedaaDoor.Pl Go.Proofs.YtgplgphchdgedaaDoor.Ext
set_option linter.unusedVariables false
set_option linter.unusedSimpArgs false
def lab (a t : ByteArray) : ByteArray := (a ++ (⟨#[58]⟩ : ByteArray)) ++ t
/-- The text of a node, out of the texts of its parts. -/
def bodyT (a : Int) (l ts : List ByteArray) : ByteArray :=
  if a = 1 then (⟨#[73]⟩ : ByteArray) else if a = 2 then (⟨#[66]⟩ : ByteArray) else if a = 3 then (((⟨#[123]⟩ : ByteArray) ++ joinB (List.zipWith lab l ts) (⟨#[44]⟩ : ByteArray)) ++ (⟨#[125]⟩ : ByteArray)) else if a = 4 then (((⟨#[91]⟩ : ByteArray) ++ ts.getD 0 ByteArray.empty) ++ (⟨#[93]⟩ : ByteArray)) else (((⟨#[40]⟩ : ByteArray) ++ joinB ts (⟨#[62]⟩ : ByteArray)) ++ (⟨#[41]⟩ : ByteArray))
mutual
def txT : S33 → ByteArray
  | ⟨a, l, xs⟩ => bodyT a l (txTS xs)
def txTS : List S33 → List ByteArray
  | [] => []
  | x :: r => txT x :: txTS r
end
theorem txTS_map (xs : List S33) : txTS xs = xs.map txT := by
  induction xs with
  | nil => rfl
  | cons x r ih => simp [txTS, ih]
theorem txT_eq (x : S33) : txT x = bodyT x.f0 x.f1 (x.f2.map txT) := by cases x; simp only [txT, txTS_map]
theorem formT_cases (t : S33) (h : formT t = true) : (∀ y ∈ t.f2, formT y = true) ∧ (t.f0 = 1 ∨ t.f0 = 2 ∨ t.f0 = 3 ∨ t.f0 = 4 ∨ t.f0 = 5) ∧ (t.f0 = 3 → t.f2.length = t.f1.length ∧ labB t.f1 = true) ∧ (t.f0 = 4 → t.f2.length = 1) ∧ (t.f0 = 5 → t.f2.length = 2) := by
  rw [formT_eq, Bool.and_eq_true, formTS_all, List.all_eq_true] at h
  obtain ⟨h1, h2⟩ := h
  unfold topT at h2
  by_cases e3 : t.f0 = 3
  · rw [if_pos e3, Bool.and_eq_true, Bool.and_eq_true] at h2
    have := of_decide_eq_true h2.1
    exact ⟨h1, by omega, fun _ => ⟨by omega, h2.2.1⟩, fun h => by omega, fun h => by omega⟩
  rw [if_neg e3] at h2
  split at h2
  · cases h2
  rw [Bool.and_eq_true] at h2
  have hw := of_decide_eq_true h2.2
  unfold wantT at hw
  by_cases e12 : t.f0 = 1 ∨ t.f0 = 2
  · exact ⟨h1, by omega, fun h => by omega, fun h => by omega, fun h => by omega⟩
  rw [if_neg e12] at hw
  by_cases e4 : t.f0 = 4
  · rw [if_pos e4] at hw
    exact ⟨h1, by omega, fun h => by omega, fun h => by omega, fun h => by omega⟩
  rw [if_neg e4] at hw
  by_cases e5 : t.f0 = 5
  · rw [if_pos e5] at hw
    exact ⟨h1, by omega, fun h => by omega, fun h => by omega, fun h => by omega⟩
  · rw [if_neg e5] at hw
    omega
theorem isName_size (s : ByteArray) (h : isName s = true) : s.size ≤ 4 := by
  simp only [isName, Bool.and_eq_true, decide_eq_true_eq] at h
  omega
theorem labB_size (l : List ByteArray) (h : labB l = true) : ∀ y ∈ l, y.size ≤ 4 := by
  simp only [labB, Bool.and_eq_true, List.all_eq_true] at h
  exact fun y hy => isName_size y (h.1 y hy)
theorem szs_cons (x : ByteArray) (r : List ByteArray) : szs (x :: r) = x.size + szs r := by simp [szs]
theorem szs_map (xs : List S33) (h : ∀ y ∈ xs, (txT y).size + 6 ≤ 8 * ndType y) : szs (xs.map txT) + 6 * xs.length ≤ 8 * (xs.map ndType).sum := by
  induction xs with
  | nil => simp [szs]
  | cons x r ih =>
    have h1 := h x List.mem_cons_self
    have h2 := ih (fun y hy => h y (List.mem_cons_of_mem _ hy))
    simp only [List.map_cons, List.sum_cons, List.length_cons]
    rw [szs_cons]
    omega
theorem szs_zip : ∀ (l ts : List ByteArray), (∀ y ∈ l, y.size ≤ 4) → szs (List.zipWith lab l ts) ≤ 5 * ts.length + szs ts
  | [], ts, _ => by simp [szs]
  | a :: l, [], _ => by simp [szs]
  | a :: l, t :: ts, h => by
    have h1 := h a List.mem_cons_self
    have h2 := szs_zip l ts (fun y hy => h y (List.mem_cons_of_mem _ hy))
    rw [List.zipWith_cons_cons, szs_cons, szs_cons, List.length_cons]
    have a1 : (⟨#[58]⟩ : ByteArray).size = 1 := rfl
    have : (lab a t).size = a.size + 1 + t.size := by rw [lab, ByteArray.size_append, ByteArray.size_append, a1]
    omega
theorem txT_size : ∀ x : S33, formT x = true → (txT x).size + 6 ≤ 8 * ndType x := by
  refine indTypeI fun x ih hf => ?_
  obtain ⟨hy, hk, h3, h4, h5⟩ := formT_cases x hf
  have hs := szs_map x.f2 (fun y hm => ih y hm (hy y hm))
  rw [txT_eq, ndType_eq]
  unfold bodyT
  rcases hk with e | e | e | e | e
  · have a1 : (⟨#[73]⟩ : ByteArray).size = 1 := rfl
    rw [if_pos e, a1]; omega
  · have a1 : (⟨#[66]⟩ : ByteArray).size = 1 := rfl
    rw [if_neg (by omega), if_pos e, a1]; omega
  · have hz := szs_zip x.f1 (x.f2.map txT) (labB_size _ (h3 e).2)
    have hj := joinL_length (List.zipWith lab x.f1 (x.f2.map txT)) (⟨#[44]⟩ : ByteArray)
    have hc : (⟨#[44]⟩ : ByteArray).size = 1 := rfl
    rw [hc] at hj
    have hl : (List.zipWith lab x.f1 (x.f2.map txT)).length ≤ x.f2.length := by simp; omega
    rw [List.length_map] at hz
    rw [if_neg (by omega), if_neg (by omega), if_pos e, ByteArray.size_append, ByteArray.size_append, joinB_size]
    have a1 : (⟨#[123]⟩ : ByteArray).size = 1 := rfl
    have a2 : (⟨#[125]⟩ : ByteArray).size = 1 := rfl
    omega
  · have hl := h4 e
    rw [if_neg (by omega), if_neg (by omega), if_neg (by omega), if_pos e, ByteArray.size_append, ByteArray.size_append]
    have a1 : (⟨#[91]⟩ : ByteArray).size = 1 := rfl
    have a2 : (⟨#[93]⟩ : ByteArray).size = 1 := rfl
    obtain ⟨y, hy1⟩ := List.length_eq_one_iff.1 hl
    rw [hy1] at hs ⊢
    simp [szs] at hs ⊢
    omega
  · have hl := h5 e
    have hj := joinL_length (x.f2.map txT) (⟨#[62]⟩ : ByteArray)
    have hc : (⟨#[62]⟩ : ByteArray).size = 1 := rfl
    rw [hc, List.length_map] at hj
    rw [if_neg (by omega), if_neg (by omega), if_neg (by omega), if_neg (by omega), ByteArray.size_append, ByteArray.size_append, joinB_size]
    have a1 : (⟨#[40]⟩ : ByteArray).size = 1 := rfl
    have a2 : (⟨#[41]⟩ : ByteArray).size = 1 := rfl
    omega
/-- The texts of a node's parts, as_ they are joined. -/
def partsT (x : S33) : List ByteArray := if x.f0 = 3 then List.zipWith lab x.f1 (x.f2.map txT) else x.f2.map txT
theorem partsT_length (x : S33) (hf : formT x = true) : (partsT x).length = x.f2.length := by
  unfold partsT
  split
  · rename_i h
    have := ((formT_cases x hf).2.2.1 h).1
    simp
    omega
  · simp
theorem partsT_getD (x : S33) (hf : formT x = true) (i : Nat) (hi : i < x.f2.length) : (partsT x).getD i ByteArray.empty = if x.f0 = 3 then lab (x.f1.getD i ByteArray.empty) (txT (x.f2.getD i z33)) else txT (x.f2.getD i z33) := by
  unfold partsT
  split
  · rename_i h
    have := ((formT_cases x hf).2.2.1 h).1
    have hl : i < x.f1.length := by omega
    have e1 : (List.zipWith lab x.f1 (x.f2.map txT))[i]? = some (lab x.f1[i] (txT x.f2[i])) := by
      rw [List.getElem?_eq_getElem (by simp; omega)]
      simp
    rw [List.getD_eq_getElem?_getD, e1]
    simp [List.getD_eq_getElem?_getD, hi, hl]
  · simp [List.getD_eq_getElem?_getD, hi]
theorem take_getD (xs : List ByteArray) (i : Nat) (h : i < xs.length) : xs.take (i + 1) = xs.take i ++ [xs.getD i ByteArray.empty] := by
  rw [List.take_succ_eq_append_getElem h]
  simp [List.getD_eq_getElem?_getD, h]
theorem partsT_small (x : S33) (hf : formT x = true) (hn : ndType x ≤ 1048577) : szs (partsT x) + (partsT x).length ≤ 8388616 := by
  obtain ⟨hy, hk, h3, h4, h5⟩ := formT_cases x hf
  have hs := szs_map x.f2 (fun y hm => txT_size y (hy y hm))
  rw [partsT_length x hf]
  rw [ndType_eq] at hn
  unfold partsT
  split
  · rename_i e
    have hz := szs_zip x.f1 (x.f2.map txT) (labB_size _ (h3 e).2)
    rw [List.length_map] at hz
    omega
  · omega
theorem spec_l4Text_ev : ∀ x : S33, SmType x → ndType x ≤ 1048577 → formT x = true → Ev (fun k => spec_l4Text.f k x.f0 x.f1 x.f2) (txT x) := by
  refine indTypeI fun x ih hs hn hf => ?_
  obtain ⟨hy, hk, h3, h4, h5⟩ := formT_cases x hf
  have hpl := partsT_length x hf
  have hps := partsT_small x hf hn
  have hlen := hs.p2.1
  rw [ndType_eq] at hn
  refine Ev.up ?_
  simp only [spec_l4Text.f]
  suffices h : ∀ m i, i + m = x.f2.length → Ev (fun k => spec_l4Text.l0 k ((partsT x).take i) (i : Int) x.f0 x.f1 x.f2) (txT x) from by simpa using h x.f2.length 0 (by omega)
  intro m
  induction m with
  | zero =>
    intro i hi
    refine Ev.up ?_
    simp only [spec_l4Text.l0]
    refine Ev.neg (by omega) ?_
    rw [List.take_of_length_le (by omega), txT_eq]
    unfold bodyT
    refine Ev.cases (fun e1 => by rw [if_pos e1]; exact Ev.now _) (fun e1 => ?_)
    rw [if_neg e1]
    refine Ev.cases (fun e2 => by rw [if_pos e2]; exact Ev.now _) (fun e2 => ?_)
    rw [if_neg e2]
    refine Ev.cases (fun e3 => ?_) (fun e3 => ?_)
    · rw [if_pos e3]
      have hc : (⟨#[44]⟩ : ByteArray).size = 1 := rfl
      refine Ev.bind (spec_Join_ev (partsT x) (⟨#[44]⟩ : ByteArray) (by omega) (by rw [hc]; omega)) ?_
      have hj := joinL_length (partsT x) (⟨#[44]⟩ : ByteArray)
      rw [hc, ← joinB_size] at hj
      refine Ev.pos (by omega) (Ev.pos ?_ (Ev.const ?_))
      · first
          | omega
          | (rw [ByteArray.size_append]; have a1 : (⟨#[123]⟩ : ByteArray).size = 1 := rfl; omega)
      · have : partsT x = List.zipWith lab x.f1 (x.f2.map txT) := by unfold partsT; rw [if_pos e3]
        rw [this]
    rw [if_neg e3]
    have hp : partsT x = x.f2.map txT := by unfold partsT; rw [if_neg e3]
    refine Ev.cases (fun e4 => ?_) (fun e4 => ?_)
    · rw [if_pos e4]
      have hl := h4 e4
      refine Ev.pos (by omega) ?_
      have e0 : rdOf ByteArray.empty (partsT x) 0 = (x.f2.map txT).getD 0 ByteArray.empty := by rw [hp]; exact rdOf_str _ 0
      rw [e0]
      have hsz : ((x.f2.map txT).getD 0 ByteArray.empty).size ≤ 8388616 := by
        rw [hp] at hps
        have hm := mem_getD (x.f2.map txT) ByteArray.empty 0 (by rw [List.length_map]; omega)
        have := sum_le_of_mem ByteArray.size hm
        unfold szs at hps
        omega
      refine Ev.pos (by omega) (Ev.pos ?_ (Ev.now _))
      first
        | omega
        | (rw [ByteArray.size_append]; have a1 : (⟨#[91]⟩ : ByteArray).size = 1 := rfl; omega)
    · rw [if_neg e4]
      have hc : (⟨#[62]⟩ : ByteArray).size = 1 := rfl
      refine Ev.bind (spec_Join_ev (partsT x) (⟨#[62]⟩ : ByteArray) (by omega) (by rw [hc]; omega)) ?_
      have hj := joinL_length (partsT x) (⟨#[62]⟩ : ByteArray)
      rw [hc, ← joinB_size] at hj
      refine Ev.pos (by omega) (Ev.pos ?_ (Ev.const ?_))
      · first
          | omega
          | (rw [ByteArray.size_append]; have a1 : (⟨#[40]⟩ : ByteArray).size = 1 := rfl; omega)
      · rw [hp]
  | succ m ihm =>
    intro i hi
    have hlt : i < x.f2.length := by omega
    have hm := mem_getD x.f2 z33 i hlt
    have hsub := ih _ hm (hs.p2.2 _ hm) (by have := sum_le_of_mem ndType hm; omega) (hy _ hm)
    have hsz := txT_size _ (hy _ hm)
    have hnd := sum_le_of_mem ndType hm
    have hg := partsT_getD x hf i hlt
    have ht := take_getD (partsT x) i (by omega)
    have ihm' := ihm (i + 1) (by omega)
    rw [ht, hg] at ihm'
    have hti : ((partsT x).take i).length < 8796093022208 := by rw [List.length_take]; omega
    refine Ev.up ?_
    simp only [spec_l4Text.l0, w1' hlt hlen]
    refine Ev.pos (by omega) (Ev.pos (by omega) (Ev.bind hsub ?_))
    refine Ev.cases (fun e3 => ?_) (fun e3 => ?_)
    · rw [if_pos e3] at ihm'
      have hl := (h3 e3).1
      have hls := labB_size _ (h3 e3).2 _ (mem_getD x.f1 ByteArray.empty i (by omega))
      rw [rdOf_str]
      refine Ev.pos (by omega) (Ev.pos (by omega) (Ev.pos ?_ (Ev.pos hti ihm')))
      first
        | omega
        | (rw [ByteArray.size_append]; have a1 : (⟨#[58]⟩ : ByteArray).size = 1 := rfl; omega)
    · rw [if_neg e3] at ihm'
      exact Ev.pos hti ihm'
theorem data_app (a b : ByteArray) : (a ++ b).data.toList = a.data.toList ++ b.data.toList := by simp
theorem ba_ext {a b : ByteArray} (h : a.data.toList = b.data.toList) : a = b := by
  cases a with | mk a => cases b with | mk b =>
  congr 1
  exact Array.toList_inj.1 h
theorem len2 {α : Type} (l : List α) (h : l.length = 2) : ∃ a b, l = [a, b] := by
  match l, h with
  | [a, b], _ => exact ⟨a, b, rfl⟩
theorem two_join (a b s : ByteArray) : joinB [a, b] s = (a ++ s) ++ b := by
  apply ba_ext
  rw [data_app, data_app]
  simp [joinB, joinL, Lib.join_cons, Lib.joinTail]
theorem impl_typeText_ev : ∀ x : S33, SmType x → ndType x ≤ 1048577 → formT x = true → Ev (fun k => impl_typeText.f k x.f0 x.f1 x.f2) (txT x) := by
  refine indTypeI fun x ih hs hn hf => ?_
  obtain ⟨hy, hk, h3, h4, h5⟩ := formT_cases x hf
  have hpl := partsT_length x hf
  have hps := partsT_small x hf hn
  have hlen := hs.p2.1
  rw [ndType_eq] at hn
  have sub : ∀ i, i < x.f2.length → Ev (fun k => impl_typeText.f k (rd_T33 x.f2 (i : Int)).f0 (rd_T33 x.f2 (i : Int)).f1 (rd_T33 x.f2 (i : Int)).f2) (txT (x.f2.getD i z33)) ∧ (txT (x.f2.getD i z33)).size ≤ 8388616 := by
    intro i hi
    have hm := mem_getD x.f2 z33 i hi
    have hnd := sum_le_of_mem ndType hm
    have hsz := txT_size _ (hy _ hm)
    exact ⟨ih (x.f2.getD i z33) hm (hs.p2.2 _ hm) (by omega) (hy _ hm), by omega⟩
  refine Ev.up ?_
  simp only [impl_typeText.f]
  rw [txT_eq]
  unfold bodyT
  refine Ev.cases (fun e1 => by rw [if_pos e1]; exact Ev.now _) (fun e1 => ?_)
  rw [if_neg e1]
  refine Ev.cases (fun e2 => by rw [if_pos e2]; exact Ev.now _) (fun e2 => ?_)
  rw [if_neg e2]
  refine Ev.cases (fun e4 => ?_) (fun e4 => ?_)
  · rw [if_neg (by omega), if_pos e4]
    have hl := h4 e4
    obtain ⟨s1, s2⟩ := sub 0 (by omega)
    refine Ev.pos (by omega) (Ev.bind s1 (Ev.pos (by omega) (Ev.pos ?_ (Ev.const ?_))))
    · first
        | omega
        | (rw [ByteArray.size_append]; have a1 : (⟨#[91]⟩ : ByteArray).size = 1 := rfl; omega)
    · obtain ⟨y, hy1⟩ := List.length_eq_one_iff.1 hl
      rw [hy1]; rfl
  refine Ev.cases (fun e5 => ?_) (fun e5 => ?_)
  · rw [if_neg (by omega), if_neg e4]
    have hl := h5 e5
    obtain ⟨s1, s2⟩ := sub 0 (by omega)
    obtain ⟨q1, q2⟩ := sub 1 (by omega)
    have a1 : (⟨#[40]⟩ : ByteArray).size = 1 := rfl
    have a2 : (⟨#[62]⟩ : ByteArray).size = 1 := rfl
    refine Ev.pos (by omega) (Ev.bind s1 (Ev.pos (by omega) (Ev.pos ?_ (Ev.pos (by omega) (Ev.bind q1 (Ev.pos ?_ (Ev.pos ?_ (Ev.const ?_))))))))
    · first | omega | (rw [ByteArray.size_append]; omega)
    · first | omega | (rw [ByteArray.size_append, ByteArray.size_append]; omega)
    · first | omega | (rw [ByteArray.size_append, ByteArray.size_append, ByteArray.size_append]; omega)
    · obtain ⟨y, z, hy1⟩ := len2 x.f2 hl
      rw [hy1]
      show _ = (⟨#[40]⟩ : ByteArray) ++ joinB [txT y, txT z] (⟨#[62]⟩ : ByteArray) ++ (⟨#[41]⟩ : ByteArray)
      rw [two_join]
      apply ba_ext
      simp [data_app]
  have e3 : x.f0 = 3 := by omega
  have hl := (h3 e3).1
  rw [if_pos e3]
  have hp : partsT x = List.zipWith lab x.f1 (x.f2.map txT) := by unfold partsT; rw [if_pos e3]
  rw [← hp]
  suffices h : ∀ m i, i + m = x.f1.length → Ev (fun k => impl_typeText.l0 k ((partsT x).take i) x.f1 (x.f1.length : Int) (i : Int) x.f2) (((⟨#[123]⟩ : ByteArray) ++ joinB (partsT x) (⟨#[44]⟩ : ByteArray)) ++ (⟨#[125]⟩ : ByteArray)) from by simpa using h x.f1.length 0 (by omega)
  intro m
  induction m with
  | zero =>
    intro i hi
    refine Ev.up ?_
    simp only [impl_typeText.l0]
    refine Ev.neg (by omega) ?_
    rw [List.take_of_length_le (by omega)]
    have hc : (⟨#[44]⟩ : ByteArray).size = 1 := rfl
    rw [strings_Join_eq (partsT x) (⟨#[44]⟩ : ByteArray) (by omega) (by rw [hc]; omega)]
    simp only [Option.bind_some]
    have hj := joinL_length (partsT x) (⟨#[44]⟩ : ByteArray)
    rw [hc, ← joinB_size] at hj
    refine Ev.pos (by omega) (Ev.pos ?_ (Ev.now _))
    first
      | omega
      | (rw [ByteArray.size_append]; have a1 : (⟨#[123]⟩ : ByteArray).size = 1 := rfl; omega)
  | succ m ihm =>
    intro i hi
    have hlt : i < x.f2.length := by omega
    obtain ⟨s1, s2⟩ := sub i hlt
    have hg := partsT_getD x hf i hlt
    have ht := take_getD (partsT x) i (by omega)
    have ihm' := ihm (i + 1) (by omega)
    rw [ht, hg, if_pos e3] at ihm'
    have hti : ((partsT x).take i).length < 8796093022208 := by rw [List.length_take]; omega
    have hls := labB_size _ (h3 e3).2 _ (mem_getD x.f1 ByteArray.empty i (by omega))
    refine Ev.up ?_
    simp only [impl_typeText.l0, w1' (show i < x.f1.length by omega) hs.p1.1, rdOf_str]
    refine Ev.pos (by omega) (Ev.pos (by omega) (Ev.pos (by omega) (Ev.pos (by omega) (Ev.pos (by omega) (Ev.bind s1 (Ev.pos ?_ (Ev.pos hti ihm')))))))
    first
      | omega
      | (rw [ByteArray.size_append]; have a1 : (⟨#[58]⟩ : ByteArray).size = 1 := rfl; omega)

end Go.Proofs.YtgplgphchdgedaaDoor.Px
end
