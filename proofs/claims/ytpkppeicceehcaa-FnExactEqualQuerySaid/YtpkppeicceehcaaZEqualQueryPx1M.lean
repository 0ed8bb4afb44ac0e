/- Printed by a program of this session: what functions of the translation come to, each contract as it stands. No condition. -/
import Derived.Test.YtpkppeicceehcaaZEqualQuerySh
import Derived.Test.YtpkppeicceehcaaZEqualQueryPx0
section
namespace Go.Proofs.Ytpkppeicceehcaa.Px
open Go.RowKit Go.Proofs.Ytpkppeicceehcaa.Ext Go.Proofs.YtpkppeicceehcaaW.PrintWords Go.Proofs.YtpkppeicceehcaaW.PrintLast Go.Proofs.YtpkppeicceehcaaW.PrintMore
attribute [local go_sem] max2_int min2_int max_two min_two max_three min_three max_four min_four   -- for this text's walks alone
set_option linter.unusedVariables false
set_option linter.unusedSimpArgs false

theorem eqA77 (d : Nat) (w : World) (x0 y0 : ByteArray) (x1 y1 : ByteArray) :
  (Op.equalIn (d + 2) 77 (.agg #[.string x0, .string x1]) (.agg #[.string y0, .string y1])).run Try.prog w = .ok (x0.toList == y0.toList && (x1.toList == y1.toList)) w := by
 refine eqA_of Try.underlying77 kr ?_
 refine eqf_cons (by rfl) (by go_simp; rfl) (by go_simp; rfl) (by go_simp) ?_
 exact eqf_last (by rfl) (by go_simp; rfl) (by go_simp; rfl) (by go_simp)
end Go.Proofs.Ytpkppeicceehcaa.Px
end
section
namespace Go.Proofs.Ytpkppeicceehcaa.Px
set_option maxHeartbeats 8000000
set_option maxRecDepth 100000
open Go.RowKit Go.Proofs.Ytpkppeicceehcaa.Ext Go.Proofs.YtpkppeicceehcaaW.PrintWords Go.Proofs.YtpkppeicceehcaaW.PrintLast Go.Proofs.YtpkppeicceehcaaW.PrintMore
attribute [local go_sem] max2_int min2_int max_two min_two max_three min_three max_four min_four   -- for this text's walks alone
set_option linter.unusedVariables false
set_option linter.unusedSimpArgs false

attribute [local go_sem high] eqA77
/-! ### spec_l13EqualGens: function 23 -/
def spec_l13EqualGens.l0 : Nat → List (S77) → List (S77) → Int → Option (Bool)
 | 0, _, _, _ => none
 | k + 1, x0, x1, x5 => if x5 < (x0.length : Int) then (if 0 ≤ x5 then (if x5 < (x1.length : Int) then (if (!((((rd_T77 x0 x5).f0).toList) == (((rd_T77 x1 x5).f0).toList)) || (!((((rd_T77 x0 x5).f1).toList) == (((rd_T77 x1 x5).f1).toList)))) = true then (some false) else (spec_l13EqualGens.l0 k x0 x1 (wrap64 (x5 + 1)))) else (none)) else (none)) else (some true)
def spec_l13EqualGens.f (k : Nat) (l0 : List (S77)) (l1 : List (S77)) : Option (Bool) := if (l0.length : Int) = (l1.length : Int) then (spec_l13EqualGens.l0 k l0 l1 0) else (some false)
theorem spec_l13EqualGens.calls (k : Nat) (A0 : Option Addr) (c0 : Nat) (l0 : List (S77)) (A1 : Option Addr) (c1 : Nat) (l1 : List (S77)) (r : Bool) (w : World) (hr0 : Kd.C k77 w A0 l0.length l0) (hc0 : l0.length ≤ c0) (hr1 : Kd.C k77 w A1 l1.length l1) (hc1 : l1.length ≤ c1) (h : spec_l13EqualGens.f k l0 l1 = some r) :
  Calls Try.prog 23 #[.slice A0 l0.length c0, .slice A1 l1.length c1] w fun e w' => e = .returned (.bool r) ∧ Drawn0 w w' := by
 have hu77 := Try.underlying77
 have HR0 := am hr0
 have HC0 := am hc0
 clear hr0 hc0
 have HR1 := am hr1
 have HC1 := am hc1
 clear hr1 hc1
 have H : (if (l0.length : Int) = (l1.length : Int) then (spec_l13EqualGens.l0 k l0 l1 0) else (some false)) = some r := h
 clear h
 by_cases c3 : (l0.length : Int) = (l1.length : Int)
 case neg =>
  rw [if_neg c3] at H
  have c3b0 : ((l0.length : Int) == (l1.length : Int)) = false := beq_eq_false_iff_ne.mpr c3
  have c3b1 : ((l0.length : Int) != (l1.length : Int)) = true := bne_iff_ne.mpr c3
  have c3b2 : (l0.length == l1.length) = false := by first | simpa using c3 | (simp at c3 ⊢; omega)
  obtain rfl := Option.some.inj H
  go_enter Try.func23, Try.ntmps23
  go_wp2
  repeat (go_quiet (fail); try go_wp2)
  go_ret
  exact ⟨rfs, by repeat (first | exact Drawn0.refl _ | apply Drawn0.step)⟩
 rw [if_pos c3] at H
 have c3b0 : ((l0.length : Int) == (l1.length : Int)) = true := beq_iff_eq.mpr c3
 have c3b1 : ((l0.length : Int) != (l1.length : Int)) = false := bne_eq_false_iff_eq.mpr c3
 have c3b2 : (l0.length == l1.length) = true := by first | simpa using c3 | (simp at c3 ⊢; omega)
 clear c3
 have H' := am H
 clear H
 go_enter Try.func23, Try.ntmps23
 go_wp2
 repeat (go_quiet (fail); try go_wp2)
 go_loopg [5] k (fun kq v5 w' => ∃ (x5_1 : Int), v5 = .int .i64 x5_1 ∧ Aside0 (spec_l13EqualGens.l0 kq l0 l1 x5_1 = some r) ∧ Aside0 (kq ≤ k) ∧ Drawn0 w w')
 case atStart => exact ⟨(0), rfs, H', ⟨Nat.le_refl _⟩, by repeat (first | exact Drawn0.refl _ | apply Drawn0.step)⟩
 case round =>
  clear H'
  (try clear c1); (try clear c2); (try clear p2); (try clear c3); (try clear c3b0); (try clear c3b1); (try clear c3b2)
  obtain ⟨x5_1, rfl, HA, HK1, ⟨m1, rfl⟩⟩ := hrel
  cases gk with
  | zero => exact absurd HA.out (by simp [spec_l13EqualGens.l0])
  | succ k1 =>
   have H := HA.out
   clear HA
   simp only [spec_l13EqualGens.l0] at H
   by_cases c4 : x5_1 < (l0.length : Int)
   case neg =>
    rw [if_neg c4] at H
    have c4b0 : decide (x5_1 < (l0.length : Int)) = false := decide_eq_false c4
    clear c4
    obtain rfl := Option.some.inj H
    go_wp2
    repeat (go_quiet (fail); try go_wp2)
    go_ret
    exact ⟨rfs, by repeat (first | exact Drawn0.refl _ | apply Drawn0.step)⟩
   rw [if_pos c4] at H
   have c4b0 : decide (x5_1 < (l0.length : Int)) = true := decide_eq_true c4
   clear c4
   by_cases c5 : 0 ≤ x5_1
   case neg =>
    rw [if_neg c5] at H
    exact absurd H (by simp)
   rw [if_pos c5] at H
   have c5b0 : decide (0 ≤ x5_1) = true := decide_eq_true c5
   clear c5
   by_cases c6 : x5_1 < (l1.length : Int)
   case neg =>
    rw [if_neg c6] at H
    exact absurd H (by simp)
   rw [if_pos c6] at H
   have c6b0 : decide (x5_1 < (l1.length : Int)) = true := decide_eq_true c6
   clear c6
   by_cases c7 : (!((((rd_T77 l0 x5_1).f0).toList) == (((rd_T77 l1 x5_1).f0).toList)) || (!((((rd_T77 l0 x5_1).f1).toList) == (((rd_T77 l1 x5_1).f1).toList)))) = true
   ·rw [if_pos c7] at H
    have c7b0 : (!((((rd_T77 l0 x5_1).f0).toList) == (((rd_T77 l1 x5_1).f0).toList)) || (!((((rd_T77 l0 x5_1).f1).toList) == (((rd_T77 l1 x5_1).f1).toList)))) = true := c7
    clear c7
    obtain rfl := Option.some.inj H
    have p409 : 0 ≤ (x5_1 : Int) := of_decide_eq_true asw
    have q409 : x5_1 < (l0.length : Int) := of_decide_eq_true asw
    obtain ⟨ad409, e409, hx409_0, hx409_1⟩ := at_T77 HR0.out x5_1 p409 q409
    cases e409
    replace p409 := eq_true p409
    replace q409 := eq_true q409
    have p410 : 0 ≤ (x5_1 : Int) := of_decide_eq_true asw
    have q410 : x5_1 < (l1.length : Int) := of_decide_eq_true asw
    obtain ⟨ad410, e410, hx410_0, hx410_1⟩ := at_T77 HR1.out x5_1 p410 q410
    cases e410
    replace p410 := eq_true p410
    replace q410 := eq_true q410
    go_wp2
    repeat (go_quiet (fail); try go_wp2)
    go_ret
    exact ⟨rfs, by repeat (first | exact Drawn0.refl _ | apply Drawn0.step)⟩
   rw [if_neg c7] at H
   have c7b0 : (!((((rd_T77 l0 x5_1).f0).toList) == (((rd_T77 l1 x5_1).f0).toList)) || (!((((rd_T77 l0 x5_1).f1).toList) == (((rd_T77 l1 x5_1).f1).toList)))) = false := by simpa using c7
   clear c7
   have H' := am H
   clear H
   have p409 : 0 ≤ (x5_1 : Int) := of_decide_eq_true asw
   have q409 : x5_1 < (l0.length : Int) := of_decide_eq_true asw
   obtain ⟨ad409, e409, hx409_0, hx409_1⟩ := at_T77 HR0.out x5_1 p409 q409
   cases e409
   replace p409 := eq_true p409
   replace q409 := eq_true q409
   have p410 : 0 ≤ (x5_1 : Int) := of_decide_eq_true asw
   have q410 : x5_1 < (l1.length : Int) := of_decide_eq_true asw
   obtain ⟨ad410, e410, hx410_0, hx410_1⟩ := at_T77 HR1.out x5_1 p410 q410
   cases e410
   replace p410 := eq_true p410
   replace q410 := eq_true q410
   go_wp2
   repeat (go_quiet (fail); try go_wp2)
   go_roundg k1
   case measure => have := HK1.out; omega
   case rel => exact ⟨(wrap64 (x5_1 + 1)), rfs, H', ⟨by have := HK1.out; omega⟩, by repeat (first | exact Drawn0.refl _ | apply Drawn0.step)⟩

/-! ### spec_l3Texts: function 32 -/
def spec_l3Texts.l0 : Nat → List ByteArray → List ByteArray → Int → Option (Bool)
 | 0, _, _, _ => none
 | k + 1, x0, x1, x5 => if x5 < (x0.length : Int) then (if 0 ≤ x5 then (if x5 < (x1.length : Int) then (if (rdOf ByteArray.empty x0 x5).toList = (rdOf ByteArray.empty x1 x5).toList then (spec_l3Texts.l0 k x0 x1 (wrap64 (x5 + 1))) else (some false)) else (none)) else (none)) else (some true)
def spec_l3Texts.f (k : Nat) (l0 : List ByteArray) (l1 : List ByteArray) : Option (Bool) := if (l0.length : Int) = (l1.length : Int) then (spec_l3Texts.l0 k l0 l1 0) else (some false)
theorem spec_l3Texts.calls (k : Nat) (A0 : Option Addr) (c0 : Nat) (l0 : List ByteArray) (A1 : Option Addr) (c1 : Nat) (l1 : List ByteArray) (r : Bool) (w : World) (hr0 : Kd.C Kd.string w A0 l0.length l0) (hc0 : l0.length ≤ c0) (hr1 : Kd.C Kd.string w A1 l1.length l1) (hc1 : l1.length ≤ c1) (h : spec_l3Texts.f k l0 l1 = some r) :
  Calls Try.prog 32 #[.slice A0 l0.length c0, .slice A1 l1.length c1] w fun e w' => e = .returned (.bool r) ∧ Drawn0 w w' := by
 have HR0 := am hr0
 have HC0 := am hc0
 clear hr0 hc0
 have HR1 := am hr1
 have HC1 := am hc1
 clear hr1 hc1
 have H : (if (l0.length : Int) = (l1.length : Int) then (spec_l3Texts.l0 k l0 l1 0) else (some false)) = some r := h
 clear h
 by_cases c3 : (l0.length : Int) = (l1.length : Int)
 case neg =>
  rw [if_neg c3] at H
  have c3b0 : ((l0.length : Int) == (l1.length : Int)) = false := beq_eq_false_iff_ne.mpr c3
  have c3b1 : ((l0.length : Int) != (l1.length : Int)) = true := bne_iff_ne.mpr c3
  have c3b2 : (l0.length == l1.length) = false := by first | simpa using c3 | (simp at c3 ⊢; omega)
  obtain rfl := Option.some.inj H
  go_enter Try.func32, Try.ntmps32
  go_wp2
  repeat (go_quiet (fail); try go_wp2)
  go_ret
  exact ⟨rfs, by repeat (first | exact Drawn0.refl _ | apply Drawn0.step)⟩
 rw [if_pos c3] at H
 have c3b0 : ((l0.length : Int) == (l1.length : Int)) = true := beq_iff_eq.mpr c3
 have c3b1 : ((l0.length : Int) != (l1.length : Int)) = false := bne_eq_false_iff_eq.mpr c3
 have c3b2 : (l0.length == l1.length) = true := by first | simpa using c3 | (simp at c3 ⊢; omega)
 clear c3
 have H' := am H
 clear H
 go_enter Try.func32, Try.ntmps32
 go_wp2
 repeat (go_quiet (fail); try go_wp2)
 go_loopg [5] k (fun kq v5 w' => ∃ (x5_1 : Int), v5 = .int .i64 x5_1 ∧ Aside0 (spec_l3Texts.l0 kq l0 l1 x5_1 = some r) ∧ Aside0 (kq ≤ k) ∧ Drawn0 w w')
 case atStart => exact ⟨(0), rfs, H', ⟨Nat.le_refl _⟩, by repeat (first | exact Drawn0.refl _ | apply Drawn0.step)⟩
 case round =>
  clear H'
  (try clear c1); (try clear p2); (try clear c3); (try clear c3b0); (try clear c3b1); (try clear c3b2)
  obtain ⟨x5_1, rfl, HA, HK1, ⟨m1, rfl⟩⟩ := hrel
  cases gk with
  | zero => exact absurd HA.out (by simp [spec_l3Texts.l0])
  | succ k1 =>
   have H := HA.out
   clear HA
   simp only [spec_l3Texts.l0] at H
   by_cases c4 : x5_1 < (l0.length : Int)
   case neg =>
    rw [if_neg c4] at H
    have c4b0 : decide (x5_1 < (l0.length : Int)) = false := decide_eq_false c4
    clear c4
    obtain rfl := Option.some.inj H
    go_wp2
    repeat (go_quiet (fail); try go_wp2)
    go_ret
    exact ⟨rfs, by repeat (first | exact Drawn0.refl _ | apply Drawn0.step)⟩
   rw [if_pos c4] at H
   have c4b0 : decide (x5_1 < (l0.length : Int)) = true := decide_eq_true c4
   clear c4
   by_cases c5 : 0 ≤ x5_1
   case neg =>
    rw [if_neg c5] at H
    exact absurd H (by simp)
   rw [if_pos c5] at H
   have c5b0 : decide (0 ≤ x5_1) = true := decide_eq_true c5
   clear c5
   by_cases c6 : x5_1 < (l1.length : Int)
   case neg =>
    rw [if_neg c6] at H
    exact absurd H (by simp)
   rw [if_pos c6] at H
   have c6b0 : decide (x5_1 < (l1.length : Int)) = true := decide_eq_true c6
   clear c6
   by_cases c7 : (rdOf ByteArray.empty l0 x5_1).toList = (rdOf ByteArray.empty l1 x5_1).toList
   case neg =>
    rw [if_neg c7] at H
    have c7b0 : ((rdOf ByteArray.empty l0 x5_1).toList == (rdOf ByteArray.empty l1 x5_1).toList) = false := beq_eq_false_iff_ne.mpr c7
    have c7b1 : ((rdOf ByteArray.empty l0 x5_1).toList != (rdOf ByteArray.empty l1 x5_1).toList) = true := bne_iff_ne.mpr c7
    obtain rfl := Option.some.inj H
    have p411 : 0 ≤ (x5_1 : Int) := of_decide_eq_true asw
    have q411 : x5_1 < (l0.length : Int) := of_decide_eq_true asw
    obtain ⟨ad411, e411, hx411_0⟩ := Kd.at_string HR0.out x5_1 p411 q411
    cases e411
    replace p411 := eq_true p411
    replace q411 := eq_true q411
    have p412 : 0 ≤ (x5_1 : Int) := of_decide_eq_true asw
    have q412 : x5_1 < (l1.length : Int) := of_decide_eq_true asw
    obtain ⟨ad412, e412, hx412_0⟩ := Kd.at_string HR1.out x5_1 p412 q412
    cases e412
    replace p412 := eq_true p412
    replace q412 := eq_true q412
    go_wp2
    repeat (go_quiet (fail); try go_wp2)
    go_ret
    exact ⟨rfs, by repeat (first | exact Drawn0.refl _ | apply Drawn0.step)⟩
   rw [if_pos c7] at H
   have c7b0 : ((rdOf ByteArray.empty l0 x5_1).toList == (rdOf ByteArray.empty l1 x5_1).toList) = true := beq_iff_eq.mpr c7
   have c7b1 : ((rdOf ByteArray.empty l0 x5_1).toList != (rdOf ByteArray.empty l1 x5_1).toList) = false := bne_eq_false_iff_eq.mpr c7
   clear c7
   have H' := am H
   clear H
   have p411 : 0 ≤ (x5_1 : Int) := of_decide_eq_true asw
   have q411 : x5_1 < (l0.length : Int) := of_decide_eq_true asw
   obtain ⟨ad411, e411, hx411_0⟩ := Kd.at_string HR0.out x5_1 p411 q411
   cases e411
   replace p411 := eq_true p411
   replace q411 := eq_true q411
   have p412 : 0 ≤ (x5_1 : Int) := of_decide_eq_true asw
   have q412 : x5_1 < (l1.length : Int) := of_decide_eq_true asw
   obtain ⟨ad412, e412, hx412_0⟩ := Kd.at_string HR1.out x5_1 p412 q412
   cases e412
   replace p412 := eq_true p412
   replace q412 := eq_true q412
   go_wp2
   repeat (go_quiet (fail); try go_wp2)
   go_roundg k1
   case measure => have := HK1.out; omega
   case rel => exact ⟨(wrap64 (x5_1 + 1)), rfs, H', ⟨by have := HK1.out; omega⟩, by repeat (first | exact Drawn0.refl _ | apply Drawn0.step)⟩

end Go.Proofs.Ytpkppeicceehcaa.Px
end
section
namespace Go.Proofs.Ytpkppeicceehcaa.Px
open Go.RowKit Go.Proofs.Ytpkppeicceehcaa.Ext Go.Proofs.YtpkppeicceehcaaW.PrintWords Go.Proofs.YtpkppeicceehcaaW.PrintLast Go.Proofs.YtpkppeicceehcaaW.PrintMore
attribute [local go_sem] max2_int min2_int max_two min_two max_three min_three max_four min_four   -- for this text's walks alone
set_option linter.unusedVariables false
set_option linter.unusedSimpArgs false

/-! ### spec_EqualType: function 31 -/
mutual
def spec_EqualType.j0 : Nat → Bool → Int → List ByteArray → List (S41) → Int → List ByteArray → List (S41) → Option (Bool)
 | 0, _, _, _, _, _, _, _ => none
 | k + 1, x27, x414000, x414001, x414002, x415000, x415001, x415002 => if x27 = true then (some false) else (spec_EqualType.l0 k 0 x414000 x414001 x414002 x415000 x415001 x415002)
def spec_EqualType.l0 : Nat → Int → Int → List ByteArray → List (S41) → Int → List ByteArray → List (S41) → Option (Bool)
 | 0, _, _, _, _, _, _, _ => none
 | k + 1, x5, x414000, x414001, x414002, x415000, x415001, x415002 => if x5 < (x414002.length : Int) then (if 0 ≤ x5 then (if x5 < (x415002.length : Int) then ((spec_EqualType.f k ((rd_T41 x414002 x5).f0) ((rd_T41 x414002 x5).f1) ((rd_T41 x414002 x5).f2) ((rd_T41 x415002 x5).f0) ((rd_T41 x415002 x5).f1) ((rd_T41 x415002 x5).f2)).bind fun t418 => (if t418 = true then (spec_EqualType.l0 k (wrap64 (x5 + 1)) x414000 x414001 x414002 x415000 x415001 x415002) else (some false))) else (none)) else (none)) else (some true)
def spec_EqualType.f : Nat → Int → List ByteArray → List (S41) → Int → List ByteArray → List (S41) → Option (Bool)
 | 0, _, _, _, _, _, _ => none
 | k + 1, a0_0, l0_1, l0_2, a1_0, l1_1, l1_2 => if a0_0 = a1_0 then ((spec_l3Texts.f k l0_1 l1_1).bind fun t415 => (if t415 = true then (spec_EqualType.j0 k ((l0_2.length : Int) != (l1_2.length : Int)) a0_0 l0_1 l0_2 a1_0 l1_1 l1_2) else (spec_EqualType.j0 k true a0_0 l0_1 l0_2 a1_0 l1_1 l1_2))) else (spec_EqualType.j0 k true a0_0 l0_1 l0_2 a1_0 l1_1 l1_2)
end
def spec_EqualType.T6 : Bool × List (List Nat × List Nat) := (true, [([], []), ([0], [0]), ([], []), ([1, 2], [1, 2]), ([3], [3]), ([], []), ([5], [5]), ([], []), ([6, 7], [6, 7]), ([8], [8]), ([4, 9], [4, 9]), ([10], [10])])
def spec_EqualType.B6 : List Nat := [0, 1, 0, 7, 15, 0, 32, 0, 224, 480, 1023, 2047]
theorem spec_EqualType.tab6 : rtab .any (opsOf Try.f31 6) = spec_EqualType.T6 := by kernel_rfl
theorem spec_EqualType.bits6 : waitsOk spec_EqualType.T6.2 spec_EqualType.B6 = true := by kernel_rfl
set_option maxHeartbeats 8000000 in
set_option maxRecDepth 100000 in
theorem spec_EqualType.calls (k : Nat) : ∀ (a0_0 : Int) (A0_1 : Option Addr) (c0_1 : Nat) (l0_1 : List ByteArray) (A0_2 : Option Addr) (c0_2 : Nat) (l0_2 : List (S41)) (a1_0 : Int) (A1_1 : Option Addr) (c1_1 : Nat) (l1_1 : List ByteArray) (A1_2 : Option Addr) (c1_2 : Nat) (l1_2 : List (S41)) (r : Bool) (w : World) (hr0_1 : Kd.C Kd.string w A0_1 l0_1.length l0_1) (hc0_1 : l0_1.length ≤ c0_1) (hr0_2 : Kd.C k41 w A0_2 l0_2.length l0_2) (hc0_2 : l0_2.length ≤ c0_2) (hr1_1 : Kd.C Kd.string w A1_1 l1_1.length l1_1) (hc1_1 : l1_1.length ≤ c1_1) (hr1_2 : Kd.C k41 w A1_2 l1_2.length l1_2) (hc1_2 : l1_2.length ≤ c1_2) (h : spec_EqualType.f k a0_0 l0_1 l0_2 a1_0 l1_1 l1_2 = some r),
  Calls Try.prog 31 #[.agg #[.int .i64 a0_0, .slice A0_1 l0_1.length c0_1, .slice A0_2 l0_2.length c0_2], .agg #[.int .i64 a1_0, .slice A1_1 l1_1.length c1_1, .slice A1_2 l1_2.length c1_2]] w fun e w' => e = .returned (.bool r) ∧ Below w.heap.size w w' := by
 induction k using Nat.strongRecOn with
 | _ k ih =>
 intro a0_0 A0_1 c0_1 l0_1 A0_2 c0_2 l0_2 a1_0 A1_1 c1_1 l1_1 A1_2 c1_2 l1_2 r w hr0_1 hc0_1 hr0_2 hc0_2 hr1_1 hc1_1 hr1_2 hc1_2 h
 cases k with
 | zero => exact absurd h (by simp [spec_EqualType.f])
 | succ k =>
 simp only [spec_EqualType.f] at h
 have hu41 := Try.underlying41
 have HR0_1 := am hr0_1
 have HC0_1 := am hc0_1
 clear hr0_1 hc0_1
 have HR0_2 := am hr0_2
 have HC0_2 := am hc0_2
 clear hr0_2 hc0_2
 have HR1_1 := am hr1_1
 have HC1_1 := am hc1_1
 clear hr1_1 hc1_1
 have HR1_2 := am hr1_2
 have HC1_2 := am hc1_2
 clear hr1_2 hc1_2
 have HB := am (Below.refl w.heap.size w)
 have H : (if a0_0 = a1_0 then ((spec_l3Texts.f k l0_1 l1_1).bind fun t415 => (if t415 = true then (spec_EqualType.j0 k ((l0_2.length : Int) != (l1_2.length : Int)) a0_0 l0_1 l0_2 a1_0 l1_1 l1_2) else (spec_EqualType.j0 k true a0_0 l0_1 l0_2 a1_0 l1_1 l1_2))) else (spec_EqualType.j0 k true a0_0 l0_1 l0_2 a1_0 l1_1 l1_2)) = some r := h
 clear h
 have HC3 := am H
 clear H
 go_enter Try.func31, Try.ntmps31
 go_upto_region 1 with (first | ((with_reducible refine gate_dst (N := 2) rfl ?_); (try (refine gate_guard (by rfl) ?_; dsimp only)); refine box_event ?hg (N := 2) ?hd (cs := #[.int .i64 a0_0, .slice A0_1 l0_1.length c0_1, .slice A0_2 l0_2.length c0_2]) (t := 41) ?hr ?_; (case hd => rfl); (case hg => rfl); (case hr => exact hrw); intro gb413 hg w4 hbox hb; have n0_ := am (below_step blw hb); have n1_ := am (hbox); have n2_ := am ((by rw [hg]; exact (below_size blw) : w.heap.size ≤ gb413)); have n3_ := n2_; clear HB; revert n0_ n1_ n2_ n3_; intro HB BK413 GW413 GE413; clear hb hbox hg) | ((with_reducible refine gate_dst (N := 3) rfl ?_); (try (refine gate_guard (by rfl) ?_; dsimp only)); refine box_event ?hg (N := 3) ?hd (cs := #[.int .i64 a1_0, .slice A1_1 l1_1.length c1_1, .slice A1_2 l1_2.length c1_2]) (t := 41) ?hr ?_; (case hd => rfl); (case hg => rfl); (case hr => exact hrw); intro gb414 hg w5 hbox hb; have n0_ := am (blk_below (g := gb413) bkw hb); have n1_ := am (below_step blw hb); have n2_ := am (hbox); have n3_ := am ((by rw [hg]; exact (below_size blw) : w.heap.size ≤ gb414)); have n4_ := n3_; have n5_ := am ((by rw [hg]; exact Nat.ne_of_lt (blk_lt (g := gb413) bkw) : gb413 ≠ gb414)); have n6_ := am ((by rw [hg]; exact Nat.ne_of_gt (blk_lt (g := gb413) bkw) : gb414 ≠ gb413)); clear BK413; clear HB; revert n0_ n1_ n2_ n3_ n4_ n5_ n6_; intro BK413 HB BK414 GW414 GE414 NB413_414 NB414_413; clear hb hbox hg))
 (try simp only [Act.put, List.setIfInBounds_toArray, List.set_cons_zero, List.set_cons_succ])
 go_cut [27] (fun v27 wc => ∃ (kq : Nat) (x27_2 : Bool), v27 = .bool x27_2 ∧ Aside0 (spec_EqualType.j0 kq x27_2 a0_0 l0_1 l0_2 a1_0 l1_1 l1_2 = some r) ∧ Aside0 (kq ≤ k) ∧ Aside0 (wc.heap[gb413]? = some (.cells #[.int .i64 a0_0, (.slice A0_1 l0_1.length c0_1), (.slice A0_2 l0_2.length c0_2)] 41 (0, 0))) ∧ Aside0 (wc.heap[gb414]? = some (.cells #[.int .i64 a1_0, (.slice A1_1 l1_1.length c1_1), (.slice A1_2 l1_2.length c1_2)] 41 (0, 0))) ∧ Aside0 (Below w.heap.size w wc))
 case first =>
  have H := HC3.out
  clear HC3
  by_cases c6 : a0_0 = a1_0
  case neg =>
   rw [if_neg c6] at H
   have c6b0 : (a0_0 == a1_0) = false := beq_eq_false_iff_ne.mpr c6
   have c6b1 : (a0_0 != a1_0) = true := bne_iff_ne.mpr c6
   (first | rw [c6b0] | (simp only [i64_w, i32_w]; rw [c6b0]) | (rw [c6b1]; (try simp only [Bool.not_true, Bool.not_false])) | skip)
   have H' := am H
   clear H
   have hnb15 := NB413_414.out
   have hnc15 := NB414_413.out
   obtain ⟨hcz16_0, hcz16_1, hcz16_2⟩ := cls3 BK413.out
   obtain ⟨hfz16_0, hfz16_1, hfz16_2⟩ := frz3 BK413.out
   obtain ⟨hcz17_0, hcz17_1, hcz17_2⟩ := cls3 BK414.out
   obtain ⟨hfz17_0, hfz17_1, hfz17_2⟩ := frz3 BK414.out
   go_wp2
   go_meet
   case rel => exact ⟨_, (true), rfs, H', ⟨by first | omega | exact Nat.le_refl _⟩, ⟨bkw⟩, ⟨bkw⟩, ⟨blw⟩⟩
  rw [if_pos c6] at H
  have c6b0 : (a0_0 == a1_0) = true := beq_iff_eq.mpr c6
  have c6b1 : (a0_0 != a1_0) = false := bne_eq_false_iff_eq.mpr c6
  clear c6
  (first | rw [c6b0] | (simp only [i64_w, i32_w]; rw [c6b0]) | (rw [c6b1]; (try simp only [Bool.not_true, Bool.not_false])) | skip)
  replace H := Option.bind_eq_some_iff.mp H
  obtain ⟨t415, A70, H⟩ := H
  replace H : (if t415 = true then (spec_EqualType.j0 k ((l0_2.length : Int) != (l1_2.length : Int)) a0_0 l0_1 l0_2 a1_0 l1_1 l1_2) else (spec_EqualType.j0 k true a0_0 l0_1 l0_2 a1_0 l1_1 l1_2)) = some r := H
  have A7 := am A70
  clear A70
  by_cases c8 : t415 = true
  case neg =>
   replace c8 := Bool.eq_false_iff.mpr c8
   subst c8
   have H1 : (spec_EqualType.j0 k true a0_0 l0_1 l0_2 a1_0 l1_1 l1_2) = some r := by rw [if_neg (show ¬ (false = true) by decide)] at H; exact H
   clear H
   have H := H1
   clear H1
   have H' := am H
   clear H
   have hnb12 := NB413_414.out
   have hnc12 := NB414_413.out
   obtain ⟨hcz13_0, hcz13_1, hcz13_2⟩ := cls3 BK413.out
   obtain ⟨hfz13_0, hfz13_1, hfz13_2⟩ := frz3 BK413.out
   obtain ⟨hcz14_0, hcz14_1, hcz14_2⟩ := cls3 BK414.out
   obtain ⟨hfz14_0, hfz14_1, hfz14_2⟩ := frz3 BK414.out
   go_wp2_with (first | (go_at_call 32; (with_reducible refine (spec_l3Texts.calls k _ _ l0_1 _ _ l1_1 false _ ?side1 ?side2 ?side3 ?side4 A7.out).mono ?_); (case side1 => have X_ := HR0_1; exact cbl); (case side2 => exact HC0_1.out); (case side3 => have X_ := HR1_1; exact cbl); (case side4 => exact HC1_1.out); rintro e w' ⟨rfl, ⟨nd, rfl⟩⟩))
   go_meet
   case rel => exact ⟨_, (true), rfs, H', ⟨by first | omega | exact Nat.le_refl _⟩, ⟨bkw⟩, ⟨bkw⟩, ⟨blw⟩⟩
  subst c8
  have H1 : (spec_EqualType.j0 k ((l0_2.length : Int) != (l1_2.length : Int)) a0_0 l0_1 l0_2 a1_0 l1_1 l1_2) = some r := by rw [if_pos rfl] at H; exact H
  clear H
  have H := H1
  clear H1
  have H' := am H
  clear H
  have hnb9 := NB413_414.out
  have hnc9 := NB414_413.out
  obtain ⟨hcz10_0, hcz10_1, hcz10_2⟩ := cls3 BK413.out
  obtain ⟨hfz10_0, hfz10_1, hfz10_2⟩ := frz3 BK413.out
  obtain ⟨hcz11_0, hcz11_1, hcz11_2⟩ := cls3 BK414.out
  obtain ⟨hfz11_0, hfz11_1, hfz11_2⟩ := frz3 BK414.out
  go_wp2_with (first | (go_at_call 32; (with_reducible refine (spec_l3Texts.calls k _ _ l0_1 _ _ l1_1 true _ ?side1 ?side2 ?side3 ?side4 A7.out).mono ?_); (case side1 => have X_ := HR0_1; exact cbl); (case side2 => exact HC0_1.out); (case side3 => have X_ := HR1_1; exact cbl); (case side4 => exact HC1_1.out); rintro e w' ⟨rfl, ⟨nd, rfl⟩⟩))
  go_meet
  case rel => exact ⟨_, (((l0_2.length : Int) != (l1_2.length : Int))), rfs, H', ⟨by first | omega | exact Nat.le_refl _⟩, ⟨bkw⟩, ⟨bkw⟩, ⟨blw⟩⟩
 case rest =>
  clear HC3
  (try clear c1); (try clear p2); (try clear c3); (try clear c6); (try clear c6b0); (try clear c6b1); (try clear c8); (try clear c9); (try clear c12); (try clear c15); (try clear hcz10_0 hcz10_1 hcz10_2); (try clear hcz11_0 hcz11_1 hcz11_2); (try clear hcz13_0 hcz13_1 hcz13_2); (try clear hcz14_0 hcz14_1 hcz14_2); (try clear hcz16_0 hcz16_1 hcz16_2); (try clear hcz17_0 hcz17_1 hcz17_2); (try clear hfz10_0 hfz10_1 hfz10_2); (try clear hfz11_0 hfz11_1 hfz11_2); (try clear hfz13_0 hfz13_1 hfz13_2); (try clear hfz14_0 hfz14_1 hfz14_2); (try clear hfz16_0 hfz16_1 hfz16_2); (try clear hfz17_0 hfz17_1 hfz17_2)
  obtain ⟨kq, x27_2, rfl, HA, HJ2, BK413, BK414, HB⟩ := hcut
  cases kq with
  | zero => exact absurd HA.out (by simp [spec_EqualType.j0])
  | succ kj2 =>
   have H := HA.out
   clear HA
   simp only [spec_EqualType.j0] at H
   by_cases c18 : x27_2 = true
   ·subst c18
    have H1 : (some false) = some r := by rw [if_pos rfl] at H; exact H
    clear H
    have H := H1
    clear H1
    obtain rfl := Option.some.inj H
    go_wp2
    go_ret
    exact ⟨rfw, blw⟩
   replace c18 := Bool.eq_false_iff.mpr c18
   subst c18
   have H1 : (spec_EqualType.l0 kj2 0 a0_0 l0_1 l0_2 a1_0 l1_1 l1_2) = some r := by rw [if_neg (show ¬ (false = true) by decide)] at H; exact H
   clear H
   have H := H1
   clear H1
   have H' := am H
   clear H
   go_wp2
   go_loopg [5] kj2 (fun kq v5 w' => ∃ (x5_2 : Int), v5 = .int .i64 x5_2 ∧ Aside0 (spec_EqualType.l0 kq x5_2 a0_0 l0_1 l0_2 a1_0 l1_1 l1_2 = some r) ∧ Aside0 (kq ≤ kj2) ∧ Aside0 (w'.heap[gb413]? = some (.cells #[.int .i64 a0_0, (.slice A0_1 l0_1.length c0_1), (.slice A0_2 l0_2.length c0_2)] 41 (0, 0))) ∧ Aside0 (w'.heap[gb414]? = some (.cells #[.int .i64 a1_0, (.slice A1_1 l1_1.length c1_1), (.slice A1_2 l1_2.length c1_2)] 41 (0, 0))) ∧ Aside0 (Below w.heap.size w w'))
   case atStart => exact ⟨(0), rfs, H', ⟨Nat.le_refl _⟩, ⟨bkw⟩, ⟨bkw⟩, ⟨blw⟩⟩
   case round =>
    clear H'
    (try clear c1); (try clear p2 p2); (try clear c3); (try clear c6); (try clear c6b0); (try clear c6b1); (try clear c8); (try clear c9); (try clear c12); (try clear c15); (try clear c18); (try clear hcz10_0 hcz10_1 hcz10_2); (try clear hcz11_0 hcz11_1 hcz11_2); (try clear hcz13_0 hcz13_1 hcz13_2); (try clear hcz14_0 hcz14_1 hcz14_2); (try clear hcz16_0 hcz16_1 hcz16_2); (try clear hcz17_0 hcz17_1 hcz17_2); (try clear hfz10_0 hfz10_1 hfz10_2); (try clear hfz11_0 hfz11_1 hfz11_2); (try clear hfz13_0 hfz13_1 hfz13_2); (try clear hfz14_0 hfz14_1 hfz14_2); (try clear hfz16_0 hfz16_1 hfz16_2); (try clear hfz17_0 hfz17_1 hfz17_2)
    obtain ⟨x5_2, rfl, HA, HK2, BK413, BK414, HB⟩ := hrel
    cases gk with
    | zero => exact absurd HA.out (by simp [spec_EqualType.l0])
    | succ k2 =>
     have H := HA.out
     clear HA
     simp only [spec_EqualType.l0] at H
     by_cases c19 : x5_2 < (l0_2.length : Int)
     case neg =>
      rw [if_neg c19] at H
      have c19b0 : decide (x5_2 < (l0_2.length : Int)) = false := decide_eq_false c19
      clear c19
      obtain rfl := Option.some.inj H
      have hnb29 := NB413_414.out
      have hnc29 := NB414_413.out
      obtain ⟨hcz30_0, hcz30_1, hcz30_2⟩ := cls3 BK413.out
      obtain ⟨hfz30_0, hfz30_1, hfz30_2⟩ := frz3 BK413.out
      go_wp2
      go_ret
      exact ⟨rfw, blw⟩
     rw [if_pos c19] at H
     have c19b0 : decide (x5_2 < (l0_2.length : Int)) = true := decide_eq_true c19
     clear c19
     by_cases c20 : 0 ≤ x5_2
     case neg =>
      rw [if_neg c20] at H
      exact absurd H (by simp)
     rw [if_pos c20] at H
     have c20b0 : decide (0 ≤ x5_2) = true := decide_eq_true c20
     clear c20
     by_cases c21 : x5_2 < (l1_2.length : Int)
     case neg =>
      rw [if_neg c21] at H
      exact absurd H (by simp)
     rw [if_pos c21] at H
     have c21b0 : decide (x5_2 < (l1_2.length : Int)) = true := decide_eq_true c21
     clear c21
     replace H := Option.bind_eq_some_iff.mp H
     obtain ⟨t418, A220, H⟩ := H
     replace H : (if t418 = true then (spec_EqualType.l0 k2 (wrap64 (x5_2 + 1)) a0_0 l0_1 l0_2 a1_0 l1_1 l1_2) else (some false)) = some r := H
     have A22 := am A220
     clear A220
     have HC23 := am H
     clear H
     have hnb24 := NB413_414.out
     have hnc24 := NB414_413.out
     obtain ⟨hcz25_0, hcz25_1, hcz25_2⟩ := cls3 BK413.out
     obtain ⟨hfz25_0, hfz25_1, hfz25_2⟩ := frz3 BK413.out
     try go_wp2
     have n0_ := am (blk_drew BK413.out)
     have n1_ := am (blk_drew BK414.out)
     have n2_ := am (below_drew1 HB.out)
     clear BK413
     clear BK414
     clear HB
     revert n0_ n1_ n2_
     intro BK413 BK414 HB
     have p416 : 0 ≤ (x5_2 : Int) := of_decide_eq_true asw
     have q416 : x5_2 < (l0_2.length : Int) := of_decide_eq_true asw
     obtain ⟨ad416, A416_1, c416_1, A416_2, c416_2, e416, hx416_0, hx416_1, hx416_2, hl416_1, hi416_1, hl416_2, hi416_2⟩ := at_T41 HR0_2.out x5_2 p416 q416
     have hw416_2 := hx416_2
     have hw416_1 := hx416_1
     have hw416_0 := hx416_0
     cases e416
     replace hx416_0 := upw HB.out hx416_0
     replace hx416_1 := upw HB.out hx416_1
     replace hx416_2 := upw HB.out hx416_2
     have HR416_1 := am hi416_1
     have HC416_1 := am hl416_1
     clear hi416_1 hl416_1
     have HR416_2 := am hi416_2
     have HC416_2 := am hl416_2
     clear hi416_2 hl416_2
     replace p416 := eq_true p416
     replace q416 := eq_true q416
     have p417 : 0 ≤ (x5_2 : Int) := of_decide_eq_true asw
     have q417 : x5_2 < (l1_2.length : Int) := of_decide_eq_true asw
     obtain ⟨ad417, A417_1, c417_1, A417_2, c417_2, e417, hx417_0, hx417_1, hx417_2, hl417_1, hi417_1, hl417_2, hi417_2⟩ := at_T41 HR1_2.out x5_2 p417 q417
     have hw417_2 := hx417_2
     have hw417_1 := hx417_1
     have hw417_0 := hx417_0
     cases e417
     replace hx417_0 := upw HB.out hx417_0
     replace hx417_1 := upw HB.out hx417_1
     replace hx417_2 := upw HB.out hx417_2
     have HR417_1 := am hi417_1
     have HC417_1 := am hl417_1
     clear hi417_1 hl417_1
     have HR417_2 := am hi417_2
     have HC417_2 := am hl417_2
     clear hi417_2 hl417_2
     replace p417 := eq_true p417
     replace q417 := eq_true q417
     refine start_ (n := 12) (S := fun w' => w'.cell? ⟨gb413, 0, none⟩ = some (.int .i64 a0_0) ∧ w'.cell? ⟨gb413, 1, none⟩ = some (.slice A0_1 l0_1.length c0_1) ∧ w'.cell? ⟨gb413, 2, none⟩ = some (.slice (some ad416) l0_2.length c0_2) ∧ w'.cell? ⟨gb414, 0, none⟩ = some (.int .i64 a1_0) ∧ w'.cell? ⟨gb414, 1, none⟩ = some (.slice A1_1 l1_1.length c1_1) ∧ w'.cell? ⟨gb414, 2, none⟩ = some (.slice (some ad417) l1_2.length c1_2) ∧ w'.cell? (ad416.add ((x5_2).toNat * 3)) = some (.int .i64 ((rd_T41 l0_2 x5_2).f0)) ∧ w'.cell? ⟨(ad416.add ((x5_2).toNat * 3)).block, (ad416.add ((x5_2).toNat * 3)).off + 1, none⟩ = some (.slice A416_1 ((rd_T41 l0_2 x5_2).f1).length c416_1) ∧ w'.cell? ⟨(ad416.add ((x5_2).toNat * 3)).block, (ad416.add ((x5_2).toNat * 3)).off + 2, none⟩ = some (.slice A416_2 ((rd_T41 l0_2 x5_2).f2).length c416_2) ∧ w'.cell? (ad417.add ((x5_2).toNat * 3)) = some (.int .i64 ((rd_T41 l1_2 x5_2).f0)) ∧ w'.cell? ⟨(ad417.add ((x5_2).toNat * 3)).block, (ad417.add ((x5_2).toNat * 3)).off + 1, none⟩ = some (.slice A417_1 ((rd_T41 l1_2 x5_2).f1).length c417_1) ∧ w'.cell? ⟨(ad417.add ((x5_2).toNat * 3)).block, (ad417.add ((x5_2).toNat * 3)).off + 2, none⟩ = some (.slice A417_2 ((rd_T41 l1_2 x5_2).f2).length c417_2)) (ds := []) #[false,false,false,false,false,false,false,false,false,false,false,false] kr rfl rfl ⟨(blk_cell BK413.out 0).trans rfl, (blk_cell BK413.out 1).trans rfl, (blk_cell BK413.out 2).trans rfl, (blk_cell BK414.out 0).trans rfl, (blk_cell BK414.out 1).trans rfl, (blk_cell BK414.out 2).trans rfl, (upw HB.out hw416_0), (upw HB.out hw416_1), (upw HB.out hw416_2), (upw HB.out hw417_0), (upw HB.out hw417_1), (upw HB.out hw417_2)⟩ (fun hHeld => ?_); refine with_tabW spec_EqualType.tab6 spec_EqualType.bits6 (fun HT_ HW_ => ?_)
     generalize wr.drew = w26 at BK413 BK414 HB HR416_1 HR416_2 HR417_1 HR417_2 hx416_0 hx416_1 hx416_2 hx417_0 hx417_1 hx417_2 hHeld ⊢
     refine pure_ (i := 0) (N := some 35) (v := ?_) (a' := ?_) (bm 12 1) rfl rfl (any_of HT_.out kr) qi (Or.inl ⟨by rfl, ?_⟩) ?_ ?_
     rotate_left
     ·intro w'
      go_simp
      with_reducible rfl
     rotate_left
     ·simp only [sx]
      rfl
     refine pure_ (i := 2) (N := some 37) (v := ?_) (a' := ?_) (bm 12 5) rfl rfl (any_of HT_.out kr) qi (Or.inl ⟨by rfl, ?_⟩) ?_ ?_
     rotate_left
     ·intro w'
      go_simp
      with_reducible rfl
     rotate_left
     ·simp only [sx]
      rfl
     refine pure_ (i := 5) (N := some 40) (v := ?_) (a' := ?_) (bm 12 37) rfl rfl (any_of HT_.out kr) qi (Or.inl ⟨by rfl, ?_⟩) ?_ ?_
     rotate_left
     ·intro w'
      go_simp
      with_reducible rfl
     rotate_left
     ·simp only [sx]
      rfl
     refine pure_ (i := 7) (N := some 42) (v := ?_) (a' := ?_) (bm 12 165) rfl rfl (any_of HT_.out kr) qi (Or.inl ⟨by rfl, ?_⟩) ?_ ?_
     rotate_left
     ·intro w'
      go_simp
      with_reducible rfl
     rotate_left
     ·simp only [sx]
      rfl
     refine take_ (i := 1) (N := some 36) (v := ?_) (a' := ?_) (bm 12 167) rfl rfl (take_ofW HT_.out HW_.out kr) qi (Or.inl ⟨by rfl, ?_⟩) hHeld ?_ ?_
     rotate_left
     ·rintro w' ⟨s0, s1, s2, s3, s4, s5, s6, s7, s8, s9, s10, s11⟩
      go_simp
      with_reducible rfl
     rotate_left
     ·simp only [sx]
      rfl
     refine pure_ (i := 3) (N := some 38) (v := ?_) (a' := ?_) (bm 12 175) rfl rfl (any_of HT_.out kr) qi (Or.inl ⟨by rfl, ?_⟩) ?_ ?_
     rotate_left
     ·intro w'
      go_simp
      with_reducible rfl
     rotate_left
     ·simp only [sx]
      rfl
     refine take_ (i := 4) (N := some 39) (v := ?_) (a' := ?_) (bm 12 191) rfl rfl (take_ofW HT_.out HW_.out kr) qi (Or.inl ⟨by rfl, ?_⟩) hHeld ?_ ?_
     rotate_left
     ·rintro w' ⟨s0, s1, s2, s3, s4, s5, s6, s7, s8, s9, s10, s11⟩
      go_simp
      with_reducible rfl
     rotate_left
     ·simp only [sx]
      rfl
     refine take_ (i := 6) (N := some 41) (v := ?_) (a' := ?_) (bm 12 255) rfl rfl (take_ofW HT_.out HW_.out kr) qi (Or.inl ⟨by rfl, ?_⟩) hHeld ?_ ?_
     rotate_left
     ·rintro w' ⟨s0, s1, s2, s3, s4, s5, s6, s7, s8, s9, s10, s11⟩
      go_simp
      with_reducible rfl
     rotate_left
     ·simp only [sx]
      rfl
     refine pure_ (i := 8) (N := some 43) (v := ?_) (a' := ?_) (bm 12 511) rfl rfl (any_of HT_.out kr) qi (Or.inl ⟨by rfl, ?_⟩) ?_ ?_
     rotate_left
     ·intro w'
      go_simp
      with_reducible rfl
     rotate_left
     ·simp only [sx]
      rfl
     refine take_ (i := 9) (N := some 44) (v := ?_) (a' := ?_) (bm 12 1023) rfl rfl (take_ofW HT_.out HW_.out kr) qi (Or.inl ⟨by rfl, ?_⟩) hHeld ?_ ?_
     rotate_left
     ·rintro w' ⟨s0, s1, s2, s3, s4, s5, s6, s7, s8, s9, s10, s11⟩
      go_simp
      with_reducible rfl
     rotate_left
     ·simp only [sx]
      rfl
     refine one_ (i := 10) (N := some 45) (bm 12 2047) rfl rfl (one_of HT_.out kr) (by decide) (fun K hK => ?_)
     refine goes_ Try.func31 kr rfl #[.agg #[.int .i64 ((rd_T41 l0_2 x5_2).f0), .slice A416_1 ((rd_T41 l0_2 x5_2).f1).length c416_1, .slice A416_2 ((rd_T41 l0_2 x5_2).f2).length c416_2], .agg #[.int .i64 ((rd_T41 l1_2 x5_2).f0), .slice A417_1 ((rd_T41 l1_2 x5_2).f1).length c417_1, .slice A417_2 ((rd_T41 l1_2 x5_2).f2).length c417_2]] (by rfl) rfl rfl mpw ?_
     with_reducible refine (ih k2 (by have := HJ2.out; have := HK2.out; omega) ((rd_T41 l0_2 x5_2).f0) _ _ ((rd_T41 l0_2 x5_2).f1) _ _ ((rd_T41 l0_2 x5_2).f2) ((rd_T41 l1_2 x5_2).f0) _ _ ((rd_T41 l1_2 x5_2).f1) _ _ ((rd_T41 l1_2 x5_2).f2) t418 _ ?side1 ?side2 ?side3 ?side4 ?side5 ?side6 ?side7 ?side8 A22.out).mono ?_
     (case side1 => have X_ := HR416_1; exact cbl)
     (case side2 => exact HC416_1.out)
     (case side3 => have X_ := HR416_2; exact cbl)
     (case side4 => exact HC416_2.out)
     (case side5 => have X_ := HR417_1; exact cbl)
     (case side6 => exact HC417_1.out)
     (case side7 => have X_ := HR417_2; exact cbl)
     (case side8 => exact HC417_2.out)
     rintro e w27 ⟨rfl, hb⟩
     refine ⟨_, rfl, ?_⟩
     have n0_ := am (blk_below (g := gb413) bkw hb)
     have n1_ := am (blk_below (g := gb414) bkw hb)
     have n2_ := am (below_step blw hb)
     clear BK413
     clear BK414
     clear HB
     revert n0_ n1_ n2_
     intro BK413 BK414 HB
     (try clear hb)
     (try clear hb2)
     (try clear hk)
     (try clear hi)
     refine hK.out _ _ ⟨(blk_cell BK413.out 0).trans rfl, (blk_cell BK413.out 1).trans rfl, (blk_cell BK413.out 2).trans rfl, (blk_cell BK414.out 0).trans rfl, (blk_cell BK414.out 1).trans rfl, (blk_cell BK414.out 2).trans rfl, (upw HB.out hw416_0), (upw HB.out hw416_1), (upw HB.out hw416_2), (upw HB.out hw417_0), (upw HB.out hw417_1), (upw HB.out hw417_2)⟩ (fun hHeld => ?_)
     clear hK K
     refine norm_ (a' := ?_) ?_ ?_
     rotate_left
     ·show Act.put _ (some 45) _ = _
      simp only [sx]
      rfl
     refine pure_ (i := 11) (N := some 46) (v := ?_) (a' := ?_) (bm 12 4095) rfl rfl (any_of HT_.out kr) qi (Or.inl ⟨by rfl, ?_⟩) ?_ ?_
     rotate_left
     ·intro w'
      go_simp
      with_reducible rfl
     rotate_left
     ·simp only [sx]
      rfl
     refine done_ (done_of HT_.out kr) ?_
     go_upto_if 46 with (fail)
     have H := HC23.out
     clear HC23
     by_cases c28 : t418 = true
     case neg =>
      replace c28 := Bool.eq_false_iff.mpr c28
      subst c28
      have H1 : (some false) = some r := by rw [if_neg (show ¬ (false = true) by decide)] at H; exact H
      clear H
      have H := H1
      clear H1
      obtain rfl := Option.some.inj H
      go_wp2
      go_ret
      exact ⟨rfw, blw⟩
     subst c28
     have H1 : (spec_EqualType.l0 k2 (wrap64 (x5_2 + 1)) a0_0 l0_1 l0_2 a1_0 l1_1 l1_2) = some r := by rw [if_pos rfl] at H; exact H
     clear H
     have H := H1
     clear H1
     have H' := am H
     clear H
     go_wp2
     go_roundg k2
     case measure => have := HJ2.out; have := HK2.out; omega
     case rel => exact ⟨(wrap64 (x5_2 + 1)), rfs, H', ⟨by have := HJ2.out; have := HK2.out; omega⟩, ⟨bkw⟩, ⟨bkw⟩, ⟨blw⟩⟩

end Go.Proofs.Ytpkppeicceehcaa.Px
end
section
namespace Go.Proofs.Ytpkppeicceehcaa.Px
open Go.RowKit Go.Proofs.Ytpkppeicceehcaa.Ext Go.Proofs.YtpkppeicceehcaaW.PrintWords Go.Proofs.YtpkppeicceehcaaW.PrintLast Go.Proofs.YtpkppeicceehcaaW.PrintMore
attribute [local go_sem] max2_int min2_int max_two min_two max_three min_three max_four min_four   -- for this text's walks alone
set_option linter.unusedVariables false
set_option linter.unusedSimpArgs false

/-! ### spec_EqualTerm: function 24 -/
mutual
def spec_EqualTerm.j0 : Nat → Bool → Int → ByteArray → Int → Int → List ByteArray → List (S41) → List ByteArray → List (S44) → Int → ByteArray → Int → Int → List ByteArray → List (S41) → List ByteArray → List (S44) → Option (Bool)
 | 0, _, _, _, _, _, _, _, _, _, _, _, _, _, _, _, _, _ => none
 | k + 1, x49, x420000, x420001, x420002, x420003, x420004, x420005, x420006, x420007, x421000, x421001, x421002, x421003, x421004, x421005, x421006, x421007 => if x49 = true then (some false) else (spec_EqualTerm.l0 k 0 x420000 x420001 x420002 x420003 x420004 x420005 x420006 x420007 x421000 x421001 x421002 x421003 x421004 x421005 x421006 x421007)
def spec_EqualTerm.l0 : Nat → Int → Int → ByteArray → Int → Int → List ByteArray → List (S41) → List ByteArray → List (S44) → Int → ByteArray → Int → Int → List ByteArray → List (S41) → List ByteArray → List (S44) → Option (Bool)
 | 0, _, _, _, _, _, _, _, _, _, _, _, _, _, _, _, _, _ => none
 | k + 1, x5, x420000, x420001, x420002, x420003, x420004, x420005, x420006, x420007, x421000, x421001, x421002, x421003, x421004, x421005, x421006, x421007 => if x5 < (x420007.length : Int) then (if 0 ≤ x5 then (if x5 < (x421007.length : Int) then ((spec_EqualTerm.f k ((rd_T44 x420007 x5).f0) ((rd_T44 x420007 x5).f1) ((rd_T44 x420007 x5).f2) ((rd_T44 x420007 x5).f3.f0) ((rd_T44 x420007 x5).f3.f1) ((rd_T44 x420007 x5).f3.f2) ((rd_T44 x420007 x5).f4) ((rd_T44 x420007 x5).f5) ((rd_T44 x421007 x5).f0) ((rd_T44 x421007 x5).f1) ((rd_T44 x421007 x5).f2) ((rd_T44 x421007 x5).f3.f0) ((rd_T44 x421007 x5).f3.f1) ((rd_T44 x421007 x5).f3.f2) ((rd_T44 x421007 x5).f4) ((rd_T44 x421007 x5).f5)).bind fun t425 => (if t425 = true then (spec_EqualTerm.l0 k (wrap64 (x5 + 1)) x420000 x420001 x420002 x420003 x420004 x420005 x420006 x420007 x421000 x421001 x421002 x421003 x421004 x421005 x421006 x421007) else (some false))) else (none)) else (none)) else (some true)
def spec_EqualTerm.f : Nat → Int → ByteArray → Int → Int → List ByteArray → List (S41) → List ByteArray → List (S44) → Int → ByteArray → Int → Int → List ByteArray → List (S41) → List ByteArray → List (S44) → Option (Bool)
 | 0, _, _, _, _, _, _, _, _, _, _, _, _, _, _, _, _ => none
 | k + 1, a0_0, a0_1, a0_2, a0_3, l0_4, l0_5, l0_6, l0_7, a1_0, a1_1, a1_2, a1_3, l1_4, l1_5, l1_6, l1_7 => if a0_0 = a1_0 then (if a0_1.toList = a1_1.toList then (if a0_2 = a1_2 then ((spec_EqualType.f k a0_3 l0_4 l0_5 a1_3 l1_4 l1_5).bind fun t421 => (if t421 = true then ((spec_l3Texts.f k l0_6 l1_6).bind fun t422 => (if t422 = true then (spec_EqualTerm.j0 k ((l0_7.length : Int) != (l1_7.length : Int)) a0_0 a0_1 a0_2 a0_3 l0_4 l0_5 l0_6 l0_7 a1_0 a1_1 a1_2 a1_3 l1_4 l1_5 l1_6 l1_7) else (spec_EqualTerm.j0 k true a0_0 a0_1 a0_2 a0_3 l0_4 l0_5 l0_6 l0_7 a1_0 a1_1 a1_2 a1_3 l1_4 l1_5 l1_6 l1_7))) else (spec_EqualTerm.j0 k true a0_0 a0_1 a0_2 a0_3 l0_4 l0_5 l0_6 l0_7 a1_0 a1_1 a1_2 a1_3 l1_4 l1_5 l1_6 l1_7))) else (spec_EqualTerm.j0 k true a0_0 a0_1 a0_2 a0_3 l0_4 l0_5 l0_6 l0_7 a1_0 a1_1 a1_2 a1_3 l1_4 l1_5 l1_6 l1_7)) else (spec_EqualTerm.j0 k true a0_0 a0_1 a0_2 a0_3 l0_4 l0_5 l0_6 l0_7 a1_0 a1_1 a1_2 a1_3 l1_4 l1_5 l1_6 l1_7)) else (spec_EqualTerm.j0 k true a0_0 a0_1 a0_2 a0_3 l0_4 l0_5 l0_6 l0_7 a1_0 a1_1 a1_2 a1_3 l1_4 l1_5 l1_6 l1_7)
end
def spec_EqualTerm.T6 : Bool × List (List Nat × List Nat) := (true, [([], []), ([0], [0]), ([], []), ([1, 2], [1, 2]), ([3], [3]), ([], []), ([5], [5]), ([], []), ([6, 7], [6, 7]), ([8], [8]), ([4, 9], [4, 9]), ([10], [10])])
def spec_EqualTerm.B6 : List Nat := [0, 1, 0, 7, 15, 0, 32, 0, 224, 480, 1023, 2047]
theorem spec_EqualTerm.tab6 : rtab .any (opsOf Try.f24 6) = spec_EqualTerm.T6 := by kernel_rfl
theorem spec_EqualTerm.bits6 : waitsOk spec_EqualTerm.T6.2 spec_EqualTerm.B6 = true := by kernel_rfl
set_option maxHeartbeats 8000000 in
set_option maxRecDepth 100000 in
theorem spec_EqualTerm.calls (k : Nat) : ∀ (a0_0 : Int) (a0_1 : ByteArray) (a0_2 : Int) (a0_3 : Int) (A0_4 : Option Addr) (c0_4 : Nat) (l0_4 : List ByteArray) (A0_5 : Option Addr) (c0_5 : Nat) (l0_5 : List (S41)) (A0_6 : Option Addr) (c0_6 : Nat) (l0_6 : List ByteArray) (A0_7 : Option Addr) (c0_7 : Nat) (l0_7 : List (S44)) (a1_0 : Int) (a1_1 : ByteArray) (a1_2 : Int) (a1_3 : Int) (A1_4 : Option Addr) (c1_4 : Nat) (l1_4 : List ByteArray) (A1_5 : Option Addr) (c1_5 : Nat) (l1_5 : List (S41)) (A1_6 : Option Addr) (c1_6 : Nat) (l1_6 : List ByteArray) (A1_7 : Option Addr) (c1_7 : Nat) (l1_7 : List (S44)) (r : Bool) (w : World) (hr0_4 : Kd.C Kd.string w A0_4 l0_4.length l0_4) (hc0_4 : l0_4.length ≤ c0_4) (hr0_5 : Kd.C k41 w A0_5 l0_5.length l0_5) (hc0_5 : l0_5.length ≤ c0_5) (hr0_6 : Kd.C Kd.string w A0_6 l0_6.length l0_6) (hc0_6 : l0_6.length ≤ c0_6) (hr0_7 : Kd.C k44 w A0_7 l0_7.length l0_7) (hc0_7 : l0_7.length ≤ c0_7) (hr1_4 : Kd.C Kd.string w A1_4 l1_4.length l1_4) (hc1_4 : l1_4.length ≤ c1_4) (hr1_5 : Kd.C k41 w A1_5 l1_5.length l1_5) (hc1_5 : l1_5.length ≤ c1_5) (hr1_6 : Kd.C Kd.string w A1_6 l1_6.length l1_6) (hc1_6 : l1_6.length ≤ c1_6) (hr1_7 : Kd.C k44 w A1_7 l1_7.length l1_7) (hc1_7 : l1_7.length ≤ c1_7) (h : spec_EqualTerm.f k a0_0 a0_1 a0_2 a0_3 l0_4 l0_5 l0_6 l0_7 a1_0 a1_1 a1_2 a1_3 l1_4 l1_5 l1_6 l1_7 = some r),
  Calls Try.prog 24 #[.agg #[.int .i64 a0_0, .string a0_1, .int .i64 a0_2, .int .i64 a0_3, .slice A0_4 l0_4.length c0_4, .slice A0_5 l0_5.length c0_5, .slice A0_6 l0_6.length c0_6, .slice A0_7 l0_7.length c0_7], .agg #[.int .i64 a1_0, .string a1_1, .int .i64 a1_2, .int .i64 a1_3, .slice A1_4 l1_4.length c1_4, .slice A1_5 l1_5.length c1_5, .slice A1_6 l1_6.length c1_6, .slice A1_7 l1_7.length c1_7]] w fun e w' => e = .returned (.bool r) ∧ Below w.heap.size w w' := by
 induction k using Nat.strongRecOn with
 | _ k ih =>
 intro a0_0 a0_1 a0_2 a0_3 A0_4 c0_4 l0_4 A0_5 c0_5 l0_5 A0_6 c0_6 l0_6 A0_7 c0_7 l0_7 a1_0 a1_1 a1_2 a1_3 A1_4 c1_4 l1_4 A1_5 c1_5 l1_5 A1_6 c1_6 l1_6 A1_7 c1_7 l1_7 r w hr0_4 hc0_4 hr0_5 hc0_5 hr0_6 hc0_6 hr0_7 hc0_7 hr1_4 hc1_4 hr1_5 hc1_5 hr1_6 hc1_6 hr1_7 hc1_7 h
 cases k with
 | zero => exact absurd h (by simp [spec_EqualTerm.f])
 | succ k =>
 simp only [spec_EqualTerm.f] at h
 have hu44 := Try.underlying44
 have hu41 := Try.underlying41
 have HR0_4 := am hr0_4
 have HC0_4 := am hc0_4
 clear hr0_4 hc0_4
 have HR0_5 := am hr0_5
 have HC0_5 := am hc0_5
 clear hr0_5 hc0_5
 have HR0_6 := am hr0_6
 have HC0_6 := am hc0_6
 clear hr0_6 hc0_6
 have HR0_7 := am hr0_7
 have HC0_7 := am hc0_7
 clear hr0_7 hc0_7
 have HR1_4 := am hr1_4
 have HC1_4 := am hc1_4
 clear hr1_4 hc1_4
 have HR1_5 := am hr1_5
 have HC1_5 := am hc1_5
 clear hr1_5 hc1_5
 have HR1_6 := am hr1_6
 have HC1_6 := am hc1_6
 clear hr1_6 hc1_6
 have HR1_7 := am hr1_7
 have HC1_7 := am hc1_7
 clear hr1_7 hc1_7
 have HB := am (Below.refl w.heap.size w)
 have H : (if a0_0 = a1_0 then (if a0_1.toList = a1_1.toList then (if a0_2 = a1_2 then ((spec_EqualType.f k a0_3 l0_4 l0_5 a1_3 l1_4 l1_5).bind fun t421 => (if t421 = true then ((spec_l3Texts.f k l0_6 l1_6).bind fun t422 => (if t422 = true then (spec_EqualTerm.j0 k ((l0_7.length : Int) != (l1_7.length : Int)) a0_0 a0_1 a0_2 a0_3 l0_4 l0_5 l0_6 l0_7 a1_0 a1_1 a1_2 a1_3 l1_4 l1_5 l1_6 l1_7) else (spec_EqualTerm.j0 k true a0_0 a0_1 a0_2 a0_3 l0_4 l0_5 l0_6 l0_7 a1_0 a1_1 a1_2 a1_3 l1_4 l1_5 l1_6 l1_7))) else (spec_EqualTerm.j0 k true a0_0 a0_1 a0_2 a0_3 l0_4 l0_5 l0_6 l0_7 a1_0 a1_1 a1_2 a1_3 l1_4 l1_5 l1_6 l1_7))) else (spec_EqualTerm.j0 k true a0_0 a0_1 a0_2 a0_3 l0_4 l0_5 l0_6 l0_7 a1_0 a1_1 a1_2 a1_3 l1_4 l1_5 l1_6 l1_7)) else (spec_EqualTerm.j0 k true a0_0 a0_1 a0_2 a0_3 l0_4 l0_5 l0_6 l0_7 a1_0 a1_1 a1_2 a1_3 l1_4 l1_5 l1_6 l1_7)) else (spec_EqualTerm.j0 k true a0_0 a0_1 a0_2 a0_3 l0_4 l0_5 l0_6 l0_7 a1_0 a1_1 a1_2 a1_3 l1_4 l1_5 l1_6 l1_7)) = some r := h
 clear h
 have HC3 := am H
 clear H
 go_enter Try.func24, Try.ntmps24
 go_upto_region 1 with (first | ((with_reducible refine gate_dst (N := 2) rfl ?_); (try (refine gate_guard (by rfl) ?_; dsimp only)); refine box_event ?hg (N := 2) ?hd (cs := #[.int .i64 a0_0, .string a0_1, .int .i64 a0_2, .int .i64 a0_3, .slice A0_4 l0_4.length c0_4, .slice A0_5 l0_5.length c0_5, .slice A0_6 l0_6.length c0_6, .slice A0_7 l0_7.length c0_7]) (t := 44) ?hr ?_; (case hd => rfl); (case hg => rfl); (case hr => exact hrw); intro gb419 hg w4 hbox hb; have n0_ := am (below_step blw hb); have n1_ := am (hbox); have n2_ := am ((by rw [hg]; exact (below_size blw) : w.heap.size ≤ gb419)); have n3_ := n2_; clear HB; revert n0_ n1_ n2_ n3_; intro HB BK419 GW419 GE419; clear hb hbox hg) | ((with_reducible refine gate_dst (N := 3) rfl ?_); (try (refine gate_guard (by rfl) ?_; dsimp only)); refine box_event ?hg (N := 3) ?hd (cs := #[.int .i64 a1_0, .string a1_1, .int .i64 a1_2, .int .i64 a1_3, .slice A1_4 l1_4.length c1_4, .slice A1_5 l1_5.length c1_5, .slice A1_6 l1_6.length c1_6, .slice A1_7 l1_7.length c1_7]) (t := 44) ?hr ?_; (case hd => rfl); (case hg => rfl); (case hr => exact hrw); intro gb420 hg w5 hbox hb; have n0_ := am (blk_below (g := gb419) bkw hb); have n1_ := am (below_step blw hb); have n2_ := am (hbox); have n3_ := am ((by rw [hg]; exact (below_size blw) : w.heap.size ≤ gb420)); have n4_ := n3_; have n5_ := am ((by rw [hg]; exact Nat.ne_of_lt (blk_lt (g := gb419) bkw) : gb419 ≠ gb420)); have n6_ := am ((by rw [hg]; exact Nat.ne_of_gt (blk_lt (g := gb419) bkw) : gb420 ≠ gb419)); clear BK419; clear HB; revert n0_ n1_ n2_ n3_ n4_ n5_ n6_; intro BK419 HB BK420 GW420 GE420 NB419_420 NB420_419; clear hb hbox hg))
 (try simp only [Act.put, List.setIfInBounds_toArray, List.set_cons_zero, List.set_cons_succ])
 go_cut [49] (fun v49 wc => ∃ (kq : Nat) (x49_2 : Bool), v49 = .bool x49_2 ∧ Aside0 (spec_EqualTerm.j0 kq x49_2 a0_0 a0_1 a0_2 a0_3 l0_4 l0_5 l0_6 l0_7 a1_0 a1_1 a1_2 a1_3 l1_4 l1_5 l1_6 l1_7 = some r) ∧ Aside0 (kq ≤ k) ∧ Aside0 (wc.heap[gb419]? = some (.cells #[.int .i64 a0_0, .string a0_1, .int .i64 a0_2, .int .i64 a0_3, (.slice A0_4 l0_4.length c0_4), (.slice A0_5 l0_5.length c0_5), (.slice A0_6 l0_6.length c0_6), (.slice A0_7 l0_7.length c0_7)] 44 (0, 0))) ∧ Aside0 (wc.heap[gb420]? = some (.cells #[.int .i64 a1_0, .string a1_1, .int .i64 a1_2, .int .i64 a1_3, (.slice A1_4 l1_4.length c1_4), (.slice A1_5 l1_5.length c1_5), (.slice A1_6 l1_6.length c1_6), (.slice A1_7 l1_7.length c1_7)] 44 (0, 0))) ∧ Aside0 (Below w.heap.size w wc))
 case first =>
  have H := HC3.out
  clear HC3
  by_cases c6 : a0_0 = a1_0
  case neg =>
   rw [if_neg c6] at H
   have c6b0 : (a0_0 == a1_0) = false := beq_eq_false_iff_ne.mpr c6
   have c6b1 : (a0_0 != a1_0) = true := bne_iff_ne.mpr c6
   (first | rw [c6b0] | (simp only [i64_w, i32_w]; rw [c6b0]) | (rw [c6b1]; (try simp only [Bool.not_true, Bool.not_false])) | skip)
   have H' := am H
   clear H
   have hnb35 := NB419_420.out
   have hnc35 := NB420_419.out
   obtain ⟨hcz36_0, hcz36_1, hcz36_2, hcz36_3, hcz36_4, hcz36_5, hcz36_6, hcz36_7⟩ := cls8 BK419.out
   obtain ⟨hfz36_0, hfz36_1, hfz36_2, hfz36_3, hfz36_4, hfz36_5, hfz36_6, hfz36_7⟩ := frz8 BK419.out
   obtain ⟨hcz37_0, hcz37_1, hcz37_2, hcz37_3, hcz37_4, hcz37_5, hcz37_6, hcz37_7⟩ := cls8 BK420.out
   obtain ⟨hfz37_0, hfz37_1, hfz37_2, hfz37_3, hfz37_4, hfz37_5, hfz37_6, hfz37_7⟩ := frz8 BK420.out
   go_wp2
   go_meet
   case rel => exact ⟨_, (true), rfs, H', ⟨by first | omega | exact Nat.le_refl _⟩, ⟨bkw⟩, ⟨bkw⟩, ⟨blw⟩⟩
  rw [if_pos c6] at H
  have c6b0 : (a0_0 == a1_0) = true := beq_iff_eq.mpr c6
  have c6b1 : (a0_0 != a1_0) = false := bne_eq_false_iff_eq.mpr c6
  clear c6
  (first | rw [c6b0] | (simp only [i64_w, i32_w]; rw [c6b0]) | (rw [c6b1]; (try simp only [Bool.not_true, Bool.not_false])) | skip)
  by_cases c7 : a0_1.toList = a1_1.toList
  case neg =>
   rw [if_neg c7] at H
   have c7b0 : (a0_1.toList == a1_1.toList) = false := beq_eq_false_iff_ne.mpr c7
   have c7b1 : (a0_1.toList != a1_1.toList) = true := bne_iff_ne.mpr c7
   have H' := am H
   clear H
   have hnb32 := NB419_420.out
   have hnc32 := NB420_419.out
   obtain ⟨hcz33_0, hcz33_1, hcz33_2, hcz33_3, hcz33_4, hcz33_5, hcz33_6, hcz33_7⟩ := cls8 BK419.out
   obtain ⟨hfz33_0, hfz33_1, hfz33_2, hfz33_3, hfz33_4, hfz33_5, hfz33_6, hfz33_7⟩ := frz8 BK419.out
   obtain ⟨hcz34_0, hcz34_1, hcz34_2, hcz34_3, hcz34_4, hcz34_5, hcz34_6, hcz34_7⟩ := cls8 BK420.out
   obtain ⟨hfz34_0, hfz34_1, hfz34_2, hfz34_3, hfz34_4, hfz34_5, hfz34_6, hfz34_7⟩ := frz8 BK420.out
   go_wp2
   go_meet
   case rel => exact ⟨_, (true), rfs, H', ⟨by first | omega | exact Nat.le_refl _⟩, ⟨bkw⟩, ⟨bkw⟩, ⟨blw⟩⟩
  rw [if_pos c7] at H
  have c7b0 : (a0_1.toList == a1_1.toList) = true := beq_iff_eq.mpr c7
  have c7b1 : (a0_1.toList != a1_1.toList) = false := bne_eq_false_iff_eq.mpr c7
  clear c7
  by_cases c8 : a0_2 = a1_2
  case neg =>
   rw [if_neg c8] at H
   have c8b0 : (a0_2 == a1_2) = false := beq_eq_false_iff_ne.mpr c8
   have c8b1 : (a0_2 != a1_2) = true := bne_iff_ne.mpr c8
   have H' := am H
   clear H
   have hnb29 := NB419_420.out
   have hnc29 := NB420_419.out
   obtain ⟨hcz30_0, hcz30_1, hcz30_2, hcz30_3, hcz30_4, hcz30_5, hcz30_6, hcz30_7⟩ := cls8 BK419.out
   obtain ⟨hfz30_0, hfz30_1, hfz30_2, hfz30_3, hfz30_4, hfz30_5, hfz30_6, hfz30_7⟩ := frz8 BK419.out
   obtain ⟨hcz31_0, hcz31_1, hcz31_2, hcz31_3, hcz31_4, hcz31_5, hcz31_6, hcz31_7⟩ := cls8 BK420.out
   obtain ⟨hfz31_0, hfz31_1, hfz31_2, hfz31_3, hfz31_4, hfz31_5, hfz31_6, hfz31_7⟩ := frz8 BK420.out
   go_wp2
   go_meet
   case rel => exact ⟨_, (true), rfs, H', ⟨by first | omega | exact Nat.le_refl _⟩, ⟨bkw⟩, ⟨bkw⟩, ⟨blw⟩⟩
  rw [if_pos c8] at H
  have c8b0 : (a0_2 == a1_2) = true := beq_iff_eq.mpr c8
  have c8b1 : (a0_2 != a1_2) = false := bne_eq_false_iff_eq.mpr c8
  clear c8
  replace H := Option.bind_eq_some_iff.mp H
  obtain ⟨t421, A90, H⟩ := H
  replace H : (if t421 = true then ((spec_l3Texts.f k l0_6 l1_6).bind fun t422 => (if t422 = true then (spec_EqualTerm.j0 k ((l0_7.length : Int) != (l1_7.length : Int)) a0_0 a0_1 a0_2 a0_3 l0_4 l0_5 l0_6 l0_7 a1_0 a1_1 a1_2 a1_3 l1_4 l1_5 l1_6 l1_7) else (spec_EqualTerm.j0 k true a0_0 a0_1 a0_2 a0_3 l0_4 l0_5 l0_6 l0_7 a1_0 a1_1 a1_2 a1_3 l1_4 l1_5 l1_6 l1_7))) else (spec_EqualTerm.j0 k true a0_0 a0_1 a0_2 a0_3 l0_4 l0_5 l0_6 l0_7 a1_0 a1_1 a1_2 a1_3 l1_4 l1_5 l1_6 l1_7)) = some r := H
  have A9 := am A90
  clear A90
  by_cases c10 : t421 = true
  case neg =>
   replace c10 := Bool.eq_false_iff.mpr c10
   subst c10
   have H1 : (spec_EqualTerm.j0 k true a0_0 a0_1 a0_2 a0_3 l0_4 l0_5 l0_6 l0_7 a1_0 a1_1 a1_2 a1_3 l1_4 l1_5 l1_6 l1_7) = some r := by rw [if_neg (show ¬ (false = true) by decide)] at H; exact H
   clear H
   have H := H1
   clear H1
   have H' := am H
   clear H
   have hnb25 := NB419_420.out
   have hnc25 := NB420_419.out
   obtain ⟨hcz26_0, hcz26_1, hcz26_2, hcz26_3, hcz26_4, hcz26_5, hcz26_6, hcz26_7⟩ := cls8 BK419.out
   obtain ⟨hfz26_0, hfz26_1, hfz26_2, hfz26_3, hfz26_4, hfz26_5, hfz26_6, hfz26_7⟩ := frz8 BK419.out
   obtain ⟨hcz27_0, hcz27_1, hcz27_2, hcz27_3, hcz27_4, hcz27_5, hcz27_6, hcz27_7⟩ := cls8 BK420.out
   obtain ⟨hfz27_0, hfz27_1, hfz27_2, hfz27_3, hfz27_4, hfz27_5, hfz27_6, hfz27_7⟩ := frz8 BK420.out
   go_wp2_with (first | (go_at_call 31; (with_reducible refine (spec_EqualType.calls k a0_3 _ _ l0_4 _ _ l0_5 a1_3 _ _ l1_4 _ _ l1_5 false _ ?side1 ?side2 ?side3 ?side4 ?side5 ?side6 ?side7 ?side8 A9.out).mono ?_); (case side1 => have X_ := HR0_4; exact cbl); (case side2 => exact HC0_4.out); (case side3 => have X_ := HR0_5; exact cbl); (case side4 => exact HC0_5.out); (case side5 => have X_ := HR1_4; exact cbl); (case side6 => exact HC1_4.out); (case side7 => have X_ := HR1_5; exact cbl); (case side8 => exact HC1_5.out); rintro e w28 ⟨rfl, hb⟩; have n0_ := am (blk_below (g := gb419) bkw hb); have n1_ := am (blk_below (g := gb420) bkw hb); have n2_ := am (below_step blw hb); clear BK419; clear BK420; clear HB; revert n0_ n1_ n2_; intro BK419 BK420 HB; (try clear hb); (try clear hb2); (try clear hk); (try clear hi)))
   go_meet
   case rel => exact ⟨_, (true), rfs, H', ⟨by first | omega | exact Nat.le_refl _⟩, ⟨bkw⟩, ⟨bkw⟩, ⟨blw⟩⟩
  subst c10
  have H1 : ((spec_l3Texts.f k l0_6 l1_6).bind fun t422 => (if t422 = true then (spec_EqualTerm.j0 k ((l0_7.length : Int) != (l1_7.length : Int)) a0_0 a0_1 a0_2 a0_3 l0_4 l0_5 l0_6 l0_7 a1_0 a1_1 a1_2 a1_3 l1_4 l1_5 l1_6 l1_7) else (spec_EqualTerm.j0 k true a0_0 a0_1 a0_2 a0_3 l0_4 l0_5 l0_6 l0_7 a1_0 a1_1 a1_2 a1_3 l1_4 l1_5 l1_6 l1_7))) = some r := by rw [if_pos rfl] at H; exact H
  clear H
  have H := H1
  clear H1
  replace H := Option.bind_eq_some_iff.mp H
  obtain ⟨t422, A110, H⟩ := H
  replace H : (if t422 = true then (spec_EqualTerm.j0 k ((l0_7.length : Int) != (l1_7.length : Int)) a0_0 a0_1 a0_2 a0_3 l0_4 l0_5 l0_6 l0_7 a1_0 a1_1 a1_2 a1_3 l1_4 l1_5 l1_6 l1_7) else (spec_EqualTerm.j0 k true a0_0 a0_1 a0_2 a0_3 l0_4 l0_5 l0_6 l0_7 a1_0 a1_1 a1_2 a1_3 l1_4 l1_5 l1_6 l1_7)) = some r := H
  have A11 := am A110
  clear A110
  by_cases c12 : t422 = true
  case neg =>
   replace c12 := Bool.eq_false_iff.mpr c12
   subst c12
   have H1 : (spec_EqualTerm.j0 k true a0_0 a0_1 a0_2 a0_3 l0_4 l0_5 l0_6 l0_7 a1_0 a1_1 a1_2 a1_3 l1_4 l1_5 l1_6 l1_7) = some r := by rw [if_neg (show ¬ (false = true) by decide)] at H; exact H
   clear H
   have H := H1
   clear H1
   have H' := am H
   clear H
   have hnb19 := NB419_420.out
   have hnc19 := NB420_419.out
   obtain ⟨hcz20_0, hcz20_1, hcz20_2, hcz20_3, hcz20_4, hcz20_5, hcz20_6, hcz20_7⟩ := cls8 BK419.out
   obtain ⟨hfz20_0, hfz20_1, hfz20_2, hfz20_3, hfz20_4, hfz20_5, hfz20_6, hfz20_7⟩ := frz8 BK419.out
   obtain ⟨hcz21_0, hcz21_1, hcz21_2, hcz21_3, hcz21_4, hcz21_5, hcz21_6, hcz21_7⟩ := cls8 BK420.out
   obtain ⟨hfz21_0, hfz21_1, hfz21_2, hfz21_3, hfz21_4, hfz21_5, hfz21_6, hfz21_7⟩ := frz8 BK420.out
   go_wp2_with (first | (go_at_call 31; (with_reducible refine (spec_EqualType.calls k a0_3 _ _ l0_4 _ _ l0_5 a1_3 _ _ l1_4 _ _ l1_5 true _ ?side1 ?side2 ?side3 ?side4 ?side5 ?side6 ?side7 ?side8 A9.out).mono ?_); (case side1 => have X_ := HR0_4; exact cbl); (case side2 => exact HC0_4.out); (case side3 => have X_ := HR0_5; exact cbl); (case side4 => exact HC0_5.out); (case side5 => have X_ := HR1_4; exact cbl); (case side6 => exact HC1_4.out); (case side7 => have X_ := HR1_5; exact cbl); (case side8 => exact HC1_5.out); rintro e w22 ⟨rfl, hb⟩; have n0_ := am (blk_below (g := gb419) bkw hb); have n1_ := am (blk_below (g := gb420) bkw hb); have n2_ := am (below_step blw hb); clear BK419; clear BK420; clear HB; revert n0_ n1_ n2_; intro BK419 BK420 HB; (try clear hb); (try clear hb2); (try clear hk); (try clear hi); obtain ⟨hcz23_0, hcz23_1, hcz23_2, hcz23_3, hcz23_4, hcz23_5, hcz23_6, hcz23_7⟩ := cls8 BK419.out; obtain ⟨hfz23_0, hfz23_1, hfz23_2, hfz23_3, hfz23_4, hfz23_5, hfz23_6, hfz23_7⟩ := frz8 BK419.out; obtain ⟨hcz24_0, hcz24_1, hcz24_2, hcz24_3, hcz24_4, hcz24_5, hcz24_6, hcz24_7⟩ := cls8 BK420.out; obtain ⟨hfz24_0, hfz24_1, hfz24_2, hfz24_3, hfz24_4, hfz24_5, hfz24_6, hfz24_7⟩ := frz8 BK420.out) | (go_at_call 32; (with_reducible refine (spec_l3Texts.calls k _ _ l0_6 _ _ l1_6 false _ ?side1 ?side2 ?side3 ?side4 A11.out).mono ?_); (case side1 => have X_ := HR0_6; exact cbl); (case side2 => exact HC0_6.out); (case side3 => have X_ := HR1_6; exact cbl); (case side4 => exact HC1_6.out); rintro e w' ⟨rfl, ⟨nd, rfl⟩⟩))
   go_meet
   case rel => exact ⟨_, (true), rfs, H', ⟨by first | omega | exact Nat.le_refl _⟩, ⟨bkw⟩, ⟨bkw⟩, ⟨blw⟩⟩
  subst c12
  have H1 : (spec_EqualTerm.j0 k ((l0_7.length : Int) != (l1_7.length : Int)) a0_0 a0_1 a0_2 a0_3 l0_4 l0_5 l0_6 l0_7 a1_0 a1_1 a1_2 a1_3 l1_4 l1_5 l1_6 l1_7) = some r := by rw [if_pos rfl] at H; exact H
  clear H
  have H := H1
  clear H1
  have H' := am H
  clear H
  have hnb13 := NB419_420.out
  have hnc13 := NB420_419.out
  obtain ⟨hcz14_0, hcz14_1, hcz14_2, hcz14_3, hcz14_4, hcz14_5, hcz14_6, hcz14_7⟩ := cls8 BK419.out
  obtain ⟨hfz14_0, hfz14_1, hfz14_2, hfz14_3, hfz14_4, hfz14_5, hfz14_6, hfz14_7⟩ := frz8 BK419.out
  obtain ⟨hcz15_0, hcz15_1, hcz15_2, hcz15_3, hcz15_4, hcz15_5, hcz15_6, hcz15_7⟩ := cls8 BK420.out
  obtain ⟨hfz15_0, hfz15_1, hfz15_2, hfz15_3, hfz15_4, hfz15_5, hfz15_6, hfz15_7⟩ := frz8 BK420.out
  go_wp2_with (first | (go_at_call 31; (with_reducible refine (spec_EqualType.calls k a0_3 _ _ l0_4 _ _ l0_5 a1_3 _ _ l1_4 _ _ l1_5 true _ ?side1 ?side2 ?side3 ?side4 ?side5 ?side6 ?side7 ?side8 A9.out).mono ?_); (case side1 => have X_ := HR0_4; exact cbl); (case side2 => exact HC0_4.out); (case side3 => have X_ := HR0_5; exact cbl); (case side4 => exact HC0_5.out); (case side5 => have X_ := HR1_4; exact cbl); (case side6 => exact HC1_4.out); (case side7 => have X_ := HR1_5; exact cbl); (case side8 => exact HC1_5.out); rintro e w16 ⟨rfl, hb⟩; have n0_ := am (blk_below (g := gb419) bkw hb); have n1_ := am (blk_below (g := gb420) bkw hb); have n2_ := am (below_step blw hb); clear BK419; clear BK420; clear HB; revert n0_ n1_ n2_; intro BK419 BK420 HB; (try clear hb); (try clear hb2); (try clear hk); (try clear hi); obtain ⟨hcz17_0, hcz17_1, hcz17_2, hcz17_3, hcz17_4, hcz17_5, hcz17_6, hcz17_7⟩ := cls8 BK419.out; obtain ⟨hfz17_0, hfz17_1, hfz17_2, hfz17_3, hfz17_4, hfz17_5, hfz17_6, hfz17_7⟩ := frz8 BK419.out; obtain ⟨hcz18_0, hcz18_1, hcz18_2, hcz18_3, hcz18_4, hcz18_5, hcz18_6, hcz18_7⟩ := cls8 BK420.out; obtain ⟨hfz18_0, hfz18_1, hfz18_2, hfz18_3, hfz18_4, hfz18_5, hfz18_6, hfz18_7⟩ := frz8 BK420.out) | (go_at_call 32; (with_reducible refine (spec_l3Texts.calls k _ _ l0_6 _ _ l1_6 true _ ?side1 ?side2 ?side3 ?side4 A11.out).mono ?_); (case side1 => have X_ := HR0_6; exact cbl); (case side2 => exact HC0_6.out); (case side3 => have X_ := HR1_6; exact cbl); (case side4 => exact HC1_6.out); rintro e w' ⟨rfl, ⟨nd, rfl⟩⟩))
  go_meet
  case rel => exact ⟨_, (((l0_7.length : Int) != (l1_7.length : Int))), rfs, H', ⟨by first | omega | exact Nat.le_refl _⟩, ⟨bkw⟩, ⟨bkw⟩, ⟨blw⟩⟩
 case rest =>
  clear HC3
  (try clear c1); (try clear c2); (try clear p2); (try clear c3); (try clear c6); (try clear c6b0); (try clear c6b1); (try clear c7); (try clear c7b0); (try clear c7b1); (try clear c8); (try clear c8b0); (try clear c8b1); (try clear c10); (try clear c12); (try clear c13); (try clear c19); (try clear c24); (try clear c25); (try clear c29); (try clear c32); (try clear c35); (try clear hcz14_0 hcz14_1 hcz14_2 hcz14_3 hcz14_4 hcz14_5 hcz14_6 hcz14_7); (try clear hcz15_0 hcz15_1 hcz15_2 hcz15_3 hcz15_4 hcz15_5 hcz15_6 hcz15_7); (try clear hcz17_0 hcz17_1 hcz17_2 hcz17_3 hcz17_4 hcz17_5 hcz17_6 hcz17_7); (try clear hcz18_0 hcz18_1 hcz18_2 hcz18_3 hcz18_4 hcz18_5 hcz18_6 hcz18_7); (try clear hcz20_0 hcz20_1 hcz20_2 hcz20_3 hcz20_4 hcz20_5 hcz20_6 hcz20_7); (try clear hcz21_0 hcz21_1 hcz21_2 hcz21_3 hcz21_4 hcz21_5 hcz21_6 hcz21_7); (try clear hcz23_0 hcz23_1 hcz23_2 hcz23_3 hcz23_4 hcz23_5 hcz23_6 hcz23_7); (try clear hcz24_0 hcz24_1 hcz24_2 hcz24_3 hcz24_4 hcz24_5 hcz24_6 hcz24_7); (try clear hcz26_0 hcz26_1 hcz26_2 hcz26_3 hcz26_4 hcz26_5 hcz26_6 hcz26_7); (try clear hcz27_0 hcz27_1 hcz27_2 hcz27_3 hcz27_4 hcz27_5 hcz27_6 hcz27_7); (try clear hcz30_0 hcz30_1 hcz30_2 hcz30_3 hcz30_4 hcz30_5 hcz30_6 hcz30_7); (try clear hcz31_0 hcz31_1 hcz31_2 hcz31_3 hcz31_4 hcz31_5 hcz31_6 hcz31_7); (try clear hcz33_0 hcz33_1 hcz33_2 hcz33_3 hcz33_4 hcz33_5 hcz33_6 hcz33_7); (try clear hcz34_0 hcz34_1 hcz34_2 hcz34_3 hcz34_4 hcz34_5 hcz34_6 hcz34_7); (try clear hcz36_0 hcz36_1 hcz36_2 hcz36_3 hcz36_4 hcz36_5 hcz36_6 hcz36_7); (try clear hcz37_0 hcz37_1 hcz37_2 hcz37_3 hcz37_4 hcz37_5 hcz37_6 hcz37_7); (try clear hfz14_0 hfz14_1 hfz14_2 hfz14_3 hfz14_4 hfz14_5 hfz14_6 hfz14_7); (try clear hfz15_0 hfz15_1 hfz15_2 hfz15_3 hfz15_4 hfz15_5 hfz15_6 hfz15_7); (try clear hfz17_0 hfz17_1 hfz17_2 hfz17_3 hfz17_4 hfz17_5 hfz17_6 hfz17_7); (try clear hfz18_0 hfz18_1 hfz18_2 hfz18_3 hfz18_4 hfz18_5 hfz18_6 hfz18_7); (try clear hfz20_0 hfz20_1 hfz20_2 hfz20_3 hfz20_4 hfz20_5 hfz20_6 hfz20_7); (try clear hfz21_0 hfz21_1 hfz21_2 hfz21_3 hfz21_4 hfz21_5 hfz21_6 hfz21_7); (try clear hfz23_0 hfz23_1 hfz23_2 hfz23_3 hfz23_4 hfz23_5 hfz23_6 hfz23_7); (try clear hfz24_0 hfz24_1 hfz24_2 hfz24_3 hfz24_4 hfz24_5 hfz24_6 hfz24_7); (try clear hfz26_0 hfz26_1 hfz26_2 hfz26_3 hfz26_4 hfz26_5 hfz26_6 hfz26_7); (try clear hfz27_0 hfz27_1 hfz27_2 hfz27_3 hfz27_4 hfz27_5 hfz27_6 hfz27_7); (try clear hfz30_0 hfz30_1 hfz30_2 hfz30_3 hfz30_4 hfz30_5 hfz30_6 hfz30_7); (try clear hfz31_0 hfz31_1 hfz31_2 hfz31_3 hfz31_4 hfz31_5 hfz31_6 hfz31_7); (try clear hfz33_0 hfz33_1 hfz33_2 hfz33_3 hfz33_4 hfz33_5 hfz33_6 hfz33_7); (try clear hfz34_0 hfz34_1 hfz34_2 hfz34_3 hfz34_4 hfz34_5 hfz34_6 hfz34_7); (try clear hfz36_0 hfz36_1 hfz36_2 hfz36_3 hfz36_4 hfz36_5 hfz36_6 hfz36_7); (try clear hfz37_0 hfz37_1 hfz37_2 hfz37_3 hfz37_4 hfz37_5 hfz37_6 hfz37_7)
  obtain ⟨kq, x49_2, rfl, HA, HJ2, BK419, BK420, HB⟩ := hcut
  cases kq with
  | zero => exact absurd HA.out (by simp [spec_EqualTerm.j0])
  | succ kj2 =>
   have H := HA.out
   clear HA
   simp only [spec_EqualTerm.j0] at H
   by_cases c38 : x49_2 = true
   ·subst c38
    have H1 : (some false) = some r := by rw [if_pos rfl] at H; exact H
    clear H
    have H := H1
    clear H1
    obtain rfl := Option.some.inj H
    go_wp2
    go_ret
    exact ⟨rfw, blw⟩
   replace c38 := Bool.eq_false_iff.mpr c38
   subst c38
   have H1 : (spec_EqualTerm.l0 kj2 0 a0_0 a0_1 a0_2 a0_3 l0_4 l0_5 l0_6 l0_7 a1_0 a1_1 a1_2 a1_3 l1_4 l1_5 l1_6 l1_7) = some r := by rw [if_neg (show ¬ (false = true) by decide)] at H; exact H
   clear H
   have H := H1
   clear H1
   have H' := am H
   clear H
   go_wp2
   go_loopg [5] kj2 (fun kq v5 w' => ∃ (x5_2 : Int), v5 = .int .i64 x5_2 ∧ Aside0 (spec_EqualTerm.l0 kq x5_2 a0_0 a0_1 a0_2 a0_3 l0_4 l0_5 l0_6 l0_7 a1_0 a1_1 a1_2 a1_3 l1_4 l1_5 l1_6 l1_7 = some r) ∧ Aside0 (kq ≤ kj2) ∧ Aside0 (w'.heap[gb419]? = some (.cells #[.int .i64 a0_0, .string a0_1, .int .i64 a0_2, .int .i64 a0_3, (.slice A0_4 l0_4.length c0_4), (.slice A0_5 l0_5.length c0_5), (.slice A0_6 l0_6.length c0_6), (.slice A0_7 l0_7.length c0_7)] 44 (0, 0))) ∧ Aside0 (w'.heap[gb420]? = some (.cells #[.int .i64 a1_0, .string a1_1, .int .i64 a1_2, .int .i64 a1_3, (.slice A1_4 l1_4.length c1_4), (.slice A1_5 l1_5.length c1_5), (.slice A1_6 l1_6.length c1_6), (.slice A1_7 l1_7.length c1_7)] 44 (0, 0))) ∧ Aside0 (Below w.heap.size w w'))
   case atStart => exact ⟨(0), rfs, H', ⟨Nat.le_refl _⟩, ⟨bkw⟩, ⟨bkw⟩, ⟨blw⟩⟩
   case round =>
    clear H'
    (try clear c1); (try clear c2); (try clear p2 p2); (try clear c3); (try clear c6); (try clear c6b0); (try clear c6b1); (try clear c7); (try clear c7b0); (try clear c7b1); (try clear c8); (try clear c8b0); (try clear c8b1); (try clear c10); (try clear c12); (try clear c13); (try clear c19); (try clear c24); (try clear c25); (try clear c29); (try clear c32); (try clear c35); (try clear c38); (try clear hcz14_0 hcz14_1 hcz14_2 hcz14_3 hcz14_4 hcz14_5 hcz14_6 hcz14_7); (try clear hcz15_0 hcz15_1 hcz15_2 hcz15_3 hcz15_4 hcz15_5 hcz15_6 hcz15_7); (try clear hcz17_0 hcz17_1 hcz17_2 hcz17_3 hcz17_4 hcz17_5 hcz17_6 hcz17_7); (try clear hcz18_0 hcz18_1 hcz18_2 hcz18_3 hcz18_4 hcz18_5 hcz18_6 hcz18_7); (try clear hcz20_0 hcz20_1 hcz20_2 hcz20_3 hcz20_4 hcz20_5 hcz20_6 hcz20_7); (try clear hcz21_0 hcz21_1 hcz21_2 hcz21_3 hcz21_4 hcz21_5 hcz21_6 hcz21_7); (try clear hcz23_0 hcz23_1 hcz23_2 hcz23_3 hcz23_4 hcz23_5 hcz23_6 hcz23_7); (try clear hcz24_0 hcz24_1 hcz24_2 hcz24_3 hcz24_4 hcz24_5 hcz24_6 hcz24_7); (try clear hcz26_0 hcz26_1 hcz26_2 hcz26_3 hcz26_4 hcz26_5 hcz26_6 hcz26_7); (try clear hcz27_0 hcz27_1 hcz27_2 hcz27_3 hcz27_4 hcz27_5 hcz27_6 hcz27_7); (try clear hcz30_0 hcz30_1 hcz30_2 hcz30_3 hcz30_4 hcz30_5 hcz30_6 hcz30_7); (try clear hcz31_0 hcz31_1 hcz31_2 hcz31_3 hcz31_4 hcz31_5 hcz31_6 hcz31_7); (try clear hcz33_0 hcz33_1 hcz33_2 hcz33_3 hcz33_4 hcz33_5 hcz33_6 hcz33_7); (try clear hcz34_0 hcz34_1 hcz34_2 hcz34_3 hcz34_4 hcz34_5 hcz34_6 hcz34_7); (try clear hcz36_0 hcz36_1 hcz36_2 hcz36_3 hcz36_4 hcz36_5 hcz36_6 hcz36_7); (try clear hcz37_0 hcz37_1 hcz37_2 hcz37_3 hcz37_4 hcz37_5 hcz37_6 hcz37_7); (try clear hfz14_0 hfz14_1 hfz14_2 hfz14_3 hfz14_4 hfz14_5 hfz14_6 hfz14_7); (try clear hfz15_0 hfz15_1 hfz15_2 hfz15_3 hfz15_4 hfz15_5 hfz15_6 hfz15_7); (try clear hfz17_0 hfz17_1 hfz17_2 hfz17_3 hfz17_4 hfz17_5 hfz17_6 hfz17_7); (try clear hfz18_0 hfz18_1 hfz18_2 hfz18_3 hfz18_4 hfz18_5 hfz18_6 hfz18_7); (try clear hfz20_0 hfz20_1 hfz20_2 hfz20_3 hfz20_4 hfz20_5 hfz20_6 hfz20_7); (try clear hfz21_0 hfz21_1 hfz21_2 hfz21_3 hfz21_4 hfz21_5 hfz21_6 hfz21_7); (try clear hfz23_0 hfz23_1 hfz23_2 hfz23_3 hfz23_4 hfz23_5 hfz23_6 hfz23_7); (try clear hfz24_0 hfz24_1 hfz24_2 hfz24_3 hfz24_4 hfz24_5 hfz24_6 hfz24_7); (try clear hfz26_0 hfz26_1 hfz26_2 hfz26_3 hfz26_4 hfz26_5 hfz26_6 hfz26_7); (try clear hfz27_0 hfz27_1 hfz27_2 hfz27_3 hfz27_4 hfz27_5 hfz27_6 hfz27_7); (try clear hfz30_0 hfz30_1 hfz30_2 hfz30_3 hfz30_4 hfz30_5 hfz30_6 hfz30_7); (try clear hfz31_0 hfz31_1 hfz31_2 hfz31_3 hfz31_4 hfz31_5 hfz31_6 hfz31_7); (try clear hfz33_0 hfz33_1 hfz33_2 hfz33_3 hfz33_4 hfz33_5 hfz33_6 hfz33_7); (try clear hfz34_0 hfz34_1 hfz34_2 hfz34_3 hfz34_4 hfz34_5 hfz34_6 hfz34_7); (try clear hfz36_0 hfz36_1 hfz36_2 hfz36_3 hfz36_4 hfz36_5 hfz36_6 hfz36_7); (try clear hfz37_0 hfz37_1 hfz37_2 hfz37_3 hfz37_4 hfz37_5 hfz37_6 hfz37_7)
    obtain ⟨x5_2, rfl, HA, HK2, BK419, BK420, HB⟩ := hrel
    cases gk with
    | zero => exact absurd HA.out (by simp [spec_EqualTerm.l0])
    | succ k2 =>
     have H := HA.out
     clear HA
     simp only [spec_EqualTerm.l0] at H
     by_cases c39 : x5_2 < (l0_7.length : Int)
     case neg =>
      rw [if_neg c39] at H
      have c39b0 : decide (x5_2 < (l0_7.length : Int)) = false := decide_eq_false c39
      clear c39
      obtain rfl := Option.some.inj H
      have hnb49 := NB419_420.out
      have hnc49 := NB420_419.out
      obtain ⟨hcz50_0, hcz50_1, hcz50_2, hcz50_3, hcz50_4, hcz50_5, hcz50_6, hcz50_7⟩ := cls8 BK419.out
      obtain ⟨hfz50_0, hfz50_1, hfz50_2, hfz50_3, hfz50_4, hfz50_5, hfz50_6, hfz50_7⟩ := frz8 BK419.out
      go_wp2
      go_ret
      exact ⟨rfw, blw⟩
     rw [if_pos c39] at H
     have c39b0 : decide (x5_2 < (l0_7.length : Int)) = true := decide_eq_true c39
     clear c39
     by_cases c40 : 0 ≤ x5_2
     case neg =>
      rw [if_neg c40] at H
      exact absurd H (by simp)
     rw [if_pos c40] at H
     have c40b0 : decide (0 ≤ x5_2) = true := decide_eq_true c40
     clear c40
     by_cases c41 : x5_2 < (l1_7.length : Int)
     case neg =>
      rw [if_neg c41] at H
      exact absurd H (by simp)
     rw [if_pos c41] at H
     have c41b0 : decide (x5_2 < (l1_7.length : Int)) = true := decide_eq_true c41
     clear c41
     replace H := Option.bind_eq_some_iff.mp H
     obtain ⟨t425, A420, H⟩ := H
     replace H : (if t425 = true then (spec_EqualTerm.l0 k2 (wrap64 (x5_2 + 1)) a0_0 a0_1 a0_2 a0_3 l0_4 l0_5 l0_6 l0_7 a1_0 a1_1 a1_2 a1_3 l1_4 l1_5 l1_6 l1_7) else (some false)) = some r := H
     have A42 := am A420
     clear A420
     have HC43 := am H
     clear H
     have hnb44 := NB419_420.out
     have hnc44 := NB420_419.out
     obtain ⟨hcz45_0, hcz45_1, hcz45_2, hcz45_3, hcz45_4, hcz45_5, hcz45_6, hcz45_7⟩ := cls8 BK419.out
     obtain ⟨hfz45_0, hfz45_1, hfz45_2, hfz45_3, hfz45_4, hfz45_5, hfz45_6, hfz45_7⟩ := frz8 BK419.out
     try go_wp2
     have n0_ := am (blk_drew BK419.out)
     have n1_ := am (blk_drew BK420.out)
     have n2_ := am (below_drew1 HB.out)
     clear BK419
     clear BK420
     clear HB
     revert n0_ n1_ n2_
     intro BK419 BK420 HB
     have p423 : 0 ≤ (x5_2 : Int) := of_decide_eq_true asw
     have q423 : x5_2 < (l0_7.length : Int) := of_decide_eq_true asw
     obtain ⟨ad423, A423_4, c423_4, A423_5, c423_5, A423_6, c423_6, A423_7, c423_7, e423, hx423_0, hx423_1, hx423_2, hx423_3, hx423_4, hx423_5, hx423_6, hx423_7, hl423_4, hi423_4, hl423_5, hi423_5, hl423_6, hi423_6, hl423_7, hi423_7⟩ := at_T44 HR0_7.out x5_2 p423 q423
     have hw423_7 := hx423_7
     have hw423_6 := hx423_6
     have hw423_5 := hx423_5
     have hw423_4 := hx423_4
     have hw423_3 := hx423_3
     have hw423_2 := hx423_2
     have hw423_1 := hx423_1
     have hw423_0 := hx423_0
     cases e423
     replace hx423_0 := upw HB.out hx423_0
     replace hx423_1 := upw HB.out hx423_1
     replace hx423_2 := upw HB.out hx423_2
     replace hx423_3 := upw HB.out hx423_3
     replace hx423_4 := upw HB.out hx423_4
     replace hx423_5 := upw HB.out hx423_5
     replace hx423_6 := upw HB.out hx423_6
     replace hx423_7 := upw HB.out hx423_7
     have HR423_4 := am hi423_4
     have HC423_4 := am hl423_4
     clear hi423_4 hl423_4
     have HR423_5 := am hi423_5
     have HC423_5 := am hl423_5
     clear hi423_5 hl423_5
     have HR423_6 := am hi423_6
     have HC423_6 := am hl423_6
     clear hi423_6 hl423_6
     have HR423_7 := am hi423_7
     have HC423_7 := am hl423_7
     clear hi423_7 hl423_7
     replace p423 := eq_true p423
     replace q423 := eq_true q423
     have p424 : 0 ≤ (x5_2 : Int) := of_decide_eq_true asw
     have q424 : x5_2 < (l1_7.length : Int) := of_decide_eq_true asw
     obtain ⟨ad424, A424_4, c424_4, A424_5, c424_5, A424_6, c424_6, A424_7, c424_7, e424, hx424_0, hx424_1, hx424_2, hx424_3, hx424_4, hx424_5, hx424_6, hx424_7, hl424_4, hi424_4, hl424_5, hi424_5, hl424_6, hi424_6, hl424_7, hi424_7⟩ := at_T44 HR1_7.out x5_2 p424 q424
     have hw424_7 := hx424_7
     have hw424_6 := hx424_6
     have hw424_5 := hx424_5
     have hw424_4 := hx424_4
     have hw424_3 := hx424_3
     have hw424_2 := hx424_2
     have hw424_1 := hx424_1
     have hw424_0 := hx424_0
     cases e424
     replace hx424_0 := upw HB.out hx424_0
     replace hx424_1 := upw HB.out hx424_1
     replace hx424_2 := upw HB.out hx424_2
     replace hx424_3 := upw HB.out hx424_3
     replace hx424_4 := upw HB.out hx424_4
     replace hx424_5 := upw HB.out hx424_5
     replace hx424_6 := upw HB.out hx424_6
     replace hx424_7 := upw HB.out hx424_7
     have HR424_4 := am hi424_4
     have HC424_4 := am hl424_4
     clear hi424_4 hl424_4
     have HR424_5 := am hi424_5
     have HC424_5 := am hl424_5
     clear hi424_5 hl424_5
     have HR424_6 := am hi424_6
     have HC424_6 := am hl424_6
     clear hi424_6 hl424_6
     have HR424_7 := am hi424_7
     have HC424_7 := am hl424_7
     clear hi424_7 hl424_7
     replace p424 := eq_true p424
     replace q424 := eq_true q424
     refine start_ (n := 12) (S := fun w' => w'.cell? ⟨gb419, 0, none⟩ = some (.int .i64 a0_0) ∧ w'.cell? ⟨gb419, 1, none⟩ = some (.string a0_1) ∧ w'.cell? ⟨gb419, 2, none⟩ = some (.int .i64 a0_2) ∧ w'.cell? ⟨gb419, 3, none⟩ = some (.int .i64 a0_3) ∧ w'.cell? ⟨gb419, 4, none⟩ = some (.slice A0_4 l0_4.length c0_4) ∧ w'.cell? ⟨gb419, 5, none⟩ = some (.slice A0_5 l0_5.length c0_5) ∧ w'.cell? ⟨gb419, 6, none⟩ = some (.slice A0_6 l0_6.length c0_6) ∧ w'.cell? ⟨gb419, 7, none⟩ = some (.slice (some ad423) l0_7.length c0_7) ∧ w'.cell? ⟨gb420, 0, none⟩ = some (.int .i64 a1_0) ∧ w'.cell? ⟨gb420, 1, none⟩ = some (.string a1_1) ∧ w'.cell? ⟨gb420, 2, none⟩ = some (.int .i64 a1_2) ∧ w'.cell? ⟨gb420, 3, none⟩ = some (.int .i64 a1_3) ∧ w'.cell? ⟨gb420, 4, none⟩ = some (.slice A1_4 l1_4.length c1_4) ∧ w'.cell? ⟨gb420, 5, none⟩ = some (.slice A1_5 l1_5.length c1_5) ∧ w'.cell? ⟨gb420, 6, none⟩ = some (.slice A1_6 l1_6.length c1_6) ∧ w'.cell? ⟨gb420, 7, none⟩ = some (.slice (some ad424) l1_7.length c1_7) ∧ w'.cell? (ad423.add ((x5_2).toNat * 8)) = some (.int .i64 ((rd_T44 l0_7 x5_2).f0)) ∧ w'.cell? ⟨(ad423.add ((x5_2).toNat * 8)).block, (ad423.add ((x5_2).toNat * 8)).off + 1, none⟩ = some (.string ((rd_T44 l0_7 x5_2).f1)) ∧ w'.cell? ⟨(ad423.add ((x5_2).toNat * 8)).block, (ad423.add ((x5_2).toNat * 8)).off + 2, none⟩ = some (.int .i64 ((rd_T44 l0_7 x5_2).f2)) ∧ w'.cell? ⟨(ad423.add ((x5_2).toNat * 8)).block, (ad423.add ((x5_2).toNat * 8)).off + 3, none⟩ = some (.int .i64 ((rd_T44 l0_7 x5_2).f3.f0)) ∧ w'.cell? ⟨(ad423.add ((x5_2).toNat * 8)).block, (ad423.add ((x5_2).toNat * 8)).off + 4, none⟩ = some (.slice A423_4 ((rd_T44 l0_7 x5_2).f3.f1).length c423_4) ∧ w'.cell? ⟨(ad423.add ((x5_2).toNat * 8)).block, (ad423.add ((x5_2).toNat * 8)).off + 5, none⟩ = some (.slice A423_5 ((rd_T44 l0_7 x5_2).f3.f2).length c423_5) ∧ w'.cell? ⟨(ad423.add ((x5_2).toNat * 8)).block, (ad423.add ((x5_2).toNat * 8)).off + 6, none⟩ = some (.slice A423_6 ((rd_T44 l0_7 x5_2).f4).length c423_6) ∧ w'.cell? ⟨(ad423.add ((x5_2).toNat * 8)).block, (ad423.add ((x5_2).toNat * 8)).off + 7, none⟩ = some (.slice A423_7 ((rd_T44 l0_7 x5_2).f5).length c423_7) ∧ w'.cell? (ad424.add ((x5_2).toNat * 8)) = some (.int .i64 ((rd_T44 l1_7 x5_2).f0)) ∧ w'.cell? ⟨(ad424.add ((x5_2).toNat * 8)).block, (ad424.add ((x5_2).toNat * 8)).off + 1, none⟩ = some (.string ((rd_T44 l1_7 x5_2).f1)) ∧ w'.cell? ⟨(ad424.add ((x5_2).toNat * 8)).block, (ad424.add ((x5_2).toNat * 8)).off + 2, none⟩ = some (.int .i64 ((rd_T44 l1_7 x5_2).f2)) ∧ w'.cell? ⟨(ad424.add ((x5_2).toNat * 8)).block, (ad424.add ((x5_2).toNat * 8)).off + 3, none⟩ = some (.int .i64 ((rd_T44 l1_7 x5_2).f3.f0)) ∧ w'.cell? ⟨(ad424.add ((x5_2).toNat * 8)).block, (ad424.add ((x5_2).toNat * 8)).off + 4, none⟩ = some (.slice A424_4 ((rd_T44 l1_7 x5_2).f3.f1).length c424_4) ∧ w'.cell? ⟨(ad424.add ((x5_2).toNat * 8)).block, (ad424.add ((x5_2).toNat * 8)).off + 5, none⟩ = some (.slice A424_5 ((rd_T44 l1_7 x5_2).f3.f2).length c424_5) ∧ w'.cell? ⟨(ad424.add ((x5_2).toNat * 8)).block, (ad424.add ((x5_2).toNat * 8)).off + 6, none⟩ = some (.slice A424_6 ((rd_T44 l1_7 x5_2).f4).length c424_6) ∧ w'.cell? ⟨(ad424.add ((x5_2).toNat * 8)).block, (ad424.add ((x5_2).toNat * 8)).off + 7, none⟩ = some (.slice A424_7 ((rd_T44 l1_7 x5_2).f5).length c424_7)) (ds := []) #[false,false,false,false,false,false,false,false,false,false,false,false] kr rfl rfl ⟨(blk_cell BK419.out 0).trans rfl, (blk_cell BK419.out 1).trans rfl, (blk_cell BK419.out 2).trans rfl, (blk_cell BK419.out 3).trans rfl, (blk_cell BK419.out 4).trans rfl, (blk_cell BK419.out 5).trans rfl, (blk_cell BK419.out 6).trans rfl, (blk_cell BK419.out 7).trans rfl, (blk_cell BK420.out 0).trans rfl, (blk_cell BK420.out 1).trans rfl, (blk_cell BK420.out 2).trans rfl, (blk_cell BK420.out 3).trans rfl, (blk_cell BK420.out 4).trans rfl, (blk_cell BK420.out 5).trans rfl, (blk_cell BK420.out 6).trans rfl, (blk_cell BK420.out 7).trans rfl, (upw HB.out hw423_0), (upw HB.out hw423_1), (upw HB.out hw423_2), (upw HB.out hw423_3), (upw HB.out hw423_4), (upw HB.out hw423_5), (upw HB.out hw423_6), (upw HB.out hw423_7), (upw HB.out hw424_0), (upw HB.out hw424_1), (upw HB.out hw424_2), (upw HB.out hw424_3), (upw HB.out hw424_4), (upw HB.out hw424_5), (upw HB.out hw424_6), (upw HB.out hw424_7)⟩ (fun hHeld => ?_); refine with_tabW spec_EqualTerm.tab6 spec_EqualTerm.bits6 (fun HT_ HW_ => ?_)
     generalize wr.drew = w46 at BK419 BK420 HB HR423_4 HR423_5 HR423_6 HR423_7 HR424_4 HR424_5 HR424_6 HR424_7 hx423_0 hx423_1 hx423_2 hx423_3 hx423_4 hx423_5 hx423_6 hx423_7 hx424_0 hx424_1 hx424_2 hx424_3 hx424_4 hx424_5 hx424_6 hx424_7 hHeld ⊢
     refine pure_ (i := 0) (N := some 57) (v := ?_) (a' := ?_) (bm 12 1) rfl rfl (any_of HT_.out kr) qi (Or.inl ⟨by rfl, ?_⟩) ?_ ?_
     rotate_left
     ·intro w'
      go_simp
      with_reducible rfl
     rotate_left
     ·simp only [sx]
      rfl
     refine pure_ (i := 2) (N := some 59) (v := ?_) (a' := ?_) (bm 12 5) rfl rfl (any_of HT_.out kr) qi (Or.inl ⟨by rfl, ?_⟩) ?_ ?_
     rotate_left
     ·intro w'
      go_simp
      with_reducible rfl
     rotate_left
     ·simp only [sx]
      rfl
     refine pure_ (i := 5) (N := some 62) (v := ?_) (a' := ?_) (bm 12 37) rfl rfl (any_of HT_.out kr) qi (Or.inl ⟨by rfl, ?_⟩) ?_ ?_
     rotate_left
     ·intro w'
      go_simp
      with_reducible rfl
     rotate_left
     ·simp only [sx]
      rfl
     refine pure_ (i := 7) (N := some 64) (v := ?_) (a' := ?_) (bm 12 165) rfl rfl (any_of HT_.out kr) qi (Or.inl ⟨by rfl, ?_⟩) ?_ ?_
     rotate_left
     ·intro w'
      go_simp
      with_reducible rfl
     rotate_left
     ·simp only [sx]
      rfl
     refine take_ (i := 1) (N := some 58) (v := ?_) (a' := ?_) (bm 12 167) rfl rfl (take_ofW HT_.out HW_.out kr) qi (Or.inl ⟨by rfl, ?_⟩) hHeld ?_ ?_
     rotate_left
     ·rintro w' ⟨s0, s1, s2, s3, s4, s5, s6, s7, s8, s9, s10, s11, s12, s13, s14, s15, s16, s17, s18, s19, s20, s21, s22, s23, s24, s25, s26, s27, s28, s29, s30, s31⟩
      go_simp
      with_reducible rfl
     rotate_left
     ·simp only [sx]
      rfl
     refine pure_ (i := 3) (N := some 60) (v := ?_) (a' := ?_) (bm 12 175) rfl rfl (any_of HT_.out kr) qi (Or.inl ⟨by rfl, ?_⟩) ?_ ?_
     rotate_left
     ·intro w'
      go_simp
      with_reducible rfl
     rotate_left
     ·simp only [sx]
      rfl
     refine take_ (i := 4) (N := some 61) (v := ?_) (a' := ?_) (bm 12 191) rfl rfl (take_ofW HT_.out HW_.out kr) qi (Or.inl ⟨by rfl, ?_⟩) hHeld ?_ ?_
     rotate_left
     ·rintro w' ⟨s0, s1, s2, s3, s4, s5, s6, s7, s8, s9, s10, s11, s12, s13, s14, s15, s16, s17, s18, s19, s20, s21, s22, s23, s24, s25, s26, s27, s28, s29, s30, s31⟩
      go_simp
      with_reducible rfl
     rotate_left
     ·simp only [sx]
      rfl
     refine take_ (i := 6) (N := some 63) (v := ?_) (a' := ?_) (bm 12 255) rfl rfl (take_ofW HT_.out HW_.out kr) qi (Or.inl ⟨by rfl, ?_⟩) hHeld ?_ ?_
     rotate_left
     ·rintro w' ⟨s0, s1, s2, s3, s4, s5, s6, s7, s8, s9, s10, s11, s12, s13, s14, s15, s16, s17, s18, s19, s20, s21, s22, s23, s24, s25, s26, s27, s28, s29, s30, s31⟩
      go_simp
      with_reducible rfl
     rotate_left
     ·simp only [sx]
      rfl
     refine pure_ (i := 8) (N := some 65) (v := ?_) (a' := ?_) (bm 12 511) rfl rfl (any_of HT_.out kr) qi (Or.inl ⟨by rfl, ?_⟩) ?_ ?_
     rotate_left
     ·intro w'
      go_simp
      with_reducible rfl
     rotate_left
     ·simp only [sx]
      rfl
     refine take_ (i := 9) (N := some 66) (v := ?_) (a' := ?_) (bm 12 1023) rfl rfl (take_ofW HT_.out HW_.out kr) qi (Or.inl ⟨by rfl, ?_⟩) hHeld ?_ ?_
     rotate_left
     ·rintro w' ⟨s0, s1, s2, s3, s4, s5, s6, s7, s8, s9, s10, s11, s12, s13, s14, s15, s16, s17, s18, s19, s20, s21, s22, s23, s24, s25, s26, s27, s28, s29, s30, s31⟩
      go_simp
      with_reducible rfl
     rotate_left
     ·simp only [sx]
      rfl
     refine one_ (i := 10) (N := some 67) (bm 12 2047) rfl rfl (one_of HT_.out kr) (by decide) (fun K hK => ?_)
     refine goes_ Try.func24 kr rfl #[.agg #[.int .i64 ((rd_T44 l0_7 x5_2).f0), .string ((rd_T44 l0_7 x5_2).f1), .int .i64 ((rd_T44 l0_7 x5_2).f2), .int .i64 ((rd_T44 l0_7 x5_2).f3.f0), .slice A423_4 ((rd_T44 l0_7 x5_2).f3.f1).length c423_4, .slice A423_5 ((rd_T44 l0_7 x5_2).f3.f2).length c423_5, .slice A423_6 ((rd_T44 l0_7 x5_2).f4).length c423_6, .slice A423_7 ((rd_T44 l0_7 x5_2).f5).length c423_7], .agg #[.int .i64 ((rd_T44 l1_7 x5_2).f0), .string ((rd_T44 l1_7 x5_2).f1), .int .i64 ((rd_T44 l1_7 x5_2).f2), .int .i64 ((rd_T44 l1_7 x5_2).f3.f0), .slice A424_4 ((rd_T44 l1_7 x5_2).f3.f1).length c424_4, .slice A424_5 ((rd_T44 l1_7 x5_2).f3.f2).length c424_5, .slice A424_6 ((rd_T44 l1_7 x5_2).f4).length c424_6, .slice A424_7 ((rd_T44 l1_7 x5_2).f5).length c424_7]] (by rfl) rfl rfl mpw ?_
     with_reducible refine (ih k2 (by have := HJ2.out; have := HK2.out; omega) ((rd_T44 l0_7 x5_2).f0) ((rd_T44 l0_7 x5_2).f1) ((rd_T44 l0_7 x5_2).f2) ((rd_T44 l0_7 x5_2).f3.f0) _ _ ((rd_T44 l0_7 x5_2).f3.f1) _ _ ((rd_T44 l0_7 x5_2).f3.f2) _ _ ((rd_T44 l0_7 x5_2).f4) _ _ ((rd_T44 l0_7 x5_2).f5) ((rd_T44 l1_7 x5_2).f0) ((rd_T44 l1_7 x5_2).f1) ((rd_T44 l1_7 x5_2).f2) ((rd_T44 l1_7 x5_2).f3.f0) _ _ ((rd_T44 l1_7 x5_2).f3.f1) _ _ ((rd_T44 l1_7 x5_2).f3.f2) _ _ ((rd_T44 l1_7 x5_2).f4) _ _ ((rd_T44 l1_7 x5_2).f5) t425 _ ?side1 ?side2 ?side3 ?side4 ?side5 ?side6 ?side7 ?side8 ?side9 ?side10 ?side11 ?side12 ?side13 ?side14 ?side15 ?side16 A42.out).mono ?_
     (case side1 => have X_ := HR423_4; exact cbl)
     (case side2 => exact HC423_4.out)
     (case side3 => have X_ := HR423_5; exact cbl)
     (case side4 => exact HC423_5.out)
     (case side5 => have X_ := HR423_6; exact cbl)
     (case side6 => exact HC423_6.out)
     (case side7 => have X_ := HR423_7; exact cbl)
     (case side8 => exact HC423_7.out)
     (case side9 => have X_ := HR424_4; exact cbl)
     (case side10 => exact HC424_4.out)
     (case side11 => have X_ := HR424_5; exact cbl)
     (case side12 => exact HC424_5.out)
     (case side13 => have X_ := HR424_6; exact cbl)
     (case side14 => exact HC424_6.out)
     (case side15 => have X_ := HR424_7; exact cbl)
     (case side16 => exact HC424_7.out)
     rintro e w47 ⟨rfl, hb⟩
     refine ⟨_, rfl, ?_⟩
     have n0_ := am (blk_below (g := gb419) bkw hb)
     have n1_ := am (blk_below (g := gb420) bkw hb)
     have n2_ := am (below_step blw hb)
     clear BK419
     clear BK420
     clear HB
     revert n0_ n1_ n2_
     intro BK419 BK420 HB
     (try clear hb)
     (try clear hb2)
     (try clear hk)
     (try clear hi)
     refine hK.out _ _ ⟨(blk_cell BK419.out 0).trans rfl, (blk_cell BK419.out 1).trans rfl, (blk_cell BK419.out 2).trans rfl, (blk_cell BK419.out 3).trans rfl, (blk_cell BK419.out 4).trans rfl, (blk_cell BK419.out 5).trans rfl, (blk_cell BK419.out 6).trans rfl, (blk_cell BK419.out 7).trans rfl, (blk_cell BK420.out 0).trans rfl, (blk_cell BK420.out 1).trans rfl, (blk_cell BK420.out 2).trans rfl, (blk_cell BK420.out 3).trans rfl, (blk_cell BK420.out 4).trans rfl, (blk_cell BK420.out 5).trans rfl, (blk_cell BK420.out 6).trans rfl, (blk_cell BK420.out 7).trans rfl, (upw HB.out hw423_0), (upw HB.out hw423_1), (upw HB.out hw423_2), (upw HB.out hw423_3), (upw HB.out hw423_4), (upw HB.out hw423_5), (upw HB.out hw423_6), (upw HB.out hw423_7), (upw HB.out hw424_0), (upw HB.out hw424_1), (upw HB.out hw424_2), (upw HB.out hw424_3), (upw HB.out hw424_4), (upw HB.out hw424_5), (upw HB.out hw424_6), (upw HB.out hw424_7)⟩ (fun hHeld => ?_)
     clear hK K
     refine norm_ (a' := ?_) ?_ ?_
     rotate_left
     ·show Act.put _ (some 67) _ = _
      simp only [sx]
      rfl
     refine pure_ (i := 11) (N := some 68) (v := ?_) (a' := ?_) (bm 12 4095) rfl rfl (any_of HT_.out kr) qi (Or.inl ⟨by rfl, ?_⟩) ?_ ?_
     rotate_left
     ·intro w'
      go_simp
      with_reducible rfl
     rotate_left
     ·simp only [sx]
      rfl
     refine done_ (done_of HT_.out kr) ?_
     go_upto_if 68 with (fail)
     have H := HC43.out
     clear HC43
     by_cases c48 : t425 = true
     case neg =>
      replace c48 := Bool.eq_false_iff.mpr c48
      subst c48
      have H1 : (some false) = some r := by rw [if_neg (show ¬ (false = true) by decide)] at H; exact H
      clear H
      have H := H1
      clear H1
      obtain rfl := Option.some.inj H
      go_wp2
      go_ret
      exact ⟨rfw, blw⟩
     subst c48
     have H1 : (spec_EqualTerm.l0 k2 (wrap64 (x5_2 + 1)) a0_0 a0_1 a0_2 a0_3 l0_4 l0_5 l0_6 l0_7 a1_0 a1_1 a1_2 a1_3 l1_4 l1_5 l1_6 l1_7) = some r := by rw [if_pos rfl] at H; exact H
     clear H
     have H := H1
     clear H1
     have H' := am H
     clear H
     go_wp2
     go_roundg k2
     case measure => have := HJ2.out; have := HK2.out; omega
     case rel => exact ⟨(wrap64 (x5_2 + 1)), rfs, H', ⟨by have := HJ2.out; have := HK2.out; omega⟩, ⟨bkw⟩, ⟨bkw⟩, ⟨blw⟩⟩

end Go.Proofs.Ytpkppeicceehcaa.Px
end
