/- Printed by a program of this session: what functions of the translation come to, each contract as it stands. No condition. -/
import Derived.Test.YtpkppeicceehcaaZEqualQuerySh
import Derived.Test.YtpkppeicceehcaaZEqualQueryPx0
import Derived.Test.YtpkppeicceehcaaZEqualQueryPx1M
section
namespace Go.Proofs.Ytpkppeicceehcaa.Px
set_option maxHeartbeats 8000000
set_option maxRecDepth 100000
open Go.RowKit Go.Proofs.Ytpkppeicceehcaa.Ext Go.Proofs.YtpkppeicceehcaaW.PrintWords Go.Proofs.YtpkppeicceehcaaW.PrintLast Go.Proofs.YtpkppeicceehcaaW.PrintMore
attribute [local go_sem] max2_int min2_int max_two min_two max_three min_three max_four min_four   -- for this text's walks alone
set_option linter.unusedVariables false
set_option linter.unusedSimpArgs false

attribute [local go_sem high] eqA77
-- NOT PRINTED: function 26 (impl_Comp)

/-! ### impl_Gen: function 33 -/
def impl_Gen.l0 : Nat → List (S77) → List (S77) → Int → Int → Option (Bool)
 | 0, _, _, _, _ => none
 | k + 1, x0, x1, x12, x13 => if x13 < x12 then (if 0 ≤ x13 then (if x13 < (x0.length : Int) then (if x13 < (x1.length : Int) then (if (!((((rd_T77 x0 x13).f0).toList) == (((rd_T77 x1 x13).f0).toList)) || (!((((rd_T77 x0 x13).f1).toList) == (((rd_T77 x1 x13).f1).toList)))) = true then (some false) else (impl_Gen.l0 k x0 x1 x12 (wrap64 (x13 + 1)))) else (none)) else (none)) else (none)) else (some true)
def impl_Gen.f (k : Nat) (l0 : List (S77)) (l1 : List (S77)) : Option (Bool) := if (l0.length : Int) = (l1.length : Int) then (impl_Gen.l0 k l0 l1 (l0.length : Int) 0) else (some false)
theorem impl_Gen.calls (k : Nat) (A0 : Option Addr) (c0 : Nat) (l0 : List (S77)) (A1 : Option Addr) (c1 : Nat) (l1 : List (S77)) (r : Bool) (w : World) (hr0 : Kd.C k77 w A0 l0.length l0) (hc0 : l0.length ≤ c0) (hr1 : Kd.C k77 w A1 l1.length l1) (hc1 : l1.length ≤ c1) (h : impl_Gen.f k l0 l1 = some r) :
  Calls Try.prog 33 #[.slice A0 l0.length c0, .slice A1 l1.length c1] w fun e w' => e = .returned (.bool r) ∧ Drawn0 w w' := by
 have hu77 := Try.underlying77
 have HR0 := am hr0
 have HC0 := am hc0
 clear hr0 hc0
 have HR1 := am hr1
 have HC1 := am hc1
 clear hr1 hc1
 have H : (if (l0.length : Int) = (l1.length : Int) then (impl_Gen.l0 k l0 l1 (l0.length : Int) 0) else (some false)) = some r := h
 clear h
 by_cases c3 : (l0.length : Int) = (l1.length : Int)
 case neg =>
  rw [if_neg c3] at H
  have c3b0 : ((l0.length : Int) == (l1.length : Int)) = false := beq_eq_false_iff_ne.mpr c3
  have c3b1 : ((l0.length : Int) != (l1.length : Int)) = true := bne_iff_ne.mpr c3
  have c3b2 : (l0.length == l1.length) = false := by first | simpa using c3 | (simp at c3 ⊢; omega)
  obtain rfl := Option.some.inj H
  go_enter Try.func33, Try.ntmps33
  go_wp2
  repeat (go_quiet (fail); try go_wp2)
  go_ret
  exact ⟨rfs, by repeat (first | exact Drawn0.refl _ | apply Drawn0.step)⟩
 rw [if_pos c3] at H
 have c3b0 : ((l0.length : Int) == (l1.length : Int)) = true := beq_iff_eq.mpr c3
 have c3b1 : ((l0.length : Int) != (l1.length : Int)) = false := bne_eq_false_iff_eq.mpr c3
 have c3b2 : (l0.length == l1.length) = true := by first | simpa using c3 | (simp at c3 ⊢; omega)
 clear c3
 have H' := am H
 clear H
 go_enter Try.func33, Try.ntmps33
 go_wp2
 repeat (go_quiet (fail); try go_wp2)
 go_loopg [13] k (fun kq v13 w' => ∃ (x13_1 : Int), v13 = .int .i64 x13_1 ∧ Aside0 (impl_Gen.l0 kq l0 l1 (l0.length : Int) x13_1 = some r) ∧ Aside0 (kq ≤ k) ∧ Drawn0 w w')
 case atStart => exact ⟨(0), rfs, H', ⟨Nat.le_refl _⟩, by repeat (first | exact Drawn0.refl _ | apply Drawn0.step)⟩
 case round =>
  clear H'
  (try clear c1); (try clear p2); (try clear c3); (try clear c3b0); (try clear c3b1); (try clear c3b2)
  obtain ⟨x13_1, rfl, HA, HK1, ⟨m1, rfl⟩⟩ := hrel
  cases gk with
  | zero => exact absurd HA.out (by simp [impl_Gen.l0])
  | succ k1 =>
   have H := HA.out
   clear HA
   simp only [impl_Gen.l0] at H
   by_cases c4 : x13_1 < (l0.length : Int)
   case neg =>
    rw [if_neg c4] at H
    have c4b0 : decide (x13_1 < (l0.length : Int)) = false := decide_eq_false c4
    clear c4
    obtain rfl := Option.some.inj H
    go_wp2
    repeat (go_quiet (fail); try go_wp2)
    go_ret
    exact ⟨rfs, by repeat (first | exact Drawn0.refl _ | apply Drawn0.step)⟩
   rw [if_pos c4] at H
   have c4b0 : decide (x13_1 < (l0.length : Int)) = true := decide_eq_true c4
   clear c4
   by_cases c5 : 0 ≤ x13_1
   case neg =>
    rw [if_neg c5] at H
    exact absurd H (by simp)
   rw [if_pos c5] at H
   have c5b0 : decide (0 ≤ x13_1) = true := decide_eq_true c5
   clear c5
   by_cases c6 : x13_1 < (l0.length : Int)
   case neg =>
    rw [if_neg c6] at H
    exact absurd H (by simp)
   rw [if_pos c6] at H
   have c6b0 : decide (x13_1 < (l0.length : Int)) = true := decide_eq_true c6
   clear c6
   by_cases c7 : x13_1 < (l1.length : Int)
   case neg =>
    rw [if_neg c7] at H
    exact absurd H (by simp)
   rw [if_pos c7] at H
   have c7b0 : decide (x13_1 < (l1.length : Int)) = true := decide_eq_true c7
   clear c7
   by_cases c8 : (!((((rd_T77 l0 x13_1).f0).toList) == (((rd_T77 l1 x13_1).f0).toList)) || (!((((rd_T77 l0 x13_1).f1).toList) == (((rd_T77 l1 x13_1).f1).toList)))) = true
   ·rw [if_pos c8] at H
    have c8b0 : (!((((rd_T77 l0 x13_1).f0).toList) == (((rd_T77 l1 x13_1).f0).toList)) || (!((((rd_T77 l0 x13_1).f1).toList) == (((rd_T77 l1 x13_1).f1).toList)))) = true := c8
    clear c8
    obtain rfl := Option.some.inj H
    have p443 : 0 ≤ (x13_1 : Int) := of_decide_eq_true asw
    have q443 : x13_1 < (l0.length : Int) := of_decide_eq_true asw
    obtain ⟨ad443, e443, hx443_0, hx443_1⟩ := at_T77 HR0.out x13_1 p443 q443
    cases e443
    replace p443 := eq_true p443
    replace q443 := eq_true q443
    have p444 : 0 ≤ (x13_1 : Int) := of_decide_eq_true asw
    have q444 : x13_1 < (l1.length : Int) := of_decide_eq_true asw
    obtain ⟨ad444, e444, hx444_0, hx444_1⟩ := at_T77 HR1.out x13_1 p444 q444
    cases e444
    replace p444 := eq_true p444
    replace q444 := eq_true q444
    go_wp2
    repeat (go_quiet (fail); try go_wp2)
    go_ret
    exact ⟨rfs, by repeat (first | exact Drawn0.refl _ | apply Drawn0.step)⟩
   rw [if_neg c8] at H
   have c8b0 : (!((((rd_T77 l0 x13_1).f0).toList) == (((rd_T77 l1 x13_1).f0).toList)) || (!((((rd_T77 l0 x13_1).f1).toList) == (((rd_T77 l1 x13_1).f1).toList)))) = false := by simpa using c8
   clear c8
   have H' := am H
   clear H
   have p443 : 0 ≤ (x13_1 : Int) := of_decide_eq_true asw
   have q443 : x13_1 < (l0.length : Int) := of_decide_eq_true asw
   obtain ⟨ad443, e443, hx443_0, hx443_1⟩ := at_T77 HR0.out x13_1 p443 q443
   cases e443
   replace p443 := eq_true p443
   replace q443 := eq_true q443
   have p444 : 0 ≤ (x13_1 : Int) := of_decide_eq_true asw
   have q444 : x13_1 < (l1.length : Int) := of_decide_eq_true asw
   obtain ⟨ad444, e444, hx444_0, hx444_1⟩ := at_T77 HR1.out x13_1 p444 q444
   cases e444
   replace p444 := eq_true p444
   replace q444 := eq_true q444
   go_wp2
   repeat (go_quiet (fail); try go_wp2)
   go_roundg k1
   case measure => have := HK1.out; omega
   case rel => exact ⟨(wrap64 (x13_1 + 1)), rfs, H', ⟨by have := HK1.out; omega⟩, by repeat (first | exact Drawn0.refl _ | apply Drawn0.step)⟩

/-! ### slices_Equal_string_string: function 46 -/
def slices_Equal_string_string.l0 : Nat → List ByteArray → List ByteArray → Int → Int → Option (Bool)
 | 0, _, _, _, _ => none
 | k + 1, x0, x1, x12, x13 => if x13 < x12 then (if 0 ≤ x13 then (if x13 < (x0.length : Int) then (if x13 < (x1.length : Int) then (if (rdOf ByteArray.empty x0 x13).toList = (rdOf ByteArray.empty x1 x13).toList then (slices_Equal_string_string.l0 k x0 x1 x12 (wrap64 (x13 + 1))) else (some false)) else (none)) else (none)) else (none)) else (some true)
def slices_Equal_string_string.f (k : Nat) (l0 : List ByteArray) (l1 : List ByteArray) : Option (Bool) := if (l0.length : Int) = (l1.length : Int) then (slices_Equal_string_string.l0 k l0 l1 (l0.length : Int) 0) else (some false)
theorem slices_Equal_string_string.calls (k : Nat) (A0 : Option Addr) (c0 : Nat) (l0 : List ByteArray) (A1 : Option Addr) (c1 : Nat) (l1 : List ByteArray) (r : Bool) (w : World) (hr0 : Kd.C Kd.string w A0 l0.length l0) (hc0 : l0.length ≤ c0) (hr1 : Kd.C Kd.string w A1 l1.length l1) (hc1 : l1.length ≤ c1) (h : slices_Equal_string_string.f k l0 l1 = some r) :
  Calls Try.prog 46 #[.slice A0 l0.length c0, .slice A1 l1.length c1] w fun e w' => e = .returned (.bool r) ∧ Drawn0 w w' := by
 have HR0 := am hr0
 have HC0 := am hc0
 clear hr0 hc0
 have HR1 := am hr1
 have HC1 := am hc1
 clear hr1 hc1
 have H : (if (l0.length : Int) = (l1.length : Int) then (slices_Equal_string_string.l0 k l0 l1 (l0.length : Int) 0) else (some false)) = some r := h
 clear h
 by_cases c3 : (l0.length : Int) = (l1.length : Int)
 case neg =>
  rw [if_neg c3] at H
  have c3b0 : ((l0.length : Int) == (l1.length : Int)) = false := beq_eq_false_iff_ne.mpr c3
  have c3b1 : ((l0.length : Int) != (l1.length : Int)) = true := bne_iff_ne.mpr c3
  have c3b2 : (l0.length == l1.length) = false := by first | simpa using c3 | (simp at c3 ⊢; omega)
  obtain rfl := Option.some.inj H
  go_enter Try.func46, Try.ntmps46
  go_wp2
  repeat (go_quiet (fail); try go_wp2)
  go_ret
  exact ⟨rfs, by repeat (first | exact Drawn0.refl _ | apply Drawn0.step)⟩
 rw [if_pos c3] at H
 have c3b0 : ((l0.length : Int) == (l1.length : Int)) = true := beq_iff_eq.mpr c3
 have c3b1 : ((l0.length : Int) != (l1.length : Int)) = false := bne_eq_false_iff_eq.mpr c3
 have c3b2 : (l0.length == l1.length) = true := by first | simpa using c3 | (simp at c3 ⊢; omega)
 clear c3
 have H' := am H
 clear H
 go_enter Try.func46, Try.ntmps46
 go_wp2
 repeat (go_quiet (fail); try go_wp2)
 go_loopg [13] k (fun kq v13 w' => ∃ (x13_1 : Int), v13 = .int .i64 x13_1 ∧ Aside0 (slices_Equal_string_string.l0 kq l0 l1 (l0.length : Int) x13_1 = some r) ∧ Aside0 (kq ≤ k) ∧ Drawn0 w w')
 case atStart => exact ⟨(0), rfs, H', ⟨Nat.le_refl _⟩, by repeat (first | exact Drawn0.refl _ | apply Drawn0.step)⟩
 case round =>
  clear H'
  (try clear c1); (try clear p2); (try clear c3); (try clear c3b0); (try clear c3b1); (try clear c3b2)
  obtain ⟨x13_1, rfl, HA, HK1, ⟨m1, rfl⟩⟩ := hrel
  cases gk with
  | zero => exact absurd HA.out (by simp [slices_Equal_string_string.l0])
  | succ k1 =>
   have H := HA.out
   clear HA
   simp only [slices_Equal_string_string.l0] at H
   by_cases c4 : x13_1 < (l0.length : Int)
   case neg =>
    rw [if_neg c4] at H
    have c4b0 : decide (x13_1 < (l0.length : Int)) = false := decide_eq_false c4
    clear c4
    obtain rfl := Option.some.inj H
    go_wp2
    repeat (go_quiet (fail); try go_wp2)
    go_ret
    exact ⟨rfs, by repeat (first | exact Drawn0.refl _ | apply Drawn0.step)⟩
   rw [if_pos c4] at H
   have c4b0 : decide (x13_1 < (l0.length : Int)) = true := decide_eq_true c4
   clear c4
   by_cases c5 : 0 ≤ x13_1
   case neg =>
    rw [if_neg c5] at H
    exact absurd H (by simp)
   rw [if_pos c5] at H
   have c5b0 : decide (0 ≤ x13_1) = true := decide_eq_true c5
   clear c5
   by_cases c6 : x13_1 < (l0.length : Int)
   case neg =>
    rw [if_neg c6] at H
    exact absurd H (by simp)
   rw [if_pos c6] at H
   have c6b0 : decide (x13_1 < (l0.length : Int)) = true := decide_eq_true c6
   clear c6
   by_cases c7 : x13_1 < (l1.length : Int)
   case neg =>
    rw [if_neg c7] at H
    exact absurd H (by simp)
   rw [if_pos c7] at H
   have c7b0 : decide (x13_1 < (l1.length : Int)) = true := decide_eq_true c7
   clear c7
   by_cases c8 : (rdOf ByteArray.empty l0 x13_1).toList = (rdOf ByteArray.empty l1 x13_1).toList
   case neg =>
    rw [if_neg c8] at H
    have c8b0 : ((rdOf ByteArray.empty l0 x13_1).toList == (rdOf ByteArray.empty l1 x13_1).toList) = false := beq_eq_false_iff_ne.mpr c8
    have c8b1 : ((rdOf ByteArray.empty l0 x13_1).toList != (rdOf ByteArray.empty l1 x13_1).toList) = true := bne_iff_ne.mpr c8
    obtain rfl := Option.some.inj H
    have p445 : 0 ≤ (x13_1 : Int) := of_decide_eq_true asw
    have q445 : x13_1 < (l0.length : Int) := of_decide_eq_true asw
    obtain ⟨ad445, e445, hx445_0⟩ := Kd.at_string HR0.out x13_1 p445 q445
    cases e445
    replace p445 := eq_true p445
    replace q445 := eq_true q445
    have p446 : 0 ≤ (x13_1 : Int) := of_decide_eq_true asw
    have q446 : x13_1 < (l1.length : Int) := of_decide_eq_true asw
    obtain ⟨ad446, e446, hx446_0⟩ := Kd.at_string HR1.out x13_1 p446 q446
    cases e446
    replace p446 := eq_true p446
    replace q446 := eq_true q446
    go_wp2
    repeat (go_quiet (fail); try go_wp2)
    go_ret
    exact ⟨rfs, by repeat (first | exact Drawn0.refl _ | apply Drawn0.step)⟩
   rw [if_pos c8] at H
   have c8b0 : ((rdOf ByteArray.empty l0 x13_1).toList == (rdOf ByteArray.empty l1 x13_1).toList) = true := beq_iff_eq.mpr c8
   have c8b1 : ((rdOf ByteArray.empty l0 x13_1).toList != (rdOf ByteArray.empty l1 x13_1).toList) = false := bne_eq_false_iff_eq.mpr c8
   clear c8
   have H' := am H
   clear H
   have p445 : 0 ≤ (x13_1 : Int) := of_decide_eq_true asw
   have q445 : x13_1 < (l0.length : Int) := of_decide_eq_true asw
   obtain ⟨ad445, e445, hx445_0⟩ := Kd.at_string HR0.out x13_1 p445 q445
   cases e445
   replace p445 := eq_true p445
   replace q445 := eq_true q445
   have p446 : 0 ≤ (x13_1 : Int) := of_decide_eq_true asw
   have q446 : x13_1 < (l1.length : Int) := of_decide_eq_true asw
   obtain ⟨ad446, e446, hx446_0⟩ := Kd.at_string HR1.out x13_1 p446 q446
   cases e446
   replace p446 := eq_true p446
   replace q446 := eq_true q446
   go_wp2
   repeat (go_quiet (fail); try go_wp2)
   go_roundg k1
   case measure => have := HK1.out; omega
   case rel => exact ⟨(wrap64 (x13_1 + 1)), rfs, H', ⟨by have := HK1.out; omega⟩, by repeat (first | exact Drawn0.refl _ | apply Drawn0.step)⟩

-- NOT PRINTED: function 64 (impl_Type)

mutual
def impl_EqualType.f : Nat → Int → List ByteArray → List (S41) → Int → List ByteArray → List (S41) → Option (Bool)
 | 0, _, _, _, _, _, _ => none
 | k + 1, a0_0, l0_1, l0_2, a1_0, l1_1, l1_2 => if a0_0 = a1_0 then ((slices_Equal_string_string.f k l0_1 l1_1).bind fun t449 => (if t449 = true then ((slices_EqualFunc_Type_of_EqualType.f k l0_2 l1_2).bind fun t450 => (some t450)) else (some false))) else (some false)
def slices_EqualFunc_Type_of_EqualType.l0 : Nat → List (S41) → List (S41) → Int → Int → Option (Bool)
 | 0, _, _, _, _ => none
 | k + 1, x1, x15, x16, x17 => if x17 < x16 then (if 0 ≤ x17 then (if x17 < (x15.length : Int) then (if x17 < (x1.length : Int) then ((impl_EqualType.f k ((rd_T41 x15 x17).f0) ((rd_T41 x15 x17).f1) ((rd_T41 x15 x17).f2) ((rd_T41 x1 x17).f0) ((rd_T41 x1 x17).f1) ((rd_T41 x1 x17).f2)).bind fun t455 => (if t455 = true then (slices_EqualFunc_Type_of_EqualType.l0 k x1 x15 x16 (wrap64 (x17 + 1))) else (some false))) else (none)) else (none)) else (none)) else (some true)
def slices_EqualFunc_Type_of_EqualType.f : Nat → List (S41) → List (S41) → Option (Bool)
 | 0, _, _ => none
 | k + 1, l0, l1 => if (l0.length : Int) = (l1.length : Int) then (slices_EqualFunc_Type_of_EqualType.l0 k l1 l0 (l0.length : Int) 0) else (some false)
end
abbrev impl_EqualType.T (k : Nat) : Prop := ∀ (a0_0 : Int) (A0_1 : Option Addr) (c0_1 : Nat) (l0_1 : List ByteArray) (A0_2 : Option Addr) (c0_2 : Nat) (l0_2 : List (S41)) (a1_0 : Int) (A1_1 : Option Addr) (c1_1 : Nat) (l1_1 : List ByteArray) (A1_2 : Option Addr) (c1_2 : Nat) (l1_2 : List (S41)) (r : Bool) (w : World) (hr0_1 : Kd.C Kd.string w A0_1 l0_1.length l0_1) (hc0_1 : l0_1.length ≤ c0_1) (hr0_2 : Kd.C k41 w A0_2 l0_2.length l0_2) (hc0_2 : l0_2.length ≤ c0_2) (hr1_1 : Kd.C Kd.string w A1_1 l1_1.length l1_1) (hc1_1 : l1_1.length ≤ c1_1) (hr1_2 : Kd.C k41 w A1_2 l1_2.length l1_2) (hc1_2 : l1_2.length ≤ c1_2) (h : impl_EqualType.f k a0_0 l0_1 l0_2 a1_0 l1_1 l1_2 = some r),
  Calls Try.prog 45 #[.agg #[.int .i64 a0_0, .slice A0_1 l0_1.length c0_1, .slice A0_2 l0_2.length c0_2], .agg #[.int .i64 a1_0, .slice A1_1 l1_1.length c1_1, .slice A1_2 l1_2.length c1_2]] w fun e w' => e = .returned (.bool r) ∧ Below w.heap.size w w'
abbrev slices_EqualFunc_Type_of_EqualType.T (k : Nat) : Prop := ∀ (A0 : Option Addr) (c0 : Nat) (l0 : List (S41)) (A1 : Option Addr) (c1 : Nat) (l1 : List (S41))  (r : Bool) (w : World) (hr0 : Kd.C k41 w A0 l0.length l0) (hc0 : l0.length ≤ c0) (hr1 : Kd.C k41 w A1 l1.length l1) (hc1 : l1.length ≤ c1) (h : slices_EqualFunc_Type_of_EqualType.f k l0 l1 = some r),
  Calls Try.prog 64 #[.slice A0 l0.length c0, .slice A1 l1.length c1, .func (.func 45) #[] #[]] w fun e w' => e = .returned (.bool r) ∧ Below w.heap.size w w'
/-! ### impl_EqualType: function 45 -/
theorem impl_EqualType.step (k : Nat) (ih : ∀ m, m < k → impl_EqualType.T m) (ih_87 : ∀ m, m < k → slices_EqualFunc_Type_of_EqualType.T m) : impl_EqualType.T k := by
 intro a0_0 A0_1 c0_1 l0_1 A0_2 c0_2 l0_2 a1_0 A1_1 c1_1 l1_1 A1_2 c1_2 l1_2 r w hr0_1 hc0_1 hr0_2 hc0_2 hr1_1 hc1_1 hr1_2 hc1_2 h
 cases k with
 | zero => exact absurd h (by simp [impl_EqualType.f])
 | succ k =>
 simp only [impl_EqualType.f] at h
 have hu41 := Try.underlying41
 have HR0_1 := am hr0_1
 have HC0_1 := am hc0_1
 clear hr0_1 hc0_1
 have HR0_2 := am hr0_2
 have HC0_2 := am hc0_2
 clear hr0_2 hc0_2
 have HR1_1 := am hr1_1
 have HC1_1 := am hc1_1
 clear hr1_1 hc1_1
 have HR1_2 := am hr1_2
 have HC1_2 := am hc1_2
 clear hr1_2 hc1_2
 have HB := am (Below.refl w.heap.size w)
 have H : (if a0_0 = a1_0 then ((slices_Equal_string_string.f k l0_1 l1_1).bind fun t449 => (if t449 = true then ((slices_EqualFunc_Type_of_EqualType.f k l0_2 l1_2).bind fun t450 => (some t450)) else (some false))) else (some false)) = some r := h
 clear h
 by_cases c3 : a0_0 = a1_0
 case neg =>
  rw [if_neg c3] at H
  have c3b0 : (a0_0 == a1_0) = false := beq_eq_false_iff_ne.mpr c3
  have c3b1 : (a0_0 != a1_0) = true := bne_iff_ne.mpr c3
  obtain rfl := Option.some.inj H
  go_enter Try.func45, Try.ntmps45
  go_wp2_with (first | ((with_reducible refine gate_dst (N := 2) rfl ?_); refine box_event ?hg (N := 2) ?hd (cs := #[.int .i64 a0_0, .slice A0_1 l0_1.length c0_1, .slice A0_2 l0_2.length c0_2]) (t := 41) ?hr ?_; (case hd => rfl); (case hg => rfl); (case hr => exact hrw); intro gb447 hg w18 hbox hb; have n0_ := am (below_step blw hb); have n1_ := am (hbox); have n2_ := am ((by rw [hg]; exact (below_size blw) : w.heap.size ≤ gb447)); have n3_ := n2_; clear HB; revert n0_ n1_ n2_ n3_; intro HB BK447 GW447 GE447; clear hb hbox hg) | ((with_reducible refine gate_dst (N := 3) rfl ?_); refine box_event ?hg (N := 3) ?hd (cs := #[.int .i64 a1_0, .slice A1_1 l1_1.length c1_1, .slice A1_2 l1_2.length c1_2]) (t := 41) ?hr ?_; (case hd => rfl); (case hg => rfl); (case hr => exact hrw); intro gb448 hg w19 hbox hb; have n0_ := am (blk_below (g := gb447) bkw hb); have n1_ := am (below_step blw hb); have n2_ := am (hbox); have n3_ := am ((by rw [hg]; exact (below_size blw) : w.heap.size ≤ gb448)); have n4_ := n3_; have n5_ := am ((by rw [hg]; exact Nat.ne_of_lt (blk_lt (g := gb447) bkw) : gb447 ≠ gb448)); have n6_ := am ((by rw [hg]; exact Nat.ne_of_gt (blk_lt (g := gb447) bkw) : gb448 ≠ gb447)); clear BK447; clear HB; revert n0_ n1_ n2_ n3_ n4_ n5_ n6_; intro BK447 HB BK448 GW448 GE448 NB447_448 NB448_447; clear hb hbox hg; have hnb20 := NB447_448.out; have hnc20 := NB448_447.out; obtain ⟨hcz21_0, hcz21_1, hcz21_2⟩ := cls3 BK447.out; obtain ⟨hfz21_0, hfz21_1, hfz21_2⟩ := frz3 BK447.out; obtain ⟨hcz22_0, hcz22_1, hcz22_2⟩ := cls3 BK448.out; obtain ⟨hfz22_0, hfz22_1, hfz22_2⟩ := frz3 BK448.out))
  go_ret
  exact ⟨rfw, blw⟩
 rw [if_pos c3] at H
 have c3b0 : (a0_0 == a1_0) = true := beq_iff_eq.mpr c3
 have c3b1 : (a0_0 != a1_0) = false := bne_eq_false_iff_eq.mpr c3
 clear c3
 replace H := Option.bind_eq_some_iff.mp H
 obtain ⟨t449, A40, H⟩ := H
 replace H : (if t449 = true then ((slices_EqualFunc_Type_of_EqualType.f k l0_2 l1_2).bind fun t450 => (some t450)) else (some false)) = some r := H
 have A4 := am A40
 clear A40
 by_cases c5 : t449 = true
 case neg =>
  replace c5 := Bool.eq_false_iff.mpr c5
  subst c5
  have H1 : (some false) = some r := by rw [if_neg (show ¬ (false = true) by decide)] at H; exact H
  clear H
  have H := H1
  clear H1
  obtain rfl := Option.some.inj H
  go_enter Try.func45, Try.ntmps45
  go_wp2_with (first | ((with_reducible refine gate_dst (N := 2) rfl ?_); refine box_event ?hg (N := 2) ?hd (cs := #[.int .i64 a0_0, .slice A0_1 l0_1.length c0_1, .slice A0_2 l0_2.length c0_2]) (t := 41) ?hr ?_; (case hd => rfl); (case hg => rfl); (case hr => exact hrw); intro gb447 hg w13 hbox hb; have n0_ := am (below_step blw hb); have n1_ := am (hbox); have n2_ := am ((by rw [hg]; exact (below_size blw) : w.heap.size ≤ gb447)); have n3_ := n2_; clear HB; revert n0_ n1_ n2_ n3_; intro HB BK447 GW447 GE447; clear hb hbox hg) | ((with_reducible refine gate_dst (N := 3) rfl ?_); refine box_event ?hg (N := 3) ?hd (cs := #[.int .i64 a1_0, .slice A1_1 l1_1.length c1_1, .slice A1_2 l1_2.length c1_2]) (t := 41) ?hr ?_; (case hd => rfl); (case hg => rfl); (case hr => exact hrw); intro gb448 hg w14 hbox hb; have n0_ := am (blk_below (g := gb447) bkw hb); have n1_ := am (below_step blw hb); have n2_ := am (hbox); have n3_ := am ((by rw [hg]; exact (below_size blw) : w.heap.size ≤ gb448)); have n4_ := n3_; have n5_ := am ((by rw [hg]; exact Nat.ne_of_lt (blk_lt (g := gb447) bkw) : gb447 ≠ gb448)); have n6_ := am ((by rw [hg]; exact Nat.ne_of_gt (blk_lt (g := gb447) bkw) : gb448 ≠ gb447)); clear BK447; clear HB; revert n0_ n1_ n2_ n3_ n4_ n5_ n6_; intro BK447 HB BK448 GW448 GE448 NB447_448 NB448_447; clear hb hbox hg; have hnb15 := NB447_448.out; have hnc15 := NB448_447.out; obtain ⟨hcz16_0, hcz16_1, hcz16_2⟩ := cls3 BK447.out; obtain ⟨hfz16_0, hfz16_1, hfz16_2⟩ := frz3 BK447.out; obtain ⟨hcz17_0, hcz17_1, hcz17_2⟩ := cls3 BK448.out; obtain ⟨hfz17_0, hfz17_1, hfz17_2⟩ := frz3 BK448.out) | (go_at_call 46; (with_reducible refine (slices_Equal_string_string.calls k _ _ l0_1 _ _ l1_1 false _ ?side1 ?side2 ?side3 ?side4 A4.out).mono ?_); (case side1 => have X_ := HR0_1; exact cbl); (case side2 => exact HC0_1.out); (case side3 => have X_ := HR1_1; exact cbl); (case side4 => exact HC1_1.out); rintro e w' ⟨rfl, ⟨nd, rfl⟩⟩))
  go_ret
  exact ⟨rfw, blw⟩
 subst c5
 have H1 : ((slices_EqualFunc_Type_of_EqualType.f k l0_2 l1_2).bind fun t450 => (some t450)) = some r := by rw [if_pos rfl] at H; exact H
 clear H
 have H := H1
 clear H1
 replace H := Option.bind_eq_some_iff.mp H
 obtain ⟨t450, A60, H⟩ := H
 replace H : (some t450) = some r := H
 have A6 := am A60
 clear A60
 obtain rfl := Option.some.inj H
 go_enter Try.func45, Try.ntmps45
 go_wp2_with (first | ((with_reducible refine gate_dst (N := 2) rfl ?_); refine box_event ?hg (N := 2) ?hd (cs := #[.int .i64 a0_0, .slice A0_1 l0_1.length c0_1, .slice A0_2 l0_2.length c0_2]) (t := 41) ?hr ?_; (case hd => rfl); (case hg => rfl); (case hr => exact hrw); intro gb447 hg w7 hbox hb; have n0_ := am (below_step blw hb); have n1_ := am (hbox); have n2_ := am ((by rw [hg]; exact (below_size blw) : w.heap.size ≤ gb447)); have n3_ := n2_; clear HB; revert n0_ n1_ n2_ n3_; intro HB BK447 GW447 GE447; clear hb hbox hg) | ((with_reducible refine gate_dst (N := 3) rfl ?_); refine box_event ?hg (N := 3) ?hd (cs := #[.int .i64 a1_0, .slice A1_1 l1_1.length c1_1, .slice A1_2 l1_2.length c1_2]) (t := 41) ?hr ?_; (case hd => rfl); (case hg => rfl); (case hr => exact hrw); intro gb448 hg w8 hbox hb; have n0_ := am (blk_below (g := gb447) bkw hb); have n1_ := am (below_step blw hb); have n2_ := am (hbox); have n3_ := am ((by rw [hg]; exact (below_size blw) : w.heap.size ≤ gb448)); have n4_ := n3_; have n5_ := am ((by rw [hg]; exact Nat.ne_of_lt (blk_lt (g := gb447) bkw) : gb447 ≠ gb448)); have n6_ := am ((by rw [hg]; exact Nat.ne_of_gt (blk_lt (g := gb447) bkw) : gb448 ≠ gb447)); clear BK447; clear HB; revert n0_ n1_ n2_ n3_ n4_ n5_ n6_; intro BK447 HB BK448 GW448 GE448 NB447_448 NB448_447; clear hb hbox hg; have hnb9 := NB447_448.out; have hnc9 := NB448_447.out; obtain ⟨hcz10_0, hcz10_1, hcz10_2⟩ := cls3 BK447.out; obtain ⟨hfz10_0, hfz10_1, hfz10_2⟩ := frz3 BK447.out; obtain ⟨hcz11_0, hcz11_1, hcz11_2⟩ := cls3 BK448.out; obtain ⟨hfz11_0, hfz11_1, hfz11_2⟩ := frz3 BK448.out) | (go_at_call 46; (with_reducible refine (slices_Equal_string_string.calls k _ _ l0_1 _ _ l1_1 true _ ?side1 ?side2 ?side3 ?side4 A4.out).mono ?_); (case side1 => have X_ := HR0_1; exact cbl); (case side2 => exact HC0_1.out); (case side3 => have X_ := HR1_1; exact cbl); (case side4 => exact HC1_1.out); rintro e w' ⟨rfl, ⟨nd, rfl⟩⟩) | (go_at_call 64; (with_reducible refine (ih_87 k (by omega) _ _ l0_2 _ _ l1_2  t450 _ ?side1 ?side2 ?side3 ?side4 A6.out).mono ?_); (case side1 => repeat (first | exact (Kd.C_below HR0_2.out blw) | (with_reducible refine Kd.C_alloc ?_ _) | (with_reducible refine Kd.C_drewN ?_ _) | (with_reducible refine Kd.C_drew ?_))); (case side2 => exact HC0_2.out); (case side3 => repeat (first | exact (Kd.C_below HR1_2.out blw) | (with_reducible refine Kd.C_alloc ?_ _) | (with_reducible refine Kd.C_drewN ?_ _) | (with_reducible refine Kd.C_drew ?_))); (case side4 => exact HC1_2.out); rintro e w12 ⟨rfl, hb⟩; have n0_ := am (blk_below (g := gb447) bkw hb); have n1_ := am (blk_below (g := gb448) bkw hb); have n2_ := am (below_step blw hb); clear BK447; clear BK448; clear HB; revert n0_ n1_ n2_; intro BK447 BK448 HB; (try clear hb); (try clear hb2); (try clear hk); (try clear hi)))
 go_ret
 exact ⟨rfw, blw⟩

/-! ### slices_EqualFunc_Type_of_EqualType: function 87 -/
theorem slices_EqualFunc_Type_of_EqualType.step (k : Nat) (ih : ∀ m, m < k → slices_EqualFunc_Type_of_EqualType.T m) (ih_45 : ∀ m, m < k → impl_EqualType.T m) : slices_EqualFunc_Type_of_EqualType.T k := by
 intro A0 c0 l0 A1 c1 l1 r w hr0 hc0 hr1 hc1 h
 cases k with
 | zero => exact absurd h (by simp [slices_EqualFunc_Type_of_EqualType.f])
 | succ k =>
 simp only [slices_EqualFunc_Type_of_EqualType.f] at h
 have hu41 := Try.underlying41
 have HR0 := am hr0
 have HC0 := am hc0
 clear hr0 hc0
 have HR1 := am hr1
 have HC1 := am hc1
 clear hr1 hc1
 have HB := am (Below.refl w.heap.size w)
 have H : (if (l0.length : Int) = (l1.length : Int) then (slices_EqualFunc_Type_of_EqualType.l0 k l1 l0 (l0.length : Int) 0) else (some false)) = some r := h
 clear h
 by_cases c4 : (l0.length : Int) = (l1.length : Int)
 case neg =>
  rw [if_neg c4] at H
  have c4b0 : ((l0.length : Int) == (l1.length : Int)) = false := beq_eq_false_iff_ne.mpr c4
  have c4b1 : ((l0.length : Int) != (l1.length : Int)) = true := bne_iff_ne.mpr c4
  have c4b2 : (l0.length == l1.length) = false := by first | simpa using c4 | (simp at c4 ⊢; omega)
  obtain rfl := Option.some.inj H
  go_enter Try.func64, Try.ntmps64
  go_wp2
  go_ret
  exact ⟨rfw, blw⟩
 rw [if_pos c4] at H
 have c4b0 : ((l0.length : Int) == (l1.length : Int)) = true := beq_iff_eq.mpr c4
 have c4b1 : ((l0.length : Int) != (l1.length : Int)) = false := bne_eq_false_iff_eq.mpr c4
 have c4b2 : (l0.length == l1.length) = true := by first | simpa using c4 | (simp at c4 ⊢; omega)
 clear c4
 have H' := am H
 clear H
 go_enter Try.func64, Try.ntmps64
 go_wp2
 go_loopg [17] k (fun kq v17 w' => ∃ (x17_1 : Int), v17 = .int .i64 x17_1 ∧ Aside0 (slices_EqualFunc_Type_of_EqualType.l0 kq l1 l0 (l0.length : Int) x17_1 = some r) ∧ Aside0 (kq ≤ k) ∧ Aside0 (Below w.heap.size w w'))
 case atStart => exact ⟨(0), rfs, H', ⟨Nat.le_refl _⟩, ⟨blw⟩⟩
 case round =>
  clear H'
  (try clear c1); (try clear p2); (try clear c4); (try clear c4b0); (try clear c4b1); (try clear c4b2)
  obtain ⟨x17_1, rfl, HA, HK1, HB⟩ := hrel
  cases gk with
  | zero => exact absurd HA.out (by simp [slices_EqualFunc_Type_of_EqualType.l0])
  | succ k1 =>
   have H := HA.out
   clear HA
   simp only [slices_EqualFunc_Type_of_EqualType.l0] at H
   by_cases c5 : x17_1 < (l0.length : Int)
   case neg =>
    rw [if_neg c5] at H
    have c5b0 : decide (x17_1 < (l0.length : Int)) = false := decide_eq_false c5
    clear c5
    obtain rfl := Option.some.inj H
    go_wp2
    go_ret
    exact ⟨rfw, blw⟩
   rw [if_pos c5] at H
   have c5b0 : decide (x17_1 < (l0.length : Int)) = true := decide_eq_true c5
   clear c5
   by_cases c6 : 0 ≤ x17_1
   case neg =>
    rw [if_neg c6] at H
    exact absurd H (by simp)
   rw [if_pos c6] at H
   have c6b0 : decide (0 ≤ x17_1) = true := decide_eq_true c6
   clear c6
   by_cases c7 : x17_1 < (l0.length : Int)
   case neg =>
    rw [if_neg c7] at H
    exact absurd H (by simp)
   rw [if_pos c7] at H
   have c7b0 : decide (x17_1 < (l0.length : Int)) = true := decide_eq_true c7
   clear c7
   by_cases c8 : x17_1 < (l1.length : Int)
   case neg =>
    rw [if_neg c8] at H
    exact absurd H (by simp)
   rw [if_pos c8] at H
   have c8b0 : decide (x17_1 < (l1.length : Int)) = true := decide_eq_true c8
   clear c8
   replace H := Option.bind_eq_some_iff.mp H
   obtain ⟨t455, A90, H⟩ := H
   replace H : (if t455 = true then (slices_EqualFunc_Type_of_EqualType.l0 k1 l1 l0 (l0.length : Int) (wrap64 (x17_1 + 1))) else (some false)) = some r := H
   have A9 := am A90
   clear A90
   have HC10 := am H
   clear H
   have p451 : 0 ≤ (x17_1 : Int) := of_decide_eq_true asw
   have q451 : x17_1 < (l0.length : Int) := of_decide_eq_true asw
   obtain ⟨ad451, A451_1, c451_1, A451_2, c451_2, e451, hx451_0, hx451_1, hx451_2, hl451_1, hi451_1, hl451_2, hi451_2⟩ := at_T41 HR0.out x17_1 p451 q451
   cases e451
   replace hx451_0 := upw HB.out hx451_0
   replace hx451_1 := upw HB.out hx451_1
   replace hx451_2 := upw HB.out hx451_2
   have HR451_1 := am hi451_1
   have HC451_1 := am hl451_1
   clear hi451_1 hl451_1
   have HR451_2 := am hi451_2
   have HC451_2 := am hl451_2
   clear hi451_2 hl451_2
   replace p451 := eq_true p451
   replace q451 := eq_true q451
   go_upto_if 30 with (first | ((with_reducible refine gate_dst (N := 8) rfl ?_); refine box_event ?hg (N := 8) ?hd (cs := #[.int .i64 0, .slice none 0 0, .slice none 0 0]) (t := 41) ?hr ?_; (case hd => rfl); (case hg => rfl); (case hr => exact hrw); intro gb452 hg w11 hbox hb; have n0_ := am (below_step blw hb); have n1_ := am (hbox); have n2_ := am ((by rw [hg]; exact (below_size blw) : w.heap.size ≤ gb452)); have n3_ := n2_; clear HB; revert n0_ n1_ n2_ n3_; intro HB BK452 GW452 GE452; clear hb hbox hg; obtain ⟨hcz12_0, hcz12_1, hcz12_2⟩ := cls3 BK452.out; obtain ⟨hfz12_0, hfz12_1, hfz12_2⟩ := frz3 BK452.out; have p453 : 0 ≤ (x17_1 : Int) := of_decide_eq_true asw; have q453 : x17_1 < (l1.length : Int) := of_decide_eq_true asw; obtain ⟨ad453, A453_1, c453_1, A453_2, c453_2, e453, hx453_0, hx453_1, hx453_2, hl453_1, hi453_1, hl453_2, hi453_2⟩ := at_T41 HR1.out x17_1 p453 q453; cases e453; have hn453_0 : ad453.block ≠ gb452 := Nat.ne_of_lt (Nat.lt_of_lt_of_le (by have := World.block_lt_of_cell? _ _ hx453_0; first | rwa [add_block] at this | exact this) GW452.out); have hn453_1 := hn453_0; have hn453_2 := hn453_0; replace hx453_0 := upw HB.out hx453_0; replace hx453_1 := upw HB.out hx453_1; replace hx453_2 := upw HB.out hx453_2; have HR453_1 := am hi453_1; have HC453_1 := am hl453_1; clear hi453_1 hl453_1; have HR453_2 := am hi453_2; have HC453_2 := am hl453_2; clear hi453_2 hl453_2; replace hx453_0 := cfr hx453_0 ⟨gb452, 0, none⟩ (.int .i64 ((rd_T41 l0 x17_1).f0)) hn453_0; replace hx453_1 := cfr hx453_1 ⟨gb452, 0, none⟩ (.int .i64 ((rd_T41 l0 x17_1).f0)) hn453_0; replace hx453_2 := cfr hx453_2 ⟨gb452, 0, none⟩ (.int .i64 ((rd_T41 l0 x17_1).f0)) hn453_0; replace hx453_0 := cfr hx453_0 ⟨gb452, 1, none⟩ (.slice A451_1 ((rd_T41 l0 x17_1).f1).length c451_1) hn453_1; replace hx453_1 := cfr hx453_1 ⟨gb452, 1, none⟩ (.slice A451_1 ((rd_T41 l0 x17_1).f1).length c451_1) hn453_1; replace hx453_2 := cfr hx453_2 ⟨gb452, 1, none⟩ (.slice A451_1 ((rd_T41 l0 x17_1).f1).length c451_1) hn453_1; replace hx453_0 := cfr hx453_0 ⟨gb452, 2, none⟩ (.slice A451_2 ((rd_T41 l0 x17_1).f2).length c451_2) hn453_2; replace hx453_1 := cfr hx453_1 ⟨gb452, 2, none⟩ (.slice A451_2 ((rd_T41 l0 x17_1).f2).length c451_2) hn453_2; replace hx453_2 := cfr hx453_2 ⟨gb452, 2, none⟩ (.slice A451_2 ((rd_T41 l0 x17_1).f2).length c451_2) hn453_2; clear hn453_0; clear hn453_1; clear hn453_2; replace p453 := eq_true p453; replace q453 := eq_true q453) | ((with_reducible refine gate_dst (N := 9) rfl ?_); refine box_event ?hg (N := 9) ?hd (cs := #[.int .i64 0, .slice none 0 0, .slice none 0 0]) (t := 41) ?hr ?_; (case hd => rfl); (case hg => rfl); (case hr => exact hrw); intro gb454 hg w13 hbox hb; have n0_ := am (blk_below (g := gb452) (o := .cells #[.int .i64 ((rd_T41 l0 x17_1).f0), .slice A451_1 ((rd_T41 l0 x17_1).f1).length c451_1, .slice A451_2 ((rd_T41 l0 x17_1).f2).length c451_2] 41 (0, 0)) (by (with_reducible repeat (first | refine blk_drewN ?_ _ | refine blk_drew ?_ | refine blk_alloc ?_ _)); refine blk_put (cs := #[.int .i64 ((rd_T41 l0 x17_1).f0), .slice A451_1 ((rd_T41 l0 x17_1).f1).length c451_1, .slice none 0 0]) ?_ 2 _ rfl; (with_reducible repeat (first | refine blk_drewN ?_ _ | refine blk_drew ?_ | refine blk_alloc ?_ _)); refine blk_put (cs := #[.int .i64 ((rd_T41 l0 x17_1).f0), .slice none 0 0, .slice none 0 0]) ?_ 1 _ rfl; (with_reducible repeat (first | refine blk_drewN ?_ _ | refine blk_drew ?_ | refine blk_alloc ?_ _)); refine blk_put (cs := #[.int .i64 0, .slice none 0 0, .slice none 0 0]) ?_ 0 _ rfl; (with_reducible repeat (first | refine blk_drewN ?_ _ | refine blk_drew ?_ | refine blk_alloc ?_ _)); exact BK452.out) hb); have n1_ := am (below_step blw hb); have n2_ := am (hbox); have n3_ := am ((by rw [hg]; exact (below_size blw) : w.heap.size ≤ gb454)); have n4_ := n3_; have n5_ := am ((by rw [hg]; exact Nat.ne_of_lt (blk_lt (g := gb452) (o := .cells #[.int .i64 ((rd_T41 l0 x17_1).f0), .slice A451_1 ((rd_T41 l0 x17_1).f1).length c451_1, .slice A451_2 ((rd_T41 l0 x17_1).f2).length c451_2] 41 (0, 0)) (by (with_reducible repeat (first | refine blk_drewN ?_ _ | refine blk_drew ?_ | refine blk_alloc ?_ _)); refine blk_put (cs := #[.int .i64 ((rd_T41 l0 x17_1).f0), .slice A451_1 ((rd_T41 l0 x17_1).f1).length c451_1, .slice none 0 0]) ?_ 2 _ rfl; (with_reducible repeat (first | refine blk_drewN ?_ _ | refine blk_drew ?_ | refine blk_alloc ?_ _)); refine blk_put (cs := #[.int .i64 ((rd_T41 l0 x17_1).f0), .slice none 0 0, .slice none 0 0]) ?_ 1 _ rfl; (with_reducible repeat (first | refine blk_drewN ?_ _ | refine blk_drew ?_ | refine blk_alloc ?_ _)); refine blk_put (cs := #[.int .i64 0, .slice none 0 0, .slice none 0 0]) ?_ 0 _ rfl; (with_reducible repeat (first | refine blk_drewN ?_ _ | refine blk_drew ?_ | refine blk_alloc ?_ _)); exact BK452.out)) : gb452 ≠ gb454)); have n6_ := am ((by rw [hg]; exact Nat.ne_of_gt (blk_lt (g := gb452) (o := .cells #[.int .i64 ((rd_T41 l0 x17_1).f0), .slice A451_1 ((rd_T41 l0 x17_1).f1).length c451_1, .slice A451_2 ((rd_T41 l0 x17_1).f2).length c451_2] 41 (0, 0)) (by (with_reducible repeat (first | refine blk_drewN ?_ _ | refine blk_drew ?_ | refine blk_alloc ?_ _)); refine blk_put (cs := #[.int .i64 ((rd_T41 l0 x17_1).f0), .slice A451_1 ((rd_T41 l0 x17_1).f1).length c451_1, .slice none 0 0]) ?_ 2 _ rfl; (with_reducible repeat (first | refine blk_drewN ?_ _ | refine blk_drew ?_ | refine blk_alloc ?_ _)); refine blk_put (cs := #[.int .i64 ((rd_T41 l0 x17_1).f0), .slice none 0 0, .slice none 0 0]) ?_ 1 _ rfl; (with_reducible repeat (first | refine blk_drewN ?_ _ | refine blk_drew ?_ | refine blk_alloc ?_ _)); refine blk_put (cs := #[.int .i64 0, .slice none 0 0, .slice none 0 0]) ?_ 0 _ rfl; (with_reducible repeat (first | refine blk_drewN ?_ _ | refine blk_drew ?_ | refine blk_alloc ?_ _)); exact BK452.out)) : gb454 ≠ gb452)); clear BK452; clear HB; revert n0_ n1_ n2_ n3_ n4_ n5_ n6_; intro BK452 HB BK454 GW454 GE454 NB452_454 NB454_452; clear hb hbox hg; have hnb14 := NB454_452.out; have hnc14 := NB452_454.out; obtain ⟨hcz15_0, hcz15_1, hcz15_2⟩ := cls3 BK454.out; obtain ⟨hfz15_0, hfz15_1, hfz15_2⟩ := frz3 BK454.out; obtain ⟨hcz16_0, hcz16_1, hcz16_2⟩ := cls3 BK452.out; obtain ⟨hfz16_0, hfz16_1, hfz16_2⟩ := frz3 BK452.out) | ((with_reducible refine gate_calleev (t := 26) rfl ?_); refine goesV_ 26 (some 29) rfl rfl rfl Try.func45 kr rfl #[.agg #[.int .i64 ((rd_T41 l0 x17_1).f0), .slice A451_1 ((rd_T41 l0 x17_1).f1).length c451_1, .slice A451_2 ((rd_T41 l0 x17_1).f2).length c451_2], .agg #[.int .i64 ((rd_T41 l1 x17_1).f0), .slice A453_1 ((rd_T41 l1 x17_1).f1).length c453_1, .slice A453_2 ((rd_T41 l1 x17_1).f2).length c453_2]] rfl mpw ?_; (with_reducible refine (ih_45 k1 (by have := HK1.out; omega) ((rd_T41 l0 x17_1).f0) _ _ ((rd_T41 l0 x17_1).f1) _ _ ((rd_T41 l0 x17_1).f2) ((rd_T41 l1 x17_1).f0) _ _ ((rd_T41 l1 x17_1).f1) _ _ ((rd_T41 l1 x17_1).f2) t455 _ ?side1 ?side2 ?side3 ?side4 ?side5 ?side6 ?side7 ?side8 A9.out).mono ?_); (case side1 => exact Kd.C_below HR451_1.out blw); (case side2 => exact HC451_1.out); (case side3 => exact Kd.C_below HR451_2.out blw); (case side4 => exact HC451_2.out); (case side5 => exact Kd.C_below HR453_1.out blw); (case side6 => exact HC453_1.out); (case side7 => exact Kd.C_below HR453_2.out blw); (case side8 => exact HC453_2.out); rintro e w17 ⟨rfl, hb⟩; refine ⟨_, rfl, ?_⟩; have n0_ := am (blk_below (g := gb452) (o := .cells #[.int .i64 ((rd_T41 l0 x17_1).f0), .slice A451_1 ((rd_T41 l0 x17_1).f1).length c451_1, .slice A451_2 ((rd_T41 l0 x17_1).f2).length c451_2] 41 (0, 0)) (by (with_reducible repeat (first | refine blk_drewN ?_ _ | refine blk_drew ?_ | refine blk_alloc ?_ _)); refine blk_far ?_ NB452_454.out _; (with_reducible repeat (first | refine blk_drewN ?_ _ | refine blk_drew ?_ | refine blk_alloc ?_ _)); refine blk_far ?_ NB452_454.out _; (with_reducible repeat (first | refine blk_drewN ?_ _ | refine blk_drew ?_ | refine blk_alloc ?_ _)); refine blk_far ?_ NB452_454.out _; (with_reducible repeat (first | refine blk_drewN ?_ _ | refine blk_drew ?_ | refine blk_alloc ?_ _)); exact BK452.out) hb); have n1_ := am (blk_below (g := gb454) (o := .cells #[.int .i64 ((rd_T41 l1 x17_1).f0), .slice A453_1 ((rd_T41 l1 x17_1).f1).length c453_1, .slice A453_2 ((rd_T41 l1 x17_1).f2).length c453_2] 41 (0, 0)) (by (with_reducible repeat (first | refine blk_drewN ?_ _ | refine blk_drew ?_ | refine blk_alloc ?_ _)); refine blk_put (cs := #[.int .i64 ((rd_T41 l1 x17_1).f0), .slice A453_1 ((rd_T41 l1 x17_1).f1).length c453_1, .slice none 0 0]) ?_ 2 _ rfl; (with_reducible repeat (first | refine blk_drewN ?_ _ | refine blk_drew ?_ | refine blk_alloc ?_ _)); refine blk_put (cs := #[.int .i64 ((rd_T41 l1 x17_1).f0), .slice none 0 0, .slice none 0 0]) ?_ 1 _ rfl; (with_reducible repeat (first | refine blk_drewN ?_ _ | refine blk_drew ?_ | refine blk_alloc ?_ _)); refine blk_put (cs := #[.int .i64 0, .slice none 0 0, .slice none 0 0]) ?_ 0 _ rfl; (with_reducible repeat (first | refine blk_drewN ?_ _ | refine blk_drew ?_ | refine blk_alloc ?_ _)); exact BK454.out) hb); have n2_ := am (below_step blw hb); clear BK452; clear BK454; clear HB; revert n0_ n1_ n2_; intro BK452 BK454 HB; (try clear hb); (try clear hb2); (try clear hk); (try clear hi)))
   have H := HC10.out
   clear HC10
   by_cases c18 : t455 = true
   case neg =>
    replace c18 := Bool.eq_false_iff.mpr c18
    subst c18
    have H1 : (some false) = some r := by rw [if_neg (show ¬ (false = true) by decide)] at H; exact H
    clear H
    have H := H1
    clear H1
    obtain rfl := Option.some.inj H
    go_wp2
    go_ret
    exact ⟨rfw, blw⟩
   subst c18
   have H1 : (slices_EqualFunc_Type_of_EqualType.l0 k1 l1 l0 (l0.length : Int) (wrap64 (x17_1 + 1))) = some r := by rw [if_pos rfl] at H; exact H
   clear H
   have H := H1
   clear H1
   have H' := am H
   clear H
   go_wp2
   go_roundg k1
   case measure => have := HK1.out; omega
   case rel => exact ⟨(wrap64 (x17_1 + 1)), rfs, H', ⟨by have := HK1.out; omega⟩, ⟨blw⟩⟩

theorem impl_EqualType.all (k : Nat) : (impl_EqualType.T k) ∧ (slices_EqualFunc_Type_of_EqualType.T k) := by
 induction k using Nat.strongRecOn with
 | _ k ih =>
 exact ⟨impl_EqualType.step k (fun m hm_ => (ih m hm_).1) (fun m hm_ => (ih m hm_).2), slices_EqualFunc_Type_of_EqualType.step k (fun m hm_ => (ih m hm_).2) (fun m hm_ => (ih m hm_).1)⟩

theorem impl_EqualType.calls (k : Nat) : ∀ (a0_0 : Int) (A0_1 : Option Addr) (c0_1 : Nat) (l0_1 : List ByteArray) (A0_2 : Option Addr) (c0_2 : Nat) (l0_2 : List (S41)) (a1_0 : Int) (A1_1 : Option Addr) (c1_1 : Nat) (l1_1 : List ByteArray) (A1_2 : Option Addr) (c1_2 : Nat) (l1_2 : List (S41)) (r : Bool) (w : World) (hr0_1 : Kd.C Kd.string w A0_1 l0_1.length l0_1) (hc0_1 : l0_1.length ≤ c0_1) (hr0_2 : Kd.C k41 w A0_2 l0_2.length l0_2) (hc0_2 : l0_2.length ≤ c0_2) (hr1_1 : Kd.C Kd.string w A1_1 l1_1.length l1_1) (hc1_1 : l1_1.length ≤ c1_1) (hr1_2 : Kd.C k41 w A1_2 l1_2.length l1_2) (hc1_2 : l1_2.length ≤ c1_2) (h : impl_EqualType.f k a0_0 l0_1 l0_2 a1_0 l1_1 l1_2 = some r),
  Calls Try.prog 45 #[.agg #[.int .i64 a0_0, .slice A0_1 l0_1.length c0_1, .slice A0_2 l0_2.length c0_2], .agg #[.int .i64 a1_0, .slice A1_1 l1_1.length c1_1, .slice A1_2 l1_2.length c1_2]] w fun e w' => e = .returned (.bool r) ∧ Below w.heap.size w w' := (impl_EqualType.all k).1

-- NOT PRINTED: function 47 (impl_Term)

end Go.Proofs.Ytpkppeicceehcaa.Px
end
section
namespace Go.Proofs.Ytpkppeicceehcaa.Px
set_option maxHeartbeats 8000000
set_option maxRecDepth 100000
open Go.RowKit Go.Proofs.Ytpkppeicceehcaa.Ext Go.Proofs.YtpkppeicceehcaaW.PrintWords Go.Proofs.YtpkppeicceehcaaW.PrintLast Go.Proofs.YtpkppeicceehcaaW.PrintMore
attribute [local go_sem] max2_int min2_int max_two min_two max_three min_three max_four min_four   -- for this text's walks alone
set_option linter.unusedVariables false
set_option linter.unusedSimpArgs false

mutual
def impl_EqualTerm.f : Nat → Int → ByteArray → Int → Int → List ByteArray → List (S41) → List ByteArray → List (S44) → Int → ByteArray → Int → Int → List ByteArray → List (S41) → List ByteArray → List (S44) → Option (Bool)
 | 0, _, _, _, _, _, _, _, _, _, _, _, _, _, _, _, _ => none
 | k + 1, a0_0, a0_1, a0_2, a0_3, l0_4, l0_5, l0_6, l0_7, a1_0, a1_1, a1_2, a1_3, l1_4, l1_5, l1_6, l1_7 => if a0_0 = a1_0 then (if a0_1.toList = a1_1.toList then (if a0_2 = a1_2 then ((impl_EqualType.f k a0_3 l0_4 l0_5 a1_3 l1_4 l1_5).bind fun t458 => (if t458 = true then ((slices_Equal_string_string.f k l0_6 l1_6).bind fun t459 => (if t459 = true then ((slices_EqualFunc_Term_of_EqualTerm.f k l0_7 l1_7).bind fun t460 => (some t460)) else (some false))) else (some false))) else (some false)) else (some false)) else (some false)
def slices_EqualFunc_Term_of_EqualTerm.l0 : Nat → List (S44) → List (S44) → Int → Int → Option (Bool)
 | 0, _, _, _, _ => none
 | k + 1, x1, x15, x16, x17 => if x17 < x16 then (if 0 ≤ x17 then (if x17 < (x15.length : Int) then (if x17 < (x1.length : Int) then ((impl_EqualTerm.f k ((rd_T44 x15 x17).f0) ((rd_T44 x15 x17).f1) ((rd_T44 x15 x17).f2) ((rd_T44 x15 x17).f3.f0) ((rd_T44 x15 x17).f3.f1) ((rd_T44 x15 x17).f3.f2) ((rd_T44 x15 x17).f4) ((rd_T44 x15 x17).f5) ((rd_T44 x1 x17).f0) ((rd_T44 x1 x17).f1) ((rd_T44 x1 x17).f2) ((rd_T44 x1 x17).f3.f0) ((rd_T44 x1 x17).f3.f1) ((rd_T44 x1 x17).f3.f2) ((rd_T44 x1 x17).f4) ((rd_T44 x1 x17).f5)).bind fun t465 => (if t465 = true then (slices_EqualFunc_Term_of_EqualTerm.l0 k x1 x15 x16 (wrap64 (x17 + 1))) else (some false))) else (none)) else (none)) else (none)) else (some true)
def slices_EqualFunc_Term_of_EqualTerm.f : Nat → List (S44) → List (S44) → Option (Bool)
 | 0, _, _ => none
 | k + 1, l0, l1 => if (l0.length : Int) = (l1.length : Int) then (slices_EqualFunc_Term_of_EqualTerm.l0 k l1 l0 (l0.length : Int) 0) else (some false)
end
abbrev impl_EqualTerm.T (k : Nat) : Prop := ∀ (a0_0 : Int) (a0_1 : ByteArray) (a0_2 : Int) (a0_3 : Int) (A0_4 : Option Addr) (c0_4 : Nat) (l0_4 : List ByteArray) (A0_5 : Option Addr) (c0_5 : Nat) (l0_5 : List (S41)) (A0_6 : Option Addr) (c0_6 : Nat) (l0_6 : List ByteArray) (A0_7 : Option Addr) (c0_7 : Nat) (l0_7 : List (S44)) (a1_0 : Int) (a1_1 : ByteArray) (a1_2 : Int) (a1_3 : Int) (A1_4 : Option Addr) (c1_4 : Nat) (l1_4 : List ByteArray) (A1_5 : Option Addr) (c1_5 : Nat) (l1_5 : List (S41)) (A1_6 : Option Addr) (c1_6 : Nat) (l1_6 : List ByteArray) (A1_7 : Option Addr) (c1_7 : Nat) (l1_7 : List (S44)) (r : Bool) (w : World) (hr0_4 : Kd.C Kd.string w A0_4 l0_4.length l0_4) (hc0_4 : l0_4.length ≤ c0_4) (hr0_5 : Kd.C k41 w A0_5 l0_5.length l0_5) (hc0_5 : l0_5.length ≤ c0_5) (hr0_6 : Kd.C Kd.string w A0_6 l0_6.length l0_6) (hc0_6 : l0_6.length ≤ c0_6) (hr0_7 : Kd.C k44 w A0_7 l0_7.length l0_7) (hc0_7 : l0_7.length ≤ c0_7) (hr1_4 : Kd.C Kd.string w A1_4 l1_4.length l1_4) (hc1_4 : l1_4.length ≤ c1_4) (hr1_5 : Kd.C k41 w A1_5 l1_5.length l1_5) (hc1_5 : l1_5.length ≤ c1_5) (hr1_6 : Kd.C Kd.string w A1_6 l1_6.length l1_6) (hc1_6 : l1_6.length ≤ c1_6) (hr1_7 : Kd.C k44 w A1_7 l1_7.length l1_7) (hc1_7 : l1_7.length ≤ c1_7) (h : impl_EqualTerm.f k a0_0 a0_1 a0_2 a0_3 l0_4 l0_5 l0_6 l0_7 a1_0 a1_1 a1_2 a1_3 l1_4 l1_5 l1_6 l1_7 = some r),
  Calls Try.prog 34 #[.agg #[.int .i64 a0_0, .string a0_1, .int .i64 a0_2, .int .i64 a0_3, .slice A0_4 l0_4.length c0_4, .slice A0_5 l0_5.length c0_5, .slice A0_6 l0_6.length c0_6, .slice A0_7 l0_7.length c0_7], .agg #[.int .i64 a1_0, .string a1_1, .int .i64 a1_2, .int .i64 a1_3, .slice A1_4 l1_4.length c1_4, .slice A1_5 l1_5.length c1_5, .slice A1_6 l1_6.length c1_6, .slice A1_7 l1_7.length c1_7]] w fun e w' => e = .returned (.bool r) ∧ Below w.heap.size w w'
abbrev slices_EqualFunc_Term_of_EqualTerm.T (k : Nat) : Prop := ∀ (A0 : Option Addr) (c0 : Nat) (l0 : List (S44)) (A1 : Option Addr) (c1 : Nat) (l1 : List (S44))  (r : Bool) (w : World) (hr0 : Kd.C k44 w A0 l0.length l0) (hc0 : l0.length ≤ c0) (hr1 : Kd.C k44 w A1 l1.length l1) (hc1 : l1.length ≤ c1) (h : slices_EqualFunc_Term_of_EqualTerm.f k l0 l1 = some r),
  Calls Try.prog 47 #[.slice A0 l0.length c0, .slice A1 l1.length c1, .func (.func 34) #[] #[]] w fun e w' => e = .returned (.bool r) ∧ Below w.heap.size w w'
/-! ### impl_EqualTerm: function 34 -/
theorem impl_EqualTerm.step (k : Nat) (ih : ∀ m, m < k → impl_EqualTerm.T m) (ih_86 : ∀ m, m < k → slices_EqualFunc_Term_of_EqualTerm.T m) : impl_EqualTerm.T k := by
 intro a0_0 a0_1 a0_2 a0_3 A0_4 c0_4 l0_4 A0_5 c0_5 l0_5 A0_6 c0_6 l0_6 A0_7 c0_7 l0_7 a1_0 a1_1 a1_2 a1_3 A1_4 c1_4 l1_4 A1_5 c1_5 l1_5 A1_6 c1_6 l1_6 A1_7 c1_7 l1_7 r w hr0_4 hc0_4 hr0_5 hc0_5 hr0_6 hc0_6 hr0_7 hc0_7 hr1_4 hc1_4 hr1_5 hc1_5 hr1_6 hc1_6 hr1_7 hc1_7 h
 cases k with
 | zero => exact absurd h (by simp [impl_EqualTerm.f])
 | succ k =>
 simp only [impl_EqualTerm.f] at h
 have hu44 := Try.underlying44
 have hu41 := Try.underlying41
 have HR0_4 := am hr0_4
 have HC0_4 := am hc0_4
 clear hr0_4 hc0_4
 have HR0_5 := am hr0_5
 have HC0_5 := am hc0_5
 clear hr0_5 hc0_5
 have HR0_6 := am hr0_6
 have HC0_6 := am hc0_6
 clear hr0_6 hc0_6
 have HR0_7 := am hr0_7
 have HC0_7 := am hc0_7
 clear hr0_7 hc0_7
 have HR1_4 := am hr1_4
 have HC1_4 := am hc1_4
 clear hr1_4 hc1_4
 have HR1_5 := am hr1_5
 have HC1_5 := am hc1_5
 clear hr1_5 hc1_5
 have HR1_6 := am hr1_6
 have HC1_6 := am hc1_6
 clear hr1_6 hc1_6
 have HR1_7 := am hr1_7
 have HC1_7 := am hc1_7
 clear hr1_7 hc1_7
 have HB := am (Below.refl w.heap.size w)
 have H : (if a0_0 = a1_0 then (if a0_1.toList = a1_1.toList then (if a0_2 = a1_2 then ((impl_EqualType.f k a0_3 l0_4 l0_5 a1_3 l1_4 l1_5).bind fun t458 => (if t458 = true then ((slices_Equal_string_string.f k l0_6 l1_6).bind fun t459 => (if t459 = true then ((slices_EqualFunc_Term_of_EqualTerm.f k l0_7 l1_7).bind fun t460 => (some t460)) else (some false))) else (some false))) else (some false)) else (some false)) else (some false)) = some r := h
 clear h
 by_cases c3 : a0_0 = a1_0
 case neg =>
  rw [if_neg c3] at H
  have c3b0 : (a0_0 == a1_0) = false := beq_eq_false_iff_ne.mpr c3
  have c3b1 : (a0_0 != a1_0) = true := bne_iff_ne.mpr c3
  obtain rfl := Option.some.inj H
  go_enter Try.func34, Try.ntmps34
  go_wp2_with (first | ((with_reducible refine gate_dst (N := 2) rfl ?_); refine box_event ?hg (N := 2) ?hd (cs := #[.int .i64 a0_0, .string a0_1, .int .i64 a0_2, .int .i64 a0_3, .slice A0_4 l0_4.length c0_4, .slice A0_5 l0_5.length c0_5, .slice A0_6 l0_6.length c0_6, .slice A0_7 l0_7.length c0_7]) (t := 44) ?hr ?_; (case hd => rfl); (case hg => rfl); (case hr => exact hrw); intro gb456 hg w44 hbox hb; have n0_ := am (below_step blw hb); have n1_ := am (hbox); have n2_ := am ((by rw [hg]; exact (below_size blw) : w.heap.size ≤ gb456)); have n3_ := n2_; clear HB; revert n0_ n1_ n2_ n3_; intro HB BK456 GW456 GE456; clear hb hbox hg) | ((with_reducible refine gate_dst (N := 3) rfl ?_); refine box_event ?hg (N := 3) ?hd (cs := #[.int .i64 a1_0, .string a1_1, .int .i64 a1_2, .int .i64 a1_3, .slice A1_4 l1_4.length c1_4, .slice A1_5 l1_5.length c1_5, .slice A1_6 l1_6.length c1_6, .slice A1_7 l1_7.length c1_7]) (t := 44) ?hr ?_; (case hd => rfl); (case hg => rfl); (case hr => exact hrw); intro gb457 hg w45 hbox hb; have n0_ := am (blk_below (g := gb456) bkw hb); have n1_ := am (below_step blw hb); have n2_ := am (hbox); have n3_ := am ((by rw [hg]; exact (below_size blw) : w.heap.size ≤ gb457)); have n4_ := n3_; have n5_ := am ((by rw [hg]; exact Nat.ne_of_lt (blk_lt (g := gb456) bkw) : gb456 ≠ gb457)); have n6_ := am ((by rw [hg]; exact Nat.ne_of_gt (blk_lt (g := gb456) bkw) : gb457 ≠ gb456)); clear BK456; clear HB; revert n0_ n1_ n2_ n3_ n4_ n5_ n6_; intro BK456 HB BK457 GW457 GE457 NB456_457 NB457_456; clear hb hbox hg; have hnb46 := NB456_457.out; have hnc46 := NB457_456.out; obtain ⟨hcz47_0, hcz47_1, hcz47_2, hcz47_3, hcz47_4, hcz47_5, hcz47_6, hcz47_7⟩ := cls8 BK456.out; obtain ⟨hfz47_0, hfz47_1, hfz47_2, hfz47_3, hfz47_4, hfz47_5, hfz47_6, hfz47_7⟩ := frz8 BK456.out; obtain ⟨hcz48_0, hcz48_1, hcz48_2, hcz48_3, hcz48_4, hcz48_5, hcz48_6, hcz48_7⟩ := cls8 BK457.out; obtain ⟨hfz48_0, hfz48_1, hfz48_2, hfz48_3, hfz48_4, hfz48_5, hfz48_6, hfz48_7⟩ := frz8 BK457.out))
  go_ret
  exact ⟨rfw, blw⟩
 rw [if_pos c3] at H
 have c3b0 : (a0_0 == a1_0) = true := beq_iff_eq.mpr c3
 have c3b1 : (a0_0 != a1_0) = false := bne_eq_false_iff_eq.mpr c3
 clear c3
 by_cases c4 : a0_1.toList = a1_1.toList
 case neg =>
  rw [if_neg c4] at H
  have c4b0 : (a0_1.toList == a1_1.toList) = false := beq_eq_false_iff_ne.mpr c4
  have c4b1 : (a0_1.toList != a1_1.toList) = true := bne_iff_ne.mpr c4
  obtain rfl := Option.some.inj H
  go_enter Try.func34, Try.ntmps34
  go_wp2_with (first | ((with_reducible refine gate_dst (N := 2) rfl ?_); refine box_event ?hg (N := 2) ?hd (cs := #[.int .i64 a0_0, .string a0_1, .int .i64 a0_2, .int .i64 a0_3, .slice A0_4 l0_4.length c0_4, .slice A0_5 l0_5.length c0_5, .slice A0_6 l0_6.length c0_6, .slice A0_7 l0_7.length c0_7]) (t := 44) ?hr ?_; (case hd => rfl); (case hg => rfl); (case hr => exact hrw); intro gb456 hg w39 hbox hb; have n0_ := am (below_step blw hb); have n1_ := am (hbox); have n2_ := am ((by rw [hg]; exact (below_size blw) : w.heap.size ≤ gb456)); have n3_ := n2_; clear HB; revert n0_ n1_ n2_ n3_; intro HB BK456 GW456 GE456; clear hb hbox hg) | ((with_reducible refine gate_dst (N := 3) rfl ?_); refine box_event ?hg (N := 3) ?hd (cs := #[.int .i64 a1_0, .string a1_1, .int .i64 a1_2, .int .i64 a1_3, .slice A1_4 l1_4.length c1_4, .slice A1_5 l1_5.length c1_5, .slice A1_6 l1_6.length c1_6, .slice A1_7 l1_7.length c1_7]) (t := 44) ?hr ?_; (case hd => rfl); (case hg => rfl); (case hr => exact hrw); intro gb457 hg w40 hbox hb; have n0_ := am (blk_below (g := gb456) bkw hb); have n1_ := am (below_step blw hb); have n2_ := am (hbox); have n3_ := am ((by rw [hg]; exact (below_size blw) : w.heap.size ≤ gb457)); have n4_ := n3_; have n5_ := am ((by rw [hg]; exact Nat.ne_of_lt (blk_lt (g := gb456) bkw) : gb456 ≠ gb457)); have n6_ := am ((by rw [hg]; exact Nat.ne_of_gt (blk_lt (g := gb456) bkw) : gb457 ≠ gb456)); clear BK456; clear HB; revert n0_ n1_ n2_ n3_ n4_ n5_ n6_; intro BK456 HB BK457 GW457 GE457 NB456_457 NB457_456; clear hb hbox hg; have hnb41 := NB456_457.out; have hnc41 := NB457_456.out; obtain ⟨hcz42_0, hcz42_1, hcz42_2, hcz42_3, hcz42_4, hcz42_5, hcz42_6, hcz42_7⟩ := cls8 BK456.out; obtain ⟨hfz42_0, hfz42_1, hfz42_2, hfz42_3, hfz42_4, hfz42_5, hfz42_6, hfz42_7⟩ := frz8 BK456.out; obtain ⟨hcz43_0, hcz43_1, hcz43_2, hcz43_3, hcz43_4, hcz43_5, hcz43_6, hcz43_7⟩ := cls8 BK457.out; obtain ⟨hfz43_0, hfz43_1, hfz43_2, hfz43_3, hfz43_4, hfz43_5, hfz43_6, hfz43_7⟩ := frz8 BK457.out))
  go_ret
  exact ⟨rfw, blw⟩
 rw [if_pos c4] at H
 have c4b0 : (a0_1.toList == a1_1.toList) = true := beq_iff_eq.mpr c4
 have c4b1 : (a0_1.toList != a1_1.toList) = false := bne_eq_false_iff_eq.mpr c4
 clear c4
 by_cases c5 : a0_2 = a1_2
 case neg =>
  rw [if_neg c5] at H
  have c5b0 : (a0_2 == a1_2) = false := beq_eq_false_iff_ne.mpr c5
  have c5b1 : (a0_2 != a1_2) = true := bne_iff_ne.mpr c5
  obtain rfl := Option.some.inj H
  go_enter Try.func34, Try.ntmps34
  go_wp2_with (first | ((with_reducible refine gate_dst (N := 2) rfl ?_); refine box_event ?hg (N := 2) ?hd (cs := #[.int .i64 a0_0, .string a0_1, .int .i64 a0_2, .int .i64 a0_3, .slice A0_4 l0_4.length c0_4, .slice A0_5 l0_5.length c0_5, .slice A0_6 l0_6.length c0_6, .slice A0_7 l0_7.length c0_7]) (t := 44) ?hr ?_; (case hd => rfl); (case hg => rfl); (case hr => exact hrw); intro gb456 hg w34 hbox hb; have n0_ := am (below_step blw hb); have n1_ := am (hbox); have n2_ := am ((by rw [hg]; exact (below_size blw) : w.heap.size ≤ gb456)); have n3_ := n2_; clear HB; revert n0_ n1_ n2_ n3_; intro HB BK456 GW456 GE456; clear hb hbox hg) | ((with_reducible refine gate_dst (N := 3) rfl ?_); refine box_event ?hg (N := 3) ?hd (cs := #[.int .i64 a1_0, .string a1_1, .int .i64 a1_2, .int .i64 a1_3, .slice A1_4 l1_4.length c1_4, .slice A1_5 l1_5.length c1_5, .slice A1_6 l1_6.length c1_6, .slice A1_7 l1_7.length c1_7]) (t := 44) ?hr ?_; (case hd => rfl); (case hg => rfl); (case hr => exact hrw); intro gb457 hg w35 hbox hb; have n0_ := am (blk_below (g := gb456) bkw hb); have n1_ := am (below_step blw hb); have n2_ := am (hbox); have n3_ := am ((by rw [hg]; exact (below_size blw) : w.heap.size ≤ gb457)); have n4_ := n3_; have n5_ := am ((by rw [hg]; exact Nat.ne_of_lt (blk_lt (g := gb456) bkw) : gb456 ≠ gb457)); have n6_ := am ((by rw [hg]; exact Nat.ne_of_gt (blk_lt (g := gb456) bkw) : gb457 ≠ gb456)); clear BK456; clear HB; revert n0_ n1_ n2_ n3_ n4_ n5_ n6_; intro BK456 HB BK457 GW457 GE457 NB456_457 NB457_456; clear hb hbox hg; have hnb36 := NB456_457.out; have hnc36 := NB457_456.out; obtain ⟨hcz37_0, hcz37_1, hcz37_2, hcz37_3, hcz37_4, hcz37_5, hcz37_6, hcz37_7⟩ := cls8 BK456.out; obtain ⟨hfz37_0, hfz37_1, hfz37_2, hfz37_3, hfz37_4, hfz37_5, hfz37_6, hfz37_7⟩ := frz8 BK456.out; obtain ⟨hcz38_0, hcz38_1, hcz38_2, hcz38_3, hcz38_4, hcz38_5, hcz38_6, hcz38_7⟩ := cls8 BK457.out; obtain ⟨hfz38_0, hfz38_1, hfz38_2, hfz38_3, hfz38_4, hfz38_5, hfz38_6, hfz38_7⟩ := frz8 BK457.out))
  go_ret
  exact ⟨rfw, blw⟩
 rw [if_pos c5] at H
 have c5b0 : (a0_2 == a1_2) = true := beq_iff_eq.mpr c5
 have c5b1 : (a0_2 != a1_2) = false := bne_eq_false_iff_eq.mpr c5
 clear c5
 replace H := Option.bind_eq_some_iff.mp H
 obtain ⟨t458, A60, H⟩ := H
 replace H : (if t458 = true then ((slices_Equal_string_string.f k l0_6 l1_6).bind fun t459 => (if t459 = true then ((slices_EqualFunc_Term_of_EqualTerm.f k l0_7 l1_7).bind fun t460 => (some t460)) else (some false))) else (some false)) = some r := H
 have A6 := am A60
 clear A60
 by_cases c7 : t458 = true
 case neg =>
  replace c7 := Bool.eq_false_iff.mpr c7
  subst c7
  have H1 : (some false) = some r := by rw [if_neg (show ¬ (false = true) by decide)] at H; exact H
  clear H
  have H := H1
  clear H1
  obtain rfl := Option.some.inj H
  go_enter Try.func34, Try.ntmps34
  go_wp2_with (first | ((with_reducible refine gate_dst (N := 2) rfl ?_); refine box_event ?hg (N := 2) ?hd (cs := #[.int .i64 a0_0, .string a0_1, .int .i64 a0_2, .int .i64 a0_3, .slice A0_4 l0_4.length c0_4, .slice A0_5 l0_5.length c0_5, .slice A0_6 l0_6.length c0_6, .slice A0_7 l0_7.length c0_7]) (t := 44) ?hr ?_; (case hd => rfl); (case hg => rfl); (case hr => exact hrw); intro gb456 hg w28 hbox hb; have n0_ := am (below_step blw hb); have n1_ := am (hbox); have n2_ := am ((by rw [hg]; exact (below_size blw) : w.heap.size ≤ gb456)); have n3_ := n2_; clear HB; revert n0_ n1_ n2_ n3_; intro HB BK456 GW456 GE456; clear hb hbox hg) | ((with_reducible refine gate_dst (N := 3) rfl ?_); refine box_event ?hg (N := 3) ?hd (cs := #[.int .i64 a1_0, .string a1_1, .int .i64 a1_2, .int .i64 a1_3, .slice A1_4 l1_4.length c1_4, .slice A1_5 l1_5.length c1_5, .slice A1_6 l1_6.length c1_6, .slice A1_7 l1_7.length c1_7]) (t := 44) ?hr ?_; (case hd => rfl); (case hg => rfl); (case hr => exact hrw); intro gb457 hg w29 hbox hb; have n0_ := am (blk_below (g := gb456) bkw hb); have n1_ := am (below_step blw hb); have n2_ := am (hbox); have n3_ := am ((by rw [hg]; exact (below_size blw) : w.heap.size ≤ gb457)); have n4_ := n3_; have n5_ := am ((by rw [hg]; exact Nat.ne_of_lt (blk_lt (g := gb456) bkw) : gb456 ≠ gb457)); have n6_ := am ((by rw [hg]; exact Nat.ne_of_gt (blk_lt (g := gb456) bkw) : gb457 ≠ gb456)); clear BK456; clear HB; revert n0_ n1_ n2_ n3_ n4_ n5_ n6_; intro BK456 HB BK457 GW457 GE457 NB456_457 NB457_456; clear hb hbox hg; have hnb30 := NB456_457.out; have hnc30 := NB457_456.out; obtain ⟨hcz31_0, hcz31_1, hcz31_2, hcz31_3, hcz31_4, hcz31_5, hcz31_6, hcz31_7⟩ := cls8 BK456.out; obtain ⟨hfz31_0, hfz31_1, hfz31_2, hfz31_3, hfz31_4, hfz31_5, hfz31_6, hfz31_7⟩ := frz8 BK456.out; obtain ⟨hcz32_0, hcz32_1, hcz32_2, hcz32_3, hcz32_4, hcz32_5, hcz32_6, hcz32_7⟩ := cls8 BK457.out; obtain ⟨hfz32_0, hfz32_1, hfz32_2, hfz32_3, hfz32_4, hfz32_5, hfz32_6, hfz32_7⟩ := frz8 BK457.out) | (go_at_call 45; (with_reducible refine (impl_EqualType.calls k a0_3 _ _ l0_4 _ _ l0_5 a1_3 _ _ l1_4 _ _ l1_5 false _ ?side1 ?side2 ?side3 ?side4 ?side5 ?side6 ?side7 ?side8 A6.out).mono ?_); (case side1 => have X_ := HR0_4; exact cbl); (case side2 => exact HC0_4.out); (case side3 => have X_ := HR0_5; exact cbl); (case side4 => exact HC0_5.out); (case side5 => have X_ := HR1_4; exact cbl); (case side6 => exact HC1_4.out); (case side7 => have X_ := HR1_5; exact cbl); (case side8 => exact HC1_5.out); rintro e w33 ⟨rfl, hb⟩; have n0_ := am (blk_below (g := gb456) bkw hb); have n1_ := am (blk_below (g := gb457) bkw hb); have n2_ := am (below_step blw hb); clear BK456; clear BK457; clear HB; revert n0_ n1_ n2_; intro BK456 BK457 HB; (try clear hb); (try clear hb2); (try clear hk); (try clear hi)))
  go_ret
  exact ⟨rfw, blw⟩
 subst c7
 have H1 : ((slices_Equal_string_string.f k l0_6 l1_6).bind fun t459 => (if t459 = true then ((slices_EqualFunc_Term_of_EqualTerm.f k l0_7 l1_7).bind fun t460 => (some t460)) else (some false))) = some r := by rw [if_pos rfl] at H; exact H
 clear H
 have H := H1
 clear H1
 replace H := Option.bind_eq_some_iff.mp H
 obtain ⟨t459, A80, H⟩ := H
 replace H : (if t459 = true then ((slices_EqualFunc_Term_of_EqualTerm.f k l0_7 l1_7).bind fun t460 => (some t460)) else (some false)) = some r := H
 have A8 := am A80
 clear A80
 by_cases c9 : t459 = true
 case neg =>
  replace c9 := Bool.eq_false_iff.mpr c9
  subst c9
  have H1 : (some false) = some r := by rw [if_neg (show ¬ (false = true) by decide)] at H; exact H
  clear H
  have H := H1
  clear H1
  obtain rfl := Option.some.inj H
  go_enter Try.func34, Try.ntmps34
  go_wp2_with (first | ((with_reducible refine gate_dst (N := 2) rfl ?_); refine box_event ?hg (N := 2) ?hd (cs := #[.int .i64 a0_0, .string a0_1, .int .i64 a0_2, .int .i64 a0_3, .slice A0_4 l0_4.length c0_4, .slice A0_5 l0_5.length c0_5, .slice A0_6 l0_6.length c0_6, .slice A0_7 l0_7.length c0_7]) (t := 44) ?hr ?_; (case hd => rfl); (case hg => rfl); (case hr => exact hrw); intro gb456 hg w20 hbox hb; have n0_ := am (below_step blw hb); have n1_ := am (hbox); have n2_ := am ((by rw [hg]; exact (below_size blw) : w.heap.size ≤ gb456)); have n3_ := n2_; clear HB; revert n0_ n1_ n2_ n3_; intro HB BK456 GW456 GE456; clear hb hbox hg) | ((with_reducible refine gate_dst (N := 3) rfl ?_); refine box_event ?hg (N := 3) ?hd (cs := #[.int .i64 a1_0, .string a1_1, .int .i64 a1_2, .int .i64 a1_3, .slice A1_4 l1_4.length c1_4, .slice A1_5 l1_5.length c1_5, .slice A1_6 l1_6.length c1_6, .slice A1_7 l1_7.length c1_7]) (t := 44) ?hr ?_; (case hd => rfl); (case hg => rfl); (case hr => exact hrw); intro gb457 hg w21 hbox hb; have n0_ := am (blk_below (g := gb456) bkw hb); have n1_ := am (below_step blw hb); have n2_ := am (hbox); have n3_ := am ((by rw [hg]; exact (below_size blw) : w.heap.size ≤ gb457)); have n4_ := n3_; have n5_ := am ((by rw [hg]; exact Nat.ne_of_lt (blk_lt (g := gb456) bkw) : gb456 ≠ gb457)); have n6_ := am ((by rw [hg]; exact Nat.ne_of_gt (blk_lt (g := gb456) bkw) : gb457 ≠ gb456)); clear BK456; clear HB; revert n0_ n1_ n2_ n3_ n4_ n5_ n6_; intro BK456 HB BK457 GW457 GE457 NB456_457 NB457_456; clear hb hbox hg; have hnb22 := NB456_457.out; have hnc22 := NB457_456.out; obtain ⟨hcz23_0, hcz23_1, hcz23_2, hcz23_3, hcz23_4, hcz23_5, hcz23_6, hcz23_7⟩ := cls8 BK456.out; obtain ⟨hfz23_0, hfz23_1, hfz23_2, hfz23_3, hfz23_4, hfz23_5, hfz23_6, hfz23_7⟩ := frz8 BK456.out; obtain ⟨hcz24_0, hcz24_1, hcz24_2, hcz24_3, hcz24_4, hcz24_5, hcz24_6, hcz24_7⟩ := cls8 BK457.out; obtain ⟨hfz24_0, hfz24_1, hfz24_2, hfz24_3, hfz24_4, hfz24_5, hfz24_6, hfz24_7⟩ := frz8 BK457.out) | (go_at_call 45; (with_reducible refine (impl_EqualType.calls k a0_3 _ _ l0_4 _ _ l0_5 a1_3 _ _ l1_4 _ _ l1_5 true _ ?side1 ?side2 ?side3 ?side4 ?side5 ?side6 ?side7 ?side8 A6.out).mono ?_); (case side1 => have X_ := HR0_4; exact cbl); (case side2 => exact HC0_4.out); (case side3 => have X_ := HR0_5; exact cbl); (case side4 => exact HC0_5.out); (case side5 => have X_ := HR1_4; exact cbl); (case side6 => exact HC1_4.out); (case side7 => have X_ := HR1_5; exact cbl); (case side8 => exact HC1_5.out); rintro e w25 ⟨rfl, hb⟩; have n0_ := am (blk_below (g := gb456) bkw hb); have n1_ := am (blk_below (g := gb457) bkw hb); have n2_ := am (below_step blw hb); clear BK456; clear BK457; clear HB; revert n0_ n1_ n2_; intro BK456 BK457 HB; (try clear hb); (try clear hb2); (try clear hk); (try clear hi); obtain ⟨hcz26_0, hcz26_1, hcz26_2, hcz26_3, hcz26_4, hcz26_5, hcz26_6, hcz26_7⟩ := cls8 BK456.out; obtain ⟨hfz26_0, hfz26_1, hfz26_2, hfz26_3, hfz26_4, hfz26_5, hfz26_6, hfz26_7⟩ := frz8 BK456.out; obtain ⟨hcz27_0, hcz27_1, hcz27_2, hcz27_3, hcz27_4, hcz27_5, hcz27_6, hcz27_7⟩ := cls8 BK457.out; obtain ⟨hfz27_0, hfz27_1, hfz27_2, hfz27_3, hfz27_4, hfz27_5, hfz27_6, hfz27_7⟩ := frz8 BK457.out) | (go_at_call 46; (with_reducible refine (slices_Equal_string_string.calls k _ _ l0_6 _ _ l1_6 false _ ?side1 ?side2 ?side3 ?side4 A8.out).mono ?_); (case side1 => have X_ := HR0_6; exact cbl); (case side2 => exact HC0_6.out); (case side3 => have X_ := HR1_6; exact cbl); (case side4 => exact HC1_6.out); rintro e w' ⟨rfl, ⟨nd, rfl⟩⟩))
  go_ret
  exact ⟨rfw, blw⟩
 subst c9
 have H1 : ((slices_EqualFunc_Term_of_EqualTerm.f k l0_7 l1_7).bind fun t460 => (some t460)) = some r := by rw [if_pos rfl] at H; exact H
 clear H
 have H := H1
 clear H1
 replace H := Option.bind_eq_some_iff.mp H
 obtain ⟨t460, A100, H⟩ := H
 replace H : (some t460) = some r := H
 have A10 := am A100
 clear A100
 obtain rfl := Option.some.inj H
 go_enter Try.func34, Try.ntmps34
 go_wp2_with (first | ((with_reducible refine gate_dst (N := 2) rfl ?_); refine box_event ?hg (N := 2) ?hd (cs := #[.int .i64 a0_0, .string a0_1, .int .i64 a0_2, .int .i64 a0_3, .slice A0_4 l0_4.length c0_4, .slice A0_5 l0_5.length c0_5, .slice A0_6 l0_6.length c0_6, .slice A0_7 l0_7.length c0_7]) (t := 44) ?hr ?_; (case hd => rfl); (case hg => rfl); (case hr => exact hrw); intro gb456 hg w11 hbox hb; have n0_ := am (below_step blw hb); have n1_ := am (hbox); have n2_ := am ((by rw [hg]; exact (below_size blw) : w.heap.size ≤ gb456)); have n3_ := n2_; clear HB; revert n0_ n1_ n2_ n3_; intro HB BK456 GW456 GE456; clear hb hbox hg) | ((with_reducible refine gate_dst (N := 3) rfl ?_); refine box_event ?hg (N := 3) ?hd (cs := #[.int .i64 a1_0, .string a1_1, .int .i64 a1_2, .int .i64 a1_3, .slice A1_4 l1_4.length c1_4, .slice A1_5 l1_5.length c1_5, .slice A1_6 l1_6.length c1_6, .slice A1_7 l1_7.length c1_7]) (t := 44) ?hr ?_; (case hd => rfl); (case hg => rfl); (case hr => exact hrw); intro gb457 hg w12 hbox hb; have n0_ := am (blk_below (g := gb456) bkw hb); have n1_ := am (below_step blw hb); have n2_ := am (hbox); have n3_ := am ((by rw [hg]; exact (below_size blw) : w.heap.size ≤ gb457)); have n4_ := n3_; have n5_ := am ((by rw [hg]; exact Nat.ne_of_lt (blk_lt (g := gb456) bkw) : gb456 ≠ gb457)); have n6_ := am ((by rw [hg]; exact Nat.ne_of_gt (blk_lt (g := gb456) bkw) : gb457 ≠ gb456)); clear BK456; clear HB; revert n0_ n1_ n2_ n3_ n4_ n5_ n6_; intro BK456 HB BK457 GW457 GE457 NB456_457 NB457_456; clear hb hbox hg; have hnb13 := NB456_457.out; have hnc13 := NB457_456.out; obtain ⟨hcz14_0, hcz14_1, hcz14_2, hcz14_3, hcz14_4, hcz14_5, hcz14_6, hcz14_7⟩ := cls8 BK456.out; obtain ⟨hfz14_0, hfz14_1, hfz14_2, hfz14_3, hfz14_4, hfz14_5, hfz14_6, hfz14_7⟩ := frz8 BK456.out; obtain ⟨hcz15_0, hcz15_1, hcz15_2, hcz15_3, hcz15_4, hcz15_5, hcz15_6, hcz15_7⟩ := cls8 BK457.out; obtain ⟨hfz15_0, hfz15_1, hfz15_2, hfz15_3, hfz15_4, hfz15_5, hfz15_6, hfz15_7⟩ := frz8 BK457.out) | (go_at_call 45; (with_reducible refine (impl_EqualType.calls k a0_3 _ _ l0_4 _ _ l0_5 a1_3 _ _ l1_4 _ _ l1_5 true _ ?side1 ?side2 ?side3 ?side4 ?side5 ?side6 ?side7 ?side8 A6.out).mono ?_); (case side1 => have X_ := HR0_4; exact cbl); (case side2 => exact HC0_4.out); (case side3 => have X_ := HR0_5; exact cbl); (case side4 => exact HC0_5.out); (case side5 => have X_ := HR1_4; exact cbl); (case side6 => exact HC1_4.out); (case side7 => have X_ := HR1_5; exact cbl); (case side8 => exact HC1_5.out); rintro e w16 ⟨rfl, hb⟩; have n0_ := am (blk_below (g := gb456) bkw hb); have n1_ := am (blk_below (g := gb457) bkw hb); have n2_ := am (below_step blw hb); clear BK456; clear BK457; clear HB; revert n0_ n1_ n2_; intro BK456 BK457 HB; (try clear hb); (try clear hb2); (try clear hk); (try clear hi); obtain ⟨hcz17_0, hcz17_1, hcz17_2, hcz17_3, hcz17_4, hcz17_5, hcz17_6, hcz17_7⟩ := cls8 BK456.out; obtain ⟨hfz17_0, hfz17_1, hfz17_2, hfz17_3, hfz17_4, hfz17_5, hfz17_6, hfz17_7⟩ := frz8 BK456.out; obtain ⟨hcz18_0, hcz18_1, hcz18_2, hcz18_3, hcz18_4, hcz18_5, hcz18_6, hcz18_7⟩ := cls8 BK457.out; obtain ⟨hfz18_0, hfz18_1, hfz18_2, hfz18_3, hfz18_4, hfz18_5, hfz18_6, hfz18_7⟩ := frz8 BK457.out) | (go_at_call 46; (with_reducible refine (slices_Equal_string_string.calls k _ _ l0_6 _ _ l1_6 true _ ?side1 ?side2 ?side3 ?side4 A8.out).mono ?_); (case side1 => have X_ := HR0_6; exact cbl); (case side2 => exact HC0_6.out); (case side3 => have X_ := HR1_6; exact cbl); (case side4 => exact HC1_6.out); rintro e w' ⟨rfl, ⟨nd, rfl⟩⟩) | (go_at_call 47; (with_reducible refine (ih_86 k (by omega) _ _ l0_7 _ _ l1_7  t460 _ ?side1 ?side2 ?side3 ?side4 A10.out).mono ?_); (case side1 => repeat (first | exact (Kd.C_below HR0_7.out blw) | (with_reducible refine Kd.C_alloc ?_ _) | (with_reducible refine Kd.C_drewN ?_ _) | (with_reducible refine Kd.C_drew ?_))); (case side2 => exact HC0_7.out); (case side3 => repeat (first | exact (Kd.C_below HR1_7.out blw) | (with_reducible refine Kd.C_alloc ?_ _) | (with_reducible refine Kd.C_drewN ?_ _) | (with_reducible refine Kd.C_drew ?_))); (case side4 => exact HC1_7.out); rintro e w19 ⟨rfl, hb⟩; have n0_ := am (blk_below (g := gb456) bkw hb); have n1_ := am (blk_below (g := gb457) bkw hb); have n2_ := am (below_step blw hb); clear BK456; clear BK457; clear HB; revert n0_ n1_ n2_; intro BK456 BK457 HB; (try clear hb); (try clear hb2); (try clear hk); (try clear hi)))
 go_ret
 exact ⟨rfw, blw⟩

/-! ### slices_EqualFunc_Term_of_EqualTerm: function 86 -/
theorem slices_EqualFunc_Term_of_EqualTerm.step (k : Nat) (ih : ∀ m, m < k → slices_EqualFunc_Term_of_EqualTerm.T m) (ih_34 : ∀ m, m < k → impl_EqualTerm.T m) : slices_EqualFunc_Term_of_EqualTerm.T k := by
 intro A0 c0 l0 A1 c1 l1 r w hr0 hc0 hr1 hc1 h
 cases k with
 | zero => exact absurd h (by simp [slices_EqualFunc_Term_of_EqualTerm.f])
 | succ k =>
 simp only [slices_EqualFunc_Term_of_EqualTerm.f] at h
 have hu44 := Try.underlying44
 have HR0 := am hr0
 have HC0 := am hc0
 clear hr0 hc0
 have HR1 := am hr1
 have HC1 := am hc1
 clear hr1 hc1
 have HB := am (Below.refl w.heap.size w)
 have H : (if (l0.length : Int) = (l1.length : Int) then (slices_EqualFunc_Term_of_EqualTerm.l0 k l1 l0 (l0.length : Int) 0) else (some false)) = some r := h
 clear h
 by_cases c4 : (l0.length : Int) = (l1.length : Int)
 case neg =>
  rw [if_neg c4] at H
  have c4b0 : ((l0.length : Int) == (l1.length : Int)) = false := beq_eq_false_iff_ne.mpr c4
  have c4b1 : ((l0.length : Int) != (l1.length : Int)) = true := bne_iff_ne.mpr c4
  have c4b2 : (l0.length == l1.length) = false := by first | simpa using c4 | (simp at c4 ⊢; omega)
  obtain rfl := Option.some.inj H
  go_enter Try.func47, Try.ntmps47
  go_wp2
  go_ret
  exact ⟨rfw, blw⟩
 rw [if_pos c4] at H
 have c4b0 : ((l0.length : Int) == (l1.length : Int)) = true := beq_iff_eq.mpr c4
 have c4b1 : ((l0.length : Int) != (l1.length : Int)) = false := bne_eq_false_iff_eq.mpr c4
 have c4b2 : (l0.length == l1.length) = true := by first | simpa using c4 | (simp at c4 ⊢; omega)
 clear c4
 have H' := am H
 clear H
 go_enter Try.func47, Try.ntmps47
 go_wp2
 go_loopg [17] k (fun kq v17 w' => ∃ (x17_1 : Int), v17 = .int .i64 x17_1 ∧ Aside0 (slices_EqualFunc_Term_of_EqualTerm.l0 kq l1 l0 (l0.length : Int) x17_1 = some r) ∧ Aside0 (kq ≤ k) ∧ Aside0 (Below w.heap.size w w'))
 case atStart => exact ⟨(0), rfs, H', ⟨Nat.le_refl _⟩, ⟨blw⟩⟩
 case round =>
  clear H'
  (try clear c1); (try clear p2); (try clear c4); (try clear c4b0); (try clear c4b1); (try clear c4b2)
  obtain ⟨x17_1, rfl, HA, HK1, HB⟩ := hrel
  cases gk with
  | zero => exact absurd HA.out (by simp [slices_EqualFunc_Term_of_EqualTerm.l0])
  | succ k1 =>
   have H := HA.out
   clear HA
   simp only [slices_EqualFunc_Term_of_EqualTerm.l0] at H
   by_cases c5 : x17_1 < (l0.length : Int)
   case neg =>
    rw [if_neg c5] at H
    have c5b0 : decide (x17_1 < (l0.length : Int)) = false := decide_eq_false c5
    clear c5
    obtain rfl := Option.some.inj H
    go_wp2
    go_ret
    exact ⟨rfw, blw⟩
   rw [if_pos c5] at H
   have c5b0 : decide (x17_1 < (l0.length : Int)) = true := decide_eq_true c5
   clear c5
   by_cases c6 : 0 ≤ x17_1
   case neg =>
    rw [if_neg c6] at H
    exact absurd H (by simp)
   rw [if_pos c6] at H
   have c6b0 : decide (0 ≤ x17_1) = true := decide_eq_true c6
   clear c6
   by_cases c7 : x17_1 < (l0.length : Int)
   case neg =>
    rw [if_neg c7] at H
    exact absurd H (by simp)
   rw [if_pos c7] at H
   have c7b0 : decide (x17_1 < (l0.length : Int)) = true := decide_eq_true c7
   clear c7
   by_cases c8 : x17_1 < (l1.length : Int)
   case neg =>
    rw [if_neg c8] at H
    exact absurd H (by simp)
   rw [if_pos c8] at H
   have c8b0 : decide (x17_1 < (l1.length : Int)) = true := decide_eq_true c8
   clear c8
   replace H := Option.bind_eq_some_iff.mp H
   obtain ⟨t465, A90, H⟩ := H
   replace H : (if t465 = true then (slices_EqualFunc_Term_of_EqualTerm.l0 k1 l1 l0 (l0.length : Int) (wrap64 (x17_1 + 1))) else (some false)) = some r := H
   have A9 := am A90
   clear A90
   have HC10 := am H
   clear H
   have p461 : 0 ≤ (x17_1 : Int) := of_decide_eq_true asw
   have q461 : x17_1 < (l0.length : Int) := of_decide_eq_true asw
   obtain ⟨ad461, A461_4, c461_4, A461_5, c461_5, A461_6, c461_6, A461_7, c461_7, e461, hx461_0, hx461_1, hx461_2, hx461_3, hx461_4, hx461_5, hx461_6, hx461_7, hl461_4, hi461_4, hl461_5, hi461_5, hl461_6, hi461_6, hl461_7, hi461_7⟩ := at_T44 HR0.out x17_1 p461 q461
   cases e461
   replace hx461_0 := upw HB.out hx461_0
   replace hx461_1 := upw HB.out hx461_1
   replace hx461_2 := upw HB.out hx461_2
   replace hx461_3 := upw HB.out hx461_3
   replace hx461_4 := upw HB.out hx461_4
   replace hx461_5 := upw HB.out hx461_5
   replace hx461_6 := upw HB.out hx461_6
   replace hx461_7 := upw HB.out hx461_7
   have HR461_4 := am hi461_4
   have HC461_4 := am hl461_4
   clear hi461_4 hl461_4
   have HR461_5 := am hi461_5
   have HC461_5 := am hl461_5
   clear hi461_5 hl461_5
   have HR461_6 := am hi461_6
   have HC461_6 := am hl461_6
   clear hi461_6 hl461_6
   have HR461_7 := am hi461_7
   have HC461_7 := am hl461_7
   clear hi461_7 hl461_7
   replace p461 := eq_true p461
   replace q461 := eq_true q461
   go_upto_if 30 with (first | ((with_reducible refine gate_dst (N := 8) rfl ?_); refine box_event ?hg (N := 8) ?hd (cs := #[.int .i64 0, .string (⟨#[]⟩ : ByteArray), .int .i64 0, .int .i64 0, .slice none 0 0, .slice none 0 0, .slice none 0 0, .slice none 0 0]) (t := 44) ?hr ?_; (case hd => rfl); (case hg => rfl); (case hr => exact hrw); intro gb462 hg w11 hbox hb; have n0_ := am (below_step blw hb); have n1_ := am (hbox); have n2_ := am ((by rw [hg]; exact (below_size blw) : w.heap.size ≤ gb462)); have n3_ := n2_; clear HB; revert n0_ n1_ n2_ n3_; intro HB BK462 GW462 GE462; clear hb hbox hg; obtain ⟨hcz12_0, hcz12_1, hcz12_2, hcz12_3, hcz12_4, hcz12_5, hcz12_6, hcz12_7⟩ := cls8 BK462.out; obtain ⟨hfz12_0, hfz12_1, hfz12_2, hfz12_3, hfz12_4, hfz12_5, hfz12_6, hfz12_7⟩ := frz8 BK462.out; have p463 : 0 ≤ (x17_1 : Int) := of_decide_eq_true asw; have q463 : x17_1 < (l1.length : Int) := of_decide_eq_true asw; obtain ⟨ad463, A463_4, c463_4, A463_5, c463_5, A463_6, c463_6, A463_7, c463_7, e463, hx463_0, hx463_1, hx463_2, hx463_3, hx463_4, hx463_5, hx463_6, hx463_7, hl463_4, hi463_4, hl463_5, hi463_5, hl463_6, hi463_6, hl463_7, hi463_7⟩ := at_T44 HR1.out x17_1 p463 q463; cases e463; have hn463_0 : ad463.block ≠ gb462 := Nat.ne_of_lt (Nat.lt_of_lt_of_le (by have := World.block_lt_of_cell? _ _ hx463_0; first | rwa [add_block] at this | exact this) GW462.out); have hn463_1 := hn463_0; have hn463_2 := hn463_0; have hn463_3 := hn463_0; have hn463_4 := hn463_0; have hn463_5 := hn463_0; have hn463_6 := hn463_0; have hn463_7 := hn463_0; replace hx463_0 := upw HB.out hx463_0; replace hx463_1 := upw HB.out hx463_1; replace hx463_2 := upw HB.out hx463_2; replace hx463_3 := upw HB.out hx463_3; replace hx463_4 := upw HB.out hx463_4; replace hx463_5 := upw HB.out hx463_5; replace hx463_6 := upw HB.out hx463_6; replace hx463_7 := upw HB.out hx463_7; have HR463_4 := am hi463_4; have HC463_4 := am hl463_4; clear hi463_4 hl463_4; have HR463_5 := am hi463_5; have HC463_5 := am hl463_5; clear hi463_5 hl463_5; have HR463_6 := am hi463_6; have HC463_6 := am hl463_6; clear hi463_6 hl463_6; have HR463_7 := am hi463_7; have HC463_7 := am hl463_7; clear hi463_7 hl463_7; have hc_ := Cells_c hx463_0 (Cells'_c hx463_1 (Cells'_c hx463_2 (Cells'_c hx463_3 (Cells'_c hx463_4 (Cells'_c hx463_5 (Cells'_c hx463_6 (Cells'_c hx463_7  Cells'_n))))))); replace hc_ := Cells_far hc_ ⟨gb462, 0, none⟩ (by first | (rw [add_block]; exact hn463_0) | exact hn463_0) (.int .i64 ((rd_T44 l0 x17_1).f0)); replace hc_ := Cells_far hc_ ⟨gb462, 1, none⟩ (by first | (rw [add_block]; exact hn463_1) | exact hn463_1) (.string ((rd_T44 l0 x17_1).f1)); replace hc_ := Cells_far hc_ ⟨gb462, 2, none⟩ (by first | (rw [add_block]; exact hn463_2) | exact hn463_2) (.int .i64 ((rd_T44 l0 x17_1).f2)); replace hc_ := Cells_far hc_ ⟨gb462, 3, none⟩ (by first | (rw [add_block]; exact hn463_3) | exact hn463_3) (.int .i64 ((rd_T44 l0 x17_1).f3.f0)); replace hc_ := Cells_far hc_ ⟨gb462, 4, none⟩ (by first | (rw [add_block]; exact hn463_4) | exact hn463_4) (.slice A461_4 ((rd_T44 l0 x17_1).f3.f1).length c461_4); replace hc_ := Cells_far hc_ ⟨gb462, 5, none⟩ (by first | (rw [add_block]; exact hn463_5) | exact hn463_5) (.slice A461_5 ((rd_T44 l0 x17_1).f3.f2).length c461_5); replace hc_ := Cells_far hc_ ⟨gb462, 6, none⟩ (by first | (rw [add_block]; exact hn463_6) | exact hn463_6) (.slice A461_6 ((rd_T44 l0 x17_1).f4).length c461_6); replace hc_ := Cells_far hc_ ⟨gb462, 7, none⟩ (by first | (rw [add_block]; exact hn463_7) | exact hn463_7) (.slice A461_7 ((rd_T44 l0 x17_1).f5).length c461_7); replace hx463_0 := hc_.1; replace hx463_1 := Cells_get hc_ 1 (by decide) rfl; replace hx463_2 := Cells_get hc_ 2 (by decide) rfl; replace hx463_3 := Cells_get hc_ 3 (by decide) rfl; replace hx463_4 := Cells_get hc_ 4 (by decide) rfl; replace hx463_5 := Cells_get hc_ 5 (by decide) rfl; replace hx463_6 := Cells_get hc_ 6 (by decide) rfl; replace hx463_7 := Cells_get hc_ 7 (by decide) rfl; clear hc_; clear hn463_0; clear hn463_1; clear hn463_2; clear hn463_3; clear hn463_4; clear hn463_5; clear hn463_6; clear hn463_7; replace p463 := eq_true p463; replace q463 := eq_true q463) | ((with_reducible refine gate_dst (N := 9) rfl ?_); refine box_event ?hg (N := 9) ?hd (cs := #[.int .i64 0, .string (⟨#[]⟩ : ByteArray), .int .i64 0, .int .i64 0, .slice none 0 0, .slice none 0 0, .slice none 0 0, .slice none 0 0]) (t := 44) ?hr ?_; (case hd => rfl); (case hg => rfl); (case hr => exact hrw); intro gb464 hg w13 hbox hb; have n0_ := am (blk_below (g := gb462) (o := .cells #[.int .i64 ((rd_T44 l0 x17_1).f0), .string ((rd_T44 l0 x17_1).f1), .int .i64 ((rd_T44 l0 x17_1).f2), .int .i64 ((rd_T44 l0 x17_1).f3.f0), .slice A461_4 ((rd_T44 l0 x17_1).f3.f1).length c461_4, .slice A461_5 ((rd_T44 l0 x17_1).f3.f2).length c461_5, .slice A461_6 ((rd_T44 l0 x17_1).f4).length c461_6, .slice A461_7 ((rd_T44 l0 x17_1).f5).length c461_7] 44 (0, 0)) (by apply blk_sum; (repeat (with_reducible first | apply blk_sett | apply blk_drewN | apply blk_drew | apply blk_alloc)); exact BK462.out; rfl) hb); have n1_ := am (below_step blw hb); have n2_ := am (hbox); have n3_ := am ((by rw [hg]; exact (below_size blw) : w.heap.size ≤ gb464)); have n4_ := n3_; have n5_ := am ((by rw [hg]; exact Nat.ne_of_lt (blk_lt (g := gb462) (o := .cells #[.int .i64 ((rd_T44 l0 x17_1).f0), .string ((rd_T44 l0 x17_1).f1), .int .i64 ((rd_T44 l0 x17_1).f2), .int .i64 ((rd_T44 l0 x17_1).f3.f0), .slice A461_4 ((rd_T44 l0 x17_1).f3.f1).length c461_4, .slice A461_5 ((rd_T44 l0 x17_1).f3.f2).length c461_5, .slice A461_6 ((rd_T44 l0 x17_1).f4).length c461_6, .slice A461_7 ((rd_T44 l0 x17_1).f5).length c461_7] 44 (0, 0)) (by apply blk_sum; (repeat (with_reducible first | apply blk_sett | apply blk_drewN | apply blk_drew | apply blk_alloc)); exact BK462.out; rfl)) : gb462 ≠ gb464)); have n6_ := am ((by rw [hg]; exact Nat.ne_of_gt (blk_lt (g := gb462) (o := .cells #[.int .i64 ((rd_T44 l0 x17_1).f0), .string ((rd_T44 l0 x17_1).f1), .int .i64 ((rd_T44 l0 x17_1).f2), .int .i64 ((rd_T44 l0 x17_1).f3.f0), .slice A461_4 ((rd_T44 l0 x17_1).f3.f1).length c461_4, .slice A461_5 ((rd_T44 l0 x17_1).f3.f2).length c461_5, .slice A461_6 ((rd_T44 l0 x17_1).f4).length c461_6, .slice A461_7 ((rd_T44 l0 x17_1).f5).length c461_7] 44 (0, 0)) (by apply blk_sum; (repeat (with_reducible first | apply blk_sett | apply blk_drewN | apply blk_drew | apply blk_alloc)); exact BK462.out; rfl)) : gb464 ≠ gb462)); clear BK462; clear HB; revert n0_ n1_ n2_ n3_ n4_ n5_ n6_; intro BK462 HB BK464 GW464 GE464 NB462_464 NB464_462; clear hb hbox hg; have hnb14 := NB464_462.out; have hnc14 := NB462_464.out; obtain ⟨hcz15_0, hcz15_1, hcz15_2, hcz15_3, hcz15_4, hcz15_5, hcz15_6, hcz15_7⟩ := cls8 BK464.out; obtain ⟨hfz15_0, hfz15_1, hfz15_2, hfz15_3, hfz15_4, hfz15_5, hfz15_6, hfz15_7⟩ := frz8 BK464.out; obtain ⟨hcz16_0, hcz16_1, hcz16_2, hcz16_3, hcz16_4, hcz16_5, hcz16_6, hcz16_7⟩ := cls8 BK462.out; obtain ⟨hfz16_0, hfz16_1, hfz16_2, hfz16_3, hfz16_4, hfz16_5, hfz16_6, hfz16_7⟩ := frz8 BK462.out) | ((with_reducible refine gate_calleev (t := 26) rfl ?_); refine goesV_ 26 (some 29) rfl rfl rfl Try.func34 kr rfl #[.agg #[.int .i64 ((rd_T44 l0 x17_1).f0), .string ((rd_T44 l0 x17_1).f1), .int .i64 ((rd_T44 l0 x17_1).f2), .int .i64 ((rd_T44 l0 x17_1).f3.f0), .slice A461_4 ((rd_T44 l0 x17_1).f3.f1).length c461_4, .slice A461_5 ((rd_T44 l0 x17_1).f3.f2).length c461_5, .slice A461_6 ((rd_T44 l0 x17_1).f4).length c461_6, .slice A461_7 ((rd_T44 l0 x17_1).f5).length c461_7], .agg #[.int .i64 ((rd_T44 l1 x17_1).f0), .string ((rd_T44 l1 x17_1).f1), .int .i64 ((rd_T44 l1 x17_1).f2), .int .i64 ((rd_T44 l1 x17_1).f3.f0), .slice A463_4 ((rd_T44 l1 x17_1).f3.f1).length c463_4, .slice A463_5 ((rd_T44 l1 x17_1).f3.f2).length c463_5, .slice A463_6 ((rd_T44 l1 x17_1).f4).length c463_6, .slice A463_7 ((rd_T44 l1 x17_1).f5).length c463_7]] rfl mpw ?_; (with_reducible refine (ih_34 k1 (by have := HK1.out; omega) ((rd_T44 l0 x17_1).f0) ((rd_T44 l0 x17_1).f1) ((rd_T44 l0 x17_1).f2) ((rd_T44 l0 x17_1).f3.f0) _ _ ((rd_T44 l0 x17_1).f3.f1) _ _ ((rd_T44 l0 x17_1).f3.f2) _ _ ((rd_T44 l0 x17_1).f4) _ _ ((rd_T44 l0 x17_1).f5) ((rd_T44 l1 x17_1).f0) ((rd_T44 l1 x17_1).f1) ((rd_T44 l1 x17_1).f2) ((rd_T44 l1 x17_1).f3.f0) _ _ ((rd_T44 l1 x17_1).f3.f1) _ _ ((rd_T44 l1 x17_1).f3.f2) _ _ ((rd_T44 l1 x17_1).f4) _ _ ((rd_T44 l1 x17_1).f5) t465 _ ?side1 ?side2 ?side3 ?side4 ?side5 ?side6 ?side7 ?side8 ?side9 ?side10 ?side11 ?side12 ?side13 ?side14 ?side15 ?side16 A9.out).mono ?_); (case side1 => exact Kd.C_below HR461_4.out blw); (case side2 => exact HC461_4.out); (case side3 => exact Kd.C_below HR461_5.out blw); (case side4 => exact HC461_5.out); (case side5 => exact Kd.C_below HR461_6.out blw); (case side6 => exact HC461_6.out); (case side7 => exact Kd.C_below HR461_7.out blw); (case side8 => exact HC461_7.out); (case side9 => exact Kd.C_below HR463_4.out blw); (case side10 => exact HC463_4.out); (case side11 => exact Kd.C_below HR463_5.out blw); (case side12 => exact HC463_5.out); (case side13 => exact Kd.C_below HR463_6.out blw); (case side14 => exact HC463_6.out); (case side15 => exact Kd.C_below HR463_7.out blw); (case side16 => exact HC463_7.out); rintro e w17 ⟨rfl, hb⟩; refine ⟨_, rfl, ?_⟩; have n0_ := am (blk_below (g := gb462) (o := .cells #[.int .i64 ((rd_T44 l0 x17_1).f0), .string ((rd_T44 l0 x17_1).f1), .int .i64 ((rd_T44 l0 x17_1).f2), .int .i64 ((rd_T44 l0 x17_1).f3.f0), .slice A461_4 ((rd_T44 l0 x17_1).f3.f1).length c461_4, .slice A461_5 ((rd_T44 l0 x17_1).f3.f2).length c461_5, .slice A461_6 ((rd_T44 l0 x17_1).f4).length c461_6, .slice A461_7 ((rd_T44 l0 x17_1).f5).length c461_7] 44 (0, 0)) (by apply blk_sum; (repeat (with_reducible first | apply blk_sett | apply blk_far (hp := NB462_464.out) | apply blk_drewN | apply blk_drew | apply blk_alloc)); exact BK462.out; rfl) hb); have n1_ := am (blk_below (g := gb464) (o := .cells #[.int .i64 ((rd_T44 l1 x17_1).f0), .string ((rd_T44 l1 x17_1).f1), .int .i64 ((rd_T44 l1 x17_1).f2), .int .i64 ((rd_T44 l1 x17_1).f3.f0), .slice A463_4 ((rd_T44 l1 x17_1).f3.f1).length c463_4, .slice A463_5 ((rd_T44 l1 x17_1).f3.f2).length c463_5, .slice A463_6 ((rd_T44 l1 x17_1).f4).length c463_6, .slice A463_7 ((rd_T44 l1 x17_1).f5).length c463_7] 44 (0, 0)) (by apply blk_sum; (repeat (with_reducible first | apply blk_sett | apply blk_drewN | apply blk_drew | apply blk_alloc)); exact BK464.out; rfl) hb); have n2_ := am (below_step blw hb); clear BK462; clear BK464; clear HB; revert n0_ n1_ n2_; intro BK462 BK464 HB; (try clear hb); (try clear hb2); (try clear hk); (try clear hi)))
   (try clear hcz12_0 hcz12_1 hcz12_2 hcz12_3 hcz12_4 hcz12_5 hcz12_6 hcz12_7); (try clear hcz15_0 hcz15_1 hcz15_2 hcz15_3 hcz15_4 hcz15_5 hcz15_6 hcz15_7); (try clear hcz16_0 hcz16_1 hcz16_2 hcz16_3 hcz16_4 hcz16_5 hcz16_6 hcz16_7); (try clear hfz12_0 hfz12_1 hfz12_2 hfz12_3 hfz12_4 hfz12_5 hfz12_6 hfz12_7); (try clear hfz15_0 hfz15_1 hfz15_2 hfz15_3 hfz15_4 hfz15_5 hfz15_6 hfz15_7); (try clear hfz16_0 hfz16_1 hfz16_2 hfz16_3 hfz16_4 hfz16_5 hfz16_6 hfz16_7); (try clear hn463_0 hn463_1 hn463_2 hn463_3 hn463_4 hn463_5 hn463_6 hn463_7); (try clear hx461_0 hx461_1 hx461_2 hx461_3 hx461_4 hx461_5 hx461_6 hx461_7); (try clear hx463_0 hx463_1 hx463_2 hx463_3 hx463_4 hx463_5 hx463_6 hx463_7)
   have H := HC10.out
   clear HC10
   by_cases c18 : t465 = true
   case neg =>
    replace c18 := Bool.eq_false_iff.mpr c18
    subst c18
    have H1 : (some false) = some r := by rw [if_neg (show ¬ (false = true) by decide)] at H; exact H
    clear H
    have H := H1
    clear H1
    obtain rfl := Option.some.inj H
    go_wp2
    go_ret
    exact ⟨rfw, blw⟩
   subst c18
   have H1 : (slices_EqualFunc_Term_of_EqualTerm.l0 k1 l1 l0 (l0.length : Int) (wrap64 (x17_1 + 1))) = some r := by rw [if_pos rfl] at H; exact H
   clear H
   have H := H1
   clear H1
   have H' := am H
   clear H
   go_wp2
   go_roundg k1
   case measure => have := HK1.out; omega
   case rel => exact ⟨(wrap64 (x17_1 + 1)), rfs, H', ⟨by have := HK1.out; omega⟩, ⟨blw⟩⟩

theorem impl_EqualTerm.all (k : Nat) : (impl_EqualTerm.T k) ∧ (slices_EqualFunc_Term_of_EqualTerm.T k) := by
 induction k using Nat.strongRecOn with
 | _ k ih =>
 exact ⟨impl_EqualTerm.step k (fun m hm_ => (ih m hm_).1) (fun m hm_ => (ih m hm_).2), slices_EqualFunc_Term_of_EqualTerm.step k (fun m hm_ => (ih m hm_).2) (fun m hm_ => (ih m hm_).1)⟩

theorem impl_EqualTerm.calls (k : Nat) : ∀ (a0_0 : Int) (a0_1 : ByteArray) (a0_2 : Int) (a0_3 : Int) (A0_4 : Option Addr) (c0_4 : Nat) (l0_4 : List ByteArray) (A0_5 : Option Addr) (c0_5 : Nat) (l0_5 : List (S41)) (A0_6 : Option Addr) (c0_6 : Nat) (l0_6 : List ByteArray) (A0_7 : Option Addr) (c0_7 : Nat) (l0_7 : List (S44)) (a1_0 : Int) (a1_1 : ByteArray) (a1_2 : Int) (a1_3 : Int) (A1_4 : Option Addr) (c1_4 : Nat) (l1_4 : List ByteArray) (A1_5 : Option Addr) (c1_5 : Nat) (l1_5 : List (S41)) (A1_6 : Option Addr) (c1_6 : Nat) (l1_6 : List ByteArray) (A1_7 : Option Addr) (c1_7 : Nat) (l1_7 : List (S44)) (r : Bool) (w : World) (hr0_4 : Kd.C Kd.string w A0_4 l0_4.length l0_4) (hc0_4 : l0_4.length ≤ c0_4) (hr0_5 : Kd.C k41 w A0_5 l0_5.length l0_5) (hc0_5 : l0_5.length ≤ c0_5) (hr0_6 : Kd.C Kd.string w A0_6 l0_6.length l0_6) (hc0_6 : l0_6.length ≤ c0_6) (hr0_7 : Kd.C k44 w A0_7 l0_7.length l0_7) (hc0_7 : l0_7.length ≤ c0_7) (hr1_4 : Kd.C Kd.string w A1_4 l1_4.length l1_4) (hc1_4 : l1_4.length ≤ c1_4) (hr1_5 : Kd.C k41 w A1_5 l1_5.length l1_5) (hc1_5 : l1_5.length ≤ c1_5) (hr1_6 : Kd.C Kd.string w A1_6 l1_6.length l1_6) (hc1_6 : l1_6.length ≤ c1_6) (hr1_7 : Kd.C k44 w A1_7 l1_7.length l1_7) (hc1_7 : l1_7.length ≤ c1_7) (h : impl_EqualTerm.f k a0_0 a0_1 a0_2 a0_3 l0_4 l0_5 l0_6 l0_7 a1_0 a1_1 a1_2 a1_3 l1_4 l1_5 l1_6 l1_7 = some r),
  Calls Try.prog 34 #[.agg #[.int .i64 a0_0, .string a0_1, .int .i64 a0_2, .int .i64 a0_3, .slice A0_4 l0_4.length c0_4, .slice A0_5 l0_5.length c0_5, .slice A0_6 l0_6.length c0_6, .slice A0_7 l0_7.length c0_7], .agg #[.int .i64 a1_0, .string a1_1, .int .i64 a1_2, .int .i64 a1_3, .slice A1_4 l1_4.length c1_4, .slice A1_5 l1_5.length c1_5, .slice A1_6 l1_6.length c1_6, .slice A1_7 l1_7.length c1_7]] w fun e w' => e = .returned (.bool r) ∧ Below w.heap.size w w' := (impl_EqualTerm.all k).1

-- NOT PRINTED: function 48 (impl_Head)

end Go.Proofs.Ytpkppeicceehcaa.Px
end
