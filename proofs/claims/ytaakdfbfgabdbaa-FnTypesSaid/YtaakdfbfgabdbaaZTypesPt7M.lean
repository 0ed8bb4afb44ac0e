/- Printed by a program of this session: what functions of the translation come to, each contract as it stands. No condition. -/
import Derived.Test.YtaakdfbfgabdbaaZTypesSh
import Derived.Test.YtaakdfbfgabdbaaZTypesExtM
section
namespace Go.Proofs.Ytaakdfbfgabdbaa.Pt
set_option maxHeartbeats 8000000
set_option maxRecDepth 100000
open Go.RowKit Go.Proofs.Ytaakdfbfgabdbaa.Ext Go.Proofs.YtaakdfbfgabdbaaW.PrintWords Go.Proofs.YtaakdfbfgabdbaaW.PrintLast Go.Proofs.YtaakdfbfgabdbaaW.PrintMore
attribute [local go_sem] max2_int min2_int max_two min_two max_three min_three max_four min_four   -- for this text's walks alone
set_option linter.unusedVariables false
set_option linter.unusedSimpArgs false

/-! ### impl_AreAscending: function 55 -/
def impl_AreAscending.l0 : Nat → List ByteArray → Int → Option (Bool)
 | 0, _, _ => none
 | k + 1, x0, x3 => if x3 < (x0.length : Int) then (if 0 ≤ (wrap64 (x3 - 1)) then (if (wrap64 (x3 - 1)) < (x0.length : Int) then (if 0 ≤ x3 then (if ((Op.bytesLess ((rdOf ByteArray.empty x0 (wrap64 (x3 - 1))).toList) ((rdOf ByteArray.empty x0 x3).toList)) = true) then (impl_AreAscending.l0 k x0 (wrap64 (x3 + 1))) else (some false)) else (none)) else (none)) else (none)) else (some true)
def impl_AreAscending.f (k : Nat) (l0 : List ByteArray) : Option (Bool) := impl_AreAscending.l0 k l0 1
theorem impl_AreAscending.calls (k : Nat) (A0 : Option Addr) (c0 : Nat) (l0 : List ByteArray) (r : Bool) (w : World) (hr0 : Kd.C Kd.string w A0 l0.length l0) (hc0 : l0.length ≤ c0) (h : impl_AreAscending.f k l0 = some r) :
  Calls Try.prog 55 #[.slice A0 l0.length c0] w fun e w' => e = .returned (.bool r) ∧ Drawn0 w w' := by
 have HR0 := Aside0.mk hr0
 have HC0 := Aside0.mk hc0
 clear hr0 hc0
 have H : (impl_AreAscending.l0 k l0 1) = some r := h
 clear h
 have H' := Aside0.mk H
 clear H
 go_enter Try.func55, Try.ntmps55
 go_wp2
 repeat (go_quiet (fail); try go_wp2)
 go_loopg [3] k (fun kq v3 w' => ∃ (x3_1 : Int), v3 = .int .i64 x3_1 ∧ Aside0 (impl_AreAscending.l0 kq l0 x3_1 = some r) ∧ Aside0 (kq ≤ k) ∧ Drawn0 w w')
 case atStart => exact ⟨(1), rfs, H', ⟨Nat.le_refl _⟩, by repeat (first | exact Drawn0.refl _ | apply Drawn0.step)⟩
 case round =>
  clear H'
  obtain ⟨x3_1, rfl, HA, HK1, ⟨m1, rfl⟩⟩ := hrel
  cases gk with
  | zero => exact absurd HA.out (by simp [impl_AreAscending.l0])
  | succ k1 =>
   have H := HA.out
   clear HA
   simp only [impl_AreAscending.l0] at H
   by_cases c2 : x3_1 < (l0.length : Int)
   case neg =>
    rw [if_neg c2] at H
    have c2b0 : decide (x3_1 < (l0.length : Int)) = false := decide_eq_false c2
    clear c2
    obtain rfl := Option.some.inj H
    go_wp2
    repeat (go_quiet (fail); try go_wp2)
    go_ret
    exact ⟨rfs, by repeat (first | exact Drawn0.refl _ | apply Drawn0.step)⟩
   rw [if_pos c2] at H
   have c2b0 : decide (x3_1 < (l0.length : Int)) = true := decide_eq_true c2
   clear c2
   obtain ⟨ji3, hji3⟩ : ∃ j_ : Int, (wrap64 (x3_1 - 1)) = j_ := ⟨_, rfl⟩
   replace H : (if 0 ≤ (ji3) then (if (ji3) < (l0.length : Int) then (if 0 ≤ x3_1 then (if ((Op.bytesLess ((rdOf ByteArray.empty l0 (ji3)).toList) ((rdOf ByteArray.empty l0 x3_1).toList)) = true) then (impl_AreAscending.l0 k1 l0 (wrap64 (x3_1 + 1))) else (some false)) else (none)) else (none)) else (none)) = some r := by first | (rw [hji3] at H; exact H) | (simp only [hji3] at H ⊢; exact H)
   have hji3w : (IntKind.i64.wrap (x3_1 - 1)) = ji3 := (i64_w _).trans hji3
   by_cases c4 : 0 ≤ (ji3)
   case neg =>
    rw [if_neg c4] at H
    exact absurd H (by simp)
   rw [if_pos c4] at H
   have c4b0 : decide (0 ≤ (ji3)) = true := decide_eq_true c4
   clear c4
   by_cases c5 : (ji3) < (l0.length : Int)
   case neg =>
    rw [if_neg c5] at H
    exact absurd H (by simp)
   rw [if_pos c5] at H
   have c5b0 : decide ((ji3) < (l0.length : Int)) = true := decide_eq_true c5
   clear c5
   by_cases c6 : 0 ≤ x3_1
   case neg =>
    rw [if_neg c6] at H
    exact absurd H (by simp)
   rw [if_pos c6] at H
   have c6b0 : decide (0 ≤ x3_1) = true := decide_eq_true c6
   clear c6
   by_cases c7 : ((Op.bytesLess ((rdOf ByteArray.empty l0 (ji3)).toList) ((rdOf ByteArray.empty l0 x3_1).toList)) = true)
   case neg =>
    rw [if_neg c7] at H
    have c7b0 : (Op.bytesLess ((rdOf ByteArray.empty l0 (ji3)).toList) ((rdOf ByteArray.empty l0 x3_1).toList)) = false := by simpa using c7
    clear c7
    obtain rfl := Option.some.inj H
    have p355 : 0 ≤ ((ji3) : Int) := of_decide_eq_true asw
    have q355 : (ji3) < (l0.length : Int) := of_decide_eq_true asw
    obtain ⟨ad355, e355, hx355_0⟩ := Kd.at_string HR0.out (ji3) p355 q355
    cases e355
    replace p355 := eq_true p355
    replace q355 := eq_true q355
    have p356 : 0 ≤ (x3_1 : Int) := of_decide_eq_true asw
    have q356 : x3_1 < (l0.length : Int) := of_decide_eq_true asw
    obtain ⟨ad356, e356, hx356_0⟩ := Kd.at_string HR0.out x3_1 p356 q356
    obtain rfl : ad355 = ad356 := (by injection e356)
    replace p356 := eq_true p356
    replace q356 := eq_true q356
    go_wp2
    repeat (go_quiet (fail); try go_wp2)
    go_ret
    exact ⟨by first | rfl | (simp; done) | (simp only [← hji3] <;> (first | rfl | simp)) | (simp [*]; done), by repeat (first | exact Drawn0.refl _ | apply Drawn0.step)⟩
   rw [if_pos c7] at H
   have c7b0 : (Op.bytesLess ((rdOf ByteArray.empty l0 (ji3)).toList) ((rdOf ByteArray.empty l0 x3_1).toList)) = true := c7
   clear c7
   have H' := Aside0.mk H
   clear H
   have p355 : 0 ≤ ((ji3) : Int) := of_decide_eq_true asw
   have q355 : (ji3) < (l0.length : Int) := of_decide_eq_true asw
   obtain ⟨ad355, e355, hx355_0⟩ := Kd.at_string HR0.out (ji3) p355 q355
   cases e355
   replace p355 := eq_true p355
   replace q355 := eq_true q355
   have p356 : 0 ≤ (x3_1 : Int) := of_decide_eq_true asw
   have q356 : x3_1 < (l0.length : Int) := of_decide_eq_true asw
   obtain ⟨ad356, e356, hx356_0⟩ := Kd.at_string HR0.out x3_1 p356 q356
   obtain rfl : ad355 = ad356 := (by injection e356)
   replace p356 := eq_true p356
   replace q356 := eq_true q356
   go_wp2
   repeat (go_quiet (fail); try go_wp2)
   go_roundg k1
   case measure => have := HK1.out; omega
   case rel => exact ⟨(wrap64 (x3_1 + 1)), rfs, H', ⟨by have := HK1.out; omega⟩, by repeat (first | exact Drawn0.refl _ | apply Drawn0.step)⟩

-- NOT PRINTED: function 62 (slices_IndexFunc_string_string)

-- NOT PRINTED: function 56 (slices_ContainsFunc_string_string)

/-! ### impl_isSmall: function 63 -/
def impl_isSmall.f (a0 : Int) : Option (Bool) := if a0 ≥ 97 then (some (decide (a0 ≤ 122))) else (some false)
theorem impl_isSmall.calls (a0 : Int) (r : Bool) (w : World) (h : impl_isSmall.f a0 = some r) :
  Calls Try.prog 63 #[.int .u8 a0] w fun e w' => e = .returned (.bool r) ∧ Drawn0 w w' := by
 have H : (if a0 ≥ 97 then (some (decide (a0 ≤ 122))) else (some false)) = some r := h
 clear h
 by_cases c2 : a0 ≥ 97
 ·rw [if_pos c2] at H
  have c2b0 : decide (97 ≤ a0) = true := decide_eq_true c2
  clear c2
  obtain rfl := Option.some.inj H
  go_enter Try.func63, Try.ntmps63
  go_wp2
  go_ret
  exact ⟨rfs, by repeat (first | exact Drawn0.refl _ | apply Drawn0.step)⟩
 rw [if_neg c2] at H
 have c2b0 : decide (97 ≤ a0) = false := decide_eq_false c2
 clear c2
 obtain rfl := Option.some.inj H
 go_enter Try.func63, Try.ntmps63
 go_wp2
 go_ret
 exact ⟨rfs, by repeat (first | exact Drawn0.refl _ | apply Drawn0.step)⟩

/-! ### impl_isDigit: function 64 -/
def impl_isDigit.f (a0 : Int) : Option (Bool) := if a0 ≥ 48 then (some (decide (a0 ≤ 57))) else (some false)
theorem impl_isDigit.calls (a0 : Int) (r : Bool) (w : World) (h : impl_isDigit.f a0 = some r) :
  Calls Try.prog 64 #[.int .u8 a0] w fun e w' => e = .returned (.bool r) ∧ Drawn0 w w' := by
 have H : (if a0 ≥ 48 then (some (decide (a0 ≤ 57))) else (some false)) = some r := h
 clear h
 by_cases c2 : a0 ≥ 48
 ·rw [if_pos c2] at H
  have c2b0 : decide (48 ≤ a0) = true := decide_eq_true c2
  clear c2
  obtain rfl := Option.some.inj H
  go_enter Try.func64, Try.ntmps64
  go_wp2
  go_ret
  exact ⟨rfs, by repeat (first | exact Drawn0.refl _ | apply Drawn0.step)⟩
 rw [if_neg c2] at H
 have c2b0 : decide (48 ≤ a0) = false := decide_eq_false c2
 clear c2
 obtain rfl := Option.some.inj H
 go_enter Try.func64, Try.ntmps64
 go_wp2
 go_ret
 exact ⟨rfs, by repeat (first | exact Drawn0.refl _ | apply Drawn0.step)⟩

/-! ### impl_IsName: function 58 -/
mutual
def impl_IsName.j0 : Nat → ByteArray → Bool → Option (Bool)
 | 0, _, _ => none
 | k + 1, x0, x25 => if x25 = true then (some false) else (impl_IsName.l0 k x0 (x0.size : Int) 0)
def impl_IsName.l0 : Nat → ByteArray → Int → Int → Option (Bool)
 | 0, _, _, _ => none
 | k + 1, x0, x27, x28 => if x28 < x27 then (if 0 ≤ x28 then (if x28 < (x0.size : Int) then ((impl_isSmall.f (bt x0 x28)).bind fun t358 => (if t358 = true then (impl_IsName.l0 k x0 x27 (wrap64 (x28 + 1))) else ((impl_isDigit.f (bt x0 x28)).bind fun t359 => (if t359 = true then (impl_IsName.l0 k x0 x27 (wrap64 (x28 + 1))) else (some false))))) else (none)) else (none)) else (some true)
end
def impl_IsName.f (k : Nat) (a0 : ByteArray) : Option (Bool) := if (a0.size : Int) < 1 then (impl_IsName.j0 k a0 true) else (if (a0.size : Int) > 4 then (impl_IsName.j0 k a0 true) else (if 0 < (a0.size : Int) then ((impl_isSmall.f (bt a0 0)).bind fun t357 => (if t357 = true then (if a0.toList = ([105, 102] : List UInt8) then (impl_IsName.j0 k a0 true) else (impl_IsName.j0 k a0 (a0.toList == ([102, 111, 114] : List UInt8)))) else (impl_IsName.j0 k a0 true))) else (none)))
theorem impl_IsName.calls (k : Nat) (a0 : ByteArray) (r : Bool) (w : World) (h : impl_IsName.f k a0 = some r) :
  Calls Try.prog 58 #[.string a0] w fun e w' => e = .returned (.bool r) ∧ Drawn0 w w' := by
 have H : (if (a0.size : Int) < 1 then (impl_IsName.j0 k a0 true) else (if (a0.size : Int) > 4 then (impl_IsName.j0 k a0 true) else (if 0 < (a0.size : Int) then ((impl_isSmall.f (bt a0 0)).bind fun t357 => (if t357 = true then (if a0.toList = ([105, 102] : List UInt8) then (impl_IsName.j0 k a0 true) else (impl_IsName.j0 k a0 (a0.toList == ([102, 111, 114] : List UInt8)))) else (impl_IsName.j0 k a0 true))) else (none)))) = some r := h
 clear h
 have HC2 := Aside0.mk H
 clear H
 go_enter Try.func58, Try.ntmps58
 go_upto_region 1 with (fail)
 go_cut [25] (fun v25 wc => ∃ (kq : Nat) (x25_1 : Bool), v25 = .bool x25_1 ∧ Aside0 (impl_IsName.j0 kq a0 x25_1 = some r) ∧ Aside0 (kq ≤ k) ∧ Drawn0 w wc)
 case first =>
  have H := HC2.out
  clear HC2
  by_cases c3 : (a0.size : Int) < 1
  ·rw [if_pos c3] at H
   have c3b0 : decide ((a0.size : Int) < 1) = true := decide_eq_true c3
   have c3b1 : decide (a0.size < 1) = true := decide_eq_true (by omega)
   clear c3
   (first | rw [c3b0] | (simp only [i64_w, i32_w]; rw [c3b0]) | (rw [c3b1]; (try simp only [Bool.not_true, Bool.not_false])) | skip)
   have H' := Aside0.mk H
   clear H
   go_wp2
   go_meet
   case rel => exact ⟨_, (true), rfs, H', ⟨by first | omega | exact Nat.le_refl _⟩, by repeat (first | exact Drawn0.refl _ | apply Drawn0.step)⟩
  rw [if_neg c3] at H
  have c3b0 : decide ((a0.size : Int) < 1) = false := decide_eq_false c3
  have c3b1 : decide (a0.size < 1) = false := decide_eq_false (by omega)
  clear c3
  (first | rw [c3b0] | (simp only [i64_w, i32_w]; rw [c3b0]) | (rw [c3b1]; (try simp only [Bool.not_true, Bool.not_false])) | skip)
  by_cases c4 : (a0.size : Int) > 4
  ·rw [if_pos c4] at H
   have c4b0 : decide (4 < (a0.size : Int)) = true := decide_eq_true c4
   have c4b1 : decide (4 < a0.size) = true := decide_eq_true (by omega)
   clear c4
   have H' := Aside0.mk H
   clear H
   go_wp2
   go_meet
   case rel => exact ⟨_, (true), rfs, H', ⟨by first | omega | exact Nat.le_refl _⟩, by repeat (first | exact Drawn0.refl _ | apply Drawn0.step)⟩
  rw [if_neg c4] at H
  have c4b0 : decide (4 < (a0.size : Int)) = false := decide_eq_false c4
  have c4b1 : decide (4 < a0.size) = false := decide_eq_false (by omega)
  clear c4
  by_cases c5 : 0 < (a0.size : Int)
  case neg =>
   rw [if_neg c5] at H
   exact absurd H (by simp)
  rw [if_pos c5] at H
  have c5b0 : decide (0 < (a0.size : Int)) = true := decide_eq_true c5
  have c5b1 : decide (0 < a0.size) = true := decide_eq_true (by omega)
  clear c5
  replace H := Option.bind_eq_some_iff.mp H
  obtain ⟨t357, A70, H⟩ := H
  replace H : (if t357 = true then (if a0.toList = ([105, 102] : List UInt8) then (impl_IsName.j0 k a0 true) else (impl_IsName.j0 k a0 (a0.toList == ([102, 111, 114] : List UInt8)))) else (impl_IsName.j0 k a0 true)) = some r := H
  have A7 := Aside0.mk A70
  clear A70
  by_cases c8 : t357 = true
  case neg =>
   replace c8 := Bool.eq_false_iff.mpr c8
   subst c8
   have H1 : (impl_IsName.j0 k a0 true) = some r := by rw [if_neg (show ¬ (false = true) by decide)] at H; exact H
   clear H
   have H := H1
   clear H1
   have H' := Aside0.mk H
   clear H
   have p6 : 0 ≤ (0 : Int) := (by omega)
   have q6 : 0 < a0.size := (by have : (0 : Int) < (a0.size : Int) := of_decide_eq_true asw; omega)
   have hx6 : ∀ h : 0 < a0.size, ((a0[0]'h).toNat : Int) = bt a0 0 := bt_at a0 0
   clear p6
   have qi6 : (0 < (a0.size : Int)) = True := eq_true (of_decide_eq_true asw)
   replace q6 := eq_true q6
   go_wp2_with (first | (go_at_call 63; (with_reducible refine (impl_isSmall.calls (bt a0 0) false _ A7.out).mono ?_); rintro e w' ⟨rfl, ⟨nd, rfl⟩⟩))
   go_meet
   case rel => exact ⟨_, (true), rfs, H', ⟨by first | omega | exact Nat.le_refl _⟩, by repeat (first | exact Drawn0.refl _ | apply Drawn0.step)⟩
  subst c8
  have H1 : (if a0.toList = ([105, 102] : List UInt8) then (impl_IsName.j0 k a0 true) else (impl_IsName.j0 k a0 (a0.toList == ([102, 111, 114] : List UInt8)))) = some r := by rw [if_pos rfl] at H; exact H
  clear H
  have H := H1
  clear H1
  by_cases c9 : a0.toList = ([105, 102] : List UInt8)
  ·rw [if_pos c9] at H
   have c9b0 : (a0.toList == ([105, 102] : List UInt8)) = true := beq_iff_eq.mpr c9
   have c9b1 : (a0.toList != ([105, 102] : List UInt8)) = false := bne_eq_false_iff_eq.mpr c9
   clear c9
   have H' := Aside0.mk H
   clear H
   have p6 : 0 ≤ (0 : Int) := (by omega)
   have q6 : 0 < a0.size := (by have : (0 : Int) < (a0.size : Int) := of_decide_eq_true asw; omega)
   have hx6 : ∀ h : 0 < a0.size, ((a0[0]'h).toNat : Int) = bt a0 0 := bt_at a0 0
   clear p6
   have qi6 : (0 < (a0.size : Int)) = True := eq_true (of_decide_eq_true asw)
   replace q6 := eq_true q6
   go_wp2_with (first | (go_at_call 63; (with_reducible refine (impl_isSmall.calls (bt a0 0) true _ A7.out).mono ?_); rintro e w' ⟨rfl, ⟨nd, rfl⟩⟩))
   go_meet
   case rel => exact ⟨_, (true), rfs, H', ⟨by first | omega | exact Nat.le_refl _⟩, by repeat (first | exact Drawn0.refl _ | apply Drawn0.step)⟩
  rw [if_neg c9] at H
  have c9b0 : (a0.toList == ([105, 102] : List UInt8)) = false := beq_eq_false_iff_ne.mpr c9
  have c9b1 : (a0.toList != ([105, 102] : List UInt8)) = true := bne_iff_ne.mpr c9
  have H' := Aside0.mk H
  clear H
  have p6 : 0 ≤ (0 : Int) := (by omega)
  have q6 : 0 < a0.size := (by have : (0 : Int) < (a0.size : Int) := of_decide_eq_true asw; omega)
  have hx6 : ∀ h : 0 < a0.size, ((a0[0]'h).toNat : Int) = bt a0 0 := bt_at a0 0
  clear p6
  have qi6 : (0 < (a0.size : Int)) = True := eq_true (of_decide_eq_true asw)
  replace q6 := eq_true q6
  go_wp2_with (first | (go_at_call 63; (with_reducible refine (impl_isSmall.calls (bt a0 0) true _ A7.out).mono ?_); rintro e w' ⟨rfl, ⟨nd, rfl⟩⟩))
  go_meet
  case rel => exact ⟨_, ((a0.toList == ([102, 111, 114] : List UInt8))), rfs, H', ⟨by first | omega | exact Nat.le_refl _⟩, by repeat (first | exact Drawn0.refl _ | apply Drawn0.step)⟩
 case rest =>
  clear HC2
  (try clear p2); (try clear c3); (try clear c3b0); (try clear c3b1); (try clear c4); (try clear c4b0); (try clear c4b1); (try clear c5); (try clear c5b0); (try clear c5b1); (try clear p6); (try clear q6); (try clear hx6); (try clear qi6); (try clear c8); (try clear c9); (try clear c9b0); (try clear c9b1); (try clear p6); (try clear q6)
  obtain ⟨kq, x25_1, rfl, HA, HJ1, ⟨mc1, rfl⟩⟩ := hcut
  cases kq with
  | zero => exact absurd HA.out (by simp [impl_IsName.j0])
  | succ kj1 =>
   have H := HA.out
   clear HA
   simp only [impl_IsName.j0] at H
   by_cases c10 : x25_1 = true
   ·subst c10
    have H1 : (some false) = some r := by rw [if_pos rfl] at H; exact H
    clear H
    have H := H1
    clear H1
    obtain rfl := Option.some.inj H
    go_wp2
    go_ret
    exact ⟨rfs, by repeat (first | exact Drawn0.refl _ | apply Drawn0.step)⟩
   replace c10 := Bool.eq_false_iff.mpr c10
   subst c10
   have H1 : (impl_IsName.l0 kj1 a0 (a0.size : Int) 0) = some r := by rw [if_neg (show ¬ (false = true) by decide)] at H; exact H
   clear H
   have H := H1
   clear H1
   have H' := Aside0.mk H
   clear H
   go_wp2
   go_loopg [28] kj1 (fun kq v28 w' => ∃ (x28_2 : Int), v28 = .int .i64 x28_2 ∧ Aside0 (impl_IsName.l0 kq a0 (a0.size : Int) x28_2 = some r) ∧ Aside0 (kq ≤ kj1) ∧ Drawn0 w w')
   case atStart => exact ⟨(0), rfs, H', ⟨Nat.le_refl _⟩, by repeat (first | exact Drawn0.refl _ | apply Drawn0.step)⟩
   case round =>
    clear H'
    (try clear c1); (try clear p2); (try clear c3); (try clear c3b0); (try clear c3b1); (try clear c4); (try clear c4b0); (try clear c4b1); (try clear c5); (try clear c5b0); (try clear c5b1); (try clear p6); (try clear q6); (try clear hx6); (try clear qi6); (try clear c8); (try clear c9); (try clear c9b0); (try clear c9b1); (try clear c10); (try clear p2); (try clear p6); (try clear q6)
    obtain ⟨x28_2, rfl, HA, HK2, ⟨m2, rfl⟩⟩ := hrel
    cases gk with
    | zero => exact absurd HA.out (by simp [impl_IsName.l0])
    | succ k2 =>
     have H := HA.out
     clear HA
     simp only [impl_IsName.l0] at H
     by_cases c11 : x28_2 < (a0.size : Int)
     case neg =>
      rw [if_neg c11] at H
      have c11b0 : decide (x28_2 < (a0.size : Int)) = false := decide_eq_false c11
      clear c11
      obtain rfl := Option.some.inj H
      go_wp2
      go_ret
      exact ⟨rfs, by repeat (first | exact Drawn0.refl _ | apply Drawn0.step)⟩
     rw [if_pos c11] at H
     have c11b0 : decide (x28_2 < (a0.size : Int)) = true := decide_eq_true c11
     clear c11
     by_cases c12 : 0 ≤ x28_2
     case neg =>
      rw [if_neg c12] at H
      exact absurd H (by simp)
     rw [if_pos c12] at H
     have c12b0 : decide (0 ≤ x28_2) = true := decide_eq_true c12
     clear c12
     by_cases c13 : x28_2 < (a0.size : Int)
     case neg =>
      rw [if_neg c13] at H
      exact absurd H (by simp)
     rw [if_pos c13] at H
     have c13b0 : decide (x28_2 < (a0.size : Int)) = true := decide_eq_true c13
     clear c13
     replace H := Option.bind_eq_some_iff.mp H
     obtain ⟨t358, A150, H⟩ := H
     replace H : (if t358 = true then (impl_IsName.l0 k2 a0 (a0.size : Int) (wrap64 (x28_2 + 1))) else ((impl_isDigit.f (bt a0 x28_2)).bind fun t359 => (if t359 = true then (impl_IsName.l0 k2 a0 (a0.size : Int) (wrap64 (x28_2 + 1))) else (some false)))) = some r := H
     have A15 := Aside0.mk A150
     clear A150
     by_cases c16 : t358 = true
     ·subst c16
      have H1 : (impl_IsName.l0 k2 a0 (a0.size : Int) (wrap64 (x28_2 + 1))) = some r := by rw [if_pos rfl] at H; exact H
      clear H
      have H := H1
      clear H1
      have H' := Aside0.mk H
      clear H
      have p14 : 0 ≤ (x28_2 : Int) := of_decide_eq_true asw
      have q14 : x28_2 < (a0.size : Int) := of_decide_eq_true asw
      have hx14 := bt_at a0 x28_2
      replace p14 := eq_true p14
      replace q14 := eq_true q14
      go_wp2_with (first | ((with_reducible refine gate_callee (f := 63) rfl ?_); refine goesL_ (some 34) rfl rfl Try.func63 kr rfl #[.int .u8 (bt a0 x28_2)] rfl mpw ?_; (with_reducible refine (impl_isSmall.calls (bt a0 x28_2) true _ A15.out).mono ?_); rintro e w' ⟨rfl, ⟨nd, rfl⟩⟩; refine ⟨_, rfl, ?_⟩))
      go_roundg k2
      case measure => have := HJ1.out; have := HK2.out; omega
      case rel => exact ⟨(wrap64 (x28_2 + 1)), rfs, H', ⟨by have := HJ1.out; have := HK2.out; omega⟩, by repeat (first | exact Drawn0.refl _ | apply Drawn0.step)⟩
     replace c16 := Bool.eq_false_iff.mpr c16
     subst c16
     have H1 : ((impl_isDigit.f (bt a0 x28_2)).bind fun t359 => (if t359 = true then (impl_IsName.l0 k2 a0 (a0.size : Int) (wrap64 (x28_2 + 1))) else (some false))) = some r := by rw [if_neg (show ¬ (false = true) by decide)] at H; exact H
     clear H
     have H := H1
     clear H1
     replace H := Option.bind_eq_some_iff.mp H
     obtain ⟨t359, A180, H⟩ := H
     replace H : (if t359 = true then (impl_IsName.l0 k2 a0 (a0.size : Int) (wrap64 (x28_2 + 1))) else (some false)) = some r := H
     have A18 := Aside0.mk A180
     clear A180
     have HC19 := Aside0.mk H
     clear H
     have p14 : 0 ≤ (x28_2 : Int) := of_decide_eq_true asw
     have q14 : x28_2 < (a0.size : Int) := of_decide_eq_true asw
     have hx14 := bt_at a0 x28_2
     replace p14 := eq_true p14
     replace q14 := eq_true q14
     go_upto_if 42 with (first | ((with_reducible refine gate_callee (f := 63) rfl ?_); refine goesL_ (some 34) rfl rfl Try.func63 kr rfl #[.int .u8 (bt a0 x28_2)] rfl mpw ?_; (with_reducible refine (impl_isSmall.calls (bt a0 x28_2) false _ A15.out).mono ?_); rintro e w' ⟨rfl, ⟨nd, rfl⟩⟩; refine ⟨_, rfl, ?_⟩; have p17 : 0 ≤ (x28_2 : Int) := of_decide_eq_true asw; have q17 : x28_2 < (a0.size : Int) := of_decide_eq_true asw; have hx17 := bt_at a0 x28_2; replace p17 := eq_true p17; replace q17 := eq_true q17) | (go_at_call 64; (with_reducible refine (impl_isDigit.calls (bt a0 x28_2) t359 _ A18.out).mono ?_); rintro e w' ⟨rfl, ⟨nd, rfl⟩⟩))
     have H := HC19.out
     clear HC19
     by_cases c20 : t359 = true
     case neg =>
      replace c20 := Bool.eq_false_iff.mpr c20
      subst c20
      have H1 : (some false) = some r := by rw [if_neg (show ¬ (false = true) by decide)] at H; exact H
      clear H
      have H := H1
      clear H1
      obtain rfl := Option.some.inj H
      go_wp2
      go_ret
      exact ⟨rfs, by repeat (first | exact Drawn0.refl _ | apply Drawn0.step)⟩
     subst c20
     have H1 : (impl_IsName.l0 k2 a0 (a0.size : Int) (wrap64 (x28_2 + 1))) = some r := by rw [if_pos rfl] at H; exact H
     clear H
     have H := H1
     clear H1
     have H' := Aside0.mk H
     clear H
     go_wp2
     go_roundg k2
     case measure => have := HJ1.out; have := HK2.out; omega
     case rel => exact ⟨(wrap64 (x28_2 + 1)), rfs, H', ⟨by have := HJ1.out; have := HK2.out; omega⟩, by repeat (first | exact Drawn0.refl _ | apply Drawn0.step)⟩

/-! ### impl_labelsOk_1: function 57 -/
def impl_labelsOk_1.f (k : Nat) (a0 : ByteArray) : Option (Bool) := (impl_IsName.f k a0).bind fun t360 => (some (!t360))
theorem impl_labelsOk_1.calls (k : Nat) (a0 : ByteArray) (r : Bool) (w : World) (h : impl_labelsOk_1.f k a0 = some r) :
  Calls Try.prog 57 #[.string a0] w fun e w' => e = .returned (.bool r) ∧ Drawn0 w w' := by
 have H : ((impl_IsName.f k a0).bind fun t360 => (some (!t360))) = some r := h
 clear h
 replace H := Option.bind_eq_some_iff.mp H
 obtain ⟨t360, A20, H⟩ := H
 replace H : (some (!t360)) = some r := H
 have A2 := Aside0.mk A20
 clear A20
 obtain rfl := Option.some.inj H
 go_enter Try.func57, Try.ntmps57
 go_wp2_with (first | ((with_reducible refine gate_callee (f := 58) rfl ?_); refine goesL_ (some 4) rfl rfl Try.func58 kr rfl #[.string a0] rfl mpw ?_; (with_reducible refine (impl_IsName.calls k a0 t360 _ A2.out).mono ?_); rintro e w' ⟨rfl, ⟨nd, rfl⟩⟩; refine ⟨_, rfl, ?_⟩))
 go_ret
 exact ⟨rfs, by repeat (first | exact Drawn0.refl _ | apply Drawn0.step)⟩

/-! ### slices_IndexFunc_string_of_labelsOk_1: function 84 -/
def slices_IndexFunc_string_of_labelsOk_1.l0 : Nat → List ByteArray → Int → Int → Option (Int)
 | 0, _, _, _ => none
 | k + 1, x0, x7, x8 => if x8 < x7 then (if 0 ≤ x8 then (if x8 < (x0.length : Int) then ((impl_labelsOk_1.f k (rdOf ByteArray.empty x0 x8)).bind fun t362 => (if t362 = true then (some x8) else (slices_IndexFunc_string_of_labelsOk_1.l0 k x0 x7 (wrap64 (x8 + 1))))) else (none)) else (none)) else (some (-1))
def slices_IndexFunc_string_of_labelsOk_1.f (k : Nat) (l0 : List ByteArray)  : Option (Int) := slices_IndexFunc_string_of_labelsOk_1.l0 k l0 (l0.length : Int) 0
theorem slices_IndexFunc_string_of_labelsOk_1.calls (k : Nat) (A0 : Option Addr) (c0 : Nat) (l0 : List ByteArray)  (r : Int) (w : World) (hr0 : Kd.C Kd.string w A0 l0.length l0) (hc0 : l0.length ≤ c0) (h : slices_IndexFunc_string_of_labelsOk_1.f k l0 = some r) :
  Calls Try.prog 62 #[.slice A0 l0.length c0, .func (.func 57) #[] #[]] w fun e w' => e = .returned (.int .i64 r) ∧ Drawn0 w w' := by
 have HR0 := Aside0.mk hr0
 have HC0 := Aside0.mk hc0
 clear hr0 hc0
 have H : (slices_IndexFunc_string_of_labelsOk_1.l0 k l0 (l0.length : Int) 0) = some r := h
 clear h
 have H' := Aside0.mk H
 clear H
 go_enter Try.func62, Try.ntmps62
 go_wp2
 go_loopg [8] k (fun kq v8 w' => ∃ (x8_1 : Int), v8 = .int .i64 x8_1 ∧ Aside0 (slices_IndexFunc_string_of_labelsOk_1.l0 kq l0 (l0.length : Int) x8_1 = some r) ∧ Aside0 (kq ≤ k) ∧ Drawn0 w w')
 case atStart => exact ⟨(0), rfs, H', ⟨Nat.le_refl _⟩, by repeat (first | exact Drawn0.refl _ | apply Drawn0.step)⟩
 case round =>
  clear H'
  try clear p2
  obtain ⟨x8_1, rfl, HA, HK1, ⟨m1, rfl⟩⟩ := hrel
  cases gk with
  | zero => exact absurd HA.out (by simp [slices_IndexFunc_string_of_labelsOk_1.l0])
  | succ k1 =>
   have H := HA.out
   clear HA
   simp only [slices_IndexFunc_string_of_labelsOk_1.l0] at H
   by_cases c3 : x8_1 < (l0.length : Int)
   case neg =>
    rw [if_neg c3] at H
    have c3b0 : decide (x8_1 < (l0.length : Int)) = false := decide_eq_false c3
    clear c3
    obtain rfl := Option.some.inj H
    go_wp2
    go_ret
    exact ⟨rfs, by repeat (first | exact Drawn0.refl _ | apply Drawn0.step)⟩
   rw [if_pos c3] at H
   have c3b0 : decide (x8_1 < (l0.length : Int)) = true := decide_eq_true c3
   clear c3
   by_cases c4 : 0 ≤ x8_1
   case neg =>
    rw [if_neg c4] at H
    exact absurd H (by simp)
   rw [if_pos c4] at H
   have c4b0 : decide (0 ≤ x8_1) = true := decide_eq_true c4
   clear c4
   by_cases c5 : x8_1 < (l0.length : Int)
   case neg =>
    rw [if_neg c5] at H
    exact absurd H (by simp)
   rw [if_pos c5] at H
   have c5b0 : decide (x8_1 < (l0.length : Int)) = true := decide_eq_true c5
   clear c5
   replace H := Option.bind_eq_some_iff.mp H
   obtain ⟨t362, A60, H⟩ := H
   replace H : (if t362 = true then (some x8_1) else (slices_IndexFunc_string_of_labelsOk_1.l0 k1 l0 (l0.length : Int) (wrap64 (x8_1 + 1)))) = some r := H
   have A6 := Aside0.mk A60
   clear A60
   have HC7 := Aside0.mk H
   clear H
   have p361 : 0 ≤ (x8_1 : Int) := of_decide_eq_true asw
   have q361 : x8_1 < (l0.length : Int) := of_decide_eq_true asw
   obtain ⟨ad361, e361, hx361_0⟩ := Kd.at_string HR0.out x8_1 p361 q361
   cases e361
   replace p361 := eq_true p361
   replace q361 := eq_true q361
   go_upto_if 16 with (first | ((with_reducible refine gate_calleev (t := 11) rfl ?_); refine goesV_ 11 (some 16) rfl rfl rfl Try.func57 kr rfl #[.string (rdOf ByteArray.empty l0 x8_1)] rfl mpw ?_; (with_reducible refine (impl_labelsOk_1.calls k1 (rdOf ByteArray.empty l0 x8_1) t362 _ A6.out).mono ?_); rintro e w' ⟨rfl, ⟨nd, rfl⟩⟩; refine ⟨_, rfl, ?_⟩))
   have H := HC7.out
   clear HC7
   by_cases c8 : t362 = true
   ·subst c8
    have H1 : (some x8_1) = some r := by rw [if_pos rfl] at H; exact H
    clear H
    have H := H1
    clear H1
    obtain rfl := Option.some.inj H
    go_wp2
    go_ret
    exact ⟨rfs, by repeat (first | exact Drawn0.refl _ | apply Drawn0.step)⟩
   replace c8 := Bool.eq_false_iff.mpr c8
   subst c8
   have H1 : (slices_IndexFunc_string_of_labelsOk_1.l0 k1 l0 (l0.length : Int) (wrap64 (x8_1 + 1))) = some r := by rw [if_neg (show ¬ (false = true) by decide)] at H; exact H
   clear H
   have H := H1
   clear H1
   have H' := Aside0.mk H
   clear H
   go_wp2
   go_roundg k1
   case measure => have := HK1.out; omega
   case rel => exact ⟨(wrap64 (x8_1 + 1)), rfs, H', ⟨by have := HK1.out; omega⟩, by repeat (first | exact Drawn0.refl _ | apply Drawn0.step)⟩

end Go.Proofs.Ytaakdfbfgabdbaa.Pt
end
section
namespace Go.Proofs.Ytaakdfbfgabdbaa.Pt
set_option maxHeartbeats 8000000
set_option maxRecDepth 100000
open Go.RowKit Go.Proofs.Ytaakdfbfgabdbaa.Ext Go.Proofs.YtaakdfbfgabdbaaW.PrintWords Go.Proofs.YtaakdfbfgabdbaaW.PrintLast Go.Proofs.YtaakdfbfgabdbaaW.PrintMore
attribute [local go_sem] max2_int min2_int max_two min_two max_three min_three max_four min_four   -- for this text's walks alone
set_option linter.unusedVariables false
set_option linter.unusedSimpArgs false

/-! ### slices_ContainsFunc_string_of_labelsOk_1: function 83 -/
def slices_ContainsFunc_string_of_labelsOk_1.f (k : Nat) (l0 : List ByteArray)  : Option (Bool) := (slices_IndexFunc_string_of_labelsOk_1.f k l0).bind fun t363 => (some (decide (t363 ≥ 0)))
theorem slices_ContainsFunc_string_of_labelsOk_1.calls (k : Nat) (A0 : Option Addr) (c0 : Nat) (l0 : List ByteArray)  (r : Bool) (w : World) (hr0 : Kd.C Kd.string w A0 l0.length l0) (hc0 : l0.length ≤ c0) (h : slices_ContainsFunc_string_of_labelsOk_1.f k l0 = some r) :
  Calls Try.prog 56 #[.slice A0 l0.length c0, .func (.func 57) #[] #[]] w fun e w' => e = .returned (.bool r) ∧ Drawn0 w w' := by
 have HR0 := Aside0.mk hr0
 have HC0 := Aside0.mk hc0
 clear hr0 hc0
 have H : ((slices_IndexFunc_string_of_labelsOk_1.f k l0).bind fun t363 => (some (decide (t363 ≥ 0)))) = some r := h
 clear h
 replace H := Option.bind_eq_some_iff.mp H
 obtain ⟨t363, A30, H⟩ := H
 replace H : (some (decide (t363 ≥ 0))) = some r := H
 have A3 := Aside0.mk A30
 clear A30
 obtain rfl := Option.some.inj H
 go_enter Try.func56, Try.ntmps56
 go_wp2_with (first | ((with_reducible refine gate_callee (f := 62) rfl ?_); refine goesL_ (some 7) rfl rfl Try.func62 kr rfl #[.slice A0 l0.length c0, .func (.func 57) #[] #[]] rfl mpw ?_; (with_reducible refine (slices_IndexFunc_string_of_labelsOk_1.calls k _ _ l0  t363 _ ?side1 ?side2 A3.out).mono ?_); (case side1 => have X_ := HR0; exact cbx); (case side2 => exact HC0.out); rintro e w' ⟨rfl, ⟨nd, rfl⟩⟩; refine ⟨_, rfl, ?_⟩))
 go_ret
 exact ⟨rfs, by repeat (first | exact Drawn0.refl _ | apply Drawn0.step)⟩

/-! ### impl_labelsOk: function 48 -/
def impl_labelsOk.f (k : Nat) (l0 : List ByteArray) : Option (Bool) := if (l0.length : Int) < 1 then (some false) else (if (l0.length : Int) > 4 then (some false) else ((impl_AreAscending.f k l0).bind fun t364 => (if t364 = true then ((slices_ContainsFunc_string_of_labelsOk_1.f k l0).bind fun t365 => (some (!t365))) else (some false))))
theorem impl_labelsOk.calls (k : Nat) (A0 : Option Addr) (c0 : Nat) (l0 : List ByteArray) (r : Bool) (w : World) (hr0 : Kd.C Kd.string w A0 l0.length l0) (hc0 : l0.length ≤ c0) (h : impl_labelsOk.f k l0 = some r) :
  Calls Try.prog 48 #[.slice A0 l0.length c0] w fun e w' => e = .returned (.bool r) ∧ Drawn0 w w' := by
 have HR0 := Aside0.mk hr0
 have HC0 := Aside0.mk hc0
 clear hr0 hc0
 have H : (if (l0.length : Int) < 1 then (some false) else (if (l0.length : Int) > 4 then (some false) else ((impl_AreAscending.f k l0).bind fun t364 => (if t364 = true then ((slices_ContainsFunc_string_of_labelsOk_1.f k l0).bind fun t365 => (some (!t365))) else (some false))))) = some r := h
 clear h
 by_cases c2 : (l0.length : Int) < 1
 ·rw [if_pos c2] at H
  have c2b0 : decide ((l0.length : Int) < 1) = true := decide_eq_true c2
  have c2b1 : decide (l0.length < 1) = true := decide_eq_true (by omega)
  clear c2
  obtain rfl := Option.some.inj H
  go_enter Try.func48, Try.ntmps48
  go_wp2
  go_ret
  exact ⟨rfs, by repeat (first | exact Drawn0.refl _ | apply Drawn0.step)⟩
 rw [if_neg c2] at H
 have c2b0 : decide ((l0.length : Int) < 1) = false := decide_eq_false c2
 have c2b1 : decide (l0.length < 1) = false := decide_eq_false (by omega)
 clear c2
 by_cases c3 : (l0.length : Int) > 4
 ·rw [if_pos c3] at H
  have c3b0 : decide (4 < (l0.length : Int)) = true := decide_eq_true c3
  have c3b1 : decide (4 < l0.length) = true := decide_eq_true (by omega)
  clear c3
  obtain rfl := Option.some.inj H
  go_enter Try.func48, Try.ntmps48
  go_wp2
  go_ret
  exact ⟨rfs, by repeat (first | exact Drawn0.refl _ | apply Drawn0.step)⟩
 rw [if_neg c3] at H
 have c3b0 : decide (4 < (l0.length : Int)) = false := decide_eq_false c3
 have c3b1 : decide (4 < l0.length) = false := decide_eq_false (by omega)
 clear c3
 replace H := Option.bind_eq_some_iff.mp H
 obtain ⟨t364, A40, H⟩ := H
 replace H : (if t364 = true then ((slices_ContainsFunc_string_of_labelsOk_1.f k l0).bind fun t365 => (some (!t365))) else (some false)) = some r := H
 have A4 := Aside0.mk A40
 clear A40
 have HC5 := Aside0.mk H
 clear H
 go_enter Try.func48, Try.ntmps48
 go_upto_if 15 with (first | (go_at_call 55; (with_reducible refine (impl_AreAscending.calls k _ _ l0 t364 _ ?side1 ?side2 A4.out).mono ?_); (case side1 => have X_ := HR0; exact cbx); (case side2 => exact HC0.out); rintro e w' ⟨rfl, ⟨nd, rfl⟩⟩))
 have H := HC5.out
 clear HC5
 by_cases c6 : t364 = true
 case neg =>
  replace c6 := Bool.eq_false_iff.mpr c6
  subst c6
  have H1 : (some false) = some r := by rw [if_neg (show ¬ (false = true) by decide)] at H; exact H
  clear H
  have H := H1
  clear H1
  obtain rfl := Option.some.inj H
  go_wp2
  go_ret
  exact ⟨rfs, by repeat (first | exact Drawn0.refl _ | apply Drawn0.step)⟩
 subst c6
 have H1 : ((slices_ContainsFunc_string_of_labelsOk_1.f k l0).bind fun t365 => (some (!t365))) = some r := by rw [if_pos rfl] at H; exact H
 clear H
 have H := H1
 clear H1
 replace H := Option.bind_eq_some_iff.mp H
 obtain ⟨t365, A70, H⟩ := H
 replace H : (some (!t365)) = some r := H
 have A7 := Aside0.mk A70
 clear A70
 obtain rfl := Option.some.inj H
 go_wp2_with (first | ((with_reducible refine gate_callee (f := 56) rfl ?_); refine goesL_ (some 17) rfl rfl Try.func56 kr rfl #[.slice A0 l0.length c0, .func (.func 57) #[] #[]] rfl mpw ?_; (with_reducible refine (slices_ContainsFunc_string_of_labelsOk_1.calls k _ _ l0  t365 _ ?side1 ?side2 A7.out).mono ?_); (case side1 => have X_ := HR0; exact cbx); (case side2 => exact HC0.out); rintro e w' ⟨rfl, ⟨nd, rfl⟩⟩; refine ⟨_, rfl, ?_⟩))
 go_ret
 exact ⟨rfs, by repeat (first | exact Drawn0.refl _ | apply Drawn0.step)⟩

end Go.Proofs.Ytaakdfbfgabdbaa.Pt
end
section
namespace Go.Proofs.Ytaakdfbfgabdbaa.Pt
open Go.RowKit Go.Proofs.Ytaakdfbfgabdbaa.Ext Go.Proofs.YtaakdfbfgabdbaaW.PrintWords Go.Proofs.YtaakdfbfgabdbaaW.PrintLast Go.Proofs.YtaakdfbfgabdbaaW.PrintMore
attribute [local go_sem] max2_int min2_int max_two min_two max_three min_three max_four min_four   -- for this text's walks alone
set_option linter.unusedVariables false
set_option linter.unusedSimpArgs false

/-! ### impl_typeForm: function 24 -/
mutual
def impl_typeForm.j3 : Nat → Bool → Int → Int → List (S27) → Option (Bool)
 | 0, _, _, _, _ => none
 | k + 1, x1, x2, x700, x702 => if x1 = true then (impl_typeForm.j4 k x2 true x702) else (if x700 = 3 then (impl_typeForm.j4 k x2 true x702) else (impl_typeForm.j4 k x2 (x700 == 4) x702))
def impl_typeForm.j4 : Nat → Int → Bool → List (S27) → Option (Bool)
 | 0, _, _, _ => none
 | k + 1, x2, x8, x702 => impl_typeForm.l0 k x2 x8 (x702.length : Int) 0 x702
def impl_typeForm.l0 : Nat → Int → Bool → Int → Int → List (S27) → Option (Bool)
 | 0, _, _, _, _, _ => none
 | k + 1, x2, x8, x102, x103, x702 => if x103 < x102 then (if 0 ≤ x103 then (if x103 < (x702.length : Int) then ((impl_typeForm.f k ((rd_T27 x702 x103).f0) ((rd_T27 x702 x103).f1) ((rd_T27 x702 x103).f2) x8 (wrap64 (x2 + 1))).bind fun t370 => (if t370 = true then (impl_typeForm.l0 k x2 x8 x102 (wrap64 (x103 + 1)) x702) else (some false))) else (none)) else (none)) else (some true)
def impl_typeForm.j0 : Nat → Bool → Int → Bool → Int → List ByteArray → List (S27) → Option (Bool)
 | 0, _, _, _, _, _, _ => none
 | k + 1, x1, x2, x22, x700, x701, x702 => if x22 = true then (some false) else (if x700 = 5 then (impl_typeForm.j1 k x1 x2 x1 x700 x701 x702) else (impl_typeForm.j1 k x1 x2 false x700 x701 x702))
def impl_typeForm.j1 : Nat → Bool → Int → Bool → Int → List ByteArray → List (S27) → Option (Bool)
 | 0, _, _, _, _, _, _ => none
 | k + 1, x1, x2, x48, x700, x701, x702 => if x48 = true then (some false) else (if x700 = 3 then ((impl_labelsOk.f k x701).bind fun t368 => (impl_typeForm.j2 k x1 x2 (!t368) x700 x701 x702)) else (impl_typeForm.j2 k x1 x2 false x700 x701 x702))
def impl_typeForm.j2 : Nat → Bool → Int → Bool → Int → List ByteArray → List (S27) → Option (Bool)
 | 0, _, _, _, _, _, _ => none
 | k + 1, x1, x2, x48, x700, x701, x702 => if x48 = true then (some false) else (if x700 = 3 then (impl_typeForm.j3 k x1 x2 x700 x702) else (if (x701.length : Int) > 0 then (some false) else (impl_typeForm.j3 k x1 x2 x700 x702)))
def impl_typeForm.f : Nat → Int → List ByteArray → List (S27) → Bool → Int → Option (Bool)
 | 0, _, _, _, _, _ => none
 | k + 1, a0_0, l0_1, l0_2, a1, a2 => if -9223372036854775808 ≤ (l0_1.length : Int) then (if (l0_1.length : Int) ≤ 9223372036854775807 then (if -9223372036854775808 ≤ a0_0 then (if a0_0 ≤ 9223372036854775807 then (if a0_0 < 1 then (impl_typeForm.j0 k a1 a2 true a0_0 l0_1 l0_2) else (if a0_0 > 5 then (impl_typeForm.j0 k a1 a2 true a0_0 l0_1 l0_2) else (if a2 > 7 then (impl_typeForm.j0 k a1 a2 true a0_0 l0_1 l0_2) else (impl_typeForm.j0 k a1 a2 ((l0_2.length : Int) != (imPut (imPut (imPut im0 4 1) 5 2) 3 (l0_1.length : Int) a0_0)) a0_0 l0_1 l0_2)))) else (none)) else (none)) else (none)) else (none)
end
set_option maxHeartbeats 8000000 in
set_option maxRecDepth 100000 in
theorem impl_typeForm.calls (k : Nat) : ∀ (ad0 : Addr) (a0_0 : Int) (A0_1 : Option Addr) (c0_1 : Nat) (l0_1 : List ByteArray) (A0_2 : Option Addr) (c0_2 : Nat) (l0_2 : List (S27)) (a1 : Bool) (a2 : Int) (r : Bool) (w : World) (hp0 : Cells w ad0 [.int .i64 a0_0, .slice A0_1 l0_1.length c0_1, .slice A0_2 l0_2.length c0_2]) (hr0_1 : Kd.C Kd.string w A0_1 l0_1.length l0_1) (hc0_1 : l0_1.length ≤ c0_1) (hr0_2 : Kd.C k27 w A0_2 l0_2.length l0_2) (hc0_2 : l0_2.length ≤ c0_2) (h : impl_typeForm.f k a0_0 l0_1 l0_2 a1 a2 = some r),
  Calls Try.prog 24 #[.pointer (some ad0), .bool a1, .int .i64 a2] w fun e w' => e = .returned (.bool r) ∧ Below w.heap.size w w' := by
 induction k using Nat.strongRecOn with
 | _ k ih =>
 intro ad0 a0_0 A0_1 c0_1 l0_1 A0_2 c0_2 l0_2 a1 a2 r w hp0 hr0_1 hc0_1 hr0_2 hc0_2 h
 cases k with
 | zero => exact absurd h (by simp [impl_typeForm.f])
 | succ k =>
 simp only [impl_typeForm.f] at h
 have HP0 := Aside0.mk hp0
 clear hp0
 have HR0_1 := Aside0.mk hr0_1
 have HC0_1 := Aside0.mk hc0_1
 clear hr0_1 hc0_1
 have HR0_2 := Aside0.mk hr0_2
 have HC0_2 := Aside0.mk hc0_2
 clear hr0_2 hc0_2
 have HB := Aside0.mk (Below.refl w.heap.size w)
 have H : (if -9223372036854775808 ≤ (l0_1.length : Int) then (if (l0_1.length : Int) ≤ 9223372036854775807 then (if -9223372036854775808 ≤ a0_0 then (if a0_0 ≤ 9223372036854775807 then (if a0_0 < 1 then (impl_typeForm.j0 k a1 a2 true a0_0 l0_1 l0_2) else (if a0_0 > 5 then (impl_typeForm.j0 k a1 a2 true a0_0 l0_1 l0_2) else (if a2 > 7 then (impl_typeForm.j0 k a1 a2 true a0_0 l0_1 l0_2) else (impl_typeForm.j0 k a1 a2 ((l0_2.length : Int) != (imPut (imPut (imPut im0 4 1) 5 2) 3 (l0_1.length : Int) a0_0)) a0_0 l0_1 l0_2)))) else (none)) else (none)) else (none)) else (none)) = some r := h
 clear h
 by_cases c4 : -9223372036854775808 ≤ (l0_1.length : Int)
 case neg =>
  rw [if_neg c4] at H
  exact absurd H (by simp)
 rw [if_pos c4] at H
 have c4b0 := eq_true c4
 have c4b1 : decide (-9223372036854775808 ≤ (l0_1.length : Int)) = true := decide_eq_true c4
 clear c4
 by_cases c5 : (l0_1.length : Int) ≤ 9223372036854775807
 case neg =>
  rw [if_neg c5] at H
  exact absurd H (by simp)
 rw [if_pos c5] at H
 have c5b0 := eq_true c5
 have c5b1 : decide ((l0_1.length : Int) ≤ 9223372036854775807) = true := decide_eq_true c5
 try have c5b2 : (9223372036854775807 < (l0_1.length : Int)) = False := eq_false (Nat.not_lt.2 c5)
 clear c5
 by_cases c6 : -9223372036854775808 ≤ a0_0
 case neg =>
  rw [if_neg c6] at H
  exact absurd H (by simp)
 rw [if_pos c6] at H
 have c6b0 := eq_true c6
 have c6b1 : decide (-9223372036854775808 ≤ a0_0) = true := decide_eq_true c6
 clear c6
 by_cases c7 : a0_0 ≤ 9223372036854775807
 case neg =>
  rw [if_neg c7] at H
  exact absurd H (by simp)
 rw [if_pos c7] at H
 have c7b0 := eq_true c7
 have c7b1 : decide (a0_0 ≤ 9223372036854775807) = true := decide_eq_true c7
 try have c7b2 : (9223372036854775807 < a0_0) = False := eq_false (Nat.not_lt.2 c7)
 clear c7
 have HC8 := Aside0.mk H
 clear H
 go_enter Try.func24, Try.ntmps24
 try go_wp2
 have n0_ := Aside0.mk (below_drew1 blw)
 clear HB
 revert n0_
 intro HB
 try go_wp2
 refine start_ (n := 16) (S := fun w' => w'.cell? ad0 = some (.int .i64 a0_0) ∧ w'.cell? ⟨ad0.block, ad0.off + 1, none⟩ = some (.slice A0_1 l0_1.length c0_1) ∧ w'.cell? ⟨ad0.block, ad0.off + 2, none⟩ = some (.slice A0_2 l0_2.length c0_2)) (ds := []) #[false,false,false,false,false,false,false,false,false,false,false,false,false,false,false,false] kr rfl rfl ⟨pw_cell_below HB.out (HP0.out.1), pw_cell_below HB.out (HP0.out.2.1), pw_cell_below HB.out (HP0.out.2.2.1)⟩ (fun hHeld => ?_)
 generalize w.drew = w9 at HB hHeld ⊢
 refine pure_ (i := 3) (N := (some 11)) (v := ?_) (a' := ?_) (bm 16 8) rfl rfl kr qi (Or.inl ⟨by rfl, ?_⟩) ?_ ?_
 rotate_left
 ·intro w'
  go_simp
  with_reducible rfl
 rotate_left
 ·simp only [sx]
  rfl
 refine pure_ (i := 4) (N := (some 12)) (v := ?_) (a' := ?_) (bm 16 24) rfl rfl kr qi (Or.inl ⟨by rfl, ?_⟩) ?_ ?_
 rotate_left
 ·intro w'
  go_simp
  with_reducible rfl
 rotate_left
 ·simp only [sx]
  rfl
 refine pure_ (i := 5) (N := (some 13)) (v := ?_) (a' := ?_) (bm 16 56) rfl rfl kr qi (Or.inl ⟨by rfl, ?_⟩) ?_ ?_
 rotate_left
 ·intro w'
  go_simp
  with_reducible rfl
 rotate_left
 ·simp only [sx]
  rfl
 refine take_ (i := 6) (N := (some 14)) (v := ?_) (a' := ?_) (bm 16 120) rfl rfl kr qi (Or.inl ⟨by rfl, ?_⟩) hHeld ?_ ?_
 rotate_left
 ·rintro w' ⟨s0, s1, s2⟩
  go_simp
  with_reducible rfl
 rotate_left
 ·simp only [sx]
  rfl
 refine pure_ (i := 7) (N := (some 15)) (v := ?_) (a' := ?_) (bm 16 248) rfl rfl kr qi (Or.inl ⟨by rfl, ?_⟩) ?_ ?_
 rotate_left
 ·intro w'
  go_simp
  with_reducible rfl
 rotate_left
 ·simp only [sx]
  rfl
 refine pure_ (i := 10) (N := (some 17)) (v := ?_) (a' := ?_) (bm 16 1272) rfl rfl kr qi (Or.inl ⟨by rfl, ?_⟩) ?_ ?_
 rotate_left
 ·intro w'
  go_simp
  with_reducible rfl
 rotate_left
 ·simp only [sx]
  rfl
 refine pure_ (i := 11) (N := (some 18)) (v := ?_) (a' := ?_) (bm 16 3320) rfl rfl kr qi (Or.inl ⟨by rfl, ?_⟩) ?_ ?_
 rotate_left
 ·intro w'
  go_simp
  with_reducible rfl
 rotate_left
 ·simp only [sx]
  rfl
 refine pure_ (i := 12) (N := (some 19)) (v := ?_) (a' := ?_) (bm 16 7416) rfl rfl kr qi (Or.inl ⟨by rfl, ?_⟩) ?_ ?_
 rotate_left
 ·intro w'
  go_simp
  with_reducible rfl
 rotate_left
 ·simp only [sx]
  rfl
 refine take_ (i := 13) (N := (some 20)) (v := ?_) (a' := ?_) (bm 16 15608) rfl rfl kr qi (Or.inl ⟨by rfl, ?_⟩) hHeld ?_ ?_
 rotate_left
 ·rintro w' ⟨s0, s1, s2⟩
  go_simp
  with_reducible rfl
 rotate_left
 ·simp only [sx]
  rfl
 refine one_ (i := 0) (N := (some 10)) (bm 16 15609) rfl rfl kr (by decide) (fun K hK => ?_)
 refine imm_one (t := 59) (by rfl) rfl rfl 3 3 ?_
 intro gm367 w10 hg him hb
 have GM := Aside0.mk (by rw [hg]; exact (below_size HB.out) : w.heap.size ≤ gm367)
 have n0_ := Aside0.mk (below_step HB.out hb)
 clear HB
 have HB := n0_
 have HM366 := Aside0.mk him
 clear n0_ him hb hg hHeld
 refine hK.out _ _ ⟨pw_cell_below HB.out (HP0.out.1), pw_cell_below HB.out (HP0.out.2.1), pw_cell_below HB.out (HP0.out.2.2.1)⟩ (fun hHeld => ?_)
 clear hK K
 refine norm_ (a' := ?_) ?_ ?_
 rotate_left
 ·show Act.put _ (some 10) _ = _
  simp only [sx]
  rfl
 refine join_ (σ := Unit) 3 #[true,true,true,true,true,true,true,true,true,false,true,true,true,true,false,false] (fun _ => []) (fun _ w' => Aside0 (IMap Try.prog 3 3 w' gm367 3 (imPut (imPut (imPut im0 4 1) 5 2) 3 (l0_1.length : Int))) ∧ Aside0 (Below w.heap.size w w')) (fun _ w11 hF => ?_) (fun hJ => ?_)
 rotate_left
 ·refine three_ (i := 1) (j := 2) (k := 8) (Ni := none) (Nj := none) (Nk := none) #[true,true,false,true,true,true,true,true,false,false,true,true,true,true,false,false] #[true,false,true,true,true,true,true,true,false,false,true,true,true,true,false,false] #[true,false,false,true,true,true,true,true,true,false,true,true,true,true,false,false] rfl rfl rfl rfl rfl rfl kr (by decide) (by decide) (by decide) (fun K hK => ?_) (fun K hK => ?_) (fun K hK => ?_)
  ·refine imput_one (by rfl) rfl rfl Try.underlying59 Try.underlying3 Try.underlying3 rfl HM366.out (by decide) 4 1 rfl rfl (by decide) (by decide) ?_
   intro w12 him hg
   have n0_ := Aside0.mk (pw_below_grown HB.out _ (below_size HB.out) hg (fun k_ e_ => by injection e_ with e_; rw [← e_]; exact GM.out))
   clear HB HM366
   have HB := n0_
   have HM366 := Aside0.mk him
   clear n0_ him hg hHeld
   refine hK.out _ _ ⟨pw_cell_below HB.out (HP0.out.1), pw_cell_below HB.out (HP0.out.2.1), pw_cell_below HB.out (HP0.out.2.2.1)⟩ (fun hHeld => ?_)
   clear hK K
   refine two_ (i := 2) (j := 8) (Ni := none) (Nj := none) #[true,true,true,true,true,true,true,true,false,false,true,true,true,true,false,false] #[true,true,false,true,true,true,true,true,true,false,true,true,true,true,false,false] rfl rfl rfl rfl kr (by decide) (by decide) (fun K hK => ?_) (fun K hK => ?_)
   ·refine imput_one (by rfl) rfl rfl Try.underlying59 Try.underlying3 Try.underlying3 rfl HM366.out (by decide) 5 2 rfl rfl (by decide) (by decide) ?_
    intro w13 him hg
    have n0_ := Aside0.mk (pw_below_grown HB.out _ (below_size HB.out) hg (fun k_ e_ => by injection e_ with e_; rw [← e_]; exact GM.out))
    clear HB HM366
    have HB := n0_
    have HM366 := Aside0.mk him
    clear n0_ him hg hHeld
    refine hK.out _ _ ⟨pw_cell_below HB.out (HP0.out.1), pw_cell_below HB.out (HP0.out.2.1), pw_cell_below HB.out (HP0.out.2.2.1)⟩ (fun hHeld => ?_)
    clear hK K
    refine one_ (i := 8) (N := none) (bm 16 15871) rfl rfl kr (by decide) (fun K hK => ?_)
    refine imput_one (by rfl) rfl rfl Try.underlying59 Try.underlying3 Try.underlying3 rfl HM366.out (by decide) 3 (l0_1.length : Int) rfl rfl (by decide) (WalkArith.wf_i64 ⟨of_decide_eq_true asw, of_decide_eq_true asw⟩) ?_
    intro w14 him hg
    have n0_ := Aside0.mk (pw_below_grown HB.out _ (below_size HB.out) hg (fun k_ e_ => by injection e_ with e_; rw [← e_]; exact GM.out))
    clear HB HM366
    have HB := n0_
    have HM366 := Aside0.mk him
    clear n0_ him hg hHeld
    refine hK.out _ _ ⟨pw_cell_below HB.out (HP0.out.1), pw_cell_below HB.out (HP0.out.2.1), pw_cell_below HB.out (HP0.out.2.2.1)⟩ (fun hHeld => ?_)
    clear hK K
    exact hJ () _ ⟨⟨IMap.congr HM366.out (fun c_ => by first | rfl | (simp only [imPut]; (repeat' split) <;> first | rfl | omega))⟩, HB⟩
   ·refine imput_one (by rfl) rfl rfl Try.underlying59 Try.underlying3 Try.underlying3 rfl HM366.out (by decide) 3 (l0_1.length : Int) rfl rfl (by decide) (WalkArith.wf_i64 ⟨of_decide_eq_true asw, of_decide_eq_true asw⟩) ?_
    intro w15 him hg
    have n0_ := Aside0.mk (pw_below_grown HB.out _ (below_size HB.out) hg (fun k_ e_ => by injection e_ with e_; rw [← e_]; exact GM.out))
    clear HB HM366
    have HB := n0_
    have HM366 := Aside0.mk him
    clear n0_ him hg hHeld
    refine hK.out _ _ ⟨pw_cell_below HB.out (HP0.out.1), pw_cell_below HB.out (HP0.out.2.1), pw_cell_below HB.out (HP0.out.2.2.1)⟩ (fun hHeld => ?_)
    clear hK K
    refine one_ (i := 2) (N := none) (bm 16 15871) rfl rfl kr (by decide) (fun K hK => ?_)
    refine imput_one (by rfl) rfl rfl Try.underlying59 Try.underlying3 Try.underlying3 rfl HM366.out (by decide) 5 2 rfl rfl (by decide) (by decide) ?_
    intro w16 him hg
    have n0_ := Aside0.mk (pw_below_grown HB.out _ (below_size HB.out) hg (fun k_ e_ => by injection e_ with e_; rw [← e_]; exact GM.out))
    clear HB HM366
    have HB := n0_
    have HM366 := Aside0.mk him
    clear n0_ him hg hHeld
    refine hK.out _ _ ⟨pw_cell_below HB.out (HP0.out.1), pw_cell_below HB.out (HP0.out.2.1), pw_cell_below HB.out (HP0.out.2.2.1)⟩ (fun hHeld => ?_)
    clear hK K
    exact hJ () _ ⟨⟨IMap.congr HM366.out (fun c_ => by first | rfl | (simp only [imPut]; (repeat' split) <;> first | rfl | omega))⟩, HB⟩
  ·refine imput_one (by rfl) rfl rfl Try.underlying59 Try.underlying3 Try.underlying3 rfl HM366.out (by decide) 5 2 rfl rfl (by decide) (by decide) ?_
   intro w17 him hg
   have n0_ := Aside0.mk (pw_below_grown HB.out _ (below_size HB.out) hg (fun k_ e_ => by injection e_ with e_; rw [← e_]; exact GM.out))
   clear HB HM366
   have HB := n0_
   have HM366 := Aside0.mk him
   clear n0_ him hg hHeld
   refine hK.out _ _ ⟨pw_cell_below HB.out (HP0.out.1), pw_cell_below HB.out (HP0.out.2.1), pw_cell_below HB.out (HP0.out.2.2.1)⟩ (fun hHeld => ?_)
   clear hK K
   refine two_ (i := 1) (j := 8) (Ni := none) (Nj := none) #[true,true,true,true,true,true,true,true,false,false,true,true,true,true,false,false] #[true,false,true,true,true,true,true,true,true,false,true,true,true,true,false,false] rfl rfl rfl rfl kr (by decide) (by decide) (fun K hK => ?_) (fun K hK => ?_)
   ·refine imput_one (by rfl) rfl rfl Try.underlying59 Try.underlying3 Try.underlying3 rfl HM366.out (by decide) 4 1 rfl rfl (by decide) (by decide) ?_
    intro w18 him hg
    have n0_ := Aside0.mk (pw_below_grown HB.out _ (below_size HB.out) hg (fun k_ e_ => by injection e_ with e_; rw [← e_]; exact GM.out))
    clear HB HM366
    have HB := n0_
    have HM366 := Aside0.mk him
    clear n0_ him hg hHeld
    refine hK.out _ _ ⟨pw_cell_below HB.out (HP0.out.1), pw_cell_below HB.out (HP0.out.2.1), pw_cell_below HB.out (HP0.out.2.2.1)⟩ (fun hHeld => ?_)
    clear hK K
    refine one_ (i := 8) (N := none) (bm 16 15871) rfl rfl kr (by decide) (fun K hK => ?_)
    refine imput_one (by rfl) rfl rfl Try.underlying59 Try.underlying3 Try.underlying3 rfl HM366.out (by decide) 3 (l0_1.length : Int) rfl rfl (by decide) (WalkArith.wf_i64 ⟨of_decide_eq_true asw, of_decide_eq_true asw⟩) ?_
    intro w19 him hg
    have n0_ := Aside0.mk (pw_below_grown HB.out _ (below_size HB.out) hg (fun k_ e_ => by injection e_ with e_; rw [← e_]; exact GM.out))
    clear HB HM366
    have HB := n0_
    have HM366 := Aside0.mk him
    clear n0_ him hg hHeld
    refine hK.out _ _ ⟨pw_cell_below HB.out (HP0.out.1), pw_cell_below HB.out (HP0.out.2.1), pw_cell_below HB.out (HP0.out.2.2.1)⟩ (fun hHeld => ?_)
    clear hK K
    exact hJ () _ ⟨⟨IMap.congr HM366.out (fun c_ => by first | rfl | (simp only [imPut]; (repeat' split) <;> first | rfl | omega))⟩, HB⟩
   ·refine imput_one (by rfl) rfl rfl Try.underlying59 Try.underlying3 Try.underlying3 rfl HM366.out (by decide) 3 (l0_1.length : Int) rfl rfl (by decide) (WalkArith.wf_i64 ⟨of_decide_eq_true asw, of_decide_eq_true asw⟩) ?_
    intro w20 him hg
    have n0_ := Aside0.mk (pw_below_grown HB.out _ (below_size HB.out) hg (fun k_ e_ => by injection e_ with e_; rw [← e_]; exact GM.out))
    clear HB HM366
    have HB := n0_
    have HM366 := Aside0.mk him
    clear n0_ him hg hHeld
    refine hK.out _ _ ⟨pw_cell_below HB.out (HP0.out.1), pw_cell_below HB.out (HP0.out.2.1), pw_cell_below HB.out (HP0.out.2.2.1)⟩ (fun hHeld => ?_)
    clear hK K
    refine one_ (i := 1) (N := none) (bm 16 15871) rfl rfl kr (by decide) (fun K hK => ?_)
    refine imput_one (by rfl) rfl rfl Try.underlying59 Try.underlying3 Try.underlying3 rfl HM366.out (by decide) 4 1 rfl rfl (by decide) (by decide) ?_
    intro w21 him hg
    have n0_ := Aside0.mk (pw_below_grown HB.out _ (below_size HB.out) hg (fun k_ e_ => by injection e_ with e_; rw [← e_]; exact GM.out))
    clear HB HM366
    have HB := n0_
    have HM366 := Aside0.mk him
    clear n0_ him hg hHeld
    refine hK.out _ _ ⟨pw_cell_below HB.out (HP0.out.1), pw_cell_below HB.out (HP0.out.2.1), pw_cell_below HB.out (HP0.out.2.2.1)⟩ (fun hHeld => ?_)
    clear hK K
    exact hJ () _ ⟨⟨IMap.congr HM366.out (fun c_ => by first | rfl | (simp only [imPut]; (repeat' split) <;> first | rfl | omega))⟩, HB⟩
  ·refine imput_one (by rfl) rfl rfl Try.underlying59 Try.underlying3 Try.underlying3 rfl HM366.out (by decide) 3 (l0_1.length : Int) rfl rfl (by decide) (WalkArith.wf_i64 ⟨of_decide_eq_true asw, of_decide_eq_true asw⟩) ?_
   intro w22 him hg
   have n0_ := Aside0.mk (pw_below_grown HB.out _ (below_size HB.out) hg (fun k_ e_ => by injection e_ with e_; rw [← e_]; exact GM.out))
   clear HB HM366
   have HB := n0_
   have HM366 := Aside0.mk him
   clear n0_ him hg hHeld
   refine hK.out _ _ ⟨pw_cell_below HB.out (HP0.out.1), pw_cell_below HB.out (HP0.out.2.1), pw_cell_below HB.out (HP0.out.2.2.1)⟩ (fun hHeld => ?_)
   clear hK K
   refine two_ (i := 1) (j := 2) (Ni := none) (Nj := none) #[true,true,false,true,true,true,true,true,true,false,true,true,true,true,false,false] #[true,false,true,true,true,true,true,true,true,false,true,true,true,true,false,false] rfl rfl rfl rfl kr (by decide) (by decide) (fun K hK => ?_) (fun K hK => ?_)
   ·refine imput_one (by rfl) rfl rfl Try.underlying59 Try.underlying3 Try.underlying3 rfl HM366.out (by decide) 4 1 rfl rfl (by decide) (by decide) ?_
    intro w23 him hg
    have n0_ := Aside0.mk (pw_below_grown HB.out _ (below_size HB.out) hg (fun k_ e_ => by injection e_ with e_; rw [← e_]; exact GM.out))
    clear HB HM366
    have HB := n0_
    have HM366 := Aside0.mk him
    clear n0_ him hg hHeld
    refine hK.out _ _ ⟨pw_cell_below HB.out (HP0.out.1), pw_cell_below HB.out (HP0.out.2.1), pw_cell_below HB.out (HP0.out.2.2.1)⟩ (fun hHeld => ?_)
    clear hK K
    refine one_ (i := 2) (N := none) (bm 16 15871) rfl rfl kr (by decide) (fun K hK => ?_)
    refine imput_one (by rfl) rfl rfl Try.underlying59 Try.underlying3 Try.underlying3 rfl HM366.out (by decide) 5 2 rfl rfl (by decide) (by decide) ?_
    intro w24 him hg
    have n0_ := Aside0.mk (pw_below_grown HB.out _ (below_size HB.out) hg (fun k_ e_ => by injection e_ with e_; rw [← e_]; exact GM.out))
    clear HB HM366
    have HB := n0_
    have HM366 := Aside0.mk him
    clear n0_ him hg hHeld
    refine hK.out _ _ ⟨pw_cell_below HB.out (HP0.out.1), pw_cell_below HB.out (HP0.out.2.1), pw_cell_below HB.out (HP0.out.2.2.1)⟩ (fun hHeld => ?_)
    clear hK K
    exact hJ () _ ⟨⟨IMap.congr HM366.out (fun c_ => by first | rfl | (simp only [imPut]; (repeat' split) <;> first | rfl | omega))⟩, HB⟩
   ·refine imput_one (by rfl) rfl rfl Try.underlying59 Try.underlying3 Try.underlying3 rfl HM366.out (by decide) 5 2 rfl rfl (by decide) (by decide) ?_
    intro w25 him hg
    have n0_ := Aside0.mk (pw_below_grown HB.out _ (below_size HB.out) hg (fun k_ e_ => by injection e_ with e_; rw [← e_]; exact GM.out))
    clear HB HM366
    have HB := n0_
    have HM366 := Aside0.mk him
    clear n0_ him hg hHeld
    refine hK.out _ _ ⟨pw_cell_below HB.out (HP0.out.1), pw_cell_below HB.out (HP0.out.2.1), pw_cell_below HB.out (HP0.out.2.2.1)⟩ (fun hHeld => ?_)
    clear hK K
    refine one_ (i := 1) (N := none) (bm 16 15871) rfl rfl kr (by decide) (fun K hK => ?_)
    refine imput_one (by rfl) rfl rfl Try.underlying59 Try.underlying3 Try.underlying3 rfl HM366.out (by decide) 4 1 rfl rfl (by decide) (by decide) ?_
    intro w26 him hg
    have n0_ := Aside0.mk (pw_below_grown HB.out _ (below_size HB.out) hg (fun k_ e_ => by injection e_ with e_; rw [← e_]; exact GM.out))
    clear HB HM366
    have HB := n0_
    have HM366 := Aside0.mk him
    clear n0_ him hg hHeld
    refine hK.out _ _ ⟨pw_cell_below HB.out (HP0.out.1), pw_cell_below HB.out (HP0.out.2.1), pw_cell_below HB.out (HP0.out.2.2.1)⟩ (fun hHeld => ?_)
    clear hK K
    exact hJ () _ ⟨⟨IMap.congr HM366.out (fun c_ => by first | rfl | (simp only [imPut]; (repeat' split) <;> first | rfl | omega))⟩, HB⟩
 clear HB HM366
 obtain ⟨HM366, HB⟩ := hF
 have hHeld : w11.cell? ad0 = some (.int .i64 a0_0) ∧ w11.cell? ⟨ad0.block, ad0.off + 1, none⟩ = some (.slice A0_1 l0_1.length c0_1) ∧ w11.cell? ⟨ad0.block, ad0.off + 2, none⟩ = some (.slice A0_2 l0_2.length c0_2) := ⟨pw_cell_below HB.out (HP0.out.1), pw_cell_below HB.out (HP0.out.2.1), pw_cell_below HB.out (HP0.out.2.2.1)⟩
 simp only [putAll]
 refine pure_ (i := 9) (N := (some 16)) (v := ?_) (a' := ?_) (bm 16 16383) rfl rfl kr qi (Or.inl ⟨by rfl, ?_⟩) ?_ ?_
 rotate_left
 ·intro w'
  go_simp
  with_reducible rfl
 rotate_left
 ·simp only [sx]
  rfl
 refine one_ (i := 14) (N := (some 21)) (bm 16 32767) rfl rfl kr (by decide) (fun K hK => ?_)
 refine imget_one (by rfl) rfl rfl Try.underlying59 Try.underlying3 Try.underlying3 zero3 rfl HM366.out a0_0 rfl (WalkArith.wf_i64 ⟨of_decide_eq_true asw, of_decide_eq_true asw⟩) ?_
 refine hK.out _ _ hHeld (fun hHeld => ?_)
 clear hK K
 refine norm_ (a' := ?_) ?_ ?_
 rotate_left
 ·show Act.put _ (some 21) _ = _
  simp only [sx]
  rfl
 refine pure_ (i := 15) (N := (some 7)) (v := ?_) (a' := ?_) (bm 16 65535) rfl rfl kr qi (Or.inl ⟨by rfl, ?_⟩) ?_ ?_
 rotate_left
 ·intro w'
  go_simp
  with_reducible rfl
 rotate_left
 ·simp only [sx]
  rfl
 refine done_ kr ?_
 clear hHeld GM HM366
 have hxr27_0 : w11.cell? ad0 = some (.int .i64 a0_0) := pw_cell_below HB.out (HP0.out.1)
 have hxr27_1 : w11.cell? ⟨ad0.block, ad0.off + 1, none⟩ = some (.slice A0_1 l0_1.length c0_1) := pw_cell_below HB.out (HP0.out.2.1)
 have hxr27_2 : w11.cell? ⟨ad0.block, ad0.off + 2, none⟩ = some (.slice A0_2 l0_2.length c0_2) := pw_cell_below HB.out (HP0.out.2.2.1)
 go_upto_block 0 with (fail)
 repeat (go_quiet (fail); go_upto_block 0 with (fail))
 go_cut [] (fun wc => ∃ (kq : Nat), Aside0 (impl_typeForm.j3 kq a1 a2 a0_0 l0_2 = some r) ∧ Aside0 (kq ≤ k) ∧ Aside0 (Below w.heap.size w wc))
 case first =>
  have H := HC8.out
  clear HC8
  have HC28 := Aside0.mk H
  clear H
  go_upto_region 2 with (fail)
  repeat (go_quiet (fail); go_upto_region 2 with (fail))
  go_cut [22] (fun v22 wc => ∃ (kq : Nat) (x22_27 : Bool), v22 = .bool x22_27 ∧ Aside0 (impl_typeForm.j0 kq a1 a2 x22_27 a0_0 l0_1 l0_2 = some r) ∧ Aside0 (kq ≤ k) ∧ Aside0 (Below w.heap.size w wc))
  case first =>
   have H := HC28.out
   clear HC28
   by_cases c29 : a0_0 < 1
   ·rw [if_pos c29] at H
    have c29b0 : decide (a0_0 < 1) = true := decide_eq_true c29
    clear c29
    (first | rw [c29b0] | (simp only [i64_w, i32_w]; rw [c29b0]) | skip)
    have H' := Aside0.mk H
    clear H
    have hxr30_0 : w11.cell? ad0 = some (.int .i64 a0_0) := pw_cell_below HB.out (HP0.out.1)
    have hxr30_1 : w11.cell? ⟨ad0.block, ad0.off + 1, none⟩ = some (.slice A0_1 l0_1.length c0_1) := pw_cell_below HB.out (HP0.out.2.1)
    have hxr30_2 : w11.cell? ⟨ad0.block, ad0.off + 2, none⟩ = some (.slice A0_2 l0_2.length c0_2) := pw_cell_below HB.out (HP0.out.2.2.1)
    go_wp2
    repeat (go_quiet (fail); try go_wp2)
    go_meet
    case rel => exact ⟨_, (true), rfs, H', ⟨by first | omega | exact Nat.le_refl _⟩, ⟨blw⟩⟩
   rw [if_neg c29] at H
   have c29b0 : decide (a0_0 < 1) = false := decide_eq_false c29
   clear c29
   (first | rw [c29b0] | (simp only [i64_w, i32_w]; rw [c29b0]) | skip)
   by_cases c31 : a0_0 > 5
   ·rw [if_pos c31] at H
    have c31b0 : decide (5 < a0_0) = true := decide_eq_true c31
    clear c31
    have H' := Aside0.mk H
    clear H
    have hxr32_0 : w11.cell? ad0 = some (.int .i64 a0_0) := pw_cell_below HB.out (HP0.out.1)
    have hxr32_1 : w11.cell? ⟨ad0.block, ad0.off + 1, none⟩ = some (.slice A0_1 l0_1.length c0_1) := pw_cell_below HB.out (HP0.out.2.1)
    have hxr32_2 : w11.cell? ⟨ad0.block, ad0.off + 2, none⟩ = some (.slice A0_2 l0_2.length c0_2) := pw_cell_below HB.out (HP0.out.2.2.1)
    go_wp2
    repeat (go_quiet (fail); try go_wp2)
    go_meet
    case rel => exact ⟨_, (true), rfs, H', ⟨by first | omega | exact Nat.le_refl _⟩, ⟨blw⟩⟩
   rw [if_neg c31] at H
   have c31b0 : decide (5 < a0_0) = false := decide_eq_false c31
   clear c31
   by_cases c33 : a2 > 7
   ·rw [if_pos c33] at H
    have c33b0 : decide (7 < a2) = true := decide_eq_true c33
    clear c33
    have H' := Aside0.mk H
    clear H
    have hxr34_0 : w11.cell? ad0 = some (.int .i64 a0_0) := pw_cell_below HB.out (HP0.out.1)
    have hxr34_1 : w11.cell? ⟨ad0.block, ad0.off + 1, none⟩ = some (.slice A0_1 l0_1.length c0_1) := pw_cell_below HB.out (HP0.out.2.1)
    have hxr34_2 : w11.cell? ⟨ad0.block, ad0.off + 2, none⟩ = some (.slice A0_2 l0_2.length c0_2) := pw_cell_below HB.out (HP0.out.2.2.1)
    go_wp2
    repeat (go_quiet (fail); try go_wp2)
    go_meet
    case rel => exact ⟨_, (true), rfs, H', ⟨by first | omega | exact Nat.le_refl _⟩, ⟨blw⟩⟩
   rw [if_neg c33] at H
   have c33b0 : decide (7 < a2) = false := decide_eq_false c33
   clear c33
   have H' := Aside0.mk H
   clear H
   have hxr35_0 : w11.cell? ad0 = some (.int .i64 a0_0) := pw_cell_below HB.out (HP0.out.1)
   have hxr35_1 : w11.cell? ⟨ad0.block, ad0.off + 1, none⟩ = some (.slice A0_1 l0_1.length c0_1) := pw_cell_below HB.out (HP0.out.2.1)
   have hxr35_2 : w11.cell? ⟨ad0.block, ad0.off + 2, none⟩ = some (.slice A0_2 l0_2.length c0_2) := pw_cell_below HB.out (HP0.out.2.2.1)
   go_wp2
   repeat (go_quiet (fail); try go_wp2)
   go_meet
   case rel => exact ⟨_, (((l0_2.length : Int) != (imPut (imPut (imPut im0 4 1) 5 2) 3 (l0_1.length : Int) a0_0))), rfs, H', ⟨by first | omega | exact Nat.le_refl _⟩, ⟨blw⟩⟩
  case rest =>
   clear HC28
   (try clear c2); (try clear p2); (try clear c3); (try clear c4); (try clear c4b0); (try clear c4b1); (try clear c5); (try clear c5b0); (try clear c5b1); (try clear c5b2); (try clear c6); (try clear c6b0); (try clear c6b1); (try clear c7); (try clear c7b0); (try clear c7b1); (try clear c7b2); (try clear c24); (try clear c29); (try clear c29b0); (try clear c31); (try clear c31b0); (try clear c33); (try clear c33b0)
   obtain ⟨kq, x22_27, rfl, HA, HJ27, HB⟩ := hcut
   cases kq with
   | zero => exact absurd HA.out (by simp [impl_typeForm.j0])
   | succ kj27 =>
    have H := HA.out
    clear HA
    simp only [impl_typeForm.j0] at H
    by_cases c36 : x22_27 = true
    ·subst c36
     have H1 : (some false) = some r := by rw [if_pos rfl] at H; exact H
     clear H
     have H := H1
     clear H1
     obtain rfl := Option.some.inj H
     go_wp2
     repeat (go_quiet (fail); try go_wp2)
     go_ret
     exact ⟨rfw, blw⟩
    replace c36 := Bool.eq_false_iff.mpr c36
    subst c36
    have H1 : (if a0_0 = 5 then (impl_typeForm.j1 kj27 a1 a2 a1 a0_0 l0_1 l0_2) else (impl_typeForm.j1 kj27 a1 a2 false a0_0 l0_1 l0_2)) = some r := by rw [if_neg (show ¬ (false = true) by decide)] at H; exact H
    clear H
    have H := H1
    clear H1
    have HC37 := Aside0.mk H
    clear H
    go_upto_region 4 with (fail)
    repeat (go_quiet (fail); go_upto_region 4 with (fail))
    go_cut [48] (fun v48 wc => ∃ (kq : Nat) (x48_36 : Bool), v48 = .bool x48_36 ∧ Aside0 (impl_typeForm.j1 kq a1 a2 x48_36 a0_0 l0_1 l0_2 = some r) ∧ Aside0 (kq ≤ kj27) ∧ Aside0 (Below w.heap.size w wc))
    case first =>
     have H := HC37.out
     clear HC37
     by_cases c38 : a0_0 = 5
     case neg =>
      rw [if_neg c38] at H
      have c38b0 : (a0_0 == 5) = false := beq_eq_false_iff_ne.mpr c38
      have c38b1 : (a0_0 != 5) = true := bne_iff_ne.mpr c38
      (first | rw [c38b0] | (simp only [i64_w, i32_w]; rw [c38b0]) | (rw [c38b1]; (try simp only [Bool.not_true, Bool.not_false])) | skip)
      have H' := Aside0.mk H
      clear H
      have hxr40_0 : wc.cell? ad0 = some (.int .i64 a0_0) := pw_cell_below HB.out (HP0.out.1)
      have hxr40_1 : wc.cell? ⟨ad0.block, ad0.off + 1, none⟩ = some (.slice A0_1 l0_1.length c0_1) := pw_cell_below HB.out (HP0.out.2.1)
      have hxr40_2 : wc.cell? ⟨ad0.block, ad0.off + 2, none⟩ = some (.slice A0_2 l0_2.length c0_2) := pw_cell_below HB.out (HP0.out.2.2.1)
      go_wp2
      repeat (go_quiet (fail); try go_wp2)
      go_meet
      case rel => exact ⟨_, (false), rfs, H', ⟨by have := HJ27.out; first | omega | exact Nat.le_refl _⟩, ⟨blw⟩⟩
     rw [if_pos c38] at H
     have c38b0 : (a0_0 == 5) = true := beq_iff_eq.mpr c38
     have c38b1 : (a0_0 != 5) = false := bne_eq_false_iff_eq.mpr c38
     clear c38
     (first | rw [c38b0] | (simp only [i64_w, i32_w]; rw [c38b0]) | (rw [c38b1]; (try simp only [Bool.not_true, Bool.not_false])) | skip)
     have H' := Aside0.mk H
     clear H
     have hxr39_0 : wc.cell? ad0 = some (.int .i64 a0_0) := pw_cell_below HB.out (HP0.out.1)
     have hxr39_1 : wc.cell? ⟨ad0.block, ad0.off + 1, none⟩ = some (.slice A0_1 l0_1.length c0_1) := pw_cell_below HB.out (HP0.out.2.1)
     have hxr39_2 : wc.cell? ⟨ad0.block, ad0.off + 2, none⟩ = some (.slice A0_2 l0_2.length c0_2) := pw_cell_below HB.out (HP0.out.2.2.1)
     go_wp2
     repeat (go_quiet (fail); try go_wp2)
     go_meet
     case rel => exact ⟨_, (a1), rfs, H', ⟨by have := HJ27.out; first | omega | exact Nat.le_refl _⟩, ⟨blw⟩⟩
    case rest =>
     clear HC37
     (try clear c2); (try clear p2); (try clear c3); (try clear c4); (try clear c4b0); (try clear c4b1); (try clear c5); (try clear c5b0); (try clear c5b1); (try clear c5b2); (try clear c6); (try clear c6b0); (try clear c6b1); (try clear c7); (try clear c7b0); (try clear c7b1); (try clear c7b2); (try clear c24); (try clear c29); (try clear c29b0); (try clear c31); (try clear c31b0); (try clear c33); (try clear c33b0); (try clear c36); (try clear c38); (try clear c38b0); (try clear c38b1); (try clear p2)
     obtain ⟨kq, x48_36, rfl, HA, HJ36, HB⟩ := hcut
     cases kq with
     | zero => exact absurd HA.out (by simp [impl_typeForm.j1])
     | succ kj36 =>
      have H := HA.out
      clear HA
      simp only [impl_typeForm.j1] at H
      by_cases c41 : x48_36 = true
      ·subst c41
       have H1 : (some false) = some r := by rw [if_pos rfl] at H; exact H
       clear H
       have H := H1
       clear H1
       obtain rfl := Option.some.inj H
       go_wp2
       repeat (go_quiet (fail); try go_wp2)
       go_ret
       exact ⟨rfw, blw⟩
      replace c41 := Bool.eq_false_iff.mpr c41
      subst c41
      have H1 : (if a0_0 = 3 then ((impl_labelsOk.f kj36 l0_1).bind fun t368 => (impl_typeForm.j2 kj36 a1 a2 (!t368) a0_0 l0_1 l0_2)) else (impl_typeForm.j2 kj36 a1 a2 false a0_0 l0_1 l0_2)) = some r := by rw [if_neg (show ¬ (false = true) by decide)] at H; exact H
      clear H
      have H := H1
      clear H1
      have HC42 := Aside0.mk H
      clear H
      go_upto_region 5 with (fail)
      repeat (go_quiet (fail); go_upto_region 5 with (fail))
      go_cut [48] (fun v48 wc => ∃ (kq : Nat) (x48_41 : Bool), v48 = .bool x48_41 ∧ Aside0 (impl_typeForm.j2 kq a1 a2 x48_41 a0_0 l0_1 l0_2 = some r) ∧ Aside0 (kq ≤ kj36) ∧ Aside0 (Below w.heap.size w wc))
      case first =>
       have H := HC42.out
       clear HC42
       by_cases c43 : a0_0 = 3
       case neg =>
        rw [if_neg c43] at H
        have c43b0 : (a0_0 == 3) = false := beq_eq_false_iff_ne.mpr c43
        have c43b1 : (a0_0 != 3) = true := bne_iff_ne.mpr c43
        (first | rw [c43b0] | (simp only [i64_w, i32_w]; rw [c43b0]) | (rw [c43b1]; (try simp only [Bool.not_true, Bool.not_false])) | skip)
        have H' := Aside0.mk H
        clear H
        have hxr46_0 : wc.cell? ad0 = some (.int .i64 a0_0) := pw_cell_below HB.out (HP0.out.1)
        have hxr46_1 : wc.cell? ⟨ad0.block, ad0.off + 1, none⟩ = some (.slice A0_1 l0_1.length c0_1) := pw_cell_below HB.out (HP0.out.2.1)
        have hxr46_2 : wc.cell? ⟨ad0.block, ad0.off + 2, none⟩ = some (.slice A0_2 l0_2.length c0_2) := pw_cell_below HB.out (HP0.out.2.2.1)
        go_wp2
        repeat (go_quiet (fail); try go_wp2)
        go_meet
        case rel => exact ⟨_, (false), rfs, H', ⟨by have := HJ27.out; have := HJ36.out; first | omega | exact Nat.le_refl _⟩, ⟨blw⟩⟩
       rw [if_pos c43] at H
       have c43b0 : (a0_0 == 3) = true := beq_iff_eq.mpr c43
       have c43b1 : (a0_0 != 3) = false := bne_eq_false_iff_eq.mpr c43
       clear c43
       (first | rw [c43b0] | (simp only [i64_w, i32_w]; rw [c43b0]) | (rw [c43b1]; (try simp only [Bool.not_true, Bool.not_false])) | skip)
       replace H := Option.bind_eq_some_iff.mp H
       obtain ⟨t368, A440, H⟩ := H
       replace H : (impl_typeForm.j2 kj36 a1 a2 (!t368) a0_0 l0_1 l0_2) = some r := H
       have A44 := Aside0.mk A440
       clear A440
       have H' := Aside0.mk H
       clear H
       have hxr45_0 : wc.cell? ad0 = some (.int .i64 a0_0) := pw_cell_below HB.out (HP0.out.1)
       have hxr45_1 : wc.cell? ⟨ad0.block, ad0.off + 1, none⟩ = some (.slice A0_1 l0_1.length c0_1) := pw_cell_below HB.out (HP0.out.2.1)
       have hxr45_2 : wc.cell? ⟨ad0.block, ad0.off + 2, none⟩ = some (.slice A0_2 l0_2.length c0_2) := pw_cell_below HB.out (HP0.out.2.2.1)
       go_wp2_with (first | (go_at_call 48; (with_reducible refine (impl_labelsOk.calls kj36 _ _ l0_1 t368 _ ?side1 ?side2 A44.out).mono ?_); (case side1 => have X_ := HR0_1; exact cbl); (case side2 => exact HC0_1.out); rintro e w' ⟨rfl, ⟨nd, rfl⟩⟩; (try exact qdw)))
       repeat (go_quiet (first | (go_at_call 48; (with_reducible refine (impl_labelsOk.calls kj36 _ _ l0_1 t368 _ ?side1 ?side2 A44.out).mono ?_); (case side1 => have X_ := HR0_1; exact cbl); (case side2 => exact HC0_1.out); rintro e w' ⟨rfl, ⟨nd, rfl⟩⟩; (try exact qdw))); try go_wp2_with (first | (go_at_call 48; (with_reducible refine (impl_labelsOk.calls kj36 _ _ l0_1 t368 _ ?side1 ?side2 A44.out).mono ?_); (case side1 => have X_ := HR0_1; exact cbl); (case side2 => exact HC0_1.out); rintro e w' ⟨rfl, ⟨nd, rfl⟩⟩; (try exact qdw))))
       go_meet
       case rel => exact ⟨_, (!t368), rfs, H', ⟨by have := HJ27.out; have := HJ36.out; first | omega | exact Nat.le_refl _⟩, ⟨blw⟩⟩
      case rest =>
       clear HC42
       (try clear c2); (try clear p2); (try clear c3); (try clear c4); (try clear c4b0); (try clear c4b1); (try clear c5); (try clear c5b0); (try clear c5b1); (try clear c5b2); (try clear c6); (try clear c6b0); (try clear c6b1); (try clear c7); (try clear c7b0); (try clear c7b1); (try clear c7b2); (try clear c24); (try clear c29); (try clear c29b0); (try clear c31); (try clear c31b0); (try clear c33); (try clear c33b0); (try clear c36); (try clear c38); (try clear c38b0); (try clear c38b1); (try clear c41); (try clear c43); (try clear c43b0); (try clear c43b1); (try clear p2)
       obtain ⟨kq, x48_41, rfl, HA, HJ41, HB⟩ := hcut
       cases kq with
       | zero => exact absurd HA.out (by simp [impl_typeForm.j2])
       | succ kj41 =>
        have H := HA.out
        clear HA
        simp only [impl_typeForm.j2] at H
        by_cases c47 : x48_41 = true
        ·subst c47
         have H1 : (some false) = some r := by rw [if_pos rfl] at H; exact H
         clear H
         have H := H1
         clear H1
         obtain rfl := Option.some.inj H
         go_wp2
         repeat (go_quiet (fail); try go_wp2)
         go_ret
         exact ⟨rfw, blw⟩
        replace c47 := Bool.eq_false_iff.mpr c47
        subst c47
        have H1 : (if a0_0 = 3 then (impl_typeForm.j3 kj41 a1 a2 a0_0 l0_2) else (if (l0_1.length : Int) > 0 then (some false) else (impl_typeForm.j3 kj41 a1 a2 a0_0 l0_2))) = some r := by rw [if_neg (show ¬ (false = true) by decide)] at H; exact H
        clear H
        have H := H1
        clear H1
        by_cases c48 : a0_0 = 3
        ·rw [if_pos c48] at H
         have c48b0 : (a0_0 == 3) = true := beq_iff_eq.mpr c48
         have c48b1 : (a0_0 != 3) = false := bne_eq_false_iff_eq.mpr c48
         clear c48
         have H' := Aside0.mk H
         clear H
         have hxr49_0 : wc.cell? ad0 = some (.int .i64 a0_0) := pw_cell_below HB.out (HP0.out.1)
         have hxr49_1 : wc.cell? ⟨ad0.block, ad0.off + 1, none⟩ = some (.slice A0_1 l0_1.length c0_1) := pw_cell_below HB.out (HP0.out.2.1)
         have hxr49_2 : wc.cell? ⟨ad0.block, ad0.off + 2, none⟩ = some (.slice A0_2 l0_2.length c0_2) := pw_cell_below HB.out (HP0.out.2.2.1)
         go_wp2
         repeat (go_quiet (fail); try go_wp2)
         go_meet
         case rel => exact ⟨_, H', ⟨by have := HJ27.out; have := HJ36.out; have := HJ41.out; first | omega | exact Nat.le_refl _⟩, ⟨blw⟩⟩
        rw [if_neg c48] at H
        have c48b0 : (a0_0 == 3) = false := beq_eq_false_iff_ne.mpr c48
        have c48b1 : (a0_0 != 3) = true := bne_iff_ne.mpr c48
        by_cases c50 : (l0_1.length : Int) > 0
        ·rw [if_pos c50] at H
         have c50b0 : decide (0 < (l0_1.length : Int)) = true := decide_eq_true c50
         have c50b1 : decide (0 < l0_1.length) = true := decide_eq_true (by omega)
         clear c50
         obtain rfl := Option.some.inj H
         have hxr51_0 : wc.cell? ad0 = some (.int .i64 a0_0) := pw_cell_below HB.out (HP0.out.1)
         have hxr51_1 : wc.cell? ⟨ad0.block, ad0.off + 1, none⟩ = some (.slice A0_1 l0_1.length c0_1) := pw_cell_below HB.out (HP0.out.2.1)
         have hxr51_2 : wc.cell? ⟨ad0.block, ad0.off + 2, none⟩ = some (.slice A0_2 l0_2.length c0_2) := pw_cell_below HB.out (HP0.out.2.2.1)
         go_wp2
         repeat (go_quiet (fail); try go_wp2)
         go_ret
         exact ⟨rfw, blw⟩
        rw [if_neg c50] at H
        have c50b0 : decide (0 < (l0_1.length : Int)) = false := decide_eq_false c50
        have c50b1 : decide (0 < l0_1.length) = false := decide_eq_false (by omega)
        clear c50
        have H' := Aside0.mk H
        clear H
        have hxr52_0 : wc.cell? ad0 = some (.int .i64 a0_0) := pw_cell_below HB.out (HP0.out.1)
        have hxr52_1 : wc.cell? ⟨ad0.block, ad0.off + 1, none⟩ = some (.slice A0_1 l0_1.length c0_1) := pw_cell_below HB.out (HP0.out.2.1)
        have hxr52_2 : wc.cell? ⟨ad0.block, ad0.off + 2, none⟩ = some (.slice A0_2 l0_2.length c0_2) := pw_cell_below HB.out (HP0.out.2.2.1)
        go_wp2
        repeat (go_quiet (fail); try go_wp2)
        go_meet
        case rel => exact ⟨_, H', ⟨by have := HJ27.out; have := HJ36.out; have := HJ41.out; first | omega | exact Nat.le_refl _⟩, ⟨blw⟩⟩
 case rest =>
  clear HC8
  (try clear c2); (try clear p2); (try clear c3); (try clear c4); (try clear c4b0); (try clear c4b1); (try clear c5); (try clear c5b0); (try clear c5b1); (try clear c5b2); (try clear c6); (try clear c6b0); (try clear c6b1); (try clear c7); (try clear c7b0); (try clear c7b1); (try clear c7b2); (try clear c24); (try clear c29); (try clear c29b0); (try clear c31); (try clear c31b0); (try clear c33); (try clear c33b0); (try clear c36); (try clear c38); (try clear c38b0); (try clear c38b1); (try clear c41); (try clear c43); (try clear c43b0); (try clear c43b1); (try clear c47); (try clear c48); (try clear c48b0); (try clear c48b1); (try clear c50); (try clear c50b0); (try clear c50b1); (try clear p2)
  obtain ⟨kq, HA, HJ7, HB⟩ := hcut
  cases kq with
  | zero => exact absurd HA.out (by simp [impl_typeForm.j3])
  | succ kj7 =>
   have H := HA.out
   clear HA
   simp only [impl_typeForm.j3] at H
   have HC53 := Aside0.mk H
   clear H
   go_upto_region 8 with (fail)
   repeat (go_quiet (fail); go_upto_region 8 with (fail))
   go_cut [8] (fun v8 wc => ∃ (kq : Nat) (x8_52 : Bool), v8 = .bool x8_52 ∧ Aside0 (impl_typeForm.j4 kq a2 x8_52 l0_2 = some r) ∧ Aside0 (kq ≤ kj7) ∧ Aside0 (Below w.heap.size w wc))
   case first =>
    have H := HC53.out
    clear HC53
    by_cases c54 : a1 = true
    ·subst c54
     have H1 : (impl_typeForm.j4 kj7 a2 true l0_2) = some r := by rw [if_pos rfl] at H; exact H
     clear H
     have H := H1
     clear H1
     have H' := Aside0.mk H
     clear H
     go_wp2
     repeat (go_quiet (fail); try go_wp2)
     go_meet
     case rel => exact ⟨_, (true), rfs, H', ⟨by have := HJ7.out; first | omega | exact Nat.le_refl _⟩, ⟨blw⟩⟩
    replace c54 := Bool.eq_false_iff.mpr c54
    subst c54
    have H1 : (if a0_0 = 3 then (impl_typeForm.j4 kj7 a2 true l0_2) else (impl_typeForm.j4 kj7 a2 (a0_0 == 4) l0_2)) = some r := by rw [if_neg (show ¬ (false = true) by decide)] at H; exact H
    clear H
    have H := H1
    clear H1
    by_cases c55 : a0_0 = 3
    case neg =>
     rw [if_neg c55] at H
     have c55b0 : (a0_0 == 3) = false := beq_eq_false_iff_ne.mpr c55
     have c55b1 : (a0_0 != 3) = true := bne_iff_ne.mpr c55
     (first | rw [c55b0] | (simp only [i64_w, i32_w]; rw [c55b0]) | (rw [c55b1]; (try simp only [Bool.not_true, Bool.not_false])) | skip)
     have H' := Aside0.mk H
     clear H
     have hxr57_0 : wc.cell? ad0 = some (.int .i64 a0_0) := pw_cell_below HB.out (HP0.out.1)
     have hxr57_1 : wc.cell? ⟨ad0.block, ad0.off + 1, none⟩ = some (.slice A0_1 l0_1.length c0_1) := pw_cell_below HB.out (HP0.out.2.1)
     have hxr57_2 : wc.cell? ⟨ad0.block, ad0.off + 2, none⟩ = some (.slice A0_2 l0_2.length c0_2) := pw_cell_below HB.out (HP0.out.2.2.1)
     go_wp2
     repeat (go_quiet (fail); try go_wp2)
     go_meet
     case rel => exact ⟨_, ((a0_0 == 4)), rfs, H', ⟨by have := HJ7.out; first | omega | exact Nat.le_refl _⟩, ⟨blw⟩⟩
    rw [if_pos c55] at H
    have c55b0 : (a0_0 == 3) = true := beq_iff_eq.mpr c55
    have c55b1 : (a0_0 != 3) = false := bne_eq_false_iff_eq.mpr c55
    clear c55
    (first | rw [c55b0] | (simp only [i64_w, i32_w]; rw [c55b0]) | (rw [c55b1]; (try simp only [Bool.not_true, Bool.not_false])) | skip)
    have H' := Aside0.mk H
    clear H
    have hxr56_0 : wc.cell? ad0 = some (.int .i64 a0_0) := pw_cell_below HB.out (HP0.out.1)
    have hxr56_1 : wc.cell? ⟨ad0.block, ad0.off + 1, none⟩ = some (.slice A0_1 l0_1.length c0_1) := pw_cell_below HB.out (HP0.out.2.1)
    have hxr56_2 : wc.cell? ⟨ad0.block, ad0.off + 2, none⟩ = some (.slice A0_2 l0_2.length c0_2) := pw_cell_below HB.out (HP0.out.2.2.1)
    go_wp2
    repeat (go_quiet (fail); try go_wp2)
    go_meet
    case rel => exact ⟨_, (true), rfs, H', ⟨by have := HJ7.out; first | omega | exact Nat.le_refl _⟩, ⟨blw⟩⟩
   case rest =>
    clear HC53
    (try clear c2); (try clear p2); (try clear c3); (try clear c4); (try clear c4b0); (try clear c4b1); (try clear c5); (try clear c5b0); (try clear c5b1); (try clear c5b2); (try clear c6); (try clear c6b0); (try clear c6b1); (try clear c7); (try clear c7b0); (try clear c7b1); (try clear c7b2); (try clear c24); (try clear c29); (try clear c29b0); (try clear c31); (try clear c31b0); (try clear c33); (try clear c33b0); (try clear c36); (try clear c38); (try clear c38b0); (try clear c38b1); (try clear c41); (try clear c43); (try clear c43b0); (try clear c43b1); (try clear c47); (try clear c48); (try clear c48b0); (try clear c48b1); (try clear c50); (try clear c50b0); (try clear c50b1); (try clear c54); (try clear c55); (try clear c55b0); (try clear c55b1); (try clear p2)
    obtain ⟨kq, x8_52, rfl, HA, HJ52, HB⟩ := hcut
    cases kq with
    | zero => exact absurd HA.out (by simp [impl_typeForm.j4])
    | succ kj52 =>
     have H := HA.out
     clear HA
     simp only [impl_typeForm.j4] at H
     have H' := Aside0.mk H
     clear H
     have hxr58_0 : wc.cell? ad0 = some (.int .i64 a0_0) := pw_cell_below HB.out (HP0.out.1)
     have hxr58_1 : wc.cell? ⟨ad0.block, ad0.off + 1, none⟩ = some (.slice A0_1 l0_1.length c0_1) := pw_cell_below HB.out (HP0.out.2.1)
     have hxr58_2 : wc.cell? ⟨ad0.block, ad0.off + 2, none⟩ = some (.slice A0_2 l0_2.length c0_2) := pw_cell_below HB.out (HP0.out.2.2.1)
     go_wp2
     repeat (go_quiet (fail); try go_wp2)
     go_loopg [103] kj52 (fun kq v103 w' => ∃ (x103_3 : Int), v103 = .int .i64 x103_3 ∧ Aside0 (impl_typeForm.l0 kq a2 x8_52 (l0_2.length : Int) x103_3 l0_2 = some r) ∧ Aside0 (kq ≤ kj52) ∧ Aside0 (Below w.heap.size w w'))
     case atStart => exact ⟨(0), rfs, H', ⟨Nat.le_refl _⟩, ⟨blw⟩⟩
     case round =>
      clear H'
      (try clear c2); (try clear p2); (try clear c3); (try clear c4); (try clear c4b0); (try clear c4b1); (try clear c5); (try clear c5b0); (try clear c5b1); (try clear c5b2); (try clear c6); (try clear c6b0); (try clear c6b1); (try clear c7); (try clear c7b0); (try clear c7b1); (try clear c7b2); (try clear c24); (try clear c29); (try clear c29b0); (try clear c31); (try clear c31b0); (try clear c33); (try clear c33b0); (try clear c36); (try clear c38); (try clear c38b0); (try clear c38b1); (try clear c41); (try clear c43); (try clear c43b0); (try clear c43b1); (try clear c47); (try clear c48); (try clear c48b0); (try clear c48b1); (try clear c50); (try clear c50b0); (try clear c50b1); (try clear c54); (try clear c55); (try clear c55b0); (try clear c55b1); (try clear p2)
      obtain ⟨x103_3, rfl, HA, HK3, HB⟩ := hrel
      cases gk with
      | zero => exact absurd HA.out (by simp [impl_typeForm.l0])
      | succ k3 =>
       have H := HA.out
       clear HA
       simp only [impl_typeForm.l0] at H
       by_cases c59 : x103_3 < (l0_2.length : Int)
       case neg =>
        rw [if_neg c59] at H
        have c59b0 : decide (x103_3 < (l0_2.length : Int)) = false := decide_eq_false c59
        clear c59
        obtain rfl := Option.some.inj H
        go_wp2
        repeat (go_quiet (fail); try go_wp2)
        go_ret
        exact ⟨rfw, blw⟩
       rw [if_pos c59] at H
       have c59b0 : decide (x103_3 < (l0_2.length : Int)) = true := decide_eq_true c59
       clear c59
       by_cases c60 : 0 ≤ x103_3
       case neg =>
        rw [if_neg c60] at H
        exact absurd H (by simp)
       rw [if_pos c60] at H
       have c60b0 : decide (0 ≤ x103_3) = true := decide_eq_true c60
       clear c60
       by_cases c61 : x103_3 < (l0_2.length : Int)
       case neg =>
        rw [if_neg c61] at H
        exact absurd H (by simp)
       rw [if_pos c61] at H
       have c61b0 : decide (x103_3 < (l0_2.length : Int)) = true := decide_eq_true c61
       clear c61
       replace H := Option.bind_eq_some_iff.mp H
       obtain ⟨t370, A620, H⟩ := H
       replace H : (if t370 = true then (impl_typeForm.l0 k3 a2 x8_52 (l0_2.length : Int) (wrap64 (x103_3 + 1)) l0_2) else (some false)) = some r := H
       have A62 := Aside0.mk A620
       clear A620
       have HC63 := Aside0.mk H
       clear H
       have hxr64_0 : wr.cell? ad0 = some (.int .i64 a0_0) := pw_cell_below HB.out (HP0.out.1)
       have hxr64_1 : wr.cell? ⟨ad0.block, ad0.off + 1, none⟩ = some (.slice A0_1 l0_1.length c0_1) := pw_cell_below HB.out (HP0.out.2.1)
       have hxr64_2 : wr.cell? ⟨ad0.block, ad0.off + 2, none⟩ = some (.slice A0_2 l0_2.length c0_2) := pw_cell_below HB.out (HP0.out.2.2.1)
       have p369 : 0 ≤ (x103_3 : Int) := of_decide_eq_true asw
       have q369 : x103_3 < (l0_2.length : Int) := of_decide_eq_true asw
       obtain ⟨ad369, A369_1, c369_1, A369_2, c369_2, e369, hx369_0, hx369_1, hx369_2, hl369_1, hi369_1, hl369_2, hi369_2⟩ := at_T27 HR0_2.out x103_3 p369 q369
       cases e369
       have HP369 := Aside0.mk (show Cells w (ad369.add (x103_3.toNat * 3)) [.int .i64 ((rd_T27 l0_2 x103_3).f0), .slice A369_1 ((rd_T27 l0_2 x103_3).f1).length c369_1, .slice A369_2 ((rd_T27 l0_2 x103_3).f2).length c369_2] from ⟨hx369_0, hx369_1, hx369_2, trivial⟩)
       replace hx369_0 := upw HB.out hx369_0
       replace hx369_1 := upw HB.out hx369_1
       replace hx369_2 := upw HB.out hx369_2
       have HR369_1 := Aside0.mk hi369_1
       have HC369_1 := Aside0.mk hl369_1
       clear hi369_1 hl369_1
       have HR369_2 := Aside0.mk hi369_2
       have HC369_2 := Aside0.mk hl369_2
       clear hi369_2 hl369_2
       replace p369 := eq_true p369
       replace q369 := eq_true q369
       go_upto_if 116 with (first | (go_at_call 24; (with_reducible refine (ih k3 (by have := HJ7.out; have := HJ52.out; have := HK3.out; omega) (ad369.add (x103_3.toNat * 3)) ((rd_T27 l0_2 x103_3).f0) A369_1 c369_1 ((rd_T27 l0_2 x103_3).f1) A369_2 c369_2 ((rd_T27 l0_2 x103_3).f2) x8_52 (wrap64 (a2 + 1)) t370 _ ?side1 ?side2 ?side3 ?side4 ?side5 A62.out).mono ?_); (case side1 => repeat (first | exact (Cells_below HP369.out HB.out) | (with_reducible refine Cells_alloc ?_ _) | (with_reducible refine Cells_drewN ?_ _) | (with_reducible refine Cells_drew ?_))); (case side2 => have X_ := HR369_1; exact cbl); (case side3 => exact HC369_1.out); (case side4 => have X_ := HR369_2; exact cbl); (case side5 => exact HC369_2.out); rintro e w65 ⟨rfl, hb⟩; have n0_ := Aside0.mk (below_step blw hb); clear HB; revert n0_; intro HB; (try clear hb); (try clear hb2); (try clear hk); (try clear hi)))
       repeat (go_quiet (first | (go_at_call 24; (with_reducible refine (ih k3 (by have := HJ7.out; have := HJ52.out; have := HK3.out; omega) (ad369.add (x103_3.toNat * 3)) ((rd_T27 l0_2 x103_3).f0) A369_1 c369_1 ((rd_T27 l0_2 x103_3).f1) A369_2 c369_2 ((rd_T27 l0_2 x103_3).f2) x8_52 (wrap64 (a2 + 1)) t370 _ ?side1 ?side2 ?side3 ?side4 ?side5 A62.out).mono ?_); (case side1 => repeat (first | exact (Cells_below HP369.out HB.out) | (with_reducible refine Cells_alloc ?_ _) | (with_reducible refine Cells_drewN ?_ _) | (with_reducible refine Cells_drew ?_))); (case side2 => have X_ := HR369_1; exact cbl); (case side3 => exact HC369_1.out); (case side4 => have X_ := HR369_2; exact cbl); (case side5 => exact HC369_2.out); rintro e w65 ⟨rfl, hb⟩; have n0_ := Aside0.mk (below_step blw hb); clear HB; revert n0_; intro HB; (try clear hb); (try clear hb2); (try clear hk); (try clear hi))); try go_upto_if 116 with (first | (go_at_call 24; (with_reducible refine (ih k3 (by have := HJ7.out; have := HJ52.out; have := HK3.out; omega) (ad369.add (x103_3.toNat * 3)) ((rd_T27 l0_2 x103_3).f0) A369_1 c369_1 ((rd_T27 l0_2 x103_3).f1) A369_2 c369_2 ((rd_T27 l0_2 x103_3).f2) x8_52 (wrap64 (a2 + 1)) t370 _ ?side1 ?side2 ?side3 ?side4 ?side5 A62.out).mono ?_); (case side1 => repeat (first | exact (Cells_below HP369.out HB.out) | (with_reducible refine Cells_alloc ?_ _) | (with_reducible refine Cells_drewN ?_ _) | (with_reducible refine Cells_drew ?_))); (case side2 => have X_ := HR369_1; exact cbl); (case side3 => exact HC369_1.out); (case side4 => have X_ := HR369_2; exact cbl); (case side5 => exact HC369_2.out); rintro e w65 ⟨rfl, hb⟩; have n0_ := Aside0.mk (below_step blw hb); clear HB; revert n0_; intro HB; (try clear hb); (try clear hb2); (try clear hk); (try clear hi))))
       have H := HC63.out
       clear HC63
       by_cases c66 : t370 = true
       case neg =>
        replace c66 := Bool.eq_false_iff.mpr c66
        subst c66
        have H1 : (some false) = some r := by rw [if_neg (show ¬ (false = true) by decide)] at H; exact H
        clear H
        have H := H1
        clear H1
        obtain rfl := Option.some.inj H
        go_wp2
        repeat (go_quiet (fail); try go_wp2)
        go_ret
        exact ⟨rfw, blw⟩
       subst c66
       have H1 : (impl_typeForm.l0 k3 a2 x8_52 (l0_2.length : Int) (wrap64 (x103_3 + 1)) l0_2) = some r := by rw [if_pos rfl] at H; exact H
       clear H
       have H := H1
       clear H1
       have H' := Aside0.mk H
       clear H
       go_wp2
       repeat (go_quiet (fail); try go_wp2)
       go_roundg k3
       case measure => have := HJ7.out; have := HJ52.out; have := HK3.out; omega
       case rel => exact ⟨(wrap64 (x103_3 + 1)), rfs, H', ⟨by have := HJ7.out; have := HJ52.out; have := HK3.out; omega⟩, ⟨blw⟩⟩

end Go.Proofs.Ytaakdfbfgabdbaa.Pt
end
