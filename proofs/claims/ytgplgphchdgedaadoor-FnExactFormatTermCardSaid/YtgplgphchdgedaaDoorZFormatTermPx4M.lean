/- Printed by a program of this session: what functions of the translation come to, each contract as it stands. No condition. -/
import Derived.Test.YtgplgphchdgedaaDoorZFormatTermSh
import Derived.Test.YtgplgphchdgedaaDoorZFormatTermPx0M
section
namespace Go.Proofs.YtgplgphchdgedaaDoor.Px
set_option maxHeartbeats 8000000
set_option maxRecDepth 100000
open Go.RowKit Go.Proofs.YtgplgphchdgedaaDoor.Ext Go.Proofs.YtgplgphchdgedaaDoorW.PrintWords Go.Proofs.YtgplgphchdgedaaDoorW.PrintLast Go.Proofs.YtgplgphchdgedaaDoorW.PrintMore
attribute [local go_sem] max2_int min2_int max_two min_two max_three min_three max_four min_four   -- for this text's walks alone
set_option linter.unusedVariables false
set_option linter.unusedSimpArgs false

/-! ### spec_IsName: function 51 -/
def spec_IsName.l0 : Nat → ByteArray → Int → Option (Bool)
 | 0, _, _ => none
 | k + 1, x0, x3 => if x3 < (x0.size : Int) then (if 0 ≤ x3 then (if (bt x0 x3) ≥ 97 then (if ((bt x0 x3) ≤ 122) then (spec_IsName.l0 k x0 (wrap64 (x3 + 1))) else (if x3 = 0 then (some false) else (if (bt x0 x3) < 48 then (some false) else (if (bt x0 x3) > 57 then (some false) else (spec_IsName.l0 k x0 (wrap64 (x3 + 1))))))) else (if x3 = 0 then (some false) else (if (bt x0 x3) < 48 then (some false) else (if (bt x0 x3) > 57 then (some false) else (spec_IsName.l0 k x0 (wrap64 (x3 + 1))))))) else (none)) else ((spec_l1In.f (x0.size : Int) 1 4).bind fun t120 => (if t120 = true then (if x0.toList = ([105, 102] : List UInt8) then (some false) else (some (x0.toList != ([102, 111, 114] : List UInt8)))) else (some false)))
def spec_IsName.f (k : Nat) (a0 : ByteArray) : Option (Bool) := spec_IsName.l0 k a0 0
theorem spec_IsName.calls (k : Nat) (a0 : ByteArray) (r : Bool) (w : World) (h : spec_IsName.f k a0 = some r) :
  Calls Tryd.prog 51 #[.string a0] w fun e w' => e = .returned (.bool r) ∧ Drawn0 w w' := by
 have H : (spec_IsName.l0 k a0 0) = some r := h
 clear h
 have H' := am H
 clear H
 go_enter Tryd.func51, Tryd.ntmps51
 go_wp2
 go_loopg [3] k (fun kq v3 w' => ∃ (x3_1 : Int), v3 = .int .i64 x3_1 ∧ Aside0 (spec_IsName.l0 kq a0 x3_1 = some r) ∧ Aside0 (kq ≤ k) ∧ Drawn0 w w')
 case atStart => exact ⟨(0), rfs, H', ⟨Nat.le_refl _⟩, by repeat (first | exact Drawn0.refl _ | apply Drawn0.step)⟩
 case round =>
  clear H'
  obtain ⟨x3_1, rfl, HA, HK1, ⟨m1, rfl⟩⟩ := hrel
  cases gk with
  | zero => exact absurd HA.out (by simp [spec_IsName.l0])
  | succ k1 =>
   have H := HA.out
   clear HA
   simp only [spec_IsName.l0] at H
   by_cases c2 : x3_1 < (a0.size : Int)
   case neg =>
    rw [if_neg c2] at H
    have c2b0 : decide (x3_1 < (a0.size : Int)) = false := decide_eq_false c2
    clear c2
    replace H := Option.bind_eq_some_iff.mp H
    obtain ⟨t120, A190, H⟩ := H
    replace H : (if t120 = true then (if a0.toList = ([105, 102] : List UInt8) then (some false) else (some (a0.toList != ([102, 111, 114] : List UInt8)))) else (some false)) = some r := H
    have A19 := am A190
    clear A190
    by_cases c20 : t120 = true
    case neg =>
     replace c20 := Bool.eq_false_iff.mpr c20
     subst c20
     have H1 : (some false) = some r := by rw [if_neg (show ¬ (false = true) by decide)] at H; exact H
     clear H
     have H := H1
     clear H1
     obtain rfl := Option.some.inj H
     go_wp2_with (first | ((with_reducible refine gate_callee (f := 54) rfl ?_); refine goesL_ (some 41) rfl rfl Tryd.func54 kr rfl #[.int .i64 (a0.size : Int), .int .i64 1, .int .i64 4] rfl mpw ?_; (with_reducible refine (spec_l1In.calls (a0.size : Int) 1 4 false _ A19.out).mono ?_); rintro e w' ⟨rfl, ⟨nd, rfl⟩⟩; refine ⟨_, rfl, ?_⟩))
     go_ret
     exact ⟨rfs, by repeat (first | exact Drawn0.refl _ | apply Drawn0.step)⟩
    subst c20
    have H1 : (if a0.toList = ([105, 102] : List UInt8) then (some false) else (some (a0.toList != ([102, 111, 114] : List UInt8)))) = some r := by rw [if_pos rfl] at H; exact H
    clear H
    have H := H1
    clear H1
    by_cases c21 : a0.toList = ([105, 102] : List UInt8)
    case neg =>
     rw [if_neg c21] at H
     have c21b0 : (a0.toList == ([105, 102] : List UInt8)) = false := beq_eq_false_iff_ne.mpr c21
     have c21b1 : (a0.toList != ([105, 102] : List UInt8)) = true := bne_iff_ne.mpr c21
     obtain rfl := Option.some.inj H
     go_wp2_with (first | ((with_reducible refine gate_callee (f := 54) rfl ?_); refine goesL_ (some 41) rfl rfl Tryd.func54 kr rfl #[.int .i64 (a0.size : Int), .int .i64 1, .int .i64 4] rfl mpw ?_; (with_reducible refine (spec_l1In.calls (a0.size : Int) 1 4 true _ A19.out).mono ?_); rintro e w' ⟨rfl, ⟨nd, rfl⟩⟩; refine ⟨_, rfl, ?_⟩))
     go_ret
     exact ⟨rfs, by repeat (first | exact Drawn0.refl _ | apply Drawn0.step)⟩
    rw [if_pos c21] at H
    have c21b0 : (a0.toList == ([105, 102] : List UInt8)) = true := beq_iff_eq.mpr c21
    have c21b1 : (a0.toList != ([105, 102] : List UInt8)) = false := bne_eq_false_iff_eq.mpr c21
    clear c21
    obtain rfl := Option.some.inj H
    go_wp2_with (first | ((with_reducible refine gate_callee (f := 54) rfl ?_); refine goesL_ (some 41) rfl rfl Tryd.func54 kr rfl #[.int .i64 (a0.size : Int), .int .i64 1, .int .i64 4] rfl mpw ?_; (with_reducible refine (spec_l1In.calls (a0.size : Int) 1 4 true _ A19.out).mono ?_); rintro e w' ⟨rfl, ⟨nd, rfl⟩⟩; refine ⟨_, rfl, ?_⟩))
    go_ret
    exact ⟨rfs, by repeat (first | exact Drawn0.refl _ | apply Drawn0.step)⟩
   rw [if_pos c2] at H
   have c2b0 : decide (x3_1 < (a0.size : Int)) = true := decide_eq_true c2
   clear c2
   by_cases c3 : 0 ≤ x3_1
   case neg =>
    rw [if_neg c3] at H
    exact absurd H (by simp)
   rw [if_pos c3] at H
   have c3b0 : decide (0 ≤ x3_1) = true := decide_eq_true c3
   clear c3
   by_cases c5 : (bt a0 x3_1) ≥ 97
   case neg =>
    rw [if_neg c5] at H
    have c5b0 : decide (97 ≤ (bt a0 x3_1)) = false := decide_eq_false c5
    clear c5
    by_cases c14 : x3_1 = 0
    ·rw [if_pos c14] at H
     have c14b0 : (x3_1 == 0) = true := beq_iff_eq.mpr c14
     have c14b1 : (x3_1 != 0) = false := bne_eq_false_iff_eq.mpr c14
     clear c14
     obtain rfl := Option.some.inj H
     have p4 : 0 ≤ (x3_1 : Int) := of_decide_eq_true asw
     have q4 : x3_1 < (a0.size : Int) := of_decide_eq_true asw
     have hx4 := bt_at a0 x3_1
     replace p4 := eq_true p4
     replace q4 := eq_true q4
     go_wp2
     go_ret
     exact ⟨rfs, by repeat (first | exact Drawn0.refl _ | apply Drawn0.step)⟩
    rw [if_neg c14] at H
    have c14b0 : (x3_1 == 0) = false := beq_eq_false_iff_ne.mpr c14
    have c14b1 : (x3_1 != 0) = true := bne_iff_ne.mpr c14
    by_cases c16 : (bt a0 x3_1) < 48
    ·rw [if_pos c16] at H
     have c16b0 : decide ((bt a0 x3_1) < 48) = true := decide_eq_true c16
     clear c16
     obtain rfl := Option.some.inj H
     have p4 : 0 ≤ (x3_1 : Int) := of_decide_eq_true asw
     have q4 : x3_1 < (a0.size : Int) := of_decide_eq_true asw
     have hx4 := bt_at a0 x3_1
     replace p4 := eq_true p4
     replace q4 := eq_true q4
     have p15 : 0 ≤ (x3_1 : Int) := of_decide_eq_true asw
     have q15 : x3_1 < (a0.size : Int) := of_decide_eq_true asw
     have hx15 := bt_at a0 x3_1
     replace p15 := eq_true p15
     replace q15 := eq_true q15
     go_wp2
     go_ret
     exact ⟨rfs, by repeat (first | exact Drawn0.refl _ | apply Drawn0.step)⟩
    rw [if_neg c16] at H
    have c16b0 : decide ((bt a0 x3_1) < 48) = false := decide_eq_false c16
    clear c16
    by_cases c18 : (bt a0 x3_1) > 57
    ·rw [if_pos c18] at H
     have c18b0 : decide (57 < (bt a0 x3_1)) = true := decide_eq_true c18
     clear c18
     obtain rfl := Option.some.inj H
     have p4 : 0 ≤ (x3_1 : Int) := of_decide_eq_true asw
     have q4 : x3_1 < (a0.size : Int) := of_decide_eq_true asw
     have hx4 := bt_at a0 x3_1
     replace p4 := eq_true p4
     replace q4 := eq_true q4
     have p15 : 0 ≤ (x3_1 : Int) := of_decide_eq_true asw
     have q15 : x3_1 < (a0.size : Int) := of_decide_eq_true asw
     have hx15 := bt_at a0 x3_1
     replace p15 := eq_true p15
     replace q15 := eq_true q15
     have p17 : 0 ≤ (x3_1 : Int) := of_decide_eq_true asw
     have q17 : x3_1 < (a0.size : Int) := of_decide_eq_true asw
     have hx17 := bt_at a0 x3_1
     replace p17 := eq_true p17
     replace q17 := eq_true q17
     go_wp2
     go_ret
     exact ⟨rfs, by repeat (first | exact Drawn0.refl _ | apply Drawn0.step)⟩
    rw [if_neg c18] at H
    have c18b0 : decide (57 < (bt a0 x3_1)) = false := decide_eq_false c18
    clear c18
    have H' := am H
    clear H
    have p4 : 0 ≤ (x3_1 : Int) := of_decide_eq_true asw
    have q4 : x3_1 < (a0.size : Int) := of_decide_eq_true asw
    have hx4 := bt_at a0 x3_1
    replace p4 := eq_true p4
    replace q4 := eq_true q4
    have p15 : 0 ≤ (x3_1 : Int) := of_decide_eq_true asw
    have q15 : x3_1 < (a0.size : Int) := of_decide_eq_true asw
    have hx15 := bt_at a0 x3_1
    replace p15 := eq_true p15
    replace q15 := eq_true q15
    have p17 : 0 ≤ (x3_1 : Int) := of_decide_eq_true asw
    have q17 : x3_1 < (a0.size : Int) := of_decide_eq_true asw
    have hx17 := bt_at a0 x3_1
    replace p17 := eq_true p17
    replace q17 := eq_true q17
    go_wp2
    go_roundg k1
    case measure => have := HK1.out; omega
    case rel => exact ⟨(wrap64 (x3_1 + 1)), rfs, H', ⟨by have := HK1.out; omega⟩, by repeat (first | exact Drawn0.refl _ | apply Drawn0.step)⟩
   rw [if_pos c5] at H
   have c5b0 : decide (97 ≤ (bt a0 x3_1)) = true := decide_eq_true c5
   clear c5
   by_cases c7 : ((bt a0 x3_1) ≤ 122)
   ·rw [if_pos c7] at H
    have c7b0 : decide ((bt a0 x3_1) ≤ 122) = true := decide_eq_true c7
    clear c7
    have H' := am H
    clear H
    have p4 : 0 ≤ (x3_1 : Int) := of_decide_eq_true asw
    have q4 : x3_1 < (a0.size : Int) := of_decide_eq_true asw
    have hx4 := bt_at a0 x3_1
    replace p4 := eq_true p4
    replace q4 := eq_true q4
    have p6 : 0 ≤ (x3_1 : Int) := of_decide_eq_true asw
    have q6 : x3_1 < (a0.size : Int) := of_decide_eq_true asw
    have hx6 := bt_at a0 x3_1
    replace p6 := eq_true p6
    replace q6 := eq_true q6
    go_wp2
    go_roundg k1
    case measure => have := HK1.out; omega
    case rel => exact ⟨(wrap64 (x3_1 + 1)), rfs, H', ⟨by have := HK1.out; omega⟩, by repeat (first | exact Drawn0.refl _ | apply Drawn0.step)⟩
   rw [if_neg c7] at H
   have c7b0 : decide ((bt a0 x3_1) ≤ 122) = false := decide_eq_false c7
   clear c7
   by_cases c8 : x3_1 = 0
   ·rw [if_pos c8] at H
    have c8b0 : (x3_1 == 0) = true := beq_iff_eq.mpr c8
    have c8b1 : (x3_1 != 0) = false := bne_eq_false_iff_eq.mpr c8
    clear c8
    obtain rfl := Option.some.inj H
    have p4 : 0 ≤ (x3_1 : Int) := of_decide_eq_true asw
    have q4 : x3_1 < (a0.size : Int) := of_decide_eq_true asw
    have hx4 := bt_at a0 x3_1
    replace p4 := eq_true p4
    replace q4 := eq_true q4
    have p6 : 0 ≤ (x3_1 : Int) := of_decide_eq_true asw
    have q6 : x3_1 < (a0.size : Int) := of_decide_eq_true asw
    have hx6 := bt_at a0 x3_1
    replace p6 := eq_true p6
    replace q6 := eq_true q6
    go_wp2
    go_ret
    exact ⟨rfs, by repeat (first | exact Drawn0.refl _ | apply Drawn0.step)⟩
   rw [if_neg c8] at H
   have c8b0 : (x3_1 == 0) = false := beq_eq_false_iff_ne.mpr c8
   have c8b1 : (x3_1 != 0) = true := bne_iff_ne.mpr c8
   by_cases c10 : (bt a0 x3_1) < 48
   ·rw [if_pos c10] at H
    have c10b0 : decide ((bt a0 x3_1) < 48) = true := decide_eq_true c10
    clear c10
    obtain rfl := Option.some.inj H
    have p4 : 0 ≤ (x3_1 : Int) := of_decide_eq_true asw
    have q4 : x3_1 < (a0.size : Int) := of_decide_eq_true asw
    have hx4 := bt_at a0 x3_1
    replace p4 := eq_true p4
    replace q4 := eq_true q4
    have p6 : 0 ≤ (x3_1 : Int) := of_decide_eq_true asw
    have q6 : x3_1 < (a0.size : Int) := of_decide_eq_true asw
    have hx6 := bt_at a0 x3_1
    replace p6 := eq_true p6
    replace q6 := eq_true q6
    have p9 : 0 ≤ (x3_1 : Int) := of_decide_eq_true asw
    have q9 : x3_1 < (a0.size : Int) := of_decide_eq_true asw
    have hx9 := bt_at a0 x3_1
    replace p9 := eq_true p9
    replace q9 := eq_true q9
    go_wp2
    go_ret
    exact ⟨rfs, by repeat (first | exact Drawn0.refl _ | apply Drawn0.step)⟩
   rw [if_neg c10] at H
   have c10b0 : decide ((bt a0 x3_1) < 48) = false := decide_eq_false c10
   clear c10
   have HC12 := am H
   clear H
   have p4 : 0 ≤ (x3_1 : Int) := of_decide_eq_true asw
   have q4 : x3_1 < (a0.size : Int) := of_decide_eq_true asw
   have hx4 := bt_at a0 x3_1
   replace p4 := eq_true p4
   replace q4 := eq_true q4
   have p6 : 0 ≤ (x3_1 : Int) := of_decide_eq_true asw
   have q6 : x3_1 < (a0.size : Int) := of_decide_eq_true asw
   have hx6 := bt_at a0 x3_1
   replace p6 := eq_true p6
   replace q6 := eq_true q6
   have p9 : 0 ≤ (x3_1 : Int) := of_decide_eq_true asw
   have q9 : x3_1 < (a0.size : Int) := of_decide_eq_true asw
   have hx9 := bt_at a0 x3_1
   replace p9 := eq_true p9
   replace q9 := eq_true q9
   have p11 : 0 ≤ (x3_1 : Int) := of_decide_eq_true asw
   have q11 : x3_1 < (a0.size : Int) := of_decide_eq_true asw
   have hx11 := bt_at a0 x3_1
   replace p11 := eq_true p11
   replace q11 := eq_true q11
   go_upto_if 38 with (fail)
   have H := HC12.out
   clear HC12
   by_cases c13 : (bt a0 x3_1) > 57
   ·rw [if_pos c13] at H
    have c13b0 : decide (57 < (bt a0 x3_1)) = true := decide_eq_true c13
    clear c13
    (first | rw [c13b0] | (simp only [i64_w, i32_w]; rw [c13b0]) | skip)
    obtain rfl := Option.some.inj H
    go_wp2
    go_ret
    exact ⟨rfs, by repeat (first | exact Drawn0.refl _ | apply Drawn0.step)⟩
   rw [if_neg c13] at H
   have c13b0 : decide (57 < (bt a0 x3_1)) = false := decide_eq_false c13
   clear c13
   (first | rw [c13b0] | (simp only [i64_w, i32_w]; rw [c13b0]) | skip)
   have H' := am H
   clear H
   go_wp2
   go_roundg k1
   case measure => have := HK1.out; omega
   case rel => exact ⟨(wrap64 (x3_1 + 1)), rfs, H', ⟨by have := HK1.out; omega⟩, by repeat (first | exact Drawn0.refl _ | apply Drawn0.step)⟩

/-! ### spec_l3Left: function 62 -/
mutual
def spec_l3Left.l0 : Nat → Int → Int → Int → List ByteArray → List (S33) → Option (Int)
 | 0, _, _, _, _, _ => none
 | k + 1, x1, x5, x122000, x122001, x122002 => if x5 < (x122002.length : Int) then (if x1 ≥ 0 then (if 0 ≤ x5 then ((spec_l3Left.f k ((rd_T33 x122002 x5).f0) ((rd_T33 x122002 x5).f1) ((rd_T33 x122002 x5).f2) x1).bind fun t123 => (spec_l3Left.l0 k t123 (wrap64 (x5 + 1)) x122000 x122001 x122002)) else (none)) else (some x1)) else (some x1)
def spec_l3Left.f : Nat → Int → List ByteArray → List (S33) → Int → Option (Int)
 | 0, _, _, _, _ => none
 | k + 1, a0_0, l0_1, l0_2, a1 => spec_l3Left.l0 k (wrap64 (a1 - 1)) 0 a0_0 l0_1 l0_2
end
theorem spec_l3Left.calls (k : Nat) : ∀ (a0_0 : Int) (A0_1 : Option Addr) (c0_1 : Nat) (l0_1 : List ByteArray) (A0_2 : Option Addr) (c0_2 : Nat) (l0_2 : List (S33)) (a1 : Int) (r : Int) (w : World) (hr0_1 : Kd.C Kd.string w A0_1 l0_1.length l0_1) (hc0_1 : l0_1.length ≤ c0_1) (hr0_2 : Kd.C k33 w A0_2 l0_2.length l0_2) (hc0_2 : l0_2.length ≤ c0_2) (h : spec_l3Left.f k a0_0 l0_1 l0_2 a1 = some r),
  Calls Tryd.prog 62 #[.agg #[.int .i64 a0_0, .slice A0_1 l0_1.length c0_1, .slice A0_2 l0_2.length c0_2], .int .i64 a1] w fun e w' => e = .returned (.int .i64 r) ∧ Below w.heap.size w w' := by
 induction k using Nat.strongRecOn with
 | _ k ih =>
 intro a0_0 A0_1 c0_1 l0_1 A0_2 c0_2 l0_2 a1 r w hr0_1 hc0_1 hr0_2 hc0_2 h
 cases k with
 | zero => exact absurd h (by simp [spec_l3Left.f])
 | succ k =>
 simp only [spec_l3Left.f] at h
 have hu33 := Tryd.underlying33
 have HR0_1 := am hr0_1
 have HC0_1 := am hc0_1
 clear hr0_1 hc0_1
 have HR0_2 := am hr0_2
 have HC0_2 := am hc0_2
 clear hr0_2 hc0_2
 have HB := am (Below.refl w.heap.size w)
 have H : (spec_l3Left.l0 k (wrap64 (a1 - 1)) 0 a0_0 l0_1 l0_2) = some r := h
 clear h
 have H' := am H
 clear H
 go_enter Tryd.func62, Tryd.ntmps62
 go_wp2_with (first | ((with_reducible refine gate_dst (N := 2) rfl ?_); refine box_event ?hg (N := 2) ?hd (cs := #[.int .i64 a0_0, .slice A0_1 l0_1.length c0_1, .slice A0_2 l0_2.length c0_2]) (t := 33) ?hr ?_; (case hd => rfl); (case hg => rfl); (case hr => exact hrw); intro gb121 hg w3 hbox hb; have n0_ := am (below_step blw hb); have n1_ := am (hbox); have n2_ := am ((by rw [hg]; exact (below_size blw) : w.heap.size ≤ gb121)); have n3_ := n2_; clear HB; revert n0_ n1_ n2_ n3_; intro HB BK121 GW121 GE121; clear hb hbox hg))
 go_loopg [1, 5] k (fun kq v1 v5 w' => ∃ (x1_1 : Int) (x5_1 : Int), v1 = .int .i64 x1_1 ∧ v5 = .int .i64 x5_1 ∧ Aside0 (spec_l3Left.l0 kq x1_1 x5_1 a0_0 l0_1 l0_2 = some r) ∧ Aside0 (kq ≤ k) ∧ Aside0 (w'.heap[gb121]? = some (.cells #[.int .i64 a0_0, (.slice A0_1 l0_1.length c0_1), (.slice A0_2 l0_2.length c0_2)] 33 (0, 0))) ∧ Aside0 (Below w.heap.size w w'))
 case atStart => exact ⟨(wrap64 (a1 - 1)), (0), rfs, rfs, H', ⟨Nat.le_refl _⟩, ⟨bkw⟩, ⟨blw⟩⟩
 case round =>
  clear H'
  try clear p2
  obtain ⟨x1_1, x5_1, rfl, rfl, HA, HK1, BK121, HB⟩ := hrel
  cases gk with
  | zero => exact absurd HA.out (by simp [spec_l3Left.l0])
  | succ k1 =>
   have H := HA.out
   clear HA
   simp only [spec_l3Left.l0] at H
   by_cases c4 : x5_1 < (l0_2.length : Int)
   case neg =>
    rw [if_neg c4] at H
    have c4b0 : decide (x5_1 < (l0_2.length : Int)) = false := decide_eq_false c4
    clear c4
    obtain rfl := Option.some.inj H
    obtain ⟨hcz11_0, hcz11_1, hcz11_2⟩ := cls3 BK121.out
    obtain ⟨hfz11_0, hfz11_1, hfz11_2⟩ := frz3 BK121.out
    go_wp2
    go_ret
    exact ⟨rfw, blw⟩
   rw [if_pos c4] at H
   have c4b0 : decide (x5_1 < (l0_2.length : Int)) = true := decide_eq_true c4
   clear c4
   by_cases c5 : x1_1 ≥ 0
   case neg =>
    rw [if_neg c5] at H
    have c5b0 : decide (0 ≤ x1_1) = false := decide_eq_false c5
    clear c5
    obtain rfl := Option.some.inj H
    obtain ⟨hcz10_0, hcz10_1, hcz10_2⟩ := cls3 BK121.out
    obtain ⟨hfz10_0, hfz10_1, hfz10_2⟩ := frz3 BK121.out
    go_wp2
    go_ret
    exact ⟨rfw, blw⟩
   rw [if_pos c5] at H
   have c5b0 : decide (0 ≤ x1_1) = true := decide_eq_true c5
   clear c5
   by_cases c6 : 0 ≤ x5_1
   case neg =>
    rw [if_neg c6] at H
    exact absurd H (by simp)
   rw [if_pos c6] at H
   have c6b0 : decide (0 ≤ x5_1) = true := decide_eq_true c6
   clear c6
   replace H := Option.bind_eq_some_iff.mp H
   obtain ⟨t123, A70, H⟩ := H
   replace H : (spec_l3Left.l0 k1 t123 (wrap64 (x5_1 + 1)) a0_0 l0_1 l0_2) = some r := H
   have A7 := am A70
   clear A70
   have H' := am H
   clear H
   obtain ⟨hcz8_0, hcz8_1, hcz8_2⟩ := cls3 BK121.out
   obtain ⟨hfz8_0, hfz8_1, hfz8_2⟩ := frz3 BK121.out
   have p122 : 0 ≤ (x5_1 : Int) := of_decide_eq_true asw
   have q122 : x5_1 < (l0_2.length : Int) := of_decide_eq_true asw
   obtain ⟨ad122, A122_1, c122_1, A122_2, c122_2, e122, hx122_0, hx122_1, hx122_2, hl122_1, hi122_1, hl122_2, hi122_2⟩ := at_T33 HR0_2.out x5_1 p122 q122
   cases e122
   replace hx122_0 := upw HB.out hx122_0
   replace hx122_1 := upw HB.out hx122_1
   replace hx122_2 := upw HB.out hx122_2
   have HR122_1 := am hi122_1
   have HC122_1 := am hl122_1
   clear hi122_1 hl122_1
   have HR122_2 := am hi122_2
   have HC122_2 := am hl122_2
   clear hi122_2 hl122_2
   replace p122 := eq_true p122
   replace q122 := eq_true q122
   go_wp2_with (first | ((with_reducible refine gate_callee (f := 62) rfl ?_); refine goesL_ (some 25) rfl rfl Tryd.func62 kr rfl #[.agg #[.int .i64 ((rd_T33 l0_2 x5_1).f0), .slice A122_1 ((rd_T33 l0_2 x5_1).f1).length c122_1, .slice A122_2 ((rd_T33 l0_2 x5_1).f2).length c122_2], .int .i64 x1_1] rfl mpw ?_; (with_reducible refine (ih k1 (by have := HK1.out; omega) ((rd_T33 l0_2 x5_1).f0) _ _ ((rd_T33 l0_2 x5_1).f1) _ _ ((rd_T33 l0_2 x5_1).f2) x1_1 t123 _ ?side1 ?side2 ?side3 ?side4 A7.out).mono ?_); (case side1 => have X_ := HR122_1; exact cbl); (case side2 => exact HC122_1.out); (case side3 => have X_ := HR122_2; exact cbl); (case side4 => exact HC122_2.out); rintro e w9 ⟨rfl, hb⟩; refine ⟨_, rfl, ?_⟩; have n0_ := am (blk_below (g := gb121) bkw hb); have n1_ := am (below_step blw hb); clear BK121; clear HB; revert n0_ n1_; intro BK121 HB; (try clear hb); (try clear hb2); (try clear hk); (try clear hi)))
   go_roundg k1
   case measure => have := HK1.out; omega
   case rel => exact ⟨(t123), (wrap64 (x5_1 + 1)), rfs, rfs, H', ⟨by have := HK1.out; omega⟩, ⟨bkw⟩, ⟨blw⟩⟩

/-! ### spec_DepthOfType: function 63 -/
mutual
def spec_DepthOfType.l0 : Nat → Int → Int → Int → List ByteArray → List (S33) → Option (Int)
 | 0, _, _, _, _, _ => none
 | k + 1, x3, x4, x125000, x125001, x125002 => if x4 < (x125002.length : Int) then (if 0 ≤ x4 then ((spec_DepthOfType.f k ((rd_T33 x125002 x4).f0) ((rd_T33 x125002 x4).f1) ((rd_T33 x125002 x4).f2)).bind fun t126 => ((spec_l1Max.f x3 t126).bind fun t127 => (spec_DepthOfType.l0 k t127 (wrap64 (x4 + 1)) x125000 x125001 x125002))) else (none)) else (some (wrap64 (x3 + 1)))
def spec_DepthOfType.f : Nat → Int → List ByteArray → List (S33) → Option (Int)
 | 0, _, _, _ => none
 | k + 1, a0_0, l0_1, l0_2 => spec_DepthOfType.l0 k 0 0 a0_0 l0_1 l0_2
end
theorem spec_DepthOfType.calls (k : Nat) : ∀ (a0_0 : Int) (A0_1 : Option Addr) (c0_1 : Nat) (l0_1 : List ByteArray) (A0_2 : Option Addr) (c0_2 : Nat) (l0_2 : List (S33)) (r : Int) (w : World) (hr0_1 : Kd.C Kd.string w A0_1 l0_1.length l0_1) (hc0_1 : l0_1.length ≤ c0_1) (hr0_2 : Kd.C k33 w A0_2 l0_2.length l0_2) (hc0_2 : l0_2.length ≤ c0_2) (h : spec_DepthOfType.f k a0_0 l0_1 l0_2 = some r),
  Calls Tryd.prog 63 #[.agg #[.int .i64 a0_0, .slice A0_1 l0_1.length c0_1, .slice A0_2 l0_2.length c0_2]] w fun e w' => e = .returned (.int .i64 r) ∧ Below w.heap.size w w' := by
 induction k using Nat.strongRecOn with
 | _ k ih =>
 intro a0_0 A0_1 c0_1 l0_1 A0_2 c0_2 l0_2 r w hr0_1 hc0_1 hr0_2 hc0_2 h
 cases k with
 | zero => exact absurd h (by simp [spec_DepthOfType.f])
 | succ k =>
 simp only [spec_DepthOfType.f] at h
 have hu33 := Tryd.underlying33
 have HR0_1 := am hr0_1
 have HC0_1 := am hc0_1
 clear hr0_1 hc0_1
 have HR0_2 := am hr0_2
 have HC0_2 := am hc0_2
 clear hr0_2 hc0_2
 have HB := am (Below.refl w.heap.size w)
 have H : (spec_DepthOfType.l0 k 0 0 a0_0 l0_1 l0_2) = some r := h
 clear h
 have H' := am H
 clear H
 go_enter Tryd.func63, Tryd.ntmps63
 go_wp2_with (first | ((with_reducible refine gate_dst (N := 1) rfl ?_); refine box_event ?hg (N := 1) ?hd (cs := #[.int .i64 a0_0, .slice A0_1 l0_1.length c0_1, .slice A0_2 l0_2.length c0_2]) (t := 33) ?hr ?_; (case hd => rfl); (case hg => rfl); (case hr => exact hrw); intro gb124 hg w2 hbox hb; have n0_ := am (below_step blw hb); have n1_ := am (hbox); have n2_ := am ((by rw [hg]; exact (below_size blw) : w.heap.size ≤ gb124)); have n3_ := n2_; clear HB; revert n0_ n1_ n2_ n3_; intro HB BK124 GW124 GE124; clear hb hbox hg))
 go_loopg [3, 4] k (fun kq v3 v4 w' => ∃ (x3_1 : Int) (x4_1 : Int), v3 = .int .i64 x3_1 ∧ v4 = .int .i64 x4_1 ∧ Aside0 (spec_DepthOfType.l0 kq x3_1 x4_1 a0_0 l0_1 l0_2 = some r) ∧ Aside0 (kq ≤ k) ∧ Aside0 (w'.heap[gb124]? = some (.cells #[.int .i64 a0_0, (.slice A0_1 l0_1.length c0_1), (.slice A0_2 l0_2.length c0_2)] 33 (0, 0))) ∧ Aside0 (Below w.heap.size w w'))
 case atStart => exact ⟨(0), (0), rfs, rfs, H', ⟨Nat.le_refl _⟩, ⟨bkw⟩, ⟨blw⟩⟩
 case round =>
  clear H'
  try clear p2
  obtain ⟨x3_1, x4_1, rfl, rfl, HA, HK1, BK124, HB⟩ := hrel
  cases gk with
  | zero => exact absurd HA.out (by simp [spec_DepthOfType.l0])
  | succ k1 =>
   have H := HA.out
   clear HA
   simp only [spec_DepthOfType.l0] at H
   by_cases c3 : x4_1 < (l0_2.length : Int)
   case neg =>
    rw [if_neg c3] at H
    have c3b0 : decide (x4_1 < (l0_2.length : Int)) = false := decide_eq_false c3
    clear c3
    obtain rfl := Option.some.inj H
    obtain ⟨hcz9_0, hcz9_1, hcz9_2⟩ := cls3 BK124.out
    obtain ⟨hfz9_0, hfz9_1, hfz9_2⟩ := frz3 BK124.out
    go_wp2
    go_ret
    exact ⟨rfw, blw⟩
   rw [if_pos c3] at H
   have c3b0 : decide (x4_1 < (l0_2.length : Int)) = true := decide_eq_true c3
   clear c3
   by_cases c4 : 0 ≤ x4_1
   case neg =>
    rw [if_neg c4] at H
    exact absurd H (by simp)
   rw [if_pos c4] at H
   have c4b0 : decide (0 ≤ x4_1) = true := decide_eq_true c4
   clear c4
   replace H := Option.bind_eq_some_iff.mp H
   obtain ⟨t126, A50, H⟩ := H
   replace H : ((spec_l1Max.f x3_1 t126).bind fun t127 => (spec_DepthOfType.l0 k1 t127 (wrap64 (x4_1 + 1)) a0_0 l0_1 l0_2)) = some r := H
   have A5 := am A50
   clear A50
   replace H := Option.bind_eq_some_iff.mp H
   obtain ⟨t127, A60, H⟩ := H
   replace H : (spec_DepthOfType.l0 k1 t127 (wrap64 (x4_1 + 1)) a0_0 l0_1 l0_2) = some r := H
   have A6 := am A60
   clear A60
   have H' := am H
   clear H
   obtain ⟨hcz7_0, hcz7_1, hcz7_2⟩ := cls3 BK124.out
   obtain ⟨hfz7_0, hfz7_1, hfz7_2⟩ := frz3 BK124.out
   have p125 : 0 ≤ (x4_1 : Int) := of_decide_eq_true asw
   have q125 : x4_1 < (l0_2.length : Int) := of_decide_eq_true asw
   obtain ⟨ad125, A125_1, c125_1, A125_2, c125_2, e125, hx125_0, hx125_1, hx125_2, hl125_1, hi125_1, hl125_2, hi125_2⟩ := at_T33 HR0_2.out x4_1 p125 q125
   cases e125
   replace hx125_0 := upw HB.out hx125_0
   replace hx125_1 := upw HB.out hx125_1
   replace hx125_2 := upw HB.out hx125_2
   have HR125_1 := am hi125_1
   have HC125_1 := am hl125_1
   clear hi125_1 hl125_1
   have HR125_2 := am hi125_2
   have HC125_2 := am hl125_2
   clear hi125_2 hl125_2
   replace p125 := eq_true p125
   replace q125 := eq_true q125
   go_wp2_with (first | ((with_reducible refine gate_callee (f := 63) rfl ?_); refine goesL_ (some 18) rfl rfl Tryd.func63 kr rfl #[.agg #[.int .i64 ((rd_T33 l0_2 x4_1).f0), .slice A125_1 ((rd_T33 l0_2 x4_1).f1).length c125_1, .slice A125_2 ((rd_T33 l0_2 x4_1).f2).length c125_2]] rfl mpw ?_; (with_reducible refine (ih k1 (by have := HK1.out; omega) ((rd_T33 l0_2 x4_1).f0) _ _ ((rd_T33 l0_2 x4_1).f1) _ _ ((rd_T33 l0_2 x4_1).f2) t126 _ ?side1 ?side2 ?side3 ?side4 A5.out).mono ?_); (case side1 => have X_ := HR125_1; exact cbl); (case side2 => exact HC125_1.out); (case side3 => have X_ := HR125_2; exact cbl); (case side4 => exact HC125_2.out); rintro e w8 ⟨rfl, hb⟩; refine ⟨_, rfl, ?_⟩; have n0_ := am (blk_below (g := gb124) bkw hb); have n1_ := am (below_step blw hb); clear BK124; clear HB; revert n0_ n1_; intro BK124 HB; (try clear hb); (try clear hb2); (try clear hk); (try clear hi)) | ((with_reducible refine gate_callee (f := 37) rfl ?_); refine goesL_ (some 19) rfl rfl Tryd.func37 kr rfl #[.int .i64 x3_1, .int .i64 t126] rfl mpw ?_; (with_reducible refine (spec_l1Max.calls x3_1 t126 t127 _ A6.out).mono ?_); rintro e w' ⟨rfl, ⟨nd, rfl⟩⟩; refine ⟨_, rfl, ?_⟩))
   go_roundg k1
   case measure => have := HK1.out; omega
   case rel => exact ⟨(t127), (wrap64 (x4_1 + 1)), rfs, rfs, H', ⟨by have := HK1.out; omega⟩, ⟨bkw⟩, ⟨blw⟩⟩

end Go.Proofs.YtgplgphchdgedaaDoor.Px
end
section
namespace Go.Proofs.YtgplgphchdgedaaDoor.Px
set_option maxHeartbeats 8000000
set_option maxRecDepth 100000
open Go.RowKit Go.Proofs.YtgplgphchdgedaaDoor.Ext Go.Proofs.YtgplgphchdgedaaDoorW.PrintWords Go.Proofs.YtgplgphchdgedaaDoorW.PrintLast Go.Proofs.YtgplgphchdgedaaDoorW.PrintMore
attribute [local go_sem] max2_int min2_int max_two min_two max_three min_three max_four min_four   -- for this text's walks alone
set_option linter.unusedVariables false
set_option linter.unusedSimpArgs false

/-! ### spec_AreAscending: function 65 -/
def spec_AreAscending.l0 : Nat → List ByteArray → Int → Option (Bool)
 | 0, _, _ => none
 | k + 1, x0, x3 => if x3 < (x0.length : Int) then (if 0 ≤ (wrap64 (x3 - 1)) then (if (wrap64 (x3 - 1)) < (x0.length : Int) then (if 0 ≤ x3 then (if ((Op.bytesLess ((rdOf ByteArray.empty x0 (wrap64 (x3 - 1))).toList) ((rdOf ByteArray.empty x0 x3).toList)) = true) then (spec_AreAscending.l0 k x0 (wrap64 (x3 + 1))) else (some false)) else (none)) else (none)) else (none)) else (some true)
def spec_AreAscending.f (k : Nat) (l0 : List ByteArray) : Option (Bool) := spec_AreAscending.l0 k l0 1
theorem spec_AreAscending.calls (k : Nat) (A0 : Option Addr) (c0 : Nat) (l0 : List ByteArray) (r : Bool) (w : World) (hr0 : Kd.C Kd.string w A0 l0.length l0) (hc0 : l0.length ≤ c0) (h : spec_AreAscending.f k l0 = some r) :
  Calls Tryd.prog 65 #[.slice A0 l0.length c0] w fun e w' => e = .returned (.bool r) ∧ Drawn0 w w' := by
 have HR0 := am hr0
 have HC0 := am hc0
 clear hr0 hc0
 have H : (spec_AreAscending.l0 k l0 1) = some r := h
 clear h
 have H' := am H
 clear H
 go_enter Tryd.func65, Tryd.ntmps65
 go_wp2
 repeat (go_quiet (fail); try go_wp2)
 go_loopg [3] k (fun kq v3 w' => ∃ (x3_1 : Int), v3 = .int .i64 x3_1 ∧ Aside0 (spec_AreAscending.l0 kq l0 x3_1 = some r) ∧ Aside0 (kq ≤ k) ∧ Drawn0 w w')
 case atStart => exact ⟨(1), rfs, H', ⟨Nat.le_refl _⟩, by repeat (first | exact Drawn0.refl _ | apply Drawn0.step)⟩
 case round =>
  clear H'
  obtain ⟨x3_1, rfl, HA, HK1, ⟨m1, rfl⟩⟩ := hrel
  cases gk with
  | zero => exact absurd HA.out (by simp [spec_AreAscending.l0])
  | succ k1 =>
   have H := HA.out
   clear HA
   simp only [spec_AreAscending.l0] at H
   by_cases c2 : x3_1 < (l0.length : Int)
   case neg =>
    rw [if_neg c2] at H
    have c2b0 : decide (x3_1 < (l0.length : Int)) = false := decide_eq_false c2
    clear c2
    obtain rfl := Option.some.inj H
    go_wp2
    repeat (go_quiet (fail); try go_wp2)
    go_ret
    exact ⟨rfs, by repeat (first | exact Drawn0.refl _ | apply Drawn0.step)⟩
   rw [if_pos c2] at H
   have c2b0 : decide (x3_1 < (l0.length : Int)) = true := decide_eq_true c2
   clear c2
   obtain ⟨ji3, hji3⟩ : ∃ j_ : Int, (wrap64 (x3_1 - 1)) = j_ := ⟨_, rfl⟩
   replace H : (if 0 ≤ (ji3) then (if (ji3) < (l0.length : Int) then (if 0 ≤ x3_1 then (if ((Op.bytesLess ((rdOf ByteArray.empty l0 (ji3)).toList) ((rdOf ByteArray.empty l0 x3_1).toList)) = true) then (spec_AreAscending.l0 k1 l0 (wrap64 (x3_1 + 1))) else (some false)) else (none)) else (none)) else (none)) = some r := by first | (rw [hji3] at H; exact H) | (simp only [hji3] at H ⊢; exact H)
   have hji3w : (IntKind.i64.wrap (x3_1 - 1)) = ji3 := (i64_w _).trans hji3
   by_cases c4 : 0 ≤ (ji3)
   case neg =>
    rw [if_neg c4] at H
    exact absurd H (by simp)
   rw [if_pos c4] at H
   have c4b0 : decide (0 ≤ (ji3)) = true := decide_eq_true c4
   clear c4
   by_cases c5 : (ji3) < (l0.length : Int)
   case neg =>
    rw [if_neg c5] at H
    exact absurd H (by simp)
   rw [if_pos c5] at H
   have c5b0 : decide ((ji3) < (l0.length : Int)) = true := decide_eq_true c5
   clear c5
   by_cases c6 : 0 ≤ x3_1
   case neg =>
    rw [if_neg c6] at H
    exact absurd H (by simp)
   rw [if_pos c6] at H
   have c6b0 : decide (0 ≤ x3_1) = true := decide_eq_true c6
   clear c6
   by_cases c7 : ((Op.bytesLess ((rdOf ByteArray.empty l0 (ji3)).toList) ((rdOf ByteArray.empty l0 x3_1).toList)) = true)
   case neg =>
    rw [if_neg c7] at H
    have c7b0 : (Op.bytesLess ((rdOf ByteArray.empty l0 (ji3)).toList) ((rdOf ByteArray.empty l0 x3_1).toList)) = false := by simpa using c7
    clear c7
    obtain rfl := Option.some.inj H
    have p128 : 0 ≤ ((ji3) : Int) := of_decide_eq_true asw
    have q128 : (ji3) < (l0.length : Int) := of_decide_eq_true asw
    obtain ⟨ad128, e128, hx128_0⟩ := Kd.at_string HR0.out (ji3) p128 q128
    cases e128
    replace p128 := eq_true p128
    replace q128 := eq_true q128
    have p129 : 0 ≤ (x3_1 : Int) := of_decide_eq_true asw
    have q129 : x3_1 < (l0.length : Int) := of_decide_eq_true asw
    obtain ⟨ad129, e129, hx129_0⟩ := Kd.at_string HR0.out x3_1 p129 q129
    obtain rfl : ad128 = ad129 := (by injection e129)
    replace p129 := eq_true p129
    replace q129 := eq_true q129
    go_wp2
    repeat (go_quiet (fail); try go_wp2)
    go_ret
    exact ⟨by first | rfl | (simp; done) | (simp only [← hji3] <;> (first | rfl | simp)) | (simp [*]; done), by repeat (first | exact Drawn0.refl _ | apply Drawn0.step)⟩
   rw [if_pos c7] at H
   have c7b0 : (Op.bytesLess ((rdOf ByteArray.empty l0 (ji3)).toList) ((rdOf ByteArray.empty l0 x3_1).toList)) = true := c7
   clear c7
   have H' := am H
   clear H
   have p128 : 0 ≤ ((ji3) : Int) := of_decide_eq_true asw
   have q128 : (ji3) < (l0.length : Int) := of_decide_eq_true asw
   obtain ⟨ad128, e128, hx128_0⟩ := Kd.at_string HR0.out (ji3) p128 q128
   cases e128
   replace p128 := eq_true p128
   replace q128 := eq_true q128
   have p129 : 0 ≤ (x3_1 : Int) := of_decide_eq_true asw
   have q129 : x3_1 < (l0.length : Int) := of_decide_eq_true asw
   obtain ⟨ad129, e129, hx129_0⟩ := Kd.at_string HR0.out x3_1 p129 q129
   obtain rfl : ad128 = ad129 := (by injection e129)
   replace p129 := eq_true p129
   replace q129 := eq_true q129
   go_wp2
   repeat (go_quiet (fail); try go_wp2)
   go_roundg k1
   case measure => have := HK1.out; omega
   case rel => exact ⟨(wrap64 (x3_1 + 1)), rfs, H', ⟨by have := HK1.out; omega⟩, by repeat (first | exact Drawn0.refl _ | apply Drawn0.step)⟩

/-! ### spec_l3Labels: function 53 -/
def spec_l3Labels.l0 : Nat → List ByteArray → Int → Option (Bool)
 | 0, _, _ => none
 | k + 1, x0, x3 => if x3 < (x0.length : Int) then (if 0 ≤ x3 then ((spec_IsName.f k (rdOf ByteArray.empty x0 x3)).bind fun t131 => (if t131 = true then (spec_l3Labels.l0 k x0 (wrap64 (x3 + 1))) else (some false))) else (none)) else ((spec_l1In.f (x0.length : Int) 1 4).bind fun t132 => (if t132 = true then ((spec_AreAscending.f k x0).bind fun t133 => (some t133)) else (some false)))
def spec_l3Labels.f (k : Nat) (l0 : List ByteArray) : Option (Bool) := spec_l3Labels.l0 k l0 0
theorem spec_l3Labels.calls (k : Nat) (A0 : Option Addr) (c0 : Nat) (l0 : List ByteArray) (r : Bool) (w : World) (hr0 : Kd.C Kd.string w A0 l0.length l0) (hc0 : l0.length ≤ c0) (h : spec_l3Labels.f k l0 = some r) :
  Calls Tryd.prog 53 #[.slice A0 l0.length c0] w fun e w' => e = .returned (.bool r) ∧ Drawn0 w w' := by
 have HR0 := am hr0
 have HC0 := am hc0
 clear hr0 hc0
 have H : (spec_l3Labels.l0 k l0 0) = some r := h
 clear h
 have H' := am H
 clear H
 go_enter Tryd.func53, Tryd.ntmps53
 go_wp2
 go_loopg [3] k (fun kq v3 w' => ∃ (x3_1 : Int), v3 = .int .i64 x3_1 ∧ Aside0 (spec_l3Labels.l0 kq l0 x3_1 = some r) ∧ Aside0 (kq ≤ k) ∧ Drawn0 w w')
 case atStart => exact ⟨(0), rfs, H', ⟨Nat.le_refl _⟩, by repeat (first | exact Drawn0.refl _ | apply Drawn0.step)⟩
 case round =>
  clear H'
  obtain ⟨x3_1, rfl, HA, HK1, ⟨m1, rfl⟩⟩ := hrel
  cases gk with
  | zero => exact absurd HA.out (by simp [spec_l3Labels.l0])
  | succ k1 =>
   have H := HA.out
   clear HA
   simp only [spec_l3Labels.l0] at H
   by_cases c2 : x3_1 < (l0.length : Int)
   ·rw [if_pos c2] at H
    have c2b0 : decide (x3_1 < (l0.length : Int)) = true := decide_eq_true c2
    clear c2
    by_cases c3 : 0 ≤ x3_1
    case neg =>
     rw [if_neg c3] at H
     exact absurd H (by simp)
    rw [if_pos c3] at H
    have c3b0 : decide (0 ≤ x3_1) = true := decide_eq_true c3
    clear c3
    replace H := Option.bind_eq_some_iff.mp H
    obtain ⟨t131, A40, H⟩ := H
    replace H : (if t131 = true then (spec_l3Labels.l0 k1 l0 (wrap64 (x3_1 + 1))) else (some false)) = some r := H
    have A4 := am A40
    clear A40
    have HC5 := am H
    clear H
    have p130 : 0 ≤ (x3_1 : Int) := of_decide_eq_true asw
    have q130 : x3_1 < (l0.length : Int) := of_decide_eq_true asw
    obtain ⟨ad130, e130, hx130_0⟩ := Kd.at_string HR0.out x3_1 p130 q130
    cases e130
    replace p130 := eq_true p130
    replace q130 := eq_true q130
    go_upto_if 15 with (first | ((with_reducible refine gate_callee (f := 51) rfl ?_); refine goesL_ (some 14) rfl rfl Tryd.func51 kr rfl #[.string (rdOf ByteArray.empty l0 x3_1)] rfl mpw ?_; (with_reducible refine (spec_IsName.calls k1 (rdOf ByteArray.empty l0 x3_1) t131 _ A4.out).mono ?_); rintro e w' ⟨rfl, ⟨nd, rfl⟩⟩; refine ⟨_, rfl, ?_⟩))
    have H := HC5.out
    clear HC5
    by_cases c6 : t131 = true
    case neg =>
     replace c6 := Bool.eq_false_iff.mpr c6
     subst c6
     have H1 : (some false) = some r := by rw [if_neg (show ¬ (false = true) by decide)] at H; exact H
     clear H
     have H := H1
     clear H1
     obtain rfl := Option.some.inj H
     go_wp2
     go_ret
     exact ⟨rfs, by repeat (first | exact Drawn0.refl _ | apply Drawn0.step)⟩
    subst c6
    have H1 : (spec_l3Labels.l0 k1 l0 (wrap64 (x3_1 + 1))) = some r := by rw [if_pos rfl] at H; exact H
    clear H
    have H := H1
    clear H1
    have H' := am H
    clear H
    go_wp2
    go_roundg k1
    case measure => have := HK1.out; omega
    case rel => exact ⟨(wrap64 (x3_1 + 1)), rfs, H', ⟨by have := HK1.out; omega⟩, by repeat (first | exact Drawn0.refl _ | apply Drawn0.step)⟩
   rw [if_neg c2] at H
   have c2b0 : decide (x3_1 < (l0.length : Int)) = false := decide_eq_false c2
   clear c2
   replace H := Option.bind_eq_some_iff.mp H
   obtain ⟨t132, A70, H⟩ := H
   replace H : (if t132 = true then ((spec_AreAscending.f k1 l0).bind fun t133 => (some t133)) else (some false)) = some r := H
   have A7 := am A70
   clear A70
   by_cases c8 : t132 = true
   case neg =>
    replace c8 := Bool.eq_false_iff.mpr c8
    subst c8
    have H1 : (some false) = some r := by rw [if_neg (show ¬ (false = true) by decide)] at H; exact H
    clear H
    have H := H1
    clear H1
    obtain rfl := Option.some.inj H
    go_wp2_with (first | ((with_reducible refine gate_callee (f := 54) rfl ?_); refine goesL_ (some 18) rfl rfl Tryd.func54 kr rfl #[.int .i64 (l0.length : Int), .int .i64 1, .int .i64 4] rfl mpw ?_; (with_reducible refine (spec_l1In.calls (l0.length : Int) 1 4 false _ A7.out).mono ?_); rintro e w' ⟨rfl, ⟨nd, rfl⟩⟩; refine ⟨_, rfl, ?_⟩))
    go_ret
    exact ⟨rfs, by repeat (first | exact Drawn0.refl _ | apply Drawn0.step)⟩
   subst c8
   have H1 : ((spec_AreAscending.f k1 l0).bind fun t133 => (some t133)) = some r := by rw [if_pos rfl] at H; exact H
   clear H
   have H := H1
   clear H1
   replace H := Option.bind_eq_some_iff.mp H
   obtain ⟨t133, A90, H⟩ := H
   replace H : (some t133) = some r := H
   have A9 := am A90
   clear A90
   obtain rfl := Option.some.inj H
   go_wp2_with (first | ((with_reducible refine gate_callee (f := 54) rfl ?_); refine goesL_ (some 18) rfl rfl Tryd.func54 kr rfl #[.int .i64 (l0.length : Int), .int .i64 1, .int .i64 4] rfl mpw ?_; (with_reducible refine (spec_l1In.calls (l0.length : Int) 1 4 true _ A7.out).mono ?_); rintro e w' ⟨rfl, ⟨nd, rfl⟩⟩; refine ⟨_, rfl, ?_⟩) | (go_at_call 65; (with_reducible refine (spec_AreAscending.calls k1 _ _ l0 t133 _ ?side1 ?side2 A9.out).mono ?_); (case side1 => have X_ := HR0; exact cbx); (case side2 => exact HC0.out); rintro e w' ⟨rfl, ⟨nd, rfl⟩⟩))
   go_ret
   exact ⟨rfs, by repeat (first | exact Drawn0.refl _ | apply Drawn0.step)⟩

/-! ### spec_l3Has: function 75 -/
mutual
def spec_l3Has.l0 : Nat → Int → Int → Int → List ByteArray → List (S33) → Option (Bool)
 | 0, _, _, _, _, _ => none
 | k + 1, x1, x5, x135000, x135001, x135002 => if x5 < (x135002.length : Int) then (if 0 ≤ x5 then ((spec_l3Has.f k ((rd_T33 x135002 x5).f0) ((rd_T33 x135002 x5).f1) ((rd_T33 x135002 x5).f2) x1).bind fun t136 => (if t136 = true then (some true) else (spec_l3Has.l0 k x1 (wrap64 (x5 + 1)) x135000 x135001 x135002))) else (none)) else (some (x135000 == x1))
def spec_l3Has.f : Nat → Int → List ByteArray → List (S33) → Int → Option (Bool)
 | 0, _, _, _, _ => none
 | k + 1, a0_0, l0_1, l0_2, a1 => spec_l3Has.l0 k a1 0 a0_0 l0_1 l0_2
end
theorem spec_l3Has.calls (k : Nat) : ∀ (a0_0 : Int) (A0_1 : Option Addr) (c0_1 : Nat) (l0_1 : List ByteArray) (A0_2 : Option Addr) (c0_2 : Nat) (l0_2 : List (S33)) (a1 : Int) (r : Bool) (w : World) (hr0_1 : Kd.C Kd.string w A0_1 l0_1.length l0_1) (hc0_1 : l0_1.length ≤ c0_1) (hr0_2 : Kd.C k33 w A0_2 l0_2.length l0_2) (hc0_2 : l0_2.length ≤ c0_2) (h : spec_l3Has.f k a0_0 l0_1 l0_2 a1 = some r),
  Calls Tryd.prog 75 #[.agg #[.int .i64 a0_0, .slice A0_1 l0_1.length c0_1, .slice A0_2 l0_2.length c0_2], .int .i64 a1] w fun e w' => e = .returned (.bool r) ∧ Below w.heap.size w w' := by
 induction k using Nat.strongRecOn with
 | _ k ih =>
 intro a0_0 A0_1 c0_1 l0_1 A0_2 c0_2 l0_2 a1 r w hr0_1 hc0_1 hr0_2 hc0_2 h
 cases k with
 | zero => exact absurd h (by simp [spec_l3Has.f])
 | succ k =>
 simp only [spec_l3Has.f] at h
 have hu33 := Tryd.underlying33
 have HR0_1 := am hr0_1
 have HC0_1 := am hc0_1
 clear hr0_1 hc0_1
 have HR0_2 := am hr0_2
 have HC0_2 := am hc0_2
 clear hr0_2 hc0_2
 have HB := am (Below.refl w.heap.size w)
 have H : (spec_l3Has.l0 k a1 0 a0_0 l0_1 l0_2) = some r := h
 clear h
 have H' := am H
 clear H
 go_enter Tryd.func75, Tryd.ntmps75
 go_wp2_with (first | ((with_reducible refine gate_dst (N := 2) rfl ?_); refine box_event ?hg (N := 2) ?hd (cs := #[.int .i64 a0_0, .slice A0_1 l0_1.length c0_1, .slice A0_2 l0_2.length c0_2]) (t := 33) ?hr ?_; (case hd => rfl); (case hg => rfl); (case hr => exact hrw); intro gb134 hg w3 hbox hb; have n0_ := am (below_step blw hb); have n1_ := am (hbox); have n2_ := am ((by rw [hg]; exact (below_size blw) : w.heap.size ≤ gb134)); have n3_ := n2_; clear HB; revert n0_ n1_ n2_ n3_; intro HB BK134 GW134 GE134; clear hb hbox hg))
 go_loopg [5] k (fun kq v5 w' => ∃ (x5_1 : Int), v5 = .int .i64 x5_1 ∧ Aside0 (spec_l3Has.l0 kq a1 x5_1 a0_0 l0_1 l0_2 = some r) ∧ Aside0 (kq ≤ k) ∧ Aside0 (w'.heap[gb134]? = some (.cells #[.int .i64 a0_0, (.slice A0_1 l0_1.length c0_1), (.slice A0_2 l0_2.length c0_2)] 33 (0, 0))) ∧ Aside0 (Below w.heap.size w w'))
 case atStart => exact ⟨(0), rfs, H', ⟨Nat.le_refl _⟩, ⟨bkw⟩, ⟨blw⟩⟩
 case round =>
  clear H'
  try clear p2
  obtain ⟨x5_1, rfl, HA, HK1, BK134, HB⟩ := hrel
  cases gk with
  | zero => exact absurd HA.out (by simp [spec_l3Has.l0])
  | succ k1 =>
   have H := HA.out
   clear HA
   simp only [spec_l3Has.l0] at H
   by_cases c4 : x5_1 < (l0_2.length : Int)
   case neg =>
    rw [if_neg c4] at H
    have c4b0 : decide (x5_1 < (l0_2.length : Int)) = false := decide_eq_false c4
    clear c4
    obtain rfl := Option.some.inj H
    obtain ⟨hcz11_0, hcz11_1, hcz11_2⟩ := cls3 BK134.out
    obtain ⟨hfz11_0, hfz11_1, hfz11_2⟩ := frz3 BK134.out
    go_wp2
    go_ret
    exact ⟨rfw, blw⟩
   rw [if_pos c4] at H
   have c4b0 : decide (x5_1 < (l0_2.length : Int)) = true := decide_eq_true c4
   clear c4
   by_cases c5 : 0 ≤ x5_1
   case neg =>
    rw [if_neg c5] at H
    exact absurd H (by simp)
   rw [if_pos c5] at H
   have c5b0 : decide (0 ≤ x5_1) = true := decide_eq_true c5
   clear c5
   replace H := Option.bind_eq_some_iff.mp H
   obtain ⟨t136, A60, H⟩ := H
   replace H : (if t136 = true then (some true) else (spec_l3Has.l0 k1 a1 (wrap64 (x5_1 + 1)) a0_0 l0_1 l0_2)) = some r := H
   have A6 := am A60
   clear A60
   have HC7 := am H
   clear H
   obtain ⟨hcz8_0, hcz8_1, hcz8_2⟩ := cls3 BK134.out
   obtain ⟨hfz8_0, hfz8_1, hfz8_2⟩ := frz3 BK134.out
   have p135 : 0 ≤ (x5_1 : Int) := of_decide_eq_true asw
   have q135 : x5_1 < (l0_2.length : Int) := of_decide_eq_true asw
   obtain ⟨ad135, A135_1, c135_1, A135_2, c135_2, e135, hx135_0, hx135_1, hx135_2, hl135_1, hi135_1, hl135_2, hi135_2⟩ := at_T33 HR0_2.out x5_1 p135 q135
   cases e135
   replace hx135_0 := upw HB.out hx135_0
   replace hx135_1 := upw HB.out hx135_1
   replace hx135_2 := upw HB.out hx135_2
   have HR135_1 := am hi135_1
   have HC135_1 := am hl135_1
   clear hi135_1 hl135_1
   have HR135_2 := am hi135_2
   have HC135_2 := am hl135_2
   clear hi135_2 hl135_2
   replace p135 := eq_true p135
   replace q135 := eq_true q135
   go_upto_if 19 with (first | ((with_reducible refine gate_callee (f := 75) rfl ?_); refine goesL_ (some 19) rfl rfl Tryd.func75 kr rfl #[.agg #[.int .i64 ((rd_T33 l0_2 x5_1).f0), .slice A135_1 ((rd_T33 l0_2 x5_1).f1).length c135_1, .slice A135_2 ((rd_T33 l0_2 x5_1).f2).length c135_2], .int .i64 a1] rfl mpw ?_; (with_reducible refine (ih k1 (by have := HK1.out; omega) ((rd_T33 l0_2 x5_1).f0) _ _ ((rd_T33 l0_2 x5_1).f1) _ _ ((rd_T33 l0_2 x5_1).f2) a1 t136 _ ?side1 ?side2 ?side3 ?side4 A6.out).mono ?_); (case side1 => have X_ := HR135_1; exact cbl); (case side2 => exact HC135_1.out); (case side3 => have X_ := HR135_2; exact cbl); (case side4 => exact HC135_2.out); rintro e w9 ⟨rfl, hb⟩; refine ⟨_, rfl, ?_⟩; have n0_ := am (blk_below (g := gb134) bkw hb); have n1_ := am (below_step blw hb); clear BK134; clear HB; revert n0_ n1_; intro BK134 HB; (try clear hb); (try clear hb2); (try clear hk); (try clear hi)))
   have H := HC7.out
   clear HC7
   by_cases c10 : t136 = true
   ·subst c10
    have H1 : (some true) = some r := by rw [if_pos rfl] at H; exact H
    clear H
    have H := H1
    clear H1
    obtain rfl := Option.some.inj H
    go_wp2
    go_ret
    exact ⟨rfw, blw⟩
   replace c10 := Bool.eq_false_iff.mpr c10
   subst c10
   have H1 : (spec_l3Has.l0 k1 a1 (wrap64 (x5_1 + 1)) a0_0 l0_1 l0_2) = some r := by rw [if_neg (show ¬ (false = true) by decide)] at H; exact H
   clear H
   have H := H1
   clear H1
   have H' := am H
   clear H
   go_wp2
   go_roundg k1
   case measure => have := HK1.out; omega
   case rel => exact ⟨(wrap64 (x5_1 + 1)), rfs, H', ⟨by have := HK1.out; omega⟩, ⟨bkw⟩, ⟨blw⟩⟩

end Go.Proofs.YtgplgphchdgedaaDoor.Px
end
section
namespace Go.Proofs.YtgplgphchdgedaaDoor.Px
open Go.RowKit Go.Proofs.YtgplgphchdgedaaDoor.Ext Go.Proofs.YtgplgphchdgedaaDoorW.PrintWords Go.Proofs.YtgplgphchdgedaaDoorW.PrintLast Go.Proofs.YtgplgphchdgedaaDoorW.PrintMore
attribute [local go_sem] max2_int min2_int max_two min_two max_three min_three max_four min_four   -- for this text's walks alone
set_option linter.unusedVariables false
set_option linter.unusedSimpArgs false

/-! ### spec_l3Form: function 64 -/
mutual
def spec_l3Form.l0 : Nat → Int → Int → List ByteArray → List (S33) → Option (Bool)
 | 0, _, _, _, _ => none
 | k + 1, x3, x138000, x138001, x138002 => if x3 < (x138002.length : Int) then (if 0 ≤ x3 then ((spec_l3Form.f k ((rd_T33 x138002 x3).f0) ((rd_T33 x138002 x3).f1) ((rd_T33 x138002 x3).f2)).bind fun t139 => (if t139 = true then (spec_l3Form.l0 k (wrap64 (x3 + 1)) x138000 x138001 x138002) else (some false))) else (none)) else (if x138000 = 3 then (if (x138002.length : Int) = (x138001.length : Int) then ((spec_l3Labels.f k x138001).bind fun t140 => (if t140 = true then ((spec_l3Has.f k x138000 x138001 x138002 5).bind fun t141 => (some (!t141))) else (some false))) else (some false)) else (if x138000 = 4 then (if (x138002.length : Int) = 1 then (if 0 < (x138002.length : Int) then ((spec_l3Has.f k ((rd_T33 x138002 0).f0) ((rd_T33 x138002 0).f1) ((rd_T33 x138002 0).f2) 5).bind fun t143 => (spec_l3Form.j1 k t143 x138000 x138001 x138002)) else (none)) else (spec_l3Form.j1 k false x138000 x138001 x138002)) else (spec_l3Form.j1 k false x138000 x138001 x138002)))
def spec_l3Form.j1 : Nat → Bool → Int → List ByteArray → List (S33) → Option (Bool)
 | 0, _, _, _, _ => none
 | k + 1, x54, x138000, x138001, x138002 => if x54 = true then (some false) else (if x138000 = 1 then (spec_l3Form.j2 k (-1) x138000 (x138000 == 1) x138000 x138001 x138002) else (spec_l3Form.j2 k (-1) x138000 (x138000 == 2) x138000 x138001 x138002))
def spec_l3Form.j2 : Nat → Int → Int → Bool → Int → List ByteArray → List (S33) → Option (Bool)
 | 0, _, _, _, _, _, _ => none
 | k + 1, x4, x56, x57, x138000, x138001, x138002 => if x57 = true then (if (x138001.length : Int) = 0 then (some ((x138002.length : Int) == 0)) else (some false)) else (if x56 = 4 then (if (x138001.length : Int) = 0 then (some ((x138002.length : Int) == 1)) else (some false)) else (if x56 = 5 then (if (x138001.length : Int) = 0 then (some ((x138002.length : Int) == 2)) else (some false)) else (if (x138001.length : Int) = 0 then (some ((x138002.length : Int) == x4)) else (some false))))
def spec_l3Form.f : Nat → Int → List ByteArray → List (S33) → Option (Bool)
 | 0, _, _, _ => none
 | k + 1, a0_0, l0_1, l0_2 => spec_l3Form.l0 k 0 a0_0 l0_1 l0_2
end
set_option maxHeartbeats 8000000 in
set_option maxRecDepth 100000 in
theorem spec_l3Form.calls (k : Nat) : ∀ (a0_0 : Int) (A0_1 : Option Addr) (c0_1 : Nat) (l0_1 : List ByteArray) (A0_2 : Option Addr) (c0_2 : Nat) (l0_2 : List (S33)) (r : Bool) (w : World) (hr0_1 : Kd.C Kd.string w A0_1 l0_1.length l0_1) (hc0_1 : l0_1.length ≤ c0_1) (hr0_2 : Kd.C k33 w A0_2 l0_2.length l0_2) (hc0_2 : l0_2.length ≤ c0_2) (h : spec_l3Form.f k a0_0 l0_1 l0_2 = some r),
  Calls Tryd.prog 64 #[.agg #[.int .i64 a0_0, .slice A0_1 l0_1.length c0_1, .slice A0_2 l0_2.length c0_2]] w fun e w' => e = .returned (.bool r) ∧ Below w.heap.size w w' := by
 induction k using Nat.strongRecOn with
 | _ k ih =>
 intro a0_0 A0_1 c0_1 l0_1 A0_2 c0_2 l0_2 r w hr0_1 hc0_1 hr0_2 hc0_2 h
 cases k with
 | zero => exact absurd h (by simp [spec_l3Form.f])
 | succ k =>
 simp only [spec_l3Form.f] at h
 have hu33 := Tryd.underlying33
 have HR0_1 := am hr0_1
 have HC0_1 := am hc0_1
 clear hr0_1 hc0_1
 have HR0_2 := am hr0_2
 have HC0_2 := am hc0_2
 clear hr0_2 hc0_2
 have HB := am (Below.refl w.heap.size w)
 have H : (spec_l3Form.l0 k 0 a0_0 l0_1 l0_2) = some r := h
 clear h
 have H' := am H
 clear H
 go_enter Tryd.func64, Tryd.ntmps64
 go_wp2_with (first | ((with_reducible refine gate_dst (N := 1) rfl ?_); (try (refine gate_guard (by rfl) ?_; dsimp only)); refine box_event ?hg (N := 1) ?hd (cs := #[.int .i64 a0_0, .slice A0_1 l0_1.length c0_1, .slice A0_2 l0_2.length c0_2]) (t := 33) ?hr ?_; (case hd => rfl); (case hg => rfl); (case hr => exact hrw); intro gb137 hg w2 hbox hb; have n0_ := am (below_step blw hb); have n1_ := am (hbox); have n2_ := am ((by rw [hg]; exact (below_size blw) : w.heap.size ≤ gb137)); have n3_ := n2_; clear HB; revert n0_ n1_ n2_ n3_; intro HB BK137 GW137 GE137; clear hb hbox hg))
 go_loopg [3] k (fun kq v3 w' => ∃ (x3_1 : Int), v3 = .int .i64 x3_1 ∧ Aside0 (spec_l3Form.l0 kq x3_1 a0_0 l0_1 l0_2 = some r) ∧ Aside0 (kq ≤ k) ∧ Aside0 (w'.heap[gb137]? = some (.cells #[.int .i64 a0_0, (.slice A0_1 l0_1.length c0_1), (.slice A0_2 l0_2.length c0_2)] 33 (0, 0))) ∧ Aside0 (Below w.heap.size w w'))
 case atStart => exact ⟨(0), rfs, H', ⟨Nat.le_refl _⟩, ⟨bkw⟩, ⟨blw⟩⟩
 case round =>
  clear H'
  try clear p2
  obtain ⟨x3_1, rfl, HA, HK1, BK137, HB⟩ := hrel
  cases gk with
  | zero => exact absurd HA.out (by simp [spec_l3Form.l0])
  | succ k1 =>
   have H := HA.out
   clear HA
   simp only [spec_l3Form.l0] at H
   by_cases c3 : x3_1 < (l0_2.length : Int)
   ·rw [if_pos c3] at H
    have c3b0 : decide (x3_1 < (l0_2.length : Int)) = true := decide_eq_true c3
    clear c3
    by_cases c4 : 0 ≤ x3_1
    case neg =>
     rw [if_neg c4] at H
     exact absurd H (by simp)
    rw [if_pos c4] at H
    have c4b0 : decide (0 ≤ x3_1) = true := decide_eq_true c4
    clear c4
    replace H := Option.bind_eq_some_iff.mp H
    obtain ⟨t139, A50, H⟩ := H
    replace H : (if t139 = true then (spec_l3Form.l0 k1 (wrap64 (x3_1 + 1)) a0_0 l0_1 l0_2) else (some false)) = some r := H
    have A5 := am A50
    clear A50
    have HC6 := am H
    clear H
    obtain ⟨hcz7_0, hcz7_1, hcz7_2⟩ := cls3 BK137.out
    obtain ⟨hfz7_0, hfz7_1, hfz7_2⟩ := frz3 BK137.out
    have p138 : 0 ≤ (x3_1 : Int) := of_decide_eq_true asw
    have q138 : x3_1 < (l0_2.length : Int) := of_decide_eq_true asw
    obtain ⟨ad138, A138_1, c138_1, A138_2, c138_2, e138, hx138_0, hx138_1, hx138_2, hl138_1, hi138_1, hl138_2, hi138_2⟩ := at_T33 HR0_2.out x3_1 p138 q138
    cases e138
    replace hx138_0 := upw HB.out hx138_0
    replace hx138_1 := upw HB.out hx138_1
    replace hx138_2 := upw HB.out hx138_2
    have HR138_1 := am hi138_1
    have HC138_1 := am hl138_1
    clear hi138_1 hl138_1
    have HR138_2 := am hi138_2
    have HC138_2 := am hl138_2
    clear hi138_2 hl138_2
    replace p138 := eq_true p138
    replace q138 := eq_true q138
    go_upto_if 18 with (first | ((with_reducible refine gate_callee (f := 64) rfl ?_); refine goesL_ (some 17) rfl rfl Tryd.func64 kr rfl #[.agg #[.int .i64 ((rd_T33 l0_2 x3_1).f0), .slice A138_1 ((rd_T33 l0_2 x3_1).f1).length c138_1, .slice A138_2 ((rd_T33 l0_2 x3_1).f2).length c138_2]] rfl mpw ?_; (with_reducible refine (ih k1 (by have := HK1.out; omega) ((rd_T33 l0_2 x3_1).f0) _ _ ((rd_T33 l0_2 x3_1).f1) _ _ ((rd_T33 l0_2 x3_1).f2) t139 _ ?side1 ?side2 ?side3 ?side4 A5.out).mono ?_); (case side1 => have X_ := HR138_1; exact cbl); (case side2 => exact HC138_1.out); (case side3 => have X_ := HR138_2; exact cbl); (case side4 => exact HC138_2.out); rintro e w8 ⟨rfl, hb⟩; refine ⟨_, rfl, ?_⟩; have n0_ := am (blk_below (g := gb137) bkw hb); have n1_ := am (below_step blw hb); clear BK137; clear HB; revert n0_ n1_; intro BK137 HB; (try clear hb); (try clear hb2); (try clear hk); (try clear hi)))
    have H := HC6.out
    clear HC6
    by_cases c9 : t139 = true
    case neg =>
     replace c9 := Bool.eq_false_iff.mpr c9
     subst c9
     have H1 : (some false) = some r := by rw [if_neg (show ¬ (false = true) by decide)] at H; exact H
     clear H
     have H := H1
     clear H1
     obtain rfl := Option.some.inj H
     go_wp2
     go_ret
     exact ⟨rfw, blw⟩
    subst c9
    have H1 : (spec_l3Form.l0 k1 (wrap64 (x3_1 + 1)) a0_0 l0_1 l0_2) = some r := by rw [if_pos rfl] at H; exact H
    clear H
    have H := H1
    clear H1
    have H' := am H
    clear H
    go_wp2
    go_roundg k1
    case measure => have := HK1.out; omega
    case rel => exact ⟨(wrap64 (x3_1 + 1)), rfs, H', ⟨by have := HK1.out; omega⟩, ⟨bkw⟩, ⟨blw⟩⟩
   rw [if_neg c3] at H
   have c3b0 : decide (x3_1 < (l0_2.length : Int)) = false := decide_eq_false c3
   clear c3
   by_cases c10 : a0_0 = 3
   ·rw [if_pos c10] at H
    have c10b0 : (a0_0 == 3) = true := beq_iff_eq.mpr c10
    have c10b1 : (a0_0 != 3) = false := bne_eq_false_iff_eq.mpr c10
    clear c10
    by_cases c11 : (l0_2.length : Int) = (l0_1.length : Int)
    case neg =>
     rw [if_neg c11] at H
     have c11b0 : ((l0_2.length : Int) == (l0_1.length : Int)) = false := beq_eq_false_iff_ne.mpr c11
     have c11b1 : ((l0_2.length : Int) != (l0_1.length : Int)) = true := bne_iff_ne.mpr c11
     have c11b2 : (l0_2.length == l0_1.length) = false := by first | simpa using c11 | (simp at c11 ⊢; omega)
     obtain rfl := Option.some.inj H
     obtain ⟨hcz18_0, hcz18_1, hcz18_2⟩ := cls3 BK137.out
     obtain ⟨hfz18_0, hfz18_1, hfz18_2⟩ := frz3 BK137.out
     go_wp2
     go_ret
     exact ⟨rfw, blw⟩
    rw [if_pos c11] at H
    have c11b0 : ((l0_2.length : Int) == (l0_1.length : Int)) = true := beq_iff_eq.mpr c11
    have c11b1 : ((l0_2.length : Int) != (l0_1.length : Int)) = false := bne_eq_false_iff_eq.mpr c11
    have c11b2 : (l0_2.length == l0_1.length) = true := by first | simpa using c11 | (simp at c11 ⊢; omega)
    clear c11
    replace H := Option.bind_eq_some_iff.mp H
    obtain ⟨t140, A120, H⟩ := H
    replace H : (if t140 = true then ((spec_l3Has.f k1 a0_0 l0_1 l0_2 5).bind fun t141 => (some (!t141))) else (some false)) = some r := H
    have A12 := am A120
    clear A120
    by_cases c13 : t140 = true
    case neg =>
     replace c13 := Bool.eq_false_iff.mpr c13
     subst c13
     have H1 : (some false) = some r := by rw [if_neg (show ¬ (false = true) by decide)] at H; exact H
     clear H
     have H := H1
     clear H1
     obtain rfl := Option.some.inj H
     obtain ⟨hcz17_0, hcz17_1, hcz17_2⟩ := cls3 BK137.out
     obtain ⟨hfz17_0, hfz17_1, hfz17_2⟩ := frz3 BK137.out
     go_wp2_with (first | (go_at_call 53; (with_reducible refine (spec_l3Labels.calls k1 _ _ l0_1 false _ ?side1 ?side2 A12.out).mono ?_); (case side1 => have X_ := HR0_1; exact cbl); (case side2 => exact HC0_1.out); rintro e w' ⟨rfl, ⟨nd, rfl⟩⟩))
     go_ret
     exact ⟨rfw, blw⟩
    subst c13
    have H1 : ((spec_l3Has.f k1 a0_0 l0_1 l0_2 5).bind fun t141 => (some (!t141))) = some r := by rw [if_pos rfl] at H; exact H
    clear H
    have H := H1
    clear H1
    replace H := Option.bind_eq_some_iff.mp H
    obtain ⟨t141, A140, H⟩ := H
    replace H : (some (!t141)) = some r := H
    have A14 := am A140
    clear A140
    obtain rfl := Option.some.inj H
    obtain ⟨hcz15_0, hcz15_1, hcz15_2⟩ := cls3 BK137.out
    obtain ⟨hfz15_0, hfz15_1, hfz15_2⟩ := frz3 BK137.out
    go_wp2_with (first | (go_at_call 53; (with_reducible refine (spec_l3Labels.calls k1 _ _ l0_1 true _ ?side1 ?side2 A12.out).mono ?_); (case side1 => have X_ := HR0_1; exact cbl); (case side2 => exact HC0_1.out); rintro e w' ⟨rfl, ⟨nd, rfl⟩⟩) | (go_at_call 75; (with_reducible refine (spec_l3Has.calls k1 a0_0 _ _ l0_1 _ _ l0_2 5 t141 _ ?side1 ?side2 ?side3 ?side4 A14.out).mono ?_); (case side1 => repeat (first | exact (Kd.C_below HR0_1.out blw) | (with_reducible refine Kd.C_alloc ?_ _) | (with_reducible refine Kd.C_drewN ?_ _) | (with_reducible refine Kd.C_drew ?_))); (case side2 => exact HC0_1.out); (case side3 => repeat (first | exact (Kd.C_below HR0_2.out blw) | (with_reducible refine Kd.C_alloc ?_ _) | (with_reducible refine Kd.C_drewN ?_ _) | (with_reducible refine Kd.C_drew ?_))); (case side4 => exact HC0_2.out); rintro e w16 ⟨rfl, hb⟩; have n0_ := am (blk_below (g := gb137) bkw hb); have n1_ := am (below_step blw hb); clear BK137; clear HB; revert n0_ n1_; intro BK137 HB; (try clear hb); (try clear hb2); (try clear hk); (try clear hi)))
    go_ret
    exact ⟨rfw, blw⟩
   rw [if_neg c10] at H
   have c10b0 : (a0_0 == 3) = false := beq_eq_false_iff_ne.mpr c10
   have c10b1 : (a0_0 != 3) = true := bne_iff_ne.mpr c10
   have HC19 := am H
   clear H
   obtain ⟨hcz20_0, hcz20_1, hcz20_2⟩ := cls3 BK137.out
   obtain ⟨hfz20_0, hfz20_1, hfz20_2⟩ := frz3 BK137.out
   go_upto_region 8 with (fail)
   go_cut [54] (fun v54 wc => ∃ (kq : Nat) (x54_18 : Bool), v54 = .bool x54_18 ∧ Aside0 (spec_l3Form.j1 kq x54_18 a0_0 l0_1 l0_2 = some r) ∧ Aside0 (kq ≤ k1) ∧ Aside0 (wc.heap[gb137]? = some (.cells #[.int .i64 a0_0, (.slice A0_1 l0_1.length c0_1), (.slice A0_2 l0_2.length c0_2)] 33 (0, 0))) ∧ Aside0 (Below w.heap.size w wc))
   case first =>
    have H := HC19.out
    clear HC19
    by_cases c21 : a0_0 = 4
    case neg =>
     rw [if_neg c21] at H
     have c21b0 : (a0_0 == 4) = false := beq_eq_false_iff_ne.mpr c21
     have c21b1 : (a0_0 != 4) = true := bne_iff_ne.mpr c21
     (first | rw [c21b0] | (simp only [i64_w, i32_w]; rw [c21b0]) | (rw [c21b1]; (try simp only [Bool.not_true, Bool.not_false])) | skip)
     have H' := am H
     clear H
     obtain ⟨hcz28_0, hcz28_1, hcz28_2⟩ := cls3 BK137.out
     obtain ⟨hfz28_0, hfz28_1, hfz28_2⟩ := frz3 BK137.out
     go_wp2
     go_meet
     case rel => exact ⟨_, (false), rfs, H', ⟨by have := HK1.out; first | omega | exact Nat.le_refl _⟩, ⟨bkw⟩, ⟨blw⟩⟩
    rw [if_pos c21] at H
    have c21b0 : (a0_0 == 4) = true := beq_iff_eq.mpr c21
    have c21b1 : (a0_0 != 4) = false := bne_eq_false_iff_eq.mpr c21
    clear c21
    (first | rw [c21b0] | (simp only [i64_w, i32_w]; rw [c21b0]) | (rw [c21b1]; (try simp only [Bool.not_true, Bool.not_false])) | skip)
    by_cases c22 : (l0_2.length : Int) = 1
    case neg =>
     rw [if_neg c22] at H
     have c22b0 : ((l0_2.length : Int) == 1) = false := beq_eq_false_iff_ne.mpr c22
     have c22b1 : ((l0_2.length : Int) != 1) = true := bne_iff_ne.mpr c22
     have H' := am H
     clear H
     obtain ⟨hcz27_0, hcz27_1, hcz27_2⟩ := cls3 BK137.out
     obtain ⟨hfz27_0, hfz27_1, hfz27_2⟩ := frz3 BK137.out
     go_wp2
     go_meet
     case rel => exact ⟨_, (false), rfs, H', ⟨by have := HK1.out; first | omega | exact Nat.le_refl _⟩, ⟨bkw⟩, ⟨blw⟩⟩
    rw [if_pos c22] at H
    have c22b0 : ((l0_2.length : Int) == 1) = true := beq_iff_eq.mpr c22
    have c22b1 : ((l0_2.length : Int) != 1) = false := bne_eq_false_iff_eq.mpr c22
    clear c22
    by_cases c23 : 0 < (l0_2.length : Int)
    case neg =>
     rw [if_neg c23] at H
     exact absurd H (by simp)
    rw [if_pos c23] at H
    have c23b0 : decide (0 < (l0_2.length : Int)) = true := decide_eq_true c23
    have c23b1 : decide (0 < l0_2.length) = true := decide_eq_true (by omega)
    clear c23
    replace H := Option.bind_eq_some_iff.mp H
    obtain ⟨t143, A240, H⟩ := H
    replace H : (spec_l3Form.j1 k1 t143 a0_0 l0_1 l0_2) = some r := H
    have A24 := am A240
    clear A240
    have H' := am H
    clear H
    obtain ⟨hcz25_0, hcz25_1, hcz25_2⟩ := cls3 BK137.out
    obtain ⟨hfz25_0, hfz25_1, hfz25_2⟩ := frz3 BK137.out
    have p142 : 0 ≤ (0 : Int) := (by omega)
    have q142 : 0 < (l0_2.length : Int) := of_decide_eq_true asw
    obtain ⟨ad142, A142_1, c142_1, A142_2, c142_2, e142, hx142_0, hx142_1, hx142_2, hl142_1, hi142_1, hl142_2, hi142_2⟩ := at_T33 HR0_2.out 0 p142 q142
    cases e142
    have qi142 : (0 < l0_2.length) = True := eq_true (by omega)
    (try rw [show ((0 : Int)).toNat = 0 from rfl] at hx142_0)
    (try rw [show 0 * 3 = 0 from rfl] at hx142_0)
    (try rw [Addr.add_zero'] at hx142_0)
    (try rw [show ((0 : Int)).toNat = 0 from rfl] at hx142_1)
    (try rw [show 0 * 3 = 0 from rfl] at hx142_1)
    (try rw [Addr.add_zero'] at hx142_1)
    (try rw [show ((0 : Int)).toNat = 0 from rfl] at hx142_2)
    (try rw [show 0 * 3 = 0 from rfl] at hx142_2)
    (try rw [Addr.add_zero'] at hx142_2)
    replace hx142_0 := upw HB.out hx142_0
    replace hx142_1 := upw HB.out hx142_1
    replace hx142_2 := upw HB.out hx142_2
    have HR142_1 := am hi142_1
    have HC142_1 := am hl142_1
    clear hi142_1 hl142_1
    have HR142_2 := am hi142_2
    have HC142_2 := am hl142_2
    clear hi142_2 hl142_2
    replace p142 := eq_true p142
    replace q142 := eq_true q142
    go_wp2_with (first | (go_at_call 75; (with_reducible refine (spec_l3Has.calls k1 ((rd_T33 l0_2 0).f0) _ _ ((rd_T33 l0_2 0).f1) _ _ ((rd_T33 l0_2 0).f2) 5 t143 _ ?side1 ?side2 ?side3 ?side4 A24.out).mono ?_); (case side1 => have X_ := HR142_1; exact cbl); (case side2 => exact HC142_1.out); (case side3 => have X_ := HR142_2; exact cbl); (case side4 => exact HC142_2.out); rintro e w26 ⟨rfl, hb⟩; have n0_ := am (blk_below (g := gb137) bkw hb); have n1_ := am (below_step blw hb); clear BK137; clear HB; revert n0_ n1_; intro BK137 HB; (try clear hb); (try clear hb2); (try clear hk); (try clear hi)))
    go_meet
    case rel => exact ⟨_, (t143), rfs, H', ⟨by have := HK1.out; first | omega | exact Nat.le_refl _⟩, ⟨bkw⟩, ⟨blw⟩⟩
   case rest =>
    clear HC19
    (try clear c1); (try clear p1); (try clear q1); (try clear hx1); (try clear qi1); (try clear c2); (try clear p2 p2); (try clear c3); (try clear c3b0); (try clear c4); (try clear c4b0); (try clear c6); (try clear p6); (try clear c9); (try clear c10); (try clear c10b0); (try clear c10b1); (try clear c11); (try clear c11b0); (try clear c11b1); (try clear c11b2); (try clear c13); (try clear p13); (try clear q13); (try clear hx13); (try clear c14); (try clear p14); (try clear q14); (try clear hx14); (try clear qi14); (try clear c21); (try clear c21b0); (try clear c21b1); (try clear c22); (try clear c22b0); (try clear c22b1); (try clear c23); (try clear c23b0); (try clear c23b1); (try clear hcz15_0 hcz15_1 hcz15_2); (try clear hcz17_0 hcz17_1 hcz17_2); (try clear hcz18_0 hcz18_1 hcz18_2); (try clear hcz20_0 hcz20_1 hcz20_2); (try clear hcz25_0 hcz25_1 hcz25_2); (try clear hcz27_0 hcz27_1 hcz27_2); (try clear hcz28_0 hcz28_1 hcz28_2); (try clear hcz7_0 hcz7_1 hcz7_2); (try clear hfz15_0 hfz15_1 hfz15_2); (try clear hfz17_0 hfz17_1 hfz17_2); (try clear hfz18_0 hfz18_1 hfz18_2); (try clear hfz20_0 hfz20_1 hfz20_2); (try clear hfz25_0 hfz25_1 hfz25_2); (try clear hfz27_0 hfz27_1 hfz27_2); (try clear hfz28_0 hfz28_1 hfz28_2); (try clear hfz7_0 hfz7_1 hfz7_2); (try clear hx138_0 hx138_1 hx138_2); (try clear hx142_0 hx142_1 hx142_2); (try clear p138); (try clear p142); (try clear q138); (try clear q142)
    obtain ⟨kq, x54_18, rfl, HA, HJ18, BK137, HB⟩ := hcut
    cases kq with
    | zero => exact absurd HA.out (by simp [spec_l3Form.j1])
    | succ kj18 =>
     have H := HA.out
     clear HA
     simp only [spec_l3Form.j1] at H
     by_cases c29 : x54_18 = true
     ·subst c29
      have H1 : (some false) = some r := by rw [if_pos rfl] at H; exact H
      clear H
      have H := H1
      clear H1
      obtain rfl := Option.some.inj H
      go_wp2
      go_ret
      exact ⟨rfw, blw⟩
     replace c29 := Bool.eq_false_iff.mpr c29
     subst c29
     have H1 : (if a0_0 = 1 then (spec_l3Form.j2 kj18 (-1) a0_0 (a0_0 == 1) a0_0 l0_1 l0_2) else (spec_l3Form.j2 kj18 (-1) a0_0 (a0_0 == 2) a0_0 l0_1 l0_2)) = some r := by rw [if_neg (show ¬ (false = true) by decide)] at H; exact H
     clear H
     have H := H1
     clear H1
     have HC30 := am H
     clear H
     obtain ⟨hcz31_0, hcz31_1, hcz31_2⟩ := cls3 BK137.out
     obtain ⟨hfz31_0, hfz31_1, hfz31_2⟩ := frz3 BK137.out
     go_upto_if 57 with (fail)
     go_cut [57] (fun v57 wc => ∃ (kq : Nat) (x57_29 : Bool), v57 = .bool x57_29 ∧ Aside0 (spec_l3Form.j2 kq (-1) a0_0 x57_29 a0_0 l0_1 l0_2 = some r) ∧ Aside0 (kq ≤ kj18) ∧ Aside0 (wc.heap[gb137]? = some (.cells #[.int .i64 a0_0, (.slice A0_1 l0_1.length c0_1), (.slice A0_2 l0_2.length c0_2)] 33 (0, 0))) ∧ Aside0 (Below w.heap.size w wc))
     case first =>
      have H := HC30.out
      clear HC30
      by_cases c32 : a0_0 = 1
      case neg =>
       rw [if_neg c32] at H
       have c32b0 : (a0_0 == 1) = false := beq_eq_false_iff_ne.mpr c32
       have c32b1 : (a0_0 != 1) = true := bne_iff_ne.mpr c32
       (first | rw [c32b0] | (simp only [i64_w, i32_w]; rw [c32b0]) | (rw [c32b1]; (try simp only [Bool.not_true, Bool.not_false])) | skip)
       have H' := am H
       clear H
       go_wp2
       go_meet
       case rel => exact ⟨_, ((a0_0 == 2)), rfs, H', ⟨by have := HK1.out; have := HJ18.out; first | omega | exact Nat.le_refl _⟩, ⟨bkw⟩, ⟨blw⟩⟩
      rw [if_pos c32] at H
      have c32b0 : (a0_0 == 1) = true := beq_iff_eq.mpr c32
      have c32b1 : (a0_0 != 1) = false := bne_eq_false_iff_eq.mpr c32
      clear c32
      (first | rw [c32b0] | (simp only [i64_w, i32_w]; rw [c32b0]) | (rw [c32b1]; (try simp only [Bool.not_true, Bool.not_false])) | skip)
      have H' := am H
      clear H
      go_wp2
      go_meet
      case rel => exact ⟨_, ((a0_0 == 1)), rfs, H', ⟨by have := HK1.out; have := HJ18.out; first | omega | exact Nat.le_refl _⟩, ⟨bkw⟩, ⟨blw⟩⟩
     case rest =>
      clear HC30
      (try clear c1); (try clear p1 p1); (try clear q1 q1); (try clear hx1); (try clear qi1); (try clear c2); (try clear p2 p2); (try clear c3); (try clear c3b0); (try clear c4); (try clear c4b0); (try clear c6); (try clear p6 p6); (try clear c9); (try clear c10); (try clear c10b0); (try clear c10b1); (try clear c11); (try clear c11b0); (try clear c11b1); (try clear c11b2); (try clear c13); (try clear p13 p13); (try clear q13 q13); (try clear hx13); (try clear c14); (try clear p14 p14); (try clear q14 q14); (try clear hx14); (try clear qi14); (try clear c21); (try clear c21b0); (try clear c21b1); (try clear c22); (try clear c22b0); (try clear c22b1); (try clear c23); (try clear c23b0); (try clear c23b1); (try clear c29); (try clear c32); (try clear c32b0); (try clear c32b1); (try clear hcz15_0 hcz15_1 hcz15_2); (try clear hcz17_0 hcz17_1 hcz17_2); (try clear hcz18_0 hcz18_1 hcz18_2); (try clear hcz20_0 hcz20_1 hcz20_2); (try clear hcz25_0 hcz25_1 hcz25_2); (try clear hcz27_0 hcz27_1 hcz27_2); (try clear hcz28_0 hcz28_1 hcz28_2); (try clear hcz31_0 hcz31_1 hcz31_2); (try clear hcz7_0 hcz7_1 hcz7_2); (try clear hfz15_0 hfz15_1 hfz15_2); (try clear hfz17_0 hfz17_1 hfz17_2); (try clear hfz18_0 hfz18_1 hfz18_2); (try clear hfz20_0 hfz20_1 hfz20_2); (try clear hfz25_0 hfz25_1 hfz25_2); (try clear hfz27_0 hfz27_1 hfz27_2); (try clear hfz28_0 hfz28_1 hfz28_2); (try clear hfz31_0 hfz31_1 hfz31_2); (try clear hfz7_0 hfz7_1 hfz7_2); (try clear hx138_0 hx138_1 hx138_2); (try clear hx142_0 hx142_1 hx142_2); (try clear p138); (try clear p142); (try clear q138); (try clear q142)
      obtain ⟨kq, x57_29, rfl, HA, HJ29, BK137, HB⟩ := hcut
      cases kq with
      | zero => exact absurd HA.out (by simp [spec_l3Form.j2])
      | succ kj29 =>
       have H := HA.out
       clear HA
       simp only [spec_l3Form.j2] at H
       by_cases c33 : x57_29 = true
       ·subst c33
        have H1 : (if (l0_1.length : Int) = 0 then (some ((l0_2.length : Int) == 0)) else (some false)) = some r := by rw [if_pos rfl] at H; exact H
        clear H
        have H := H1
        clear H1
        by_cases c34 : (l0_1.length : Int) = 0
        ·rw [if_pos c34] at H
         have c34b0 : ((l0_1.length : Int) == 0) = true := beq_iff_eq.mpr c34
         have c34b1 : ((l0_1.length : Int) != 0) = false := bne_eq_false_iff_eq.mpr c34
         clear c34
         obtain rfl := Option.some.inj H
         obtain ⟨hcz35_0, hcz35_1, hcz35_2⟩ := cls3 BK137.out
         obtain ⟨hfz35_0, hfz35_1, hfz35_2⟩ := frz3 BK137.out
         go_wp2
         go_ret
         exact ⟨rfw, blw⟩
        rw [if_neg c34] at H
        have c34b0 : ((l0_1.length : Int) == 0) = false := beq_eq_false_iff_ne.mpr c34
        have c34b1 : ((l0_1.length : Int) != 0) = true := bne_iff_ne.mpr c34
        have c34b2 : ¬ (l0_1 = []) := fun h_ => c34 (by rw [h_]; rfl)
        obtain rfl := Option.some.inj H
        obtain ⟨hcz36_0, hcz36_1, hcz36_2⟩ := cls3 BK137.out
        obtain ⟨hfz36_0, hfz36_1, hfz36_2⟩ := frz3 BK137.out
        go_wp2
        go_ret
        exact ⟨rfw, blw⟩
       replace c33 := Bool.eq_false_iff.mpr c33
       subst c33
       have H1 : (if a0_0 = 4 then (if (l0_1.length : Int) = 0 then (some ((l0_2.length : Int) == 1)) else (some false)) else (if a0_0 = 5 then (if (l0_1.length : Int) = 0 then (some ((l0_2.length : Int) == 2)) else (some false)) else (if (l0_1.length : Int) = 0 then (some ((l0_2.length : Int) == (-1))) else (some false)))) = some r := by rw [if_neg (show ¬ (false = true) by decide)] at H; exact H
       clear H
       have H := H1
       clear H1
       by_cases c37 : a0_0 = 4
       ·rw [if_pos c37] at H
        have c37b0 : (a0_0 == 4) = true := beq_iff_eq.mpr c37
        have c37b1 : (a0_0 != 4) = false := bne_eq_false_iff_eq.mpr c37
        clear c37
        by_cases c38 : (l0_1.length : Int) = 0
        ·rw [if_pos c38] at H
         have c38b0 : ((l0_1.length : Int) == 0) = true := beq_iff_eq.mpr c38
         have c38b1 : ((l0_1.length : Int) != 0) = false := bne_eq_false_iff_eq.mpr c38
         clear c38
         obtain rfl := Option.some.inj H
         obtain ⟨hcz39_0, hcz39_1, hcz39_2⟩ := cls3 BK137.out
         obtain ⟨hfz39_0, hfz39_1, hfz39_2⟩ := frz3 BK137.out
         go_wp2
         go_ret
         exact ⟨rfw, blw⟩
        rw [if_neg c38] at H
        have c38b0 : ((l0_1.length : Int) == 0) = false := beq_eq_false_iff_ne.mpr c38
        have c38b1 : ((l0_1.length : Int) != 0) = true := bne_iff_ne.mpr c38
        have c38b2 : ¬ (l0_1 = []) := fun h_ => c38 (by rw [h_]; rfl)
        obtain rfl := Option.some.inj H
        obtain ⟨hcz40_0, hcz40_1, hcz40_2⟩ := cls3 BK137.out
        obtain ⟨hfz40_0, hfz40_1, hfz40_2⟩ := frz3 BK137.out
        go_wp2
        go_ret
        exact ⟨rfw, blw⟩
       rw [if_neg c37] at H
       have c37b0 : (a0_0 == 4) = false := beq_eq_false_iff_ne.mpr c37
       have c37b1 : (a0_0 != 4) = true := bne_iff_ne.mpr c37
       by_cases c41 : a0_0 = 5
       case neg =>
        rw [if_neg c41] at H
        have c41b0 : (a0_0 == 5) = false := beq_eq_false_iff_ne.mpr c41
        have c41b1 : (a0_0 != 5) = true := bne_iff_ne.mpr c41
        by_cases c45 : (l0_1.length : Int) = 0
        ·rw [if_pos c45] at H
         have c45b0 : ((l0_1.length : Int) == 0) = true := beq_iff_eq.mpr c45
         have c45b1 : ((l0_1.length : Int) != 0) = false := bne_eq_false_iff_eq.mpr c45
         clear c45
         obtain rfl := Option.some.inj H
         obtain ⟨hcz46_0, hcz46_1, hcz46_2⟩ := cls3 BK137.out
         obtain ⟨hfz46_0, hfz46_1, hfz46_2⟩ := frz3 BK137.out
         go_wp2
         go_ret
         exact ⟨rfw, blw⟩
        rw [if_neg c45] at H
        have c45b0 : ((l0_1.length : Int) == 0) = false := beq_eq_false_iff_ne.mpr c45
        have c45b1 : ((l0_1.length : Int) != 0) = true := bne_iff_ne.mpr c45
        have c45b2 : ¬ (l0_1 = []) := fun h_ => c45 (by rw [h_]; rfl)
        obtain rfl := Option.some.inj H
        obtain ⟨hcz47_0, hcz47_1, hcz47_2⟩ := cls3 BK137.out
        obtain ⟨hfz47_0, hfz47_1, hfz47_2⟩ := frz3 BK137.out
        go_wp2
        go_ret
        exact ⟨rfw, blw⟩
       rw [if_pos c41] at H
       have c41b0 : (a0_0 == 5) = true := beq_iff_eq.mpr c41
       have c41b1 : (a0_0 != 5) = false := bne_eq_false_iff_eq.mpr c41
       clear c41
       by_cases c42 : (l0_1.length : Int) = 0
       ·rw [if_pos c42] at H
        have c42b0 : ((l0_1.length : Int) == 0) = true := beq_iff_eq.mpr c42
        have c42b1 : ((l0_1.length : Int) != 0) = false := bne_eq_false_iff_eq.mpr c42
        clear c42
        obtain rfl := Option.some.inj H
        obtain ⟨hcz43_0, hcz43_1, hcz43_2⟩ := cls3 BK137.out
        obtain ⟨hfz43_0, hfz43_1, hfz43_2⟩ := frz3 BK137.out
        go_wp2
        go_ret
        exact ⟨rfw, blw⟩
       rw [if_neg c42] at H
       have c42b0 : ((l0_1.length : Int) == 0) = false := beq_eq_false_iff_ne.mpr c42
       have c42b1 : ((l0_1.length : Int) != 0) = true := bne_iff_ne.mpr c42
       have c42b2 : ¬ (l0_1 = []) := fun h_ => c42 (by rw [h_]; rfl)
       obtain rfl := Option.some.inj H
       obtain ⟨hcz44_0, hcz44_1, hcz44_2⟩ := cls3 BK137.out
       obtain ⟨hfz44_0, hfz44_1, hfz44_2⟩ := frz3 BK137.out
       go_wp2
       go_ret
       exact ⟨rfw, blw⟩

end Go.Proofs.YtgplgphchdgedaaDoor.Px
end
section
namespace Go.Proofs.YtgplgphchdgedaaDoor.Px
open Go.RowKit Go.Proofs.YtgplgphchdgedaaDoor.Ext Go.Proofs.YtgplgphchdgedaaDoorW.PrintWords Go.Proofs.YtgplgphchdgedaaDoorW.PrintLast Go.Proofs.YtgplgphchdgedaaDoorW.PrintMore
attribute [local go_sem] max2_int min2_int max_two min_two max_three min_three max_four min_four   -- for this text's walks alone
set_option linter.unusedVariables false
set_option linter.unusedSimpArgs false

/-! ### spec_IsValidType: function 52 -/
def spec_IsValidType.f (k : Nat) (a0_0 : Int) (l0_1 : List ByteArray) (l0_2 : List (S33)) : Option (Bool) := (spec_l3Left.f k a0_0 l0_1 l0_2 24).bind fun t145 => (if t145 ≥ 0 then ((spec_DepthOfType.f k a0_0 l0_1 l0_2).bind fun t146 => (if t146 ≤ 7 then ((spec_l3Form.f k a0_0 l0_1 l0_2).bind fun t147 => (some t147)) else (some false))) else (some false))
set_option maxHeartbeats 8000000 in
set_option maxRecDepth 100000 in
theorem spec_IsValidType.calls (k : Nat) (a0_0 : Int) (A0_1 : Option Addr) (c0_1 : Nat) (l0_1 : List ByteArray) (A0_2 : Option Addr) (c0_2 : Nat) (l0_2 : List (S33)) (r : Bool) (w : World) (hr0_1 : Kd.C Kd.string w A0_1 l0_1.length l0_1) (hc0_1 : l0_1.length ≤ c0_1) (hr0_2 : Kd.C k33 w A0_2 l0_2.length l0_2) (hc0_2 : l0_2.length ≤ c0_2) (h : spec_IsValidType.f k a0_0 l0_1 l0_2 = some r) :
  Calls Tryd.prog 52 #[.agg #[.int .i64 a0_0, .slice A0_1 l0_1.length c0_1, .slice A0_2 l0_2.length c0_2]] w fun e w' => e = .returned (.bool r) ∧ Below w.heap.size w w' := by
 have hu33 := Tryd.underlying33
 have HR0_1 := am hr0_1
 have HC0_1 := am hc0_1
 clear hr0_1 hc0_1
 have HR0_2 := am hr0_2
 have HC0_2 := am hc0_2
 clear hr0_2 hc0_2
 have HB := am (Below.refl w.heap.size w)
 have H : ((spec_l3Left.f k a0_0 l0_1 l0_2 24).bind fun t145 => (if t145 ≥ 0 then ((spec_DepthOfType.f k a0_0 l0_1 l0_2).bind fun t146 => (if t146 ≤ 7 then ((spec_l3Form.f k a0_0 l0_1 l0_2).bind fun t147 => (some t147)) else (some false))) else (some false))) = some r := h
 clear h
 replace H := Option.bind_eq_some_iff.mp H
 obtain ⟨t145, A20, H⟩ := H
 replace H : (if t145 ≥ 0 then ((spec_DepthOfType.f k a0_0 l0_1 l0_2).bind fun t146 => (if t146 ≤ 7 then ((spec_l3Form.f k a0_0 l0_1 l0_2).bind fun t147 => (some t147)) else (some false))) else (some false)) = some r := H
 have A2 := am A20
 clear A20
 by_cases c3 : t145 ≥ 0
 case neg =>
  rw [if_neg c3] at H
  have c3b0 : decide (0 ≤ t145) = false := decide_eq_false c3
  clear c3
  obtain rfl := Option.some.inj H
  go_enter Tryd.func52, Tryd.ntmps52
  go_wp2_with (first | ((with_reducible refine gate_dst (N := 1) rfl ?_); refine box_event ?hg (N := 1) ?hd (cs := #[.int .i64 a0_0, .slice A0_1 l0_1.length c0_1, .slice A0_2 l0_2.length c0_2]) (t := 33) ?hr ?_; (case hd => rfl); (case hg => rfl); (case hr => exact hrw); intro gb144 hg w19 hbox hb; have n0_ := am (below_step blw hb); have n1_ := am (hbox); have n2_ := am ((by rw [hg]; exact (below_size blw) : w.heap.size ≤ gb144)); have n3_ := n2_; clear HB; revert n0_ n1_ n2_ n3_; intro HB BK144 GW144 GE144; clear hb hbox hg; obtain ⟨hcz20_0, hcz20_1, hcz20_2⟩ := cls3 BK144.out; obtain ⟨hfz20_0, hfz20_1, hfz20_2⟩ := frz3 BK144.out) | ((with_reducible refine gate_callee (f := 62) rfl ?_); refine goesL_ (some 4) rfl rfl Tryd.func62 kr rfl #[.agg #[.int .i64 a0_0, .slice A0_1 l0_1.length c0_1, .slice A0_2 l0_2.length c0_2], .int .i64 24] rfl mpw ?_; (with_reducible refine (spec_l3Left.calls k a0_0 _ _ l0_1 _ _ l0_2 24 t145 _ ?side1 ?side2 ?side3 ?side4 A2.out).mono ?_); (case side1 => have X_ := HR0_1; exact cbl); (case side2 => exact HC0_1.out); (case side3 => have X_ := HR0_2; exact cbl); (case side4 => exact HC0_2.out); rintro e w21 ⟨rfl, hb⟩; refine ⟨_, rfl, ?_⟩; have n0_ := am (blk_below (g := gb144) bkw hb); have n1_ := am (below_step blw hb); clear BK144; clear HB; revert n0_ n1_; intro BK144 HB; (try clear hb); (try clear hb2); (try clear hk); (try clear hi)))
  go_ret
  exact ⟨rfw, blw⟩
 rw [if_pos c3] at H
 have c3b0 : decide (0 ≤ t145) = true := decide_eq_true c3
 clear c3
 replace H := Option.bind_eq_some_iff.mp H
 obtain ⟨t146, A40, H⟩ := H
 replace H : (if t146 ≤ 7 then ((spec_l3Form.f k a0_0 l0_1 l0_2).bind fun t147 => (some t147)) else (some false)) = some r := H
 have A4 := am A40
 clear A40
 by_cases c5 : t146 ≤ 7
 case neg =>
  rw [if_neg c5] at H
  have c5b0 : decide (t146 ≤ 7) = false := decide_eq_false c5
  clear c5
  obtain rfl := Option.some.inj H
  go_enter Tryd.func52, Tryd.ntmps52
  go_wp2_with (first | ((with_reducible refine gate_dst (N := 1) rfl ?_); refine box_event ?hg (N := 1) ?hd (cs := #[.int .i64 a0_0, .slice A0_1 l0_1.length c0_1, .slice A0_2 l0_2.length c0_2]) (t := 33) ?hr ?_; (case hd => rfl); (case hg => rfl); (case hr => exact hrw); intro gb144 hg w14 hbox hb; have n0_ := am (below_step blw hb); have n1_ := am (hbox); have n2_ := am ((by rw [hg]; exact (below_size blw) : w.heap.size ≤ gb144)); have n3_ := n2_; clear HB; revert n0_ n1_ n2_ n3_; intro HB BK144 GW144 GE144; clear hb hbox hg; obtain ⟨hcz15_0, hcz15_1, hcz15_2⟩ := cls3 BK144.out; obtain ⟨hfz15_0, hfz15_1, hfz15_2⟩ := frz3 BK144.out) | ((with_reducible refine gate_callee (f := 62) rfl ?_); refine goesL_ (some 4) rfl rfl Tryd.func62 kr rfl #[.agg #[.int .i64 a0_0, .slice A0_1 l0_1.length c0_1, .slice A0_2 l0_2.length c0_2], .int .i64 24] rfl mpw ?_; (with_reducible refine (spec_l3Left.calls k a0_0 _ _ l0_1 _ _ l0_2 24 t145 _ ?side1 ?side2 ?side3 ?side4 A2.out).mono ?_); (case side1 => have X_ := HR0_1; exact cbl); (case side2 => exact HC0_1.out); (case side3 => have X_ := HR0_2; exact cbl); (case side4 => exact HC0_2.out); rintro e w16 ⟨rfl, hb⟩; refine ⟨_, rfl, ?_⟩; have n0_ := am (blk_below (g := gb144) bkw hb); have n1_ := am (below_step blw hb); clear BK144; clear HB; revert n0_ n1_; intro BK144 HB; (try clear hb); (try clear hb2); (try clear hk); (try clear hi); obtain ⟨hcz17_0, hcz17_1, hcz17_2⟩ := cls3 BK144.out; obtain ⟨hfz17_0, hfz17_1, hfz17_2⟩ := frz3 BK144.out) | (go_at_call 63; (with_reducible refine (spec_DepthOfType.calls k a0_0 _ _ l0_1 _ _ l0_2 t146 _ ?side1 ?side2 ?side3 ?side4 A4.out).mono ?_); (case side1 => have X_ := HR0_1; exact cbl); (case side2 => exact HC0_1.out); (case side3 => have X_ := HR0_2; exact cbl); (case side4 => exact HC0_2.out); rintro e w18 ⟨rfl, hb⟩; have n0_ := am (blk_below (g := gb144) bkw hb); have n1_ := am (below_step blw hb); clear BK144; clear HB; revert n0_ n1_; intro BK144 HB; (try clear hb); (try clear hb2); (try clear hk); (try clear hi)))
  go_ret
  exact ⟨rfw, blw⟩
 rw [if_pos c5] at H
 have c5b0 : decide (t146 ≤ 7) = true := decide_eq_true c5
 clear c5
 replace H := Option.bind_eq_some_iff.mp H
 obtain ⟨t147, A60, H⟩ := H
 replace H : (some t147) = some r := H
 have A6 := am A60
 clear A60
 obtain rfl := Option.some.inj H
 go_enter Tryd.func52, Tryd.ntmps52
 go_wp2_with (first | ((with_reducible refine gate_dst (N := 1) rfl ?_); refine box_event ?hg (N := 1) ?hd (cs := #[.int .i64 a0_0, .slice A0_1 l0_1.length c0_1, .slice A0_2 l0_2.length c0_2]) (t := 33) ?hr ?_; (case hd => rfl); (case hg => rfl); (case hr => exact hrw); intro gb144 hg w7 hbox hb; have n0_ := am (below_step blw hb); have n1_ := am (hbox); have n2_ := am ((by rw [hg]; exact (below_size blw) : w.heap.size ≤ gb144)); have n3_ := n2_; clear HB; revert n0_ n1_ n2_ n3_; intro HB BK144 GW144 GE144; clear hb hbox hg; obtain ⟨hcz8_0, hcz8_1, hcz8_2⟩ := cls3 BK144.out; obtain ⟨hfz8_0, hfz8_1, hfz8_2⟩ := frz3 BK144.out) | ((with_reducible refine gate_callee (f := 62) rfl ?_); refine goesL_ (some 4) rfl rfl Tryd.func62 kr rfl #[.agg #[.int .i64 a0_0, .slice A0_1 l0_1.length c0_1, .slice A0_2 l0_2.length c0_2], .int .i64 24] rfl mpw ?_; (with_reducible refine (spec_l3Left.calls k a0_0 _ _ l0_1 _ _ l0_2 24 t145 _ ?side1 ?side2 ?side3 ?side4 A2.out).mono ?_); (case side1 => have X_ := HR0_1; exact cbl); (case side2 => exact HC0_1.out); (case side3 => have X_ := HR0_2; exact cbl); (case side4 => exact HC0_2.out); rintro e w9 ⟨rfl, hb⟩; refine ⟨_, rfl, ?_⟩; have n0_ := am (blk_below (g := gb144) bkw hb); have n1_ := am (below_step blw hb); clear BK144; clear HB; revert n0_ n1_; intro BK144 HB; (try clear hb); (try clear hb2); (try clear hk); (try clear hi); obtain ⟨hcz10_0, hcz10_1, hcz10_2⟩ := cls3 BK144.out; obtain ⟨hfz10_0, hfz10_1, hfz10_2⟩ := frz3 BK144.out) | (go_at_call 63; (with_reducible refine (spec_DepthOfType.calls k a0_0 _ _ l0_1 _ _ l0_2 t146 _ ?side1 ?side2 ?side3 ?side4 A4.out).mono ?_); (case side1 => have X_ := HR0_1; exact cbl); (case side2 => exact HC0_1.out); (case side3 => have X_ := HR0_2; exact cbl); (case side4 => exact HC0_2.out); rintro e w11 ⟨rfl, hb⟩; have n0_ := am (blk_below (g := gb144) bkw hb); have n1_ := am (below_step blw hb); clear BK144; clear HB; revert n0_ n1_; intro BK144 HB; (try clear hb); (try clear hb2); (try clear hk); (try clear hi); obtain ⟨hcz12_0, hcz12_1, hcz12_2⟩ := cls3 BK144.out; obtain ⟨hfz12_0, hfz12_1, hfz12_2⟩ := frz3 BK144.out) | (go_at_call 64; (with_reducible refine (spec_l3Form.calls k a0_0 _ _ l0_1 _ _ l0_2 t147 _ ?side1 ?side2 ?side3 ?side4 A6.out).mono ?_); (case side1 => have X_ := HR0_1; exact cbl); (case side2 => exact HC0_1.out); (case side3 => have X_ := HR0_2; exact cbl); (case side4 => exact HC0_2.out); rintro e w13 ⟨rfl, hb⟩; have n0_ := am (blk_below (g := gb144) bkw hb); have n1_ := am (below_step blw hb); clear BK144; clear HB; revert n0_ n1_; intro BK144 HB; (try clear hb); (try clear hb2); (try clear hk); (try clear hi)))
 go_ret
 exact ⟨rfw, blw⟩

end Go.Proofs.YtgplgphchdgedaaDoor.Px
end
