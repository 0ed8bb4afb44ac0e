/- Printed by a program of this session: what functions of the translation come to, each contract as it stands. No condition. -/
import Derived.Test.YtgplgphchdgedaaDoorZFormatTermSh
import Derived.Test.YtgplgphchdgedaaDoorZFormatTermPx0M
import Derived.Test.YtgplgphchdgedaaDoorZFormatTermPx10M
namespace Go.Proofs.YtgplgphchdgedaaDoor.Px
open Go.RowKit Go.Proofs.YtgplgphchdgedaaDoor.Ext Go.Proofs.YtgplgphchdgedaaDoorW.PrintWords Go.Proofs.YtgplgphchdgedaaDoorW.PrintLast Go.Proofs.YtgplgphchdgedaaDoorW.PrintMore
attribute [local go_sem] max2_int min2_int max_two min_two max_three min_three max_four min_four   -- for this text's walks alone
set_option linter.unusedVariables false
set_option linter.unusedSimpArgs false

/-! ### spec_l8Long: function 29 -/
def spec_l8Long.f (k : Nat) (a0_0 : Int) (a0_1 : ByteArray) (a0_2 : Int) (a0_3 : Int) (l0_4 : List ByteArray) (l0_5 : List (S33)) (l0_6 : List ByteArray) (l0_7 : List (S36)) (l1 : List ByteArray) : Option (ByteArray) := if a0_0 = 9 then (if 0 < (l1.length : Int) then (if 1 + (rdOf ByteArray.empty l1 0).size ≤ 9223372036854775807 then (if 1 + (rdOf ByteArray.empty l1 0).size + 2 ≤ 9223372036854775807 then (if 1 < (l1.length : Int) then (if 1 + (rdOf ByteArray.empty l1 0).size + 2 + (rdOf ByteArray.empty l1 1).size ≤ 9223372036854775807 then (if 1 + (rdOf ByteArray.empty l1 0).size + 2 + (rdOf ByteArray.empty l1 1).size + 1 ≤ 9223372036854775807 then (some (((((⟨#[40]⟩ : ByteArray) ++ (rdOf ByteArray.empty l1 0)) ++ (⟨#[43, 43]⟩ : ByteArray)) ++ (rdOf ByteArray.empty l1 1)) ++ (⟨#[41]⟩ : ByteArray))) else (none)) else (none)) else (none)) else (none)) else (none)) else (none)) else (if a0_0 = 10 then (if 5 + a0_1.size ≤ 9223372036854775807 then (if 5 + a0_1.size + 2 ≤ 9223372036854775807 then (if 0 < (l1.length : Int) then (if 5 + a0_1.size + 2 + (rdOf ByteArray.empty l1 0).size ≤ 9223372036854775807 then (if 5 + a0_1.size + 2 + (rdOf ByteArray.empty l1 0).size + 1 ≤ 9223372036854775807 then (if 1 < (l1.length : Int) then (if 5 + a0_1.size + 2 + (rdOf ByteArray.empty l1 0).size + 1 + (rdOf ByteArray.empty l1 1).size ≤ 9223372036854775807 then (if 5 + a0_1.size + 2 + (rdOf ByteArray.empty l1 0).size + 1 + (rdOf ByteArray.empty l1 1).size + 1 ≤ 9223372036854775807 then (some (((((((⟨#[40, 102, 111, 114, 32]⟩ : ByteArray) ++ a0_1) ++ (⟨#[60, 45]⟩ : ByteArray)) ++ (rdOf ByteArray.empty l1 0)) ++ (⟨#[32]⟩ : ByteArray)) ++ (rdOf ByteArray.empty l1 1)) ++ (⟨#[41]⟩ : ByteArray))) else (none)) else (none)) else (none)) else (none)) else (none)) else (none)) else (none)) else (none)) else (if a0_0 = 11 then ((spec_Join.f k l1 (⟨#[32]⟩ : ByteArray)).bind fun t209 => (if 4 + t209.size ≤ 9223372036854775807 then (if 4 + t209.size + 1 ≤ 9223372036854775807 then (some (((⟨#[40, 105, 102, 32]⟩ : ByteArray) ++ t209) ++ (⟨#[41]⟩ : ByteArray))) else (none)) else (none))) else (if a0_0 = 13 then (if 2 + a0_1.size ≤ 9223372036854775807 then (if 2 + a0_1.size + 1 ≤ 9223372036854775807 then ((spec_l4Text.f k a0_3 l0_4 l0_5).bind fun t210 => (if 2 + a0_1.size + 1 + t210.size ≤ 9223372036854775807 then (if 2 + a0_1.size + 1 + t210.size + 1 ≤ 9223372036854775807 then (if 0 < (l1.length : Int) then (if 2 + a0_1.size + 1 + t210.size + 1 + (rdOf ByteArray.empty l1 0).size ≤ 9223372036854775807 then (if 2 + a0_1.size + 1 + t210.size + 1 + (rdOf ByteArray.empty l1 0).size + 1 ≤ 9223372036854775807 then (some (((((((⟨#[40, 92]⟩ : ByteArray) ++ a0_1) ++ (⟨#[58]⟩ : ByteArray)) ++ t210) ++ (⟨#[46]⟩ : ByteArray)) ++ (rdOf ByteArray.empty l1 0)) ++ (⟨#[41]⟩ : ByteArray))) else (none)) else (none)) else (none)) else (none)) else (none))) else (none)) else (none)) else (if a0_0 = 14 then ((spec_Join.f k l1 (⟨#[32]⟩ : ByteArray)).bind fun t212 => (if 1 + t212.size ≤ 9223372036854775807 then (if 1 + t212.size + 1 ≤ 9223372036854775807 then (some (((⟨#[40]⟩ : ByteArray) ++ t212) ++ (⟨#[41]⟩ : ByteArray))) else (none)) else (none))) else (if a0_0 = 15 then (if 0 < (l1.length : Int) then (if 7 + (rdOf ByteArray.empty l1 0).size ≤ 9223372036854775807 then (if 7 + (rdOf ByteArray.empty l1 0).size + 1 ≤ 9223372036854775807 then (some (((⟨#[40, 101, 109, 112, 116, 121, 32]⟩ : ByteArray) ++ (rdOf ByteArray.empty l1 0)) ++ (⟨#[41]⟩ : ByteArray))) else (none)) else (none)) else (none)) else (if 0 < (l1.length : Int) then (if 7 + (rdOf ByteArray.empty l1 0).size ≤ 9223372036854775807 then (if 7 + (rdOf ByteArray.empty l1 0).size + 1 ≤ 9223372036854775807 then (some (((⟨#[40, 99, 111, 117, 110, 116, 32]⟩ : ByteArray) ++ (rdOf ByteArray.empty l1 0)) ++ (⟨#[41]⟩ : ByteArray))) else (none)) else (none)) else (none)))))))
def spec_l8Long.T3 : Bool × List (List Nat × List Nat) := (true, [([], []), ([0], [0]), ([1], [1]), ([2], [2]), ([3], [3]), ([], []), ([5], [5]), ([6], [6]), ([4, 7], [4, 7]), ([8], [8]), ([9, 0, 1, 2, 3, 4, 5, 6, 7, 8, 9], [9])])
def spec_l8Long.B3 : List Nat := [0, 1, 3, 7, 15, 0, 32, 96, 255, 511, 1023]
theorem spec_l8Long.tab3 : rtab .any (opsOf Tryd.f29 3) = spec_l8Long.T3 := by kernel_rfl
theorem spec_l8Long.bits3 : waitsOk spec_l8Long.T3.2 spec_l8Long.B3 = true := by kernel_rfl
def spec_l8Long.T5 : Bool × List (List Nat × List Nat) := (true, [([], []), ([0], [0]), ([1], [1]), ([2], [2]), ([], []), ([4], [4]), ([5], [5]), ([3, 6], [3, 6]), ([7], [7]), ([], []), ([9], [9]), ([10], [10]), ([8, 11], [8, 11]), ([12], [12]), ([13, 0, 1, 2, 3, 4, 5, 6, 7, 8, 9, 10, 11, 12, 13], [13])])
def spec_l8Long.B5 : List Nat := [0, 1, 3, 7, 0, 16, 48, 127, 255, 0, 512, 1536, 4095, 8191, 16383]
theorem spec_l8Long.tab5 : rtab .any (opsOf Tryd.f29 5) = spec_l8Long.T5 := by kernel_rfl
theorem spec_l8Long.bits5 : waitsOk spec_l8Long.T5.2 spec_l8Long.B5 = true := by kernel_rfl
def spec_l8Long.T9 : Bool × List (List Nat × List Nat) := (true, [([], []), ([0], [0]), ([1], [1]), ([2], [2]), ([], []), ([4], [4]), ([5], [5]), ([3, 6], [3, 6]), ([7], [7]), ([], []), ([9], [9]), ([10], [10]), ([8, 11], [8, 11]), ([12], [12]), ([13, 6, 0, 1, 2, 3, 4, 5, 6, 7, 8, 9, 10, 11, 12, 13], [13])])
def spec_l8Long.B9 : List Nat := [0, 1, 3, 7, 0, 16, 48, 127, 255, 0, 512, 1536, 4095, 8191, 16383]
theorem spec_l8Long.tab9 : rtab .any (opsOf Tryd.f29 9) = spec_l8Long.T9 := by kernel_rfl
theorem spec_l8Long.bits9 : waitsOk spec_l8Long.T9.2 spec_l8Long.B9 = true := by kernel_rfl
set_option maxHeartbeats 8000000 in
set_option maxRecDepth 100000 in
theorem spec_l8Long.calls (k : Nat) (a0_0 : Int) (a0_1 : ByteArray) (a0_2 : Int) (a0_3 : Int) (A0_4 : Option Addr) (c0_4 : Nat) (l0_4 : List ByteArray) (A0_5 : Option Addr) (c0_5 : Nat) (l0_5 : List (S33)) (A0_6 : Option Addr) (c0_6 : Nat) (l0_6 : List ByteArray) (A0_7 : Option Addr) (c0_7 : Nat) (l0_7 : List (S36)) (A1 : Option Addr) (c1 : Nat) (l1 : List ByteArray) (r : ByteArray) (w : World) (hr0_4 : Kd.C Kd.string w A0_4 l0_4.length l0_4) (hc0_4 : l0_4.length ≤ c0_4) (hr0_5 : Kd.C k33 w A0_5 l0_5.length l0_5) (hc0_5 : l0_5.length ≤ c0_5) (hr0_6 : Kd.C Kd.string w A0_6 l0_6.length l0_6) (hc0_6 : l0_6.length ≤ c0_6) (hr0_7 : Kd.C k36 w A0_7 l0_7.length l0_7) (hc0_7 : l0_7.length ≤ c0_7) (hr1 : Kd.C Kd.string w A1 l1.length l1) (hc1 : l1.length ≤ c1) (h : spec_l8Long.f k a0_0 a0_1 a0_2 a0_3 l0_4 l0_5 l0_6 l0_7 l1 = some r) :
  Calls Tryd.prog 29 #[.agg #[.int .i64 a0_0, .string a0_1, .int .i64 a0_2, .int .i64 a0_3, .slice A0_4 l0_4.length c0_4, .slice A0_5 l0_5.length c0_5, .slice A0_6 l0_6.length c0_6, .slice A0_7 l0_7.length c0_7], .slice A1 l1.length c1] w fun e w' => e = .returned (.string r) ∧ Below w.heap.size w w' := by
 have hu36 := Tryd.underlying36
 have hu33 := Tryd.underlying33
 have HR0_4 := am hr0_4
 have HC0_4 := am hc0_4
 clear hr0_4 hc0_4
 have HR0_5 := am hr0_5
 have HC0_5 := am hc0_5
 clear hr0_5 hc0_5
 have HR0_6 := am hr0_6
 have HC0_6 := am hc0_6
 clear hr0_6 hc0_6
 have HR0_7 := am hr0_7
 have HC0_7 := am hc0_7
 clear hr0_7 hc0_7
 have HR1 := am hr1
 have HC1 := am hc1
 clear hr1 hc1
 have HB := am (Below.refl w.heap.size w)
 have H : (if a0_0 = 9 then (if 0 < (l1.length : Int) then (if 1 + (rdOf ByteArray.empty l1 0).size ≤ 9223372036854775807 then (if 1 + (rdOf ByteArray.empty l1 0).size + 2 ≤ 9223372036854775807 then (if 1 < (l1.length : Int) then (if 1 + (rdOf ByteArray.empty l1 0).size + 2 + (rdOf ByteArray.empty l1 1).size ≤ 9223372036854775807 then (if 1 + (rdOf ByteArray.empty l1 0).size + 2 + (rdOf ByteArray.empty l1 1).size + 1 ≤ 9223372036854775807 then (some (((((⟨#[40]⟩ : ByteArray) ++ (rdOf ByteArray.empty l1 0)) ++ (⟨#[43, 43]⟩ : ByteArray)) ++ (rdOf ByteArray.empty l1 1)) ++ (⟨#[41]⟩ : ByteArray))) else (none)) else (none)) else (none)) else (none)) else (none)) else (none)) else (if a0_0 = 10 then (if 5 + a0_1.size ≤ 9223372036854775807 then (if 5 + a0_1.size + 2 ≤ 9223372036854775807 then (if 0 < (l1.length : Int) then (if 5 + a0_1.size + 2 + (rdOf ByteArray.empty l1 0).size ≤ 9223372036854775807 then (if 5 + a0_1.size + 2 + (rdOf ByteArray.empty l1 0).size + 1 ≤ 9223372036854775807 then (if 1 < (l1.length : Int) then (if 5 + a0_1.size + 2 + (rdOf ByteArray.empty l1 0).size + 1 + (rdOf ByteArray.empty l1 1).size ≤ 9223372036854775807 then (if 5 + a0_1.size + 2 + (rdOf ByteArray.empty l1 0).size + 1 + (rdOf ByteArray.empty l1 1).size + 1 ≤ 9223372036854775807 then (some (((((((⟨#[40, 102, 111, 114, 32]⟩ : ByteArray) ++ a0_1) ++ (⟨#[60, 45]⟩ : ByteArray)) ++ (rdOf ByteArray.empty l1 0)) ++ (⟨#[32]⟩ : ByteArray)) ++ (rdOf ByteArray.empty l1 1)) ++ (⟨#[41]⟩ : ByteArray))) else (none)) else (none)) else (none)) else (none)) else (none)) else (none)) else (none)) else (none)) else (if a0_0 = 11 then ((spec_Join.f k l1 (⟨#[32]⟩ : ByteArray)).bind fun t209 => (if 4 + t209.size ≤ 9223372036854775807 then (if 4 + t209.size + 1 ≤ 9223372036854775807 then (some (((⟨#[40, 105, 102, 32]⟩ : ByteArray) ++ t209) ++ (⟨#[41]⟩ : ByteArray))) else (none)) else (none))) else (if a0_0 = 13 then (if 2 + a0_1.size ≤ 9223372036854775807 then (if 2 + a0_1.size + 1 ≤ 9223372036854775807 then ((spec_l4Text.f k a0_3 l0_4 l0_5).bind fun t210 => (if 2 + a0_1.size + 1 + t210.size ≤ 9223372036854775807 then (if 2 + a0_1.size + 1 + t210.size + 1 ≤ 9223372036854775807 then (if 0 < (l1.length : Int) then (if 2 + a0_1.size + 1 + t210.size + 1 + (rdOf ByteArray.empty l1 0).size ≤ 9223372036854775807 then (if 2 + a0_1.size + 1 + t210.size + 1 + (rdOf ByteArray.empty l1 0).size + 1 ≤ 9223372036854775807 then (some (((((((⟨#[40, 92]⟩ : ByteArray) ++ a0_1) ++ (⟨#[58]⟩ : ByteArray)) ++ t210) ++ (⟨#[46]⟩ : ByteArray)) ++ (rdOf ByteArray.empty l1 0)) ++ (⟨#[41]⟩ : ByteArray))) else (none)) else (none)) else (none)) else (none)) else (none))) else (none)) else (none)) else (if a0_0 = 14 then ((spec_Join.f k l1 (⟨#[32]⟩ : ByteArray)).bind fun t212 => (if 1 + t212.size ≤ 9223372036854775807 then (if 1 + t212.size + 1 ≤ 9223372036854775807 then (some (((⟨#[40]⟩ : ByteArray) ++ t212) ++ (⟨#[41]⟩ : ByteArray))) else (none)) else (none))) else (if a0_0 = 15 then (if 0 < (l1.length : Int) then (if 7 + (rdOf ByteArray.empty l1 0).size ≤ 9223372036854775807 then (if 7 + (rdOf ByteArray.empty l1 0).size + 1 ≤ 9223372036854775807 then (some (((⟨#[40, 101, 109, 112, 116, 121, 32]⟩ : ByteArray) ++ (rdOf ByteArray.empty l1 0)) ++ (⟨#[41]⟩ : ByteArray))) else (none)) else (none)) else (none)) else (if 0 < (l1.length : Int) then (if 7 + (rdOf ByteArray.empty l1 0).size ≤ 9223372036854775807 then (if 7 + (rdOf ByteArray.empty l1 0).size + 1 ≤ 9223372036854775807 then (some (((⟨#[40, 99, 111, 117, 110, 116, 32]⟩ : ByteArray) ++ (rdOf ByteArray.empty l1 0)) ++ (⟨#[41]⟩ : ByteArray))) else (none)) else (none)) else (none)))))))) = some r := h
 clear h
 by_cases c3 : a0_0 = 9
 ·rw [if_pos c3] at H
  have c3b0 : (a0_0 == 9) = true := beq_iff_eq.mpr c3
  have c3b1 : (a0_0 != 9) = false := bne_eq_false_iff_eq.mpr c3
  clear c3
  by_cases c4 : 0 < (l1.length : Int)
  case neg =>
   rw [if_neg c4] at H
   exact absurd H (by simp)
  rw [if_pos c4] at H
  have c4b0 : decide (0 < (l1.length : Int)) = true := decide_eq_true c4
  have c4b1 : decide (0 < l1.length) = true := decide_eq_true (by omega)
  clear c4
  by_cases c5 : 1 + (rdOf ByteArray.empty l1 0).size ≤ 9223372036854775807
  case neg =>
   rw [if_neg c5] at H
   exact absurd H (by simp)
  rw [if_pos c5] at H
  have c5b0 := eq_true c5
  have c5b1 : decide (1 + (rdOf ByteArray.empty l1 0).size ≤ 9223372036854775807) = true := decide_eq_true c5
  try have c5b2 : (9223372036854775807 < 1 + (rdOf ByteArray.empty l1 0).size) = False := eq_false (Nat.not_lt.2 c5)
  by_cases c6 : 1 + (rdOf ByteArray.empty l1 0).size + 2 ≤ 9223372036854775807
  case neg =>
   rw [if_neg c6] at H
   exact absurd H (by simp)
  rw [if_pos c6] at H
  have c6b0 := eq_true c6
  have c6b1 : decide (1 + (rdOf ByteArray.empty l1 0).size + 2 ≤ 9223372036854775807) = true := decide_eq_true c6
  try have c6b2 : (9223372036854775807 < 1 + (rdOf ByteArray.empty l1 0).size + 2) = False := eq_false (Nat.not_lt.2 c6)
  by_cases c7 : 1 < (l1.length : Int)
  case neg =>
   rw [if_neg c7] at H
   exact absurd H (by simp)
  rw [if_pos c7] at H
  have c7b0 : decide (1 < (l1.length : Int)) = true := decide_eq_true c7
  have c7b1 : decide (1 < l1.length) = true := decide_eq_true (by omega)
  clear c7
  by_cases c8 : 1 + (rdOf ByteArray.empty l1 0).size + 2 + (rdOf ByteArray.empty l1 1).size ≤ 9223372036854775807
  case neg =>
   rw [if_neg c8] at H
   exact absurd H (by simp)
  rw [if_pos c8] at H
  have c8b0 := eq_true c8
  have c8b1 : decide (1 + (rdOf ByteArray.empty l1 0).size + 2 + (rdOf ByteArray.empty l1 1).size ≤ 9223372036854775807) = true := decide_eq_true c8
  try have c8b2 : (9223372036854775807 < 1 + (rdOf ByteArray.empty l1 0).size + 2 + (rdOf ByteArray.empty l1 1).size) = False := eq_false (Nat.not_lt.2 c8)
  by_cases c9 : 1 + (rdOf ByteArray.empty l1 0).size + 2 + (rdOf ByteArray.empty l1 1).size + 1 ≤ 9223372036854775807
  case neg =>
   rw [if_neg c9] at H
   exact absurd H (by simp)
  rw [if_pos c9] at H
  have c9b0 := eq_true c9
  have c9b1 : decide (1 + (rdOf ByteArray.empty l1 0).size + 2 + (rdOf ByteArray.empty l1 1).size + 1 ≤ 9223372036854775807) = true := decide_eq_true c9
  try have c9b2 : (9223372036854775807 < 1 + (rdOf ByteArray.empty l1 0).size + 2 + (rdOf ByteArray.empty l1 1).size + 1) = False := eq_false (Nat.not_lt.2 c9)
  obtain rfl := Option.some.inj H
  go_enter Tryd.func29, Tryd.ntmps29
  try go_wp2_with (first | ((with_reducible refine gate_dst (N := 2) rfl ?_); refine box_event ?hg (N := 2) ?hd (cs := #[.int .i64 a0_0, .string a0_1, .int .i64 a0_2, .int .i64 a0_3, .slice A0_4 l0_4.length c0_4, .slice A0_5 l0_5.length c0_5, .slice A0_6 l0_6.length c0_6, .slice A0_7 l0_7.length c0_7]) (t := 36) ?hr ?_; (case hd => rfl); (case hg => rfl); (case hr => exact hrw); intro gb204 hg w10 hbox hb; have n0_ := am (below_step blw hb); have n1_ := am (hbox); have n2_ := am ((by rw [hg]; exact (below_size blw) : w.heap.size ≤ gb204)); have n3_ := n2_; clear HB; revert n0_ n1_ n2_ n3_; intro HB BK204 GW204 GE204; clear hb hbox hg; obtain ⟨hcz11_0, hcz11_1, hcz11_2, hcz11_3, hcz11_4, hcz11_5, hcz11_6, hcz11_7⟩ := cls8 BK204.out; obtain ⟨hfz11_0, hfz11_1, hfz11_2, hfz11_3, hfz11_4, hfz11_5, hfz11_6, hfz11_7⟩ := frz8 BK204.out))
  have n0_ := am (blk_drew BK204.out)
  have n1_ := am (below_drew1 HB.out)
  clear BK204
  clear HB
  revert n0_ n1_
  intro BK204 HB
  have p205 : 0 ≤ (0 : Int) := (by omega)
  have q205 : 0 < (l1.length : Int) := of_decide_eq_true asw
  obtain ⟨ad205, e205, hx205_0⟩ := Kd.at_string HR1.out 0 p205 q205
  have hw205_0 := hx205_0
  (try rw [show ((0 : Int)).toNat = 0 from rfl] at hw205_0)
  (try rw [show 0 * 1 = 0 from rfl] at hw205_0)
  (try rw [Addr.add_zero'] at hw205_0)
  cases e205
  have qi205 : (0 < l1.length) = True := eq_true (by omega)
  (try rw [show ((0 : Int)).toNat = 0 from rfl] at hx205_0)
  (try rw [Addr.add_zero'] at hx205_0)
  replace hx205_0 := upw HB.out hx205_0
  replace p205 := eq_true p205
  replace q205 := eq_true q205
  have p206 : 0 ≤ (1 : Int) := (by omega)
  have q206 : 1 < (l1.length : Int) := of_decide_eq_true asw
  obtain ⟨ad206, e206, hx206_0⟩ := Kd.at_string HR1.out 1 p206 q206
  have hw206_0 := hx206_0
  (try rw [show ((1 : Int)).toNat = 1 from rfl] at hw206_0)
  (try rw [show 1 * 1 = 1 from rfl] at hw206_0)
  (try simp only [Nat.reduceMul, Nat.reduceEqDiff, Go.Addr.add, ↓reduceIte] at hw206_0)
  obtain rfl : ad205 = ad206 := (by injection e206)
  (try simp only [show (1 : Int).toNat = 1 from rfl, Nat.reduceMul, Nat.reduceEqDiff, Go.Addr.add, ↓reduceIte] at hx206_0)
  have qi206 : (1 < l1.length) = True := eq_true (by omega)
  (try rw [show ((1 : Int)).toNat = 1 from rfl] at hx206_0)
  replace hx206_0 := upw HB.out hx206_0
  replace p206 := eq_true p206
  replace q206 := eq_true q206
  refine start_ (n := 11) (S := fun w' => w'.cell? ad205 = some (.string (rdOf ByteArray.empty l1 0)) ∧ w'.cell? ⟨ad205.block, ad205.off + 1, none⟩ = some (.string (rdOf ByteArray.empty l1 1))) (ds := []) #[false,false,false,false,false,false,false,false,false,false,false] kr rfl rfl ⟨((upw HB.out hw205_0 : _)), ((upw HB.out hw206_0 : _))⟩ (fun hHeld => ?_); refine with_tabW spec_l8Long.tab3 spec_l8Long.bits3 (fun HT_ HW_ => ?_)
  generalize w10.drew = w12 at BK204 HB hx205_0 hx206_0 hHeld ⊢
  refine pure_ (i := 0) (N := some 9) (v := ?_) (a' := ?_) (bm 11 1) rfl rfl (any_of HT_.out kr) qi (Or.inl ⟨by rfl, ?_⟩) ?_ ?_
  rotate_left
  ·intro w'
   go_simp
   with_reducible rfl
  rotate_left
  ·simp only [sx]
   rfl
  refine pure_ (i := 1) (N := some 10) (v := ?_) (a' := ?_) (bm 11 3) rfl rfl (any_of HT_.out kr) qi (Or.inl ⟨by rfl, ?_⟩) ?_ ?_
  rotate_left
  ·intro w'
   go_simp
   with_reducible rfl
  rotate_left
  ·simp only [sx]
   rfl
  refine pure_ (i := 5) (N := some 14) (v := ?_) (a' := ?_) (bm 11 35) rfl rfl (any_of HT_.out kr) qi (Or.inl ⟨by rfl, ?_⟩) ?_ ?_
  rotate_left
  ·intro w'
   go_simp
   with_reducible rfl
  rotate_left
  ·simp only [sx]
   rfl
  refine pure_ (i := 6) (N := some 15) (v := ?_) (a' := ?_) (bm 11 99) rfl rfl (any_of HT_.out kr) qi (Or.inl ⟨by rfl, ?_⟩) ?_ ?_
  rotate_left
  ·intro w'
   go_simp
   with_reducible rfl
  rotate_left
  ·simp only [sx]
   rfl
  refine take_ (i := 2) (N := some 11) (v := ?_) (a' := ?_) (bm 11 103) rfl rfl (take_ofW HT_.out HW_.out kr) qi (Or.inl ⟨by rfl, ?_⟩) hHeld ?_ ?_
  rotate_left
  ·rintro w' ⟨s0, s1⟩
   go_simp
   with_reducible rfl
  rotate_left
  ·simp only [sx]
   rfl
  refine pure_ (i := 3) (N := some 12) (v := ?_) (a' := ?_) (bm 11 111) rfl rfl (any_of HT_.out kr) qi (Or.inl ⟨by rfl, ?_⟩) ?_ ?_
  rotate_left
  ·intro w'
   go_simp
   with_reducible rfl
  rotate_left
  ·simp only [sx]
   rfl
  refine pure_ (i := 4) (N := some 13) (v := ?_) (a' := ?_) (bm 11 127) rfl rfl (any_of HT_.out kr) qi (Or.inl ⟨by rfl, ?_⟩) ?_ ?_
  rotate_left
  ·intro w'
   go_simp
   with_reducible rfl
  rotate_left
  ·simp only [sx]
   rfl
  refine take_ (i := 7) (N := some 16) (v := ?_) (a' := ?_) (bm 11 255) rfl rfl (take_ofW HT_.out HW_.out kr) qi (Or.inl ⟨by rfl, ?_⟩) hHeld ?_ ?_
  rotate_left
  ·rintro w' ⟨s0, s1⟩
   go_simp
   with_reducible rfl
  rotate_left
  ·simp only [sx]
   rfl
  refine pure_ (i := 8) (N := some 17) (v := ?_) (a' := ?_) (bm 11 511) rfl rfl (any_of HT_.out kr) qi (Or.inl ⟨by rfl, ?_⟩) ?_ ?_
  rotate_left
  ·intro w'
   go_simp
   with_reducible rfl
  rotate_left
  ·simp only [sx]
   rfl
  refine pure_ (i := 9) (N := some 18) (v := ?_) (a' := ?_) (bm 11 1023) rfl rfl (any_of HT_.out kr) qi (Or.inl ⟨by rfl, ?_⟩) ?_ ?_
  rotate_left
  ·intro w'
   go_simp
   with_reducible rfl
  rotate_left
  ·simp only [sx]
   rfl
  refine pure_ (i := 10) (N := some 4) (v := ?_) (a' := ?_) (bm 11 2047) rfl rfl (any_of HT_.out kr) qi (Or.inl ⟨by rfl, ?_⟩) ?_ ?_
  rotate_left
  ·intro w'
   go_simp
   with_reducible rfl
  rotate_left
  ·simp only [sx]
   rfl
  refine done_ (done_of HT_.out kr) ?_
  try go_wp2
  go_ret
  exact ⟨rfw, blw⟩
 rw [if_neg c3] at H
 have c3b0 : (a0_0 == 9) = false := beq_eq_false_iff_ne.mpr c3
 have c3b1 : (a0_0 != 9) = true := bne_iff_ne.mpr c3
 by_cases c13 : a0_0 = 10
 ·rw [if_pos c13] at H
  have c13b0 : (a0_0 == 10) = true := beq_iff_eq.mpr c13
  have c13b1 : (a0_0 != 10) = false := bne_eq_false_iff_eq.mpr c13
  clear c13
  by_cases c14 : 5 + a0_1.size ≤ 9223372036854775807
  case neg =>
   rw [if_neg c14] at H
   exact absurd H (by simp)
  rw [if_pos c14] at H
  have c14b0 := eq_true c14
  have c14b1 : decide (5 + a0_1.size ≤ 9223372036854775807) = true := decide_eq_true c14
  try have c14b2 : (9223372036854775807 < 5 + a0_1.size) = False := eq_false (Nat.not_lt.2 c14)
  by_cases c15 : 5 + a0_1.size + 2 ≤ 9223372036854775807
  case neg =>
   rw [if_neg c15] at H
   exact absurd H (by simp)
  rw [if_pos c15] at H
  have c15b0 := eq_true c15
  have c15b1 : decide (5 + a0_1.size + 2 ≤ 9223372036854775807) = true := decide_eq_true c15
  try have c15b2 : (9223372036854775807 < 5 + a0_1.size + 2) = False := eq_false (Nat.not_lt.2 c15)
  by_cases c16 : 0 < (l1.length : Int)
  case neg =>
   rw [if_neg c16] at H
   exact absurd H (by simp)
  rw [if_pos c16] at H
  have c16b0 : decide (0 < (l1.length : Int)) = true := decide_eq_true c16
  have c16b1 : decide (0 < l1.length) = true := decide_eq_true (by omega)
  clear c16
  by_cases c17 : 5 + a0_1.size + 2 + (rdOf ByteArray.empty l1 0).size ≤ 9223372036854775807
  case neg =>
   rw [if_neg c17] at H
   exact absurd H (by simp)
  rw [if_pos c17] at H
  have c17b0 := eq_true c17
  have c17b1 : decide (5 + a0_1.size + 2 + (rdOf ByteArray.empty l1 0).size ≤ 9223372036854775807) = true := decide_eq_true c17
  try have c17b2 : (9223372036854775807 < 5 + a0_1.size + 2 + (rdOf ByteArray.empty l1 0).size) = False := eq_false (Nat.not_lt.2 c17)
  by_cases c18 : 5 + a0_1.size + 2 + (rdOf ByteArray.empty l1 0).size + 1 ≤ 9223372036854775807
  case neg =>
   rw [if_neg c18] at H
   exact absurd H (by simp)
  rw [if_pos c18] at H
  have c18b0 := eq_true c18
  have c18b1 : decide (5 + a0_1.size + 2 + (rdOf ByteArray.empty l1 0).size + 1 ≤ 9223372036854775807) = true := decide_eq_true c18
  try have c18b2 : (9223372036854775807 < 5 + a0_1.size + 2 + (rdOf ByteArray.empty l1 0).size + 1) = False := eq_false (Nat.not_lt.2 c18)
  by_cases c19 : 1 < (l1.length : Int)
  case neg =>
   rw [if_neg c19] at H
   exact absurd H (by simp)
  rw [if_pos c19] at H
  have c19b0 : decide (1 < (l1.length : Int)) = true := decide_eq_true c19
  have c19b1 : decide (1 < l1.length) = true := decide_eq_true (by omega)
  clear c19
  by_cases c20 : 5 + a0_1.size + 2 + (rdOf ByteArray.empty l1 0).size + 1 + (rdOf ByteArray.empty l1 1).size ≤ 9223372036854775807
  case neg =>
   rw [if_neg c20] at H
   exact absurd H (by simp)
  rw [if_pos c20] at H
  have c20b0 := eq_true c20
  have c20b1 : decide (5 + a0_1.size + 2 + (rdOf ByteArray.empty l1 0).size + 1 + (rdOf ByteArray.empty l1 1).size ≤ 9223372036854775807) = true := decide_eq_true c20
  try have c20b2 : (9223372036854775807 < 5 + a0_1.size + 2 + (rdOf ByteArray.empty l1 0).size + 1 + (rdOf ByteArray.empty l1 1).size) = False := eq_false (Nat.not_lt.2 c20)
  by_cases c21 : 5 + a0_1.size + 2 + (rdOf ByteArray.empty l1 0).size + 1 + (rdOf ByteArray.empty l1 1).size + 1 ≤ 9223372036854775807
  case neg =>
   rw [if_neg c21] at H
   exact absurd H (by simp)
  rw [if_pos c21] at H
  have c21b0 := eq_true c21
  have c21b1 : decide (5 + a0_1.size + 2 + (rdOf ByteArray.empty l1 0).size + 1 + (rdOf ByteArray.empty l1 1).size + 1 ≤ 9223372036854775807) = true := decide_eq_true c21
  try have c21b2 : (9223372036854775807 < 5 + a0_1.size + 2 + (rdOf ByteArray.empty l1 0).size + 1 + (rdOf ByteArray.empty l1 1).size + 1) = False := eq_false (Nat.not_lt.2 c21)
  obtain rfl := Option.some.inj H
  go_enter Tryd.func29, Tryd.ntmps29
  try go_wp2_with (first | ((with_reducible refine gate_dst (N := 2) rfl ?_); refine box_event ?hg (N := 2) ?hd (cs := #[.int .i64 a0_0, .string a0_1, .int .i64 a0_2, .int .i64 a0_3, .slice A0_4 l0_4.length c0_4, .slice A0_5 l0_5.length c0_5, .slice A0_6 l0_6.length c0_6, .slice A0_7 l0_7.length c0_7]) (t := 36) ?hr ?_; (case hd => rfl); (case hg => rfl); (case hr => exact hrw); intro gb204 hg w22 hbox hb; have n0_ := am (below_step blw hb); have n1_ := am (hbox); have n2_ := am ((by rw [hg]; exact (below_size blw) : w.heap.size ≤ gb204)); have n3_ := n2_; clear HB; revert n0_ n1_ n2_ n3_; intro HB BK204 GW204 GE204; clear hb hbox hg; obtain ⟨hcz23_0, hcz23_1, hcz23_2, hcz23_3, hcz23_4, hcz23_5, hcz23_6, hcz23_7⟩ := cls8 BK204.out; obtain ⟨hfz23_0, hfz23_1, hfz23_2, hfz23_3, hfz23_4, hfz23_5, hfz23_6, hfz23_7⟩ := frz8 BK204.out))
  have n0_ := am (blk_drew BK204.out)
  have n1_ := am (below_drew1 HB.out)
  clear BK204
  clear HB
  revert n0_ n1_
  intro BK204 HB
  have p207 : 0 ≤ (0 : Int) := (by omega)
  have q207 : 0 < (l1.length : Int) := of_decide_eq_true asw
  obtain ⟨ad207, e207, hx207_0⟩ := Kd.at_string HR1.out 0 p207 q207
  have hw207_0 := hx207_0
  (try rw [show ((0 : Int)).toNat = 0 from rfl] at hw207_0)
  (try rw [show 0 * 1 = 0 from rfl] at hw207_0)
  (try rw [Addr.add_zero'] at hw207_0)
  cases e207
  have qi207 : (0 < l1.length) = True := eq_true (by omega)
  (try rw [show ((0 : Int)).toNat = 0 from rfl] at hx207_0)
  (try rw [Addr.add_zero'] at hx207_0)
  replace hx207_0 := upw HB.out hx207_0
  replace p207 := eq_true p207
  replace q207 := eq_true q207
  have p208 : 0 ≤ (1 : Int) := (by omega)
  have q208 : 1 < (l1.length : Int) := of_decide_eq_true asw
  obtain ⟨ad208, e208, hx208_0⟩ := Kd.at_string HR1.out 1 p208 q208
  have hw208_0 := hx208_0
  (try rw [show ((1 : Int)).toNat = 1 from rfl] at hw208_0)
  (try rw [show 1 * 1 = 1 from rfl] at hw208_0)
  (try simp only [Nat.reduceMul, Nat.reduceEqDiff, Go.Addr.add, ↓reduceIte] at hw208_0)
  obtain rfl : ad207 = ad208 := (by injection e208)
  (try simp only [show (1 : Int).toNat = 1 from rfl, Nat.reduceMul, Nat.reduceEqDiff, Go.Addr.add, ↓reduceIte] at hx208_0)
  have qi208 : (1 < l1.length) = True := eq_true (by omega)
  (try rw [show ((1 : Int)).toNat = 1 from rfl] at hx208_0)
  replace hx208_0 := upw HB.out hx208_0
  replace p208 := eq_true p208
  replace q208 := eq_true q208
  refine start_ (n := 15) (S := fun w' => w'.cell? ⟨gb204, 0, none⟩ = some (.int .i64 a0_0) ∧ w'.cell? ⟨gb204, 1, none⟩ = some (.string a0_1) ∧ w'.cell? ⟨gb204, 2, none⟩ = some (.int .i64 a0_2) ∧ w'.cell? ⟨gb204, 3, none⟩ = some (.int .i64 a0_3) ∧ w'.cell? ⟨gb204, 4, none⟩ = some (.slice A0_4 l0_4.length c0_4) ∧ w'.cell? ⟨gb204, 5, none⟩ = some (.slice A0_5 l0_5.length c0_5) ∧ w'.cell? ⟨gb204, 6, none⟩ = some (.slice A0_6 l0_6.length c0_6) ∧ w'.cell? ⟨gb204, 7, none⟩ = some (.slice A0_7 l0_7.length c0_7) ∧ w'.cell? ad207 = some (.string (rdOf ByteArray.empty l1 0)) ∧ w'.cell? ⟨ad207.block, ad207.off + 1, none⟩ = some (.string (rdOf ByteArray.empty l1 1))) (ds := []) #[false,false,false,false,false,false,false,false,false,false,false,false,false,false,false] kr rfl rfl ⟨(blk_cell BK204.out 0).trans rfl, (blk_cell BK204.out 1).trans rfl, (blk_cell BK204.out 2).trans rfl, (blk_cell BK204.out 3).trans rfl, (blk_cell BK204.out 4).trans rfl, (blk_cell BK204.out 5).trans rfl, (blk_cell BK204.out 6).trans rfl, (blk_cell BK204.out 7).trans rfl, ((upw HB.out hw207_0 : _)), ((upw HB.out hw208_0 : _))⟩ (fun hHeld => ?_); refine with_tabW spec_l8Long.tab5 spec_l8Long.bits5 (fun HT_ HW_ => ?_)
  generalize w22.drew = w24 at BK204 HB hx207_0 hx208_0 hHeld ⊢
  refine pure_ (i := 0) (N := some 21) (v := ?_) (a' := ?_) (bm 15 1) rfl rfl (any_of HT_.out kr) qi (Or.inl ⟨by rfl, ?_⟩) ?_ ?_
  rotate_left
  ·intro w'
   go_simp
   with_reducible rfl
  rotate_left
  ·simp only [sx]
   rfl
  refine pure_ (i := 4) (N := some 25) (v := ?_) (a' := ?_) (bm 15 17) rfl rfl (any_of HT_.out kr) qi (Or.inl ⟨by rfl, ?_⟩) ?_ ?_
  rotate_left
  ·intro w'
   go_simp
   with_reducible rfl
  rotate_left
  ·simp only [sx]
   rfl
  refine pure_ (i := 5) (N := some 26) (v := ?_) (a' := ?_) (bm 15 49) rfl rfl (any_of HT_.out kr) qi (Or.inl ⟨by rfl, ?_⟩) ?_ ?_
  rotate_left
  ·intro w'
   go_simp
   with_reducible rfl
  rotate_left
  ·simp only [sx]
   rfl
  refine pure_ (i := 9) (N := some 30) (v := ?_) (a' := ?_) (bm 15 561) rfl rfl (any_of HT_.out kr) qi (Or.inl ⟨by rfl, ?_⟩) ?_ ?_
  rotate_left
  ·intro w'
   go_simp
   with_reducible rfl
  rotate_left
  ·simp only [sx]
   rfl
  refine pure_ (i := 10) (N := some 31) (v := ?_) (a' := ?_) (bm 15 1585) rfl rfl (any_of HT_.out kr) qi (Or.inl ⟨by rfl, ?_⟩) ?_ ?_
  rotate_left
  ·intro w'
   go_simp
   with_reducible rfl
  rotate_left
  ·simp only [sx]
   rfl
  refine take_ (i := 1) (N := some 22) (v := ?_) (a' := ?_) (bm 15 1587) rfl rfl (take_ofW HT_.out HW_.out kr) qi (Or.inl ⟨by rfl, ?_⟩) hHeld ?_ ?_
  rotate_left
  ·rintro w' ⟨s0, s1, s2, s3, s4, s5, s6, s7, s8, s9⟩
   go_simp
   with_reducible rfl
  rotate_left
  ·simp only [sx]
   rfl
  refine pure_ (i := 2) (N := some 23) (v := ?_) (a' := ?_) (bm 15 1591) rfl rfl (any_of HT_.out kr) qi (Or.inl ⟨by rfl, ?_⟩) ?_ ?_
  rotate_left
  ·intro w'
   go_simp
   with_reducible rfl
  rotate_left
  ·simp only [sx]
   rfl
  refine pure_ (i := 3) (N := some 24) (v := ?_) (a' := ?_) (bm 15 1599) rfl rfl (any_of HT_.out kr) qi (Or.inl ⟨by rfl, ?_⟩) ?_ ?_
  rotate_left
  ·intro w'
   go_simp
   with_reducible rfl
  rotate_left
  ·simp only [sx]
   rfl
  refine take_ (i := 6) (N := some 27) (v := ?_) (a' := ?_) (bm 15 1663) rfl rfl (take_ofW HT_.out HW_.out kr) qi (Or.inl ⟨by rfl, ?_⟩) hHeld ?_ ?_
  rotate_left
  ·rintro w' ⟨s0, s1, s2, s3, s4, s5, s6, s7, s8, s9⟩
   go_simp
   with_reducible rfl
  rotate_left
  ·simp only [sx]
   rfl
  refine pure_ (i := 7) (N := some 28) (v := ?_) (a' := ?_) (bm 15 1791) rfl rfl (any_of HT_.out kr) qi (Or.inl ⟨by rfl, ?_⟩) ?_ ?_
  rotate_left
  ·intro w'
   go_simp
   with_reducible rfl
  rotate_left
  ·simp only [sx]
   rfl
  refine pure_ (i := 8) (N := some 29) (v := ?_) (a' := ?_) (bm 15 2047) rfl rfl (any_of HT_.out kr) qi (Or.inl ⟨by rfl, ?_⟩) ?_ ?_
  rotate_left
  ·intro w'
   go_simp
   with_reducible rfl
  rotate_left
  ·simp only [sx]
   rfl
  refine take_ (i := 11) (N := some 32) (v := ?_) (a' := ?_) (bm 15 4095) rfl rfl (take_ofW HT_.out HW_.out kr) qi (Or.inl ⟨by rfl, ?_⟩) hHeld ?_ ?_
  rotate_left
  ·rintro w' ⟨s0, s1, s2, s3, s4, s5, s6, s7, s8, s9⟩
   go_simp
   with_reducible rfl
  rotate_left
  ·simp only [sx]
   rfl
  refine pure_ (i := 12) (N := some 33) (v := ?_) (a' := ?_) (bm 15 8191) rfl rfl (any_of HT_.out kr) qi (Or.inl ⟨by rfl, ?_⟩) ?_ ?_
  rotate_left
  ·intro w'
   go_simp
   with_reducible rfl
  rotate_left
  ·simp only [sx]
   rfl
  refine pure_ (i := 13) (N := some 34) (v := ?_) (a' := ?_) (bm 15 16383) rfl rfl (any_of HT_.out kr) qi (Or.inl ⟨by rfl, ?_⟩) ?_ ?_
  rotate_left
  ·intro w'
   go_simp
   with_reducible rfl
  rotate_left
  ·simp only [sx]
   rfl
  refine pure_ (i := 14) (N := some 4) (v := ?_) (a' := ?_) (bm 15 32767) rfl rfl (any_of HT_.out kr) qi (Or.inl ⟨by rfl, ?_⟩) ?_ ?_
  rotate_left
  ·intro w'
   go_simp
   with_reducible rfl
  rotate_left
  ·simp only [sx]
   rfl
  refine done_ (done_of HT_.out kr) ?_
  try go_wp2
  go_ret
  exact ⟨rfw, blw⟩
 rw [if_neg c13] at H
 have c13b0 : (a0_0 == 10) = false := beq_eq_false_iff_ne.mpr c13
 have c13b1 : (a0_0 != 10) = true := bne_iff_ne.mpr c13
 by_cases c25 : a0_0 = 11
 ·rw [if_pos c25] at H
  have c25b0 : (a0_0 == 11) = true := beq_iff_eq.mpr c25
  have c25b1 : (a0_0 != 11) = false := bne_eq_false_iff_eq.mpr c25
  clear c25
  replace H := Option.bind_eq_some_iff.mp H
  obtain ⟨t209, A260, H⟩ := H
  replace H : (if 4 + t209.size ≤ 9223372036854775807 then (if 4 + t209.size + 1 ≤ 9223372036854775807 then (some (((⟨#[40, 105, 102, 32]⟩ : ByteArray) ++ t209) ++ (⟨#[41]⟩ : ByteArray))) else (none)) else (none)) = some r := H
  have A26 := am A260
  clear A260
  by_cases c27 : 4 + t209.size ≤ 9223372036854775807
  case neg =>
   rw [if_neg c27] at H
   exact absurd H (by simp)
  rw [if_pos c27] at H
  have c27b0 := eq_true c27
  have c27b1 : decide (4 + t209.size ≤ 9223372036854775807) = true := decide_eq_true c27
  try have c27b2 : (9223372036854775807 < 4 + t209.size) = False := eq_false (Nat.not_lt.2 c27)
  by_cases c28 : 4 + t209.size + 1 ≤ 9223372036854775807
  case neg =>
   rw [if_neg c28] at H
   exact absurd H (by simp)
  rw [if_pos c28] at H
  have c28b0 := eq_true c28
  have c28b1 : decide (4 + t209.size + 1 ≤ 9223372036854775807) = true := decide_eq_true c28
  try have c28b2 : (9223372036854775807 < 4 + t209.size + 1) = False := eq_false (Nat.not_lt.2 c28)
  obtain rfl := Option.some.inj H
  go_enter Tryd.func29, Tryd.ntmps29
  go_wp2_with (first | ((with_reducible refine gate_dst (N := 2) rfl ?_); refine box_event ?hg (N := 2) ?hd (cs := #[.int .i64 a0_0, .string a0_1, .int .i64 a0_2, .int .i64 a0_3, .slice A0_4 l0_4.length c0_4, .slice A0_5 l0_5.length c0_5, .slice A0_6 l0_6.length c0_6, .slice A0_7 l0_7.length c0_7]) (t := 36) ?hr ?_; (case hd => rfl); (case hg => rfl); (case hr => exact hrw); intro gb204 hg w29 hbox hb; have n0_ := am (below_step blw hb); have n1_ := am (hbox); have n2_ := am ((by rw [hg]; exact (below_size blw) : w.heap.size ≤ gb204)); have n3_ := n2_; clear HB; revert n0_ n1_ n2_ n3_; intro HB BK204 GW204 GE204; clear hb hbox hg; obtain ⟨hcz30_0, hcz30_1, hcz30_2, hcz30_3, hcz30_4, hcz30_5, hcz30_6, hcz30_7⟩ := cls8 BK204.out; obtain ⟨hfz30_0, hfz30_1, hfz30_2, hfz30_3, hfz30_4, hfz30_5, hfz30_6, hfz30_7⟩ := frz8 BK204.out) | ((with_reducible refine gate_callee (f := 27) rfl ?_); refine goesL_ (some 38) rfl rfl Tryd.func27 kr rfl #[.slice A1 l1.length c1, .string (⟨#[32]⟩ : ByteArray)] rfl mpw ?_; (with_reducible refine (spec_Join.calls k _ _ l1 (⟨#[32]⟩ : ByteArray) t209 _ ?side1 ?side2 A26.out).mono ?_); (case side1 => have X_ := HR1; exact cbl); (case side2 => exact HC1.out); rintro e w31 ⟨rfl, hb⟩; refine ⟨_, rfl, ?_⟩; have n0_ := am (blk_below (g := gb204) bkw hb); have n1_ := am (below_step blw hb); clear BK204; clear HB; revert n0_ n1_; intro BK204 HB; (try clear hb); (try clear hb2); (try clear hk); (try clear hi)))
  go_ret
  exact ⟨rfw, blw⟩
 rw [if_neg c25] at H
 have c25b0 : (a0_0 == 11) = false := beq_eq_false_iff_ne.mpr c25
 have c25b1 : (a0_0 != 11) = true := bne_iff_ne.mpr c25
 by_cases c32 : a0_0 = 13
 case neg =>
  rw [if_neg c32] at H
  have c32b0 : (a0_0 == 13) = false := beq_eq_false_iff_ne.mpr c32
  have c32b1 : (a0_0 != 13) = true := bne_iff_ne.mpr c32
  by_cases c45 : a0_0 = 14
  ·rw [if_pos c45] at H
   have c45b0 : (a0_0 == 14) = true := beq_iff_eq.mpr c45
   have c45b1 : (a0_0 != 14) = false := bne_eq_false_iff_eq.mpr c45
   clear c45
   replace H := Option.bind_eq_some_iff.mp H
   obtain ⟨t212, A460, H⟩ := H
   replace H : (if 1 + t212.size ≤ 9223372036854775807 then (if 1 + t212.size + 1 ≤ 9223372036854775807 then (some (((⟨#[40]⟩ : ByteArray) ++ t212) ++ (⟨#[41]⟩ : ByteArray))) else (none)) else (none)) = some r := H
   have A46 := am A460
   clear A460
   by_cases c47 : 1 + t212.size ≤ 9223372036854775807
   case neg =>
    rw [if_neg c47] at H
    exact absurd H (by simp)
   rw [if_pos c47] at H
   have c47b0 := eq_true c47
   have c47b1 : decide (1 + t212.size ≤ 9223372036854775807) = true := decide_eq_true c47
   try have c47b2 : (9223372036854775807 < 1 + t212.size) = False := eq_false (Nat.not_lt.2 c47)
   by_cases c48 : 1 + t212.size + 1 ≤ 9223372036854775807
   case neg =>
    rw [if_neg c48] at H
    exact absurd H (by simp)
   rw [if_pos c48] at H
   have c48b0 := eq_true c48
   have c48b1 : decide (1 + t212.size + 1 ≤ 9223372036854775807) = true := decide_eq_true c48
   try have c48b2 : (9223372036854775807 < 1 + t212.size + 1) = False := eq_false (Nat.not_lt.2 c48)
   obtain rfl := Option.some.inj H
   go_enter Tryd.func29, Tryd.ntmps29
   go_wp2_with (first | ((with_reducible refine gate_dst (N := 2) rfl ?_); refine box_event ?hg (N := 2) ?hd (cs := #[.int .i64 a0_0, .string a0_1, .int .i64 a0_2, .int .i64 a0_3, .slice A0_4 l0_4.length c0_4, .slice A0_5 l0_5.length c0_5, .slice A0_6 l0_6.length c0_6, .slice A0_7 l0_7.length c0_7]) (t := 36) ?hr ?_; (case hd => rfl); (case hg => rfl); (case hr => exact hrw); intro gb204 hg w49 hbox hb; have n0_ := am (below_step blw hb); have n1_ := am (hbox); have n2_ := am ((by rw [hg]; exact (below_size blw) : w.heap.size ≤ gb204)); have n3_ := n2_; clear HB; revert n0_ n1_ n2_ n3_; intro HB BK204 GW204 GE204; clear hb hbox hg; obtain ⟨hcz50_0, hcz50_1, hcz50_2, hcz50_3, hcz50_4, hcz50_5, hcz50_6, hcz50_7⟩ := cls8 BK204.out; obtain ⟨hfz50_0, hfz50_1, hfz50_2, hfz50_3, hfz50_4, hfz50_5, hfz50_6, hfz50_7⟩ := frz8 BK204.out) | ((with_reducible refine gate_callee (f := 27) rfl ?_); refine goesL_ (some 60) rfl rfl Tryd.func27 kr rfl #[.slice A1 l1.length c1, .string (⟨#[32]⟩ : ByteArray)] rfl mpw ?_; (with_reducible refine (spec_Join.calls k _ _ l1 (⟨#[32]⟩ : ByteArray) t212 _ ?side1 ?side2 A46.out).mono ?_); (case side1 => have X_ := HR1; exact cbl); (case side2 => exact HC1.out); rintro e w51 ⟨rfl, hb⟩; refine ⟨_, rfl, ?_⟩; have n0_ := am (blk_below (g := gb204) bkw hb); have n1_ := am (below_step blw hb); clear BK204; clear HB; revert n0_ n1_; intro BK204 HB; (try clear hb); (try clear hb2); (try clear hk); (try clear hi)))
   go_ret
   exact ⟨rfw, blw⟩
  rw [if_neg c45] at H
  have c45b0 : (a0_0 == 14) = false := beq_eq_false_iff_ne.mpr c45
  have c45b1 : (a0_0 != 14) = true := bne_iff_ne.mpr c45
  by_cases c52 : a0_0 = 15
  case neg =>
   rw [if_neg c52] at H
   have c52b0 : (a0_0 == 15) = false := beq_eq_false_iff_ne.mpr c52
   have c52b1 : (a0_0 != 15) = true := bne_iff_ne.mpr c52
   by_cases c58 : 0 < (l1.length : Int)
   case neg =>
    rw [if_neg c58] at H
    exact absurd H (by simp)
   rw [if_pos c58] at H
   have c58b0 : decide (0 < (l1.length : Int)) = true := decide_eq_true c58
   have c58b1 : decide (0 < l1.length) = true := decide_eq_true (by omega)
   clear c58
   by_cases c59 : 7 + (rdOf ByteArray.empty l1 0).size ≤ 9223372036854775807
   case neg =>
    rw [if_neg c59] at H
    exact absurd H (by simp)
   rw [if_pos c59] at H
   have c59b0 := eq_true c59
   have c59b1 : decide (7 + (rdOf ByteArray.empty l1 0).size ≤ 9223372036854775807) = true := decide_eq_true c59
   try have c59b2 : (9223372036854775807 < 7 + (rdOf ByteArray.empty l1 0).size) = False := eq_false (Nat.not_lt.2 c59)
   by_cases c60 : 7 + (rdOf ByteArray.empty l1 0).size + 1 ≤ 9223372036854775807
   case neg =>
    rw [if_neg c60] at H
    exact absurd H (by simp)
   rw [if_pos c60] at H
   have c60b0 := eq_true c60
   have c60b1 : decide (7 + (rdOf ByteArray.empty l1 0).size + 1 ≤ 9223372036854775807) = true := decide_eq_true c60
   try have c60b2 : (9223372036854775807 < 7 + (rdOf ByteArray.empty l1 0).size + 1) = False := eq_false (Nat.not_lt.2 c60)
   obtain rfl := Option.some.inj H
   go_enter Tryd.func29, Tryd.ntmps29
   go_wp2_with (first | ((with_reducible refine gate_dst (N := 2) rfl ?_); refine box_event ?hg (N := 2) ?hd (cs := #[.int .i64 a0_0, .string a0_1, .int .i64 a0_2, .int .i64 a0_3, .slice A0_4 l0_4.length c0_4, .slice A0_5 l0_5.length c0_5, .slice A0_6 l0_6.length c0_6, .slice A0_7 l0_7.length c0_7]) (t := 36) ?hr ?_; (case hd => rfl); (case hg => rfl); (case hr => exact hrw); intro gb204 hg w61 hbox hb; have n0_ := am (below_step blw hb); have n1_ := am (hbox); have n2_ := am ((by rw [hg]; exact (below_size blw) : w.heap.size ≤ gb204)); have n3_ := n2_; clear HB; revert n0_ n1_ n2_ n3_; intro HB BK204 GW204 GE204; clear hb hbox hg; obtain ⟨hcz62_0, hcz62_1, hcz62_2, hcz62_3, hcz62_4, hcz62_5, hcz62_6, hcz62_7⟩ := cls8 BK204.out; obtain ⟨hfz62_0, hfz62_1, hfz62_2, hfz62_3, hfz62_4, hfz62_5, hfz62_6, hfz62_7⟩ := frz8 BK204.out; have p214 : 0 ≤ (0 : Int) := (by omega); have q214 : 0 < (l1.length : Int) := of_decide_eq_true asw; obtain ⟨ad214, e214, hx214_0⟩ := Kd.at_string HR1.out 0 p214 q214; cases e214; have qi214 : (0 < l1.length) = True := eq_true (by omega); (try rw [show ((0 : Int)).toNat = 0 from rfl] at hx214_0); (try rw [Addr.add_zero'] at hx214_0); replace hx214_0 := upw HB.out hx214_0; replace p214 := eq_true p214; replace q214 := eq_true q214))
   go_ret
   exact ⟨rfw, blw⟩
  rw [if_pos c52] at H
  have c52b0 : (a0_0 == 15) = true := beq_iff_eq.mpr c52
  have c52b1 : (a0_0 != 15) = false := bne_eq_false_iff_eq.mpr c52
  clear c52
  by_cases c53 : 0 < (l1.length : Int)
  case neg =>
   rw [if_neg c53] at H
   exact absurd H (by simp)
  rw [if_pos c53] at H
  have c53b0 : decide (0 < (l1.length : Int)) = true := decide_eq_true c53
  have c53b1 : decide (0 < l1.length) = true := decide_eq_true (by omega)
  clear c53
  by_cases c54 : 7 + (rdOf ByteArray.empty l1 0).size ≤ 9223372036854775807
  case neg =>
   rw [if_neg c54] at H
   exact absurd H (by simp)
  rw [if_pos c54] at H
  have c54b0 := eq_true c54
  have c54b1 : decide (7 + (rdOf ByteArray.empty l1 0).size ≤ 9223372036854775807) = true := decide_eq_true c54
  try have c54b2 : (9223372036854775807 < 7 + (rdOf ByteArray.empty l1 0).size) = False := eq_false (Nat.not_lt.2 c54)
  by_cases c55 : 7 + (rdOf ByteArray.empty l1 0).size + 1 ≤ 9223372036854775807
  case neg =>
   rw [if_neg c55] at H
   exact absurd H (by simp)
  rw [if_pos c55] at H
  have c55b0 := eq_true c55
  have c55b1 : decide (7 + (rdOf ByteArray.empty l1 0).size + 1 ≤ 9223372036854775807) = true := decide_eq_true c55
  try have c55b2 : (9223372036854775807 < 7 + (rdOf ByteArray.empty l1 0).size + 1) = False := eq_false (Nat.not_lt.2 c55)
  obtain rfl := Option.some.inj H
  go_enter Tryd.func29, Tryd.ntmps29
  go_wp2_with (first | ((with_reducible refine gate_dst (N := 2) rfl ?_); refine box_event ?hg (N := 2) ?hd (cs := #[.int .i64 a0_0, .string a0_1, .int .i64 a0_2, .int .i64 a0_3, .slice A0_4 l0_4.length c0_4, .slice A0_5 l0_5.length c0_5, .slice A0_6 l0_6.length c0_6, .slice A0_7 l0_7.length c0_7]) (t := 36) ?hr ?_; (case hd => rfl); (case hg => rfl); (case hr => exact hrw); intro gb204 hg w56 hbox hb; have n0_ := am (below_step blw hb); have n1_ := am (hbox); have n2_ := am ((by rw [hg]; exact (below_size blw) : w.heap.size ≤ gb204)); have n3_ := n2_; clear HB; revert n0_ n1_ n2_ n3_; intro HB BK204 GW204 GE204; clear hb hbox hg; obtain ⟨hcz57_0, hcz57_1, hcz57_2, hcz57_3, hcz57_4, hcz57_5, hcz57_6, hcz57_7⟩ := cls8 BK204.out; obtain ⟨hfz57_0, hfz57_1, hfz57_2, hfz57_3, hfz57_4, hfz57_5, hfz57_6, hfz57_7⟩ := frz8 BK204.out; have p213 : 0 ≤ (0 : Int) := (by omega); have q213 : 0 < (l1.length : Int) := of_decide_eq_true asw; obtain ⟨ad213, e213, hx213_0⟩ := Kd.at_string HR1.out 0 p213 q213; cases e213; have qi213 : (0 < l1.length) = True := eq_true (by omega); (try rw [show ((0 : Int)).toNat = 0 from rfl] at hx213_0); (try rw [Addr.add_zero'] at hx213_0); replace hx213_0 := upw HB.out hx213_0; replace p213 := eq_true p213; replace q213 := eq_true q213))
  go_ret
  exact ⟨rfw, blw⟩
 rw [if_pos c32] at H
 have c32b0 : (a0_0 == 13) = true := beq_iff_eq.mpr c32
 have c32b1 : (a0_0 != 13) = false := bne_eq_false_iff_eq.mpr c32
 clear c32
 by_cases c33 : 2 + a0_1.size ≤ 9223372036854775807
 case neg =>
  rw [if_neg c33] at H
  exact absurd H (by simp)
 rw [if_pos c33] at H
 have c33b0 := eq_true c33
 have c33b1 : decide (2 + a0_1.size ≤ 9223372036854775807) = true := decide_eq_true c33
 try have c33b2 : (9223372036854775807 < 2 + a0_1.size) = False := eq_false (Nat.not_lt.2 c33)
 by_cases c34 : 2 + a0_1.size + 1 ≤ 9223372036854775807
 case neg =>
  rw [if_neg c34] at H
  exact absurd H (by simp)
 rw [if_pos c34] at H
 have c34b0 := eq_true c34
 have c34b1 : decide (2 + a0_1.size + 1 ≤ 9223372036854775807) = true := decide_eq_true c34
 try have c34b2 : (9223372036854775807 < 2 + a0_1.size + 1) = False := eq_false (Nat.not_lt.2 c34)
 replace H := Option.bind_eq_some_iff.mp H
 obtain ⟨t210, A350, H⟩ := H
 replace H : (if 2 + a0_1.size + 1 + t210.size ≤ 9223372036854775807 then (if 2 + a0_1.size + 1 + t210.size + 1 ≤ 9223372036854775807 then (if 0 < (l1.length : Int) then (if 2 + a0_1.size + 1 + t210.size + 1 + (rdOf ByteArray.empty l1 0).size ≤ 9223372036854775807 then (if 2 + a0_1.size + 1 + t210.size + 1 + (rdOf ByteArray.empty l1 0).size + 1 ≤ 9223372036854775807 then (some (((((((⟨#[40, 92]⟩ : ByteArray) ++ a0_1) ++ (⟨#[58]⟩ : ByteArray)) ++ t210) ++ (⟨#[46]⟩ : ByteArray)) ++ (rdOf ByteArray.empty l1 0)) ++ (⟨#[41]⟩ : ByteArray))) else (none)) else (none)) else (none)) else (none)) else (none)) = some r := H
 have A35 := am A350
 clear A350
 by_cases c36 : 2 + a0_1.size + 1 + t210.size ≤ 9223372036854775807
 case neg =>
  rw [if_neg c36] at H
  exact absurd H (by simp)
 rw [if_pos c36] at H
 have c36b0 := eq_true c36
 have c36b1 : decide (2 + a0_1.size + 1 + t210.size ≤ 9223372036854775807) = true := decide_eq_true c36
 try have c36b2 : (9223372036854775807 < 2 + a0_1.size + 1 + t210.size) = False := eq_false (Nat.not_lt.2 c36)
 by_cases c37 : 2 + a0_1.size + 1 + t210.size + 1 ≤ 9223372036854775807
 case neg =>
  rw [if_neg c37] at H
  exact absurd H (by simp)
 rw [if_pos c37] at H
 have c37b0 := eq_true c37
 have c37b1 : decide (2 + a0_1.size + 1 + t210.size + 1 ≤ 9223372036854775807) = true := decide_eq_true c37
 try have c37b2 : (9223372036854775807 < 2 + a0_1.size + 1 + t210.size + 1) = False := eq_false (Nat.not_lt.2 c37)
 by_cases c38 : 0 < (l1.length : Int)
 case neg =>
  rw [if_neg c38] at H
  exact absurd H (by simp)
 rw [if_pos c38] at H
 have c38b0 : decide (0 < (l1.length : Int)) = true := decide_eq_true c38
 have c38b1 : decide (0 < l1.length) = true := decide_eq_true (by omega)
 clear c38
 by_cases c39 : 2 + a0_1.size + 1 + t210.size + 1 + (rdOf ByteArray.empty l1 0).size ≤ 9223372036854775807
 case neg =>
  rw [if_neg c39] at H
  exact absurd H (by simp)
 rw [if_pos c39] at H
 have c39b0 := eq_true c39
 have c39b1 : decide (2 + a0_1.size + 1 + t210.size + 1 + (rdOf ByteArray.empty l1 0).size ≤ 9223372036854775807) = true := decide_eq_true c39
 try have c39b2 : (9223372036854775807 < 2 + a0_1.size + 1 + t210.size + 1 + (rdOf ByteArray.empty l1 0).size) = False := eq_false (Nat.not_lt.2 c39)
 by_cases c40 : 2 + a0_1.size + 1 + t210.size + 1 + (rdOf ByteArray.empty l1 0).size + 1 ≤ 9223372036854775807
 case neg =>
  rw [if_neg c40] at H
  exact absurd H (by simp)
 rw [if_pos c40] at H
 have c40b0 := eq_true c40
 have c40b1 : decide (2 + a0_1.size + 1 + t210.size + 1 + (rdOf ByteArray.empty l1 0).size + 1 ≤ 9223372036854775807) = true := decide_eq_true c40
 try have c40b2 : (9223372036854775807 < 2 + a0_1.size + 1 + t210.size + 1 + (rdOf ByteArray.empty l1 0).size + 1) = False := eq_false (Nat.not_lt.2 c40)
 obtain rfl := Option.some.inj H
 go_enter Tryd.func29, Tryd.ntmps29
 try go_wp2_with (first | ((with_reducible refine gate_dst (N := 2) rfl ?_); refine box_event ?hg (N := 2) ?hd (cs := #[.int .i64 a0_0, .string a0_1, .int .i64 a0_2, .int .i64 a0_3, .slice A0_4 l0_4.length c0_4, .slice A0_5 l0_5.length c0_5, .slice A0_6 l0_6.length c0_6, .slice A0_7 l0_7.length c0_7]) (t := 36) ?hr ?_; (case hd => rfl); (case hg => rfl); (case hr => exact hrw); intro gb204 hg w41 hbox hb; have n0_ := am (below_step blw hb); have n1_ := am (hbox); have n2_ := am ((by rw [hg]; exact (below_size blw) : w.heap.size ≤ gb204)); have n3_ := n2_; clear HB; revert n0_ n1_ n2_ n3_; intro HB BK204 GW204 GE204; clear hb hbox hg; obtain ⟨hcz42_0, hcz42_1, hcz42_2, hcz42_3, hcz42_4, hcz42_5, hcz42_6, hcz42_7⟩ := cls8 BK204.out; obtain ⟨hfz42_0, hfz42_1, hfz42_2, hfz42_3, hfz42_4, hfz42_5, hfz42_6, hfz42_7⟩ := frz8 BK204.out))
 have n0_ := am (blk_drew BK204.out)
 have n1_ := am (below_drew1 HB.out)
 clear BK204
 clear HB
 revert n0_ n1_
 intro BK204 HB
 have p211 : 0 ≤ (0 : Int) := (by omega)
 have q211 : 0 < (l1.length : Int) := of_decide_eq_true asw
 obtain ⟨ad211, e211, hx211_0⟩ := Kd.at_string HR1.out 0 p211 q211
 have hw211_0 := hx211_0
 (try rw [show ((0 : Int)).toNat = 0 from rfl] at hw211_0)
 (try rw [show 0 * 1 = 0 from rfl] at hw211_0)
 (try rw [Addr.add_zero'] at hw211_0)
 cases e211
 have qi211 : (0 < l1.length) = True := eq_true (by omega)
 (try rw [show ((0 : Int)).toNat = 0 from rfl] at hx211_0)
 (try rw [Addr.add_zero'] at hx211_0)
 replace hx211_0 := upw HB.out hx211_0
 replace p211 := eq_true p211
 replace q211 := eq_true q211
 refine start_ (n := 15) (S := fun w' => w'.cell? ⟨gb204, 0, none⟩ = some (.int .i64 a0_0) ∧ w'.cell? ⟨gb204, 1, none⟩ = some (.string a0_1) ∧ w'.cell? ⟨gb204, 2, none⟩ = some (.int .i64 a0_2) ∧ w'.cell? ⟨gb204, 3, none⟩ = some (.int .i64 a0_3) ∧ w'.cell? ⟨gb204, 4, none⟩ = some (.slice A0_4 l0_4.length c0_4) ∧ w'.cell? ⟨gb204, 5, none⟩ = some (.slice A0_5 l0_5.length c0_5) ∧ w'.cell? ⟨gb204, 6, none⟩ = some (.slice A0_6 l0_6.length c0_6) ∧ w'.cell? ⟨gb204, 7, none⟩ = some (.slice A0_7 l0_7.length c0_7) ∧ w'.cell? ad211 = some (.string (rdOf ByteArray.empty l1 0))) (ds := []) #[false,false,false,false,false,false,false,false,false,false,false,false,false,false,false] kr rfl rfl ⟨(blk_cell BK204.out 0).trans rfl, (blk_cell BK204.out 1).trans rfl, (blk_cell BK204.out 2).trans rfl, (blk_cell BK204.out 3).trans rfl, (blk_cell BK204.out 4).trans rfl, (blk_cell BK204.out 5).trans rfl, (blk_cell BK204.out 6).trans rfl, (blk_cell BK204.out 7).trans rfl, ((upw HB.out hw211_0 : _))⟩ (fun hHeld => ?_); refine with_tabW spec_l8Long.tab9 spec_l8Long.bits9 (fun HT_ HW_ => ?_)
 generalize w41.drew = w43 at BK204 HB hx211_0 hHeld ⊢
 refine pure_ (i := 0) (N := some 43) (v := ?_) (a' := ?_) (bm 15 1) rfl rfl (any_of HT_.out kr) qi (Or.inl ⟨by rfl, ?_⟩) ?_ ?_
 rotate_left
 ·intro w'
  go_simp
  with_reducible rfl
 rotate_left
 ·simp only [sx]
  rfl
 refine pure_ (i := 4) (N := some 47) (v := ?_) (a' := ?_) (bm 15 17) rfl rfl (any_of HT_.out kr) qi (Or.inl ⟨by rfl, ?_⟩) ?_ ?_
 rotate_left
 ·intro w'
  go_simp
  with_reducible rfl
 rotate_left
 ·simp only [sx]
  rfl
 refine pure_ (i := 9) (N := some 52) (v := ?_) (a' := ?_) (bm 15 529) rfl rfl (any_of HT_.out kr) qi (Or.inl ⟨by rfl, ?_⟩) ?_ ?_
 rotate_left
 ·intro w'
  go_simp
  with_reducible rfl
 rotate_left
 ·simp only [sx]
  rfl
 refine pure_ (i := 10) (N := some 53) (v := ?_) (a' := ?_) (bm 15 1553) rfl rfl (any_of HT_.out kr) qi (Or.inl ⟨by rfl, ?_⟩) ?_ ?_
 rotate_left
 ·intro w'
  go_simp
  with_reducible rfl
 rotate_left
 ·simp only [sx]
  rfl
 refine take_ (i := 1) (N := some 44) (v := ?_) (a' := ?_) (bm 15 1555) rfl rfl (take_ofW HT_.out HW_.out kr) qi (Or.inl ⟨by rfl, ?_⟩) hHeld ?_ ?_
 rotate_left
 ·rintro w' ⟨s0, s1, s2, s3, s4, s5, s6, s7, s8⟩
  go_simp
  with_reducible rfl
 rotate_left
 ·simp only [sx]
  rfl
 refine pure_ (i := 2) (N := some 45) (v := ?_) (a' := ?_) (bm 15 1559) rfl rfl (any_of HT_.out kr) qi (Or.inl ⟨by rfl, ?_⟩) ?_ ?_
 rotate_left
 ·intro w'
  go_simp
  with_reducible rfl
 rotate_left
 ·simp only [sx]
  rfl
 refine pure_ (i := 3) (N := some 46) (v := ?_) (a' := ?_) (bm 15 1567) rfl rfl (any_of HT_.out kr) qi (Or.inl ⟨by rfl, ?_⟩) ?_ ?_
 rotate_left
 ·intro w'
  go_simp
  with_reducible rfl
 rotate_left
 ·simp only [sx]
  rfl
 refine take_ (i := 5) (N := some 48) (v := ?_) (a' := ?_) (bm 15 1599) rfl rfl (take_ofW HT_.out HW_.out kr) qi (Or.inl ⟨by rfl, ?_⟩) hHeld ?_ ?_
 rotate_left
 ·rintro w' ⟨s0, s1, s2, s3, s4, s5, s6, s7, s8⟩
  go_simp
  with_reducible rfl
 rotate_left
 ·simp only [sx]
  rfl
 refine take_ (i := 11) (N := some 54) (v := ?_) (a' := ?_) (bm 15 3647) rfl rfl (take_ofW HT_.out HW_.out kr) qi (Or.inl ⟨by rfl, ?_⟩) hHeld ?_ ?_
 rotate_left
 ·rintro w' ⟨s0, s1, s2, s3, s4, s5, s6, s7, s8⟩
  go_simp
  with_reducible rfl
 rotate_left
 ·simp only [sx]
  rfl
 refine one_ (i := 6) (N := some 49) (bm 15 3711) rfl rfl (one_of HT_.out kr) (by decide) (fun K hK => ?_)
 refine goes_ Tryd.func28 kr rfl #[.agg #[.int .i64 a0_3, .slice A0_4 l0_4.length c0_4, .slice A0_5 l0_5.length c0_5]] (by rfl) rfl rfl mpw ?_
 with_reducible refine (spec_l4Text.calls k a0_3 _ _ l0_4 _ _ l0_5 t210 _ ?side1 ?side2 ?side3 ?side4 A35.out).mono ?_
 (case side1 => have X_ := HR0_4; exact cbl)
 (case side2 => exact HC0_4.out)
 (case side3 => have X_ := HR0_5; exact cbl)
 (case side4 => exact HC0_5.out)
 rintro e w44 ⟨rfl, hb⟩
 refine ⟨_, rfl, ?_⟩
 have n0_ := am (blk_below (g := gb204) bkw hb)
 have n1_ := am (below_step blw hb)
 clear BK204
 clear HB
 revert n0_ n1_
 intro BK204 HB
 (try clear hb)
 (try clear hb2)
 (try clear hk)
 (try clear hi)
 refine hK.out _ _ ⟨(blk_cell BK204.out 0).trans rfl, (blk_cell BK204.out 1).trans rfl, (blk_cell BK204.out 2).trans rfl, (blk_cell BK204.out 3).trans rfl, (blk_cell BK204.out 4).trans rfl, (blk_cell BK204.out 5).trans rfl, (blk_cell BK204.out 6).trans rfl, (blk_cell BK204.out 7).trans rfl, ((upw HB.out hw211_0 : _))⟩ (fun hHeld => ?_)
 clear hK K
 refine norm_ (a' := ?_) ?_ ?_
 rotate_left
 ·show Act.put _ (some 49) _ = _
  simp only [sx]
  rfl
 refine pure_ (i := 7) (N := some 50) (v := ?_) (a' := ?_) (bm 15 3839) rfl rfl (any_of HT_.out kr) qi (Or.inl ⟨by rfl, ?_⟩) ?_ ?_
 rotate_left
 ·intro w'
  go_simp
  with_reducible rfl
 rotate_left
 ·simp only [sx]
  rfl
 refine pure_ (i := 8) (N := some 51) (v := ?_) (a' := ?_) (bm 15 4095) rfl rfl (any_of HT_.out kr) qi (Or.inl ⟨by rfl, ?_⟩) ?_ ?_
 rotate_left
 ·intro w'
  go_simp
  with_reducible rfl
 rotate_left
 ·simp only [sx]
  rfl
 refine pure_ (i := 12) (N := some 55) (v := ?_) (a' := ?_) (bm 15 8191) rfl rfl (any_of HT_.out kr) qi (Or.inl ⟨by rfl, ?_⟩) ?_ ?_
 rotate_left
 ·intro w'
  go_simp
  with_reducible rfl
 rotate_left
 ·simp only [sx]
  rfl
 refine pure_ (i := 13) (N := some 56) (v := ?_) (a' := ?_) (bm 15 16383) rfl rfl (any_of HT_.out kr) qi (Or.inl ⟨by rfl, ?_⟩) ?_ ?_
 rotate_left
 ·intro w'
  go_simp
  with_reducible rfl
 rotate_left
 ·simp only [sx]
  rfl
 refine pure_ (i := 14) (N := some 4) (v := ?_) (a' := ?_) (bm 15 32767) rfl rfl (any_of HT_.out kr) qi (Or.inl ⟨by rfl, ?_⟩) ?_ ?_
 rotate_left
 ·intro w'
  go_simp
  with_reducible rfl
 rotate_left
 ·simp only [sx]
  rfl
 refine done_ (done_of HT_.out kr) ?_
 try go_wp2
 go_ret
 exact ⟨rfw, blw⟩

end Go.Proofs.YtgplgphchdgedaaDoor.Px
