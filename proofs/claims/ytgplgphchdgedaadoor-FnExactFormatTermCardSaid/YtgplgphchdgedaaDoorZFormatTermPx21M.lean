/- Printed by a program of this session: what functions of the translation come to, each contract as it stands. No condition. -/
import Derived.Test.YtgplgphchdgedaaDoorZFormatTermSh
import Derived.Test.YtgplgphchdgedaaDoorZFormatTermPx0M
import Derived.Test.YtgplgphchdgedaaDoorZFormatTermPx17M
import Derived.Test.YtgplgphchdgedaaDoorZFormatTermPx19M
import Derived.Test.YtgplgphchdgedaaDoorZFormatTermPx15M
section
namespace Go.Proofs.YtgplgphchdgedaaDoor.Px
open Go.RowKit Go.Proofs.YtgplgphchdgedaaDoor.Ext Go.Proofs.YtgplgphchdgedaaDoorW.PrintWords Go.Proofs.YtgplgphchdgedaaDoorW.PrintLast Go.Proofs.YtgplgphchdgedaaDoorW.PrintMore
attribute [local go_sem] max2_int min2_int max_two min_two max_three min_three max_four min_four   -- for this text's walks alone
set_option linter.unusedVariables false
set_option linter.unusedSimpArgs false

/-! ### impl_nodeForm: function 40 -/
mutual
def impl_nodeForm.j0 : Nat → Bool → Bool → Bool → Int → ByteArray → Int → Int → List ByteArray → List (S33) → Option (Bool)
 | 0, _, _, _, _, _, _, _, _, _ => none
 | k + 1, x4, x5, x39, x700, x701, x702, x703, x704, x705 => if x39 = true then (some false) else (if x700 = 2 then (if x702 < 0 then (impl_nodeForm.j1 k x4 x5 true x700 x701 x702 x703 x704 x705) else (impl_nodeForm.j1 k x4 x5 (decide (x702 > 999)) x700 x701 x702 x703 x704 x705)) else (impl_nodeForm.j1 k x4 x5 false x700 x701 x702 x703 x704 x705))
def impl_nodeForm.j4 : Nat → Bool → Int → List ByteArray → List (S33) → Option (Bool)
 | 0, _, _, _, _ => none
 | k + 1, x5, x703, x704, x705 => if x5 = true then ((impl_IsValidType.f k x703 x704 x705).bind fun t339 => (some t339)) else ((impl_isZeroType.f x703 x704 x705).bind fun t340 => (some t340))
def impl_nodeForm.j1 : Nat → Bool → Bool → Bool → Int → ByteArray → Int → Int → List ByteArray → List (S33) → Option (Bool)
 | 0, _, _, _, _, _, _, _, _, _ => none
 | k + 1, x4, x5, x40, x700, x701, x702, x703, x704, x705 => if x40 = true then (impl_nodeForm.j2 k x4 x5 x40 x700 x701 x703 x704 x705) else (if x700 = 3 then (if x702 = 0 then (if x700 = 2 then (impl_nodeForm.j2 k x4 x5 false x700 x701 x703 x704 x705) else (impl_nodeForm.j2 k x4 x5 false x700 x701 x703 x704 x705)) else (if x702 = 1 then (if x700 = 2 then (impl_nodeForm.j2 k x4 x5 false x700 x701 x703 x704 x705) else (impl_nodeForm.j2 k x4 x5 false x700 x701 x703 x704 x705)) else (impl_nodeForm.j2 k x4 x5 (x702 != 1) x700 x701 x703 x704 x705))) else (if x700 = 2 then (impl_nodeForm.j2 k x4 x5 false x700 x701 x703 x704 x705) else (impl_nodeForm.j2 k x4 x5 (x702 != 0) x700 x701 x703 x704 x705)))
def impl_nodeForm.j2 : Nat → Bool → Bool → Bool → Int → ByteArray → Int → List ByteArray → List (S33) → Option (Bool)
 | 0, _, _, _, _, _, _, _, _ => none
 | k + 1, x4, x5, x40, x700, x701, x703, x704, x705 => if x40 = true then (some false) else (if x4 = true then (if x700 = 4 then (impl_nodeForm.j3 k x4 x5 false x701 x703 x704 x705) else ((impl_IsName.f k x701).bind fun t338 => (impl_nodeForm.j3 k x4 x5 (!t338) x701 x703 x704 x705))) else (impl_nodeForm.j3 k x4 x5 false x701 x703 x704 x705))
def impl_nodeForm.j3 : Nat → Bool → Bool → Bool → ByteArray → Int → List ByteArray → List (S33) → Option (Bool)
 | 0, _, _, _, _, _, _, _ => none
 | k + 1, x4, x5, x98, x701, x703, x704, x705 => if x98 = true then (some false) else (if x4 = true then (impl_nodeForm.j4 k x5 x703 x704 x705) else (if x701.toList = ([] : List UInt8) then (impl_nodeForm.j4 k x5 x703 x704 x705) else (some false)))
end
def impl_nodeForm.f (k : Nat) (a0_0 : Int) (a0_1 : ByteArray) (a0_2 : Int) (a0_3 : Int) (l0_4 : List ByteArray) (l0_5 : List (S33)) (l0_6 : List ByteArray) (l0_7 : List (S36)) : Option (Bool) := (impl_shape.f k a0_0 a0_1 a0_2 a0_3 l0_4 l0_5 l0_6 l0_7).bind fun bt334 => (if bt334.2.2.2 = true then (if (l0_7.length : Int) = bt334.1 then (if a0_0 = 5 then (impl_nodeForm.j0 k bt334.2.1 bt334.2.2.1 false a0_0 a0_1 a0_2 a0_3 l0_4 l0_5) else (impl_nodeForm.j0 k bt334.2.1 bt334.2.2.1 (decide ((l0_6.length : Int) > 0)) a0_0 a0_1 a0_2 a0_3 l0_4 l0_5)) else (impl_nodeForm.j0 k bt334.2.1 bt334.2.2.1 true a0_0 a0_1 a0_2 a0_3 l0_4 l0_5)) else (impl_nodeForm.j0 k bt334.2.1 bt334.2.2.1 true a0_0 a0_1 a0_2 a0_3 l0_4 l0_5))
set_option maxHeartbeats 8000000 in
set_option maxRecDepth 100000 in
theorem impl_nodeForm.calls (k : Nat) (ad0 : Addr) (a0_0 : Int) (a0_1 : ByteArray) (a0_2 : Int) (a0_3 : Int) (A0_4 : Option Addr) (c0_4 : Nat) (l0_4 : List ByteArray) (A0_5 : Option Addr) (c0_5 : Nat) (l0_5 : List (S33)) (A0_6 : Option Addr) (c0_6 : Nat) (l0_6 : List ByteArray) (A0_7 : Option Addr) (c0_7 : Nat) (l0_7 : List (S36)) (r : Bool) (w : World) (hp0 : Cells w ad0 [.int .i64 a0_0, .string a0_1, .int .i64 a0_2, .int .i64 a0_3, .slice A0_4 l0_4.length c0_4, .slice A0_5 l0_5.length c0_5, .slice A0_6 l0_6.length c0_6, .slice A0_7 l0_7.length c0_7]) (hr0_4 : Kd.C Kd.string w A0_4 l0_4.length l0_4) (hc0_4 : l0_4.length ≤ c0_4) (hr0_5 : Kd.C k33 w A0_5 l0_5.length l0_5) (hc0_5 : l0_5.length ≤ c0_5) (hr0_6 : Kd.C Kd.string w A0_6 l0_6.length l0_6) (hc0_6 : l0_6.length ≤ c0_6) (hr0_7 : Kd.C k36 w A0_7 l0_7.length l0_7) (hc0_7 : l0_7.length ≤ c0_7) (h : impl_nodeForm.f k a0_0 a0_1 a0_2 a0_3 l0_4 l0_5 l0_6 l0_7 = some r) :
  Calls Tryd.prog 40 #[.pointer (some ad0)] w fun e w' => e = .returned (.bool r) ∧ Below w.heap.size w w' := by
 have hu33 := Tryd.underlying33
 have HP0 := am hp0
 clear hp0
 have HR0_4 := am hr0_4
 have HC0_4 := am hc0_4
 clear hr0_4 hc0_4
 have HR0_5 := am hr0_5
 have HC0_5 := am hc0_5
 clear hr0_5 hc0_5
 have HR0_6 := am hr0_6
 have HC0_6 := am hc0_6
 clear hr0_6 hc0_6
 have HR0_7 := am hr0_7
 have HC0_7 := am hc0_7
 clear hr0_7 hc0_7
 have HB := am (Below.refl w.heap.size w)
 have H : ((impl_shape.f k a0_0 a0_1 a0_2 a0_3 l0_4 l0_5 l0_6 l0_7).bind fun bt334 => (if bt334.2.2.2 = true then (if (l0_7.length : Int) = bt334.1 then (if a0_0 = 5 then (impl_nodeForm.j0 k bt334.2.1 bt334.2.2.1 false a0_0 a0_1 a0_2 a0_3 l0_4 l0_5) else (impl_nodeForm.j0 k bt334.2.1 bt334.2.2.1 (decide ((l0_6.length : Int) > 0)) a0_0 a0_1 a0_2 a0_3 l0_4 l0_5)) else (impl_nodeForm.j0 k bt334.2.1 bt334.2.2.1 true a0_0 a0_1 a0_2 a0_3 l0_4 l0_5)) else (impl_nodeForm.j0 k bt334.2.1 bt334.2.2.1 true a0_0 a0_1 a0_2 a0_3 l0_4 l0_5))) = some r := h
 clear h
 replace H := Option.bind_eq_some_iff.mp H
 obtain ⟨⟨t334, t335, t336, t337⟩, A20, H⟩ := H
 replace H : (if t337 = true then (if (l0_7.length : Int) = t334 then (if a0_0 = 5 then (impl_nodeForm.j0 k t335 t336 false a0_0 a0_1 a0_2 a0_3 l0_4 l0_5) else (impl_nodeForm.j0 k t335 t336 (decide ((l0_6.length : Int) > 0)) a0_0 a0_1 a0_2 a0_3 l0_4 l0_5)) else (impl_nodeForm.j0 k t335 t336 true a0_0 a0_1 a0_2 a0_3 l0_4 l0_5)) else (impl_nodeForm.j0 k t335 t336 true a0_0 a0_1 a0_2 a0_3 l0_4 l0_5)) = some r := H
 have A2 := am A20
 clear A20
 have HC3 := am H
 clear H
 go_enter Tryd.func40, Tryd.ntmps40
 go_upto_region 2 with (first | ((with_reducible refine gate_callee (f := 55) rfl ?_); refine goesL_ (some 9) rfl rfl Tryd.func55 kr rfl #[.pointer (some ad0)] rfl mpw ?_; (with_reducible refine (impl_shape.calls k ad0 a0_0 a0_1 a0_2 a0_3 A0_4 c0_4 l0_4 A0_5 c0_5 l0_5 A0_6 c0_6 l0_6 A0_7 c0_7 l0_7 t334 t335 t336 t337 _ ?side1 ?side2 ?side3 ?side4 ?side5 ?side6 ?side7 ?side8 ?side9 A2.out).mono ?_); (case side1 => have X_ := HP0; exact clx); (case side2 => have X_ := HR0_4; exact cbx); (case side3 => exact HC0_4.out); (case side4 => have X_ := HR0_5; exact cbx); (case side5 => exact HC0_5.out); (case side6 => have X_ := HR0_6; exact cbx); (case side7 => exact HC0_6.out); (case side8 => have X_ := HR0_7; exact cbx); (case side9 => exact HC0_7.out); rintro e w' ⟨rfl, ⟨nd, rfl⟩⟩; refine ⟨_, rfl, ?_⟩))
 (try simp only [Act.put, List.setIfInBounds_toArray, List.set_cons_zero, List.set_cons_succ])
 go_cut [39] (fun v39 wc => ∃ (kq : Nat) (x39_2 : Bool), v39 = .bool x39_2 ∧ Aside0 (impl_nodeForm.j0 kq t335 t336 x39_2 a0_0 a0_1 a0_2 a0_3 l0_4 l0_5 = some r) ∧ Aside0 (kq ≤ k) ∧ Aside0 (Below w.heap.size w wc))
 case first =>
  have H := HC3.out
  clear HC3
  by_cases c4 : t337 = true
  case neg =>
   replace c4 := Bool.eq_false_iff.mpr c4
   subst c4
   have H1 : (impl_nodeForm.j0 k t335 t336 true a0_0 a0_1 a0_2 a0_3 l0_4 l0_5) = some r := by rw [if_neg (show ¬ (false = true) by decide)] at H; exact H
   clear H
   have H := H1
   clear H1
   have H' := am H
   clear H
   go_wp2
   go_meet
   case rel => exact ⟨_, (true), rfs, H', ⟨by first | omega | exact Nat.le_refl _⟩, ⟨blw⟩⟩
  subst c4
  have H1 : (if (l0_7.length : Int) = t334 then (if a0_0 = 5 then (impl_nodeForm.j0 k t335 t336 false a0_0 a0_1 a0_2 a0_3 l0_4 l0_5) else (impl_nodeForm.j0 k t335 t336 (decide ((l0_6.length : Int) > 0)) a0_0 a0_1 a0_2 a0_3 l0_4 l0_5)) else (impl_nodeForm.j0 k t335 t336 true a0_0 a0_1 a0_2 a0_3 l0_4 l0_5)) = some r := by rw [if_pos rfl] at H; exact H
  clear H
  have H := H1
  clear H1
  by_cases c5 : (l0_7.length : Int) = t334
  case neg =>
   rw [if_neg c5] at H
   have c5b0 : ((l0_7.length : Int) == t334) = false := beq_eq_false_iff_ne.mpr c5
   have c5b1 : ((l0_7.length : Int) != t334) = true := bne_iff_ne.mpr c5
   (first | rw [c5b0] | (simp only [i64_w, i32_w]; rw [c5b0]) | (rw [c5b1]; (try simp only [Bool.not_true, Bool.not_false])) | skip)
   have H' := am H
   clear H
   have hxr9_0 : w.cell? ad0 = some (.int .i64 a0_0) := pw_cell_below HB.out (HP0.out.1)
   have hxr9_1 : w.cell? ⟨ad0.block, ad0.off + 1, none⟩ = some (.string a0_1) := pw_cell_below HB.out (HP0.out.2.1)
   have hxr9_2 : w.cell? ⟨ad0.block, ad0.off + 2, none⟩ = some (.int .i64 a0_2) := pw_cell_below HB.out (HP0.out.2.2.1)
   have hxr9_3 : w.cell? ⟨ad0.block, ad0.off + 3, none⟩ = some (.int .i64 a0_3) := pw_cell_below HB.out (HP0.out.2.2.2.1)
   have hxr9_4 : w.cell? ⟨ad0.block, ad0.off + 4, none⟩ = some (.slice A0_4 l0_4.length c0_4) := pw_cell_below HB.out (HP0.out.2.2.2.2.1)
   have hxr9_5 : w.cell? ⟨ad0.block, ad0.off + 5, none⟩ = some (.slice A0_5 l0_5.length c0_5) := pw_cell_below HB.out (HP0.out.2.2.2.2.2.1)
   have hxr9_6 : w.cell? ⟨ad0.block, ad0.off + 6, none⟩ = some (.slice A0_6 l0_6.length c0_6) := pw_cell_below HB.out (HP0.out.2.2.2.2.2.2.1)
   have hxr9_7 : w.cell? ⟨ad0.block, ad0.off + 7, none⟩ = some (.slice A0_7 l0_7.length c0_7) := pw_cell_below HB.out (HP0.out.2.2.2.2.2.2.2.1)
   go_wp2
   go_meet
   case rel => exact ⟨_, (true), rfs, H', ⟨by first | omega | exact Nat.le_refl _⟩, ⟨blw⟩⟩
  rw [if_pos c5] at H
  have c5b0 : ((l0_7.length : Int) == t334) = true := beq_iff_eq.mpr c5
  have c5b1 : ((l0_7.length : Int) != t334) = false := bne_eq_false_iff_eq.mpr c5
  clear c5
  (first | rw [c5b0] | (simp only [i64_w, i32_w]; rw [c5b0]) | (rw [c5b1]; (try simp only [Bool.not_true, Bool.not_false])) | skip)
  by_cases c6 : a0_0 = 5
  ·rw [if_pos c6] at H
   have c6b0 : (a0_0 == 5) = true := beq_iff_eq.mpr c6
   have c6b1 : (a0_0 != 5) = false := bne_eq_false_iff_eq.mpr c6
   clear c6
   have H' := am H
   clear H
   have hxr7_0 : w.cell? ad0 = some (.int .i64 a0_0) := pw_cell_below HB.out (HP0.out.1)
   have hxr7_1 : w.cell? ⟨ad0.block, ad0.off + 1, none⟩ = some (.string a0_1) := pw_cell_below HB.out (HP0.out.2.1)
   have hxr7_2 : w.cell? ⟨ad0.block, ad0.off + 2, none⟩ = some (.int .i64 a0_2) := pw_cell_below HB.out (HP0.out.2.2.1)
   have hxr7_3 : w.cell? ⟨ad0.block, ad0.off + 3, none⟩ = some (.int .i64 a0_3) := pw_cell_below HB.out (HP0.out.2.2.2.1)
   have hxr7_4 : w.cell? ⟨ad0.block, ad0.off + 4, none⟩ = some (.slice A0_4 l0_4.length c0_4) := pw_cell_below HB.out (HP0.out.2.2.2.2.1)
   have hxr7_5 : w.cell? ⟨ad0.block, ad0.off + 5, none⟩ = some (.slice A0_5 l0_5.length c0_5) := pw_cell_below HB.out (HP0.out.2.2.2.2.2.1)
   have hxr7_6 : w.cell? ⟨ad0.block, ad0.off + 6, none⟩ = some (.slice A0_6 l0_6.length c0_6) := pw_cell_below HB.out (HP0.out.2.2.2.2.2.2.1)
   have hxr7_7 : w.cell? ⟨ad0.block, ad0.off + 7, none⟩ = some (.slice A0_7 l0_7.length c0_7) := pw_cell_below HB.out (HP0.out.2.2.2.2.2.2.2.1)
   go_wp2
   go_meet
   case rel => exact ⟨_, (false), rfs, H', ⟨by first | omega | exact Nat.le_refl _⟩, ⟨blw⟩⟩
  rw [if_neg c6] at H
  have c6b0 : (a0_0 == 5) = false := beq_eq_false_iff_ne.mpr c6
  have c6b1 : (a0_0 != 5) = true := bne_iff_ne.mpr c6
  have H' := am H
  clear H
  have hxr8_0 : w.cell? ad0 = some (.int .i64 a0_0) := pw_cell_below HB.out (HP0.out.1)
  have hxr8_1 : w.cell? ⟨ad0.block, ad0.off + 1, none⟩ = some (.string a0_1) := pw_cell_below HB.out (HP0.out.2.1)
  have hxr8_2 : w.cell? ⟨ad0.block, ad0.off + 2, none⟩ = some (.int .i64 a0_2) := pw_cell_below HB.out (HP0.out.2.2.1)
  have hxr8_3 : w.cell? ⟨ad0.block, ad0.off + 3, none⟩ = some (.int .i64 a0_3) := pw_cell_below HB.out (HP0.out.2.2.2.1)
  have hxr8_4 : w.cell? ⟨ad0.block, ad0.off + 4, none⟩ = some (.slice A0_4 l0_4.length c0_4) := pw_cell_below HB.out (HP0.out.2.2.2.2.1)
  have hxr8_5 : w.cell? ⟨ad0.block, ad0.off + 5, none⟩ = some (.slice A0_5 l0_5.length c0_5) := pw_cell_below HB.out (HP0.out.2.2.2.2.2.1)
  have hxr8_6 : w.cell? ⟨ad0.block, ad0.off + 6, none⟩ = some (.slice A0_6 l0_6.length c0_6) := pw_cell_below HB.out (HP0.out.2.2.2.2.2.2.1)
  have hxr8_7 : w.cell? ⟨ad0.block, ad0.off + 7, none⟩ = some (.slice A0_7 l0_7.length c0_7) := pw_cell_below HB.out (HP0.out.2.2.2.2.2.2.2.1)
  go_wp2
  go_meet
  case rel => exact ⟨_, (decide ((l0_6.length : Int) > 0)), rfs, H', ⟨by first | omega | exact Nat.le_refl _⟩, ⟨blw⟩⟩
 case rest =>
  clear HC3
  (try clear p2); (try clear c4); (try clear c5); (try clear c5b0); (try clear c5b1); (try clear c6); (try clear c6b0); (try clear c6b1)
  obtain ⟨kq, x39_2, rfl, HA, HJ2, HB⟩ := hcut
  cases kq with
  | zero => exact absurd HA.out (by simp [impl_nodeForm.j0])
  | succ kj2 =>
   have H := HA.out
   clear HA
   simp only [impl_nodeForm.j0] at H
   by_cases c10 : x39_2 = true
   ·subst c10
    have H1 : (some false) = some r := by rw [if_pos rfl] at H; exact H
    clear H
    have H := H1
    clear H1
    obtain rfl := Option.some.inj H
    go_wp2
    go_ret
    exact ⟨rfw, blw⟩
   replace c10 := Bool.eq_false_iff.mpr c10
   subst c10
   have H1 : (if a0_0 = 2 then (if a0_2 < 0 then (impl_nodeForm.j1 kj2 t335 t336 true a0_0 a0_1 a0_2 a0_3 l0_4 l0_5) else (impl_nodeForm.j1 kj2 t335 t336 (decide (a0_2 > 999)) a0_0 a0_1 a0_2 a0_3 l0_4 l0_5)) else (impl_nodeForm.j1 kj2 t335 t336 false a0_0 a0_1 a0_2 a0_3 l0_4 l0_5)) = some r := by rw [if_neg (show ¬ (false = true) by decide)] at H; exact H
   clear H
   have H := H1
   clear H1
   have HC11 := am H
   clear H
   go_upto_block 0 with (fail)
   go_cut [] (fun wc => ∃ (kq : Nat), Aside0 (impl_nodeForm.j4 kq t336 a0_3 l0_4 l0_5 = some r) ∧ Aside0 (kq ≤ kj2) ∧ Aside0 (Below w.heap.size w wc))
   case first =>
    have H := HC11.out
    clear HC11
    have HC12 := am H
    clear H
    go_upto_region 4 with (fail)
    go_cut [40] (fun v40 wc => ∃ (kq : Nat) (x40_11 : Bool), v40 = .bool x40_11 ∧ Aside0 (impl_nodeForm.j1 kq t335 t336 x40_11 a0_0 a0_1 a0_2 a0_3 l0_4 l0_5 = some r) ∧ Aside0 (kq ≤ kj2) ∧ Aside0 (Below w.heap.size w wc))
    case first =>
     have H := HC12.out
     clear HC12
     by_cases c13 : a0_0 = 2
     case neg =>
      rw [if_neg c13] at H
      have c13b0 : (a0_0 == 2) = false := beq_eq_false_iff_ne.mpr c13
      have c13b1 : (a0_0 != 2) = true := bne_iff_ne.mpr c13
      (first | rw [c13b0] | (simp only [i64_w, i32_w]; rw [c13b0]) | (rw [c13b1]; (try simp only [Bool.not_true, Bool.not_false])) | skip)
      have H' := am H
      clear H
      have hxr17_0 : wc.cell? ad0 = some (.int .i64 a0_0) := pw_cell_below HB.out (HP0.out.1)
      have hxr17_1 : wc.cell? ⟨ad0.block, ad0.off + 1, none⟩ = some (.string a0_1) := pw_cell_below HB.out (HP0.out.2.1)
      have hxr17_2 : wc.cell? ⟨ad0.block, ad0.off + 2, none⟩ = some (.int .i64 a0_2) := pw_cell_below HB.out (HP0.out.2.2.1)
      have hxr17_3 : wc.cell? ⟨ad0.block, ad0.off + 3, none⟩ = some (.int .i64 a0_3) := pw_cell_below HB.out (HP0.out.2.2.2.1)
      have hxr17_4 : wc.cell? ⟨ad0.block, ad0.off + 4, none⟩ = some (.slice A0_4 l0_4.length c0_4) := pw_cell_below HB.out (HP0.out.2.2.2.2.1)
      have hxr17_5 : wc.cell? ⟨ad0.block, ad0.off + 5, none⟩ = some (.slice A0_5 l0_5.length c0_5) := pw_cell_below HB.out (HP0.out.2.2.2.2.2.1)
      have hxr17_6 : wc.cell? ⟨ad0.block, ad0.off + 6, none⟩ = some (.slice A0_6 l0_6.length c0_6) := pw_cell_below HB.out (HP0.out.2.2.2.2.2.2.1)
      have hxr17_7 : wc.cell? ⟨ad0.block, ad0.off + 7, none⟩ = some (.slice A0_7 l0_7.length c0_7) := pw_cell_below HB.out (HP0.out.2.2.2.2.2.2.2.1)
      go_wp2
      go_meet
      case rel => exact ⟨_, (false), rfs, H', ⟨by have := HJ2.out; first | omega | exact Nat.le_refl _⟩, ⟨blw⟩⟩
     rw [if_pos c13] at H
     have c13b0 : (a0_0 == 2) = true := beq_iff_eq.mpr c13
     have c13b1 : (a0_0 != 2) = false := bne_eq_false_iff_eq.mpr c13
     clear c13
     (first | rw [c13b0] | (simp only [i64_w, i32_w]; rw [c13b0]) | (rw [c13b1]; (try simp only [Bool.not_true, Bool.not_false])) | skip)
     by_cases c14 : a0_2 < 0
     ·rw [if_pos c14] at H
      have c14b0 : decide (a0_2 < 0) = true := decide_eq_true c14
      clear c14
      have H' := am H
      clear H
      have hxr15_0 : wc.cell? ad0 = some (.int .i64 a0_0) := pw_cell_below HB.out (HP0.out.1)
      have hxr15_1 : wc.cell? ⟨ad0.block, ad0.off + 1, none⟩ = some (.string a0_1) := pw_cell_below HB.out (HP0.out.2.1)
      have hxr15_2 : wc.cell? ⟨ad0.block, ad0.off + 2, none⟩ = some (.int .i64 a0_2) := pw_cell_below HB.out (HP0.out.2.2.1)
      have hxr15_3 : wc.cell? ⟨ad0.block, ad0.off + 3, none⟩ = some (.int .i64 a0_3) := pw_cell_below HB.out (HP0.out.2.2.2.1)
      have hxr15_4 : wc.cell? ⟨ad0.block, ad0.off + 4, none⟩ = some (.slice A0_4 l0_4.length c0_4) := pw_cell_below HB.out (HP0.out.2.2.2.2.1)
      have hxr15_5 : wc.cell? ⟨ad0.block, ad0.off + 5, none⟩ = some (.slice A0_5 l0_5.length c0_5) := pw_cell_below HB.out (HP0.out.2.2.2.2.2.1)
      have hxr15_6 : wc.cell? ⟨ad0.block, ad0.off + 6, none⟩ = some (.slice A0_6 l0_6.length c0_6) := pw_cell_below HB.out (HP0.out.2.2.2.2.2.2.1)
      have hxr15_7 : wc.cell? ⟨ad0.block, ad0.off + 7, none⟩ = some (.slice A0_7 l0_7.length c0_7) := pw_cell_below HB.out (HP0.out.2.2.2.2.2.2.2.1)
      go_wp2
      go_meet
      case rel => exact ⟨_, (true), rfs, H', ⟨by have := HJ2.out; first | omega | exact Nat.le_refl _⟩, ⟨blw⟩⟩
     rw [if_neg c14] at H
     have c14b0 : decide (a0_2 < 0) = false := decide_eq_false c14
     clear c14
     have H' := am H
     clear H
     have hxr16_0 : wc.cell? ad0 = some (.int .i64 a0_0) := pw_cell_below HB.out (HP0.out.1)
     have hxr16_1 : wc.cell? ⟨ad0.block, ad0.off + 1, none⟩ = some (.string a0_1) := pw_cell_below HB.out (HP0.out.2.1)
     have hxr16_2 : wc.cell? ⟨ad0.block, ad0.off + 2, none⟩ = some (.int .i64 a0_2) := pw_cell_below HB.out (HP0.out.2.2.1)
     have hxr16_3 : wc.cell? ⟨ad0.block, ad0.off + 3, none⟩ = some (.int .i64 a0_3) := pw_cell_below HB.out (HP0.out.2.2.2.1)
     have hxr16_4 : wc.cell? ⟨ad0.block, ad0.off + 4, none⟩ = some (.slice A0_4 l0_4.length c0_4) := pw_cell_below HB.out (HP0.out.2.2.2.2.1)
     have hxr16_5 : wc.cell? ⟨ad0.block, ad0.off + 5, none⟩ = some (.slice A0_5 l0_5.length c0_5) := pw_cell_below HB.out (HP0.out.2.2.2.2.2.1)
     have hxr16_6 : wc.cell? ⟨ad0.block, ad0.off + 6, none⟩ = some (.slice A0_6 l0_6.length c0_6) := pw_cell_below HB.out (HP0.out.2.2.2.2.2.2.1)
     have hxr16_7 : wc.cell? ⟨ad0.block, ad0.off + 7, none⟩ = some (.slice A0_7 l0_7.length c0_7) := pw_cell_below HB.out (HP0.out.2.2.2.2.2.2.2.1)
     go_wp2
     go_meet
     case rel => exact ⟨_, (decide (a0_2 > 999)), rfs, H', ⟨by have := HJ2.out; first | omega | exact Nat.le_refl _⟩, ⟨blw⟩⟩
    case rest =>
     clear HC12
     (try clear c1); (try clear p2 p2); (try clear c4); (try clear c5); (try clear c5b0); (try clear c5b1); (try clear c6); (try clear c6b0); (try clear c6b1); (try clear c10); (try clear c13); (try clear c13b0); (try clear c13b1); (try clear c14); (try clear c14b0)
     obtain ⟨kq, x40_11, rfl, HA, HJ11, HB⟩ := hcut
     cases kq with
     | zero => exact absurd HA.out (by simp [impl_nodeForm.j1])
     | succ kj11 =>
      have H := HA.out
      clear HA
      simp only [impl_nodeForm.j1] at H
      have HC18 := am H
      clear H
      go_upto_if 40 with (fail)
      go_cut [40] (fun v40 wc => ∃ (kq : Nat) (x40_17 : Bool), v40 = .bool x40_17 ∧ Aside0 (impl_nodeForm.j2 kq t335 t336 x40_17 a0_0 a0_1 a0_3 l0_4 l0_5 = some r) ∧ Aside0 (kq ≤ kj11) ∧ Aside0 (Below w.heap.size w wc))
      case first =>
       have H := HC18.out
       clear HC18
       by_cases c19 : x40_11 = true
       ·subst c19
        have H1 : (impl_nodeForm.j2 kj11 t335 t336 true a0_0 a0_1 a0_3 l0_4 l0_5) = some r := by rw [if_pos rfl] at H; exact H
        clear H
        have H := H1
        clear H1
        have H' := am H
        clear H
        go_wp2
        go_meet
        case rel => exact ⟨_, (true), rfs, H', ⟨by have := HJ2.out; have := HJ11.out; first | omega | exact Nat.le_refl _⟩, ⟨blw⟩⟩
       replace c19 := Bool.eq_false_iff.mpr c19
       subst c19
       have H1 : (if a0_0 = 3 then (if a0_2 = 0 then (if a0_0 = 2 then (impl_nodeForm.j2 kj11 t335 t336 false a0_0 a0_1 a0_3 l0_4 l0_5) else (impl_nodeForm.j2 kj11 t335 t336 false a0_0 a0_1 a0_3 l0_4 l0_5)) else (if a0_2 = 1 then (if a0_0 = 2 then (impl_nodeForm.j2 kj11 t335 t336 false a0_0 a0_1 a0_3 l0_4 l0_5) else (impl_nodeForm.j2 kj11 t335 t336 false a0_0 a0_1 a0_3 l0_4 l0_5)) else (impl_nodeForm.j2 kj11 t335 t336 (a0_2 != 1) a0_0 a0_1 a0_3 l0_4 l0_5))) else (if a0_0 = 2 then (impl_nodeForm.j2 kj11 t335 t336 false a0_0 a0_1 a0_3 l0_4 l0_5) else (impl_nodeForm.j2 kj11 t335 t336 (a0_2 != 0) a0_0 a0_1 a0_3 l0_4 l0_5))) = some r := by rw [if_neg (show ¬ (false = true) by decide)] at H; exact H
       clear H
       have H := H1
       clear H1
       by_cases c20 : a0_0 = 3
       case neg =>
        rw [if_neg c20] at H
        have c20b0 : (a0_0 == 3) = false := beq_eq_false_iff_ne.mpr c20
        have c20b1 : (a0_0 != 3) = true := bne_iff_ne.mpr c20
        (first | rw [c20b0] | (simp only [i64_w, i32_w]; rw [c20b0]) | (rw [c20b1]; (try simp only [Bool.not_true, Bool.not_false])) | skip)
        by_cases c30 : a0_0 = 2
        case neg =>
         rw [if_neg c30] at H
         have c30b0 : (a0_0 == 2) = false := beq_eq_false_iff_ne.mpr c30
         have c30b1 : (a0_0 != 2) = true := bne_iff_ne.mpr c30
         have H' := am H
         clear H
         have hxr32_0 : wc.cell? ad0 = some (.int .i64 a0_0) := pw_cell_below HB.out (HP0.out.1)
         have hxr32_1 : wc.cell? ⟨ad0.block, ad0.off + 1, none⟩ = some (.string a0_1) := pw_cell_below HB.out (HP0.out.2.1)
         have hxr32_2 : wc.cell? ⟨ad0.block, ad0.off + 2, none⟩ = some (.int .i64 a0_2) := pw_cell_below HB.out (HP0.out.2.2.1)
         have hxr32_3 : wc.cell? ⟨ad0.block, ad0.off + 3, none⟩ = some (.int .i64 a0_3) := pw_cell_below HB.out (HP0.out.2.2.2.1)
         have hxr32_4 : wc.cell? ⟨ad0.block, ad0.off + 4, none⟩ = some (.slice A0_4 l0_4.length c0_4) := pw_cell_below HB.out (HP0.out.2.2.2.2.1)
         have hxr32_5 : wc.cell? ⟨ad0.block, ad0.off + 5, none⟩ = some (.slice A0_5 l0_5.length c0_5) := pw_cell_below HB.out (HP0.out.2.2.2.2.2.1)
         have hxr32_6 : wc.cell? ⟨ad0.block, ad0.off + 6, none⟩ = some (.slice A0_6 l0_6.length c0_6) := pw_cell_below HB.out (HP0.out.2.2.2.2.2.2.1)
         have hxr32_7 : wc.cell? ⟨ad0.block, ad0.off + 7, none⟩ = some (.slice A0_7 l0_7.length c0_7) := pw_cell_below HB.out (HP0.out.2.2.2.2.2.2.2.1)
         go_wp2
         go_meet
         case rel => exact ⟨_, ((a0_2 != 0)), rfs, H', ⟨by have := HJ2.out; have := HJ11.out; first | omega | exact Nat.le_refl _⟩, ⟨blw⟩⟩
        rw [if_pos c30] at H
        have c30b0 : (a0_0 == 2) = true := beq_iff_eq.mpr c30
        have c30b1 : (a0_0 != 2) = false := bne_eq_false_iff_eq.mpr c30
        clear c30
        have H' := am H
        clear H
        have hxr31_0 : wc.cell? ad0 = some (.int .i64 a0_0) := pw_cell_below HB.out (HP0.out.1)
        have hxr31_1 : wc.cell? ⟨ad0.block, ad0.off + 1, none⟩ = some (.string a0_1) := pw_cell_below HB.out (HP0.out.2.1)
        have hxr31_2 : wc.cell? ⟨ad0.block, ad0.off + 2, none⟩ = some (.int .i64 a0_2) := pw_cell_below HB.out (HP0.out.2.2.1)
        have hxr31_3 : wc.cell? ⟨ad0.block, ad0.off + 3, none⟩ = some (.int .i64 a0_3) := pw_cell_below HB.out (HP0.out.2.2.2.1)
        have hxr31_4 : wc.cell? ⟨ad0.block, ad0.off + 4, none⟩ = some (.slice A0_4 l0_4.length c0_4) := pw_cell_below HB.out (HP0.out.2.2.2.2.1)
        have hxr31_5 : wc.cell? ⟨ad0.block, ad0.off + 5, none⟩ = some (.slice A0_5 l0_5.length c0_5) := pw_cell_below HB.out (HP0.out.2.2.2.2.2.1)
        have hxr31_6 : wc.cell? ⟨ad0.block, ad0.off + 6, none⟩ = some (.slice A0_6 l0_6.length c0_6) := pw_cell_below HB.out (HP0.out.2.2.2.2.2.2.1)
        have hxr31_7 : wc.cell? ⟨ad0.block, ad0.off + 7, none⟩ = some (.slice A0_7 l0_7.length c0_7) := pw_cell_below HB.out (HP0.out.2.2.2.2.2.2.2.1)
        go_wp2
        go_meet
        case rel => exact ⟨_, (false), rfs, H', ⟨by have := HJ2.out; have := HJ11.out; first | omega | exact Nat.le_refl _⟩, ⟨blw⟩⟩
       rw [if_pos c20] at H
       have c20b0 : (a0_0 == 3) = true := beq_iff_eq.mpr c20
       have c20b1 : (a0_0 != 3) = false := bne_eq_false_iff_eq.mpr c20
       clear c20
       (first | rw [c20b0] | (simp only [i64_w, i32_w]; rw [c20b0]) | (rw [c20b1]; (try simp only [Bool.not_true, Bool.not_false])) | skip)
       by_cases c21 : a0_2 = 0
       ·rw [if_pos c21] at H
        have c21b0 : (a0_2 == 0) = true := beq_iff_eq.mpr c21
        have c21b1 : (a0_2 != 0) = false := bne_eq_false_iff_eq.mpr c21
        clear c21
        by_cases c22 : a0_0 = 2
        case neg =>
         rw [if_neg c22] at H
         have c22b0 : (a0_0 == 2) = false := beq_eq_false_iff_ne.mpr c22
         have c22b1 : (a0_0 != 2) = true := bne_iff_ne.mpr c22
         have H' := am H
         clear H
         have hxr24_0 : wc.cell? ad0 = some (.int .i64 a0_0) := pw_cell_below HB.out (HP0.out.1)
         have hxr24_1 : wc.cell? ⟨ad0.block, ad0.off + 1, none⟩ = some (.string a0_1) := pw_cell_below HB.out (HP0.out.2.1)
         have hxr24_2 : wc.cell? ⟨ad0.block, ad0.off + 2, none⟩ = some (.int .i64 a0_2) := pw_cell_below HB.out (HP0.out.2.2.1)
         have hxr24_3 : wc.cell? ⟨ad0.block, ad0.off + 3, none⟩ = some (.int .i64 a0_3) := pw_cell_below HB.out (HP0.out.2.2.2.1)
         have hxr24_4 : wc.cell? ⟨ad0.block, ad0.off + 4, none⟩ = some (.slice A0_4 l0_4.length c0_4) := pw_cell_below HB.out (HP0.out.2.2.2.2.1)
         have hxr24_5 : wc.cell? ⟨ad0.block, ad0.off + 5, none⟩ = some (.slice A0_5 l0_5.length c0_5) := pw_cell_below HB.out (HP0.out.2.2.2.2.2.1)
         have hxr24_6 : wc.cell? ⟨ad0.block, ad0.off + 6, none⟩ = some (.slice A0_6 l0_6.length c0_6) := pw_cell_below HB.out (HP0.out.2.2.2.2.2.2.1)
         have hxr24_7 : wc.cell? ⟨ad0.block, ad0.off + 7, none⟩ = some (.slice A0_7 l0_7.length c0_7) := pw_cell_below HB.out (HP0.out.2.2.2.2.2.2.2.1)
         go_wp2
         go_meet
         case rel => exact ⟨_, (false), rfs, H', ⟨by have := HJ2.out; have := HJ11.out; first | omega | exact Nat.le_refl _⟩, ⟨blw⟩⟩
        rw [if_pos c22] at H
        have c22b0 : (a0_0 == 2) = true := beq_iff_eq.mpr c22
        have c22b1 : (a0_0 != 2) = false := bne_eq_false_iff_eq.mpr c22
        clear c22
        have H' := am H
        clear H
        have hxr23_0 : wc.cell? ad0 = some (.int .i64 a0_0) := pw_cell_below HB.out (HP0.out.1)
        have hxr23_1 : wc.cell? ⟨ad0.block, ad0.off + 1, none⟩ = some (.string a0_1) := pw_cell_below HB.out (HP0.out.2.1)
        have hxr23_2 : wc.cell? ⟨ad0.block, ad0.off + 2, none⟩ = some (.int .i64 a0_2) := pw_cell_below HB.out (HP0.out.2.2.1)
        have hxr23_3 : wc.cell? ⟨ad0.block, ad0.off + 3, none⟩ = some (.int .i64 a0_3) := pw_cell_below HB.out (HP0.out.2.2.2.1)
        have hxr23_4 : wc.cell? ⟨ad0.block, ad0.off + 4, none⟩ = some (.slice A0_4 l0_4.length c0_4) := pw_cell_below HB.out (HP0.out.2.2.2.2.1)
        have hxr23_5 : wc.cell? ⟨ad0.block, ad0.off + 5, none⟩ = some (.slice A0_5 l0_5.length c0_5) := pw_cell_below HB.out (HP0.out.2.2.2.2.2.1)
        have hxr23_6 : wc.cell? ⟨ad0.block, ad0.off + 6, none⟩ = some (.slice A0_6 l0_6.length c0_6) := pw_cell_below HB.out (HP0.out.2.2.2.2.2.2.1)
        have hxr23_7 : wc.cell? ⟨ad0.block, ad0.off + 7, none⟩ = some (.slice A0_7 l0_7.length c0_7) := pw_cell_below HB.out (HP0.out.2.2.2.2.2.2.2.1)
        go_wp2
        go_meet
        case rel => exact ⟨_, (false), rfs, H', ⟨by have := HJ2.out; have := HJ11.out; first | omega | exact Nat.le_refl _⟩, ⟨blw⟩⟩
       rw [if_neg c21] at H
       have c21b0 : (a0_2 == 0) = false := beq_eq_false_iff_ne.mpr c21
       have c21b1 : (a0_2 != 0) = true := bne_iff_ne.mpr c21
       by_cases c25 : a0_2 = 1
       case neg =>
        rw [if_neg c25] at H
        have c25b0 : (a0_2 == 1) = false := beq_eq_false_iff_ne.mpr c25
        have c25b1 : (a0_2 != 1) = true := bne_iff_ne.mpr c25
        have H' := am H
        clear H
        have hxr29_0 : wc.cell? ad0 = some (.int .i64 a0_0) := pw_cell_below HB.out (HP0.out.1)
        have hxr29_1 : wc.cell? ⟨ad0.block, ad0.off + 1, none⟩ = some (.string a0_1) := pw_cell_below HB.out (HP0.out.2.1)
        have hxr29_2 : wc.cell? ⟨ad0.block, ad0.off + 2, none⟩ = some (.int .i64 a0_2) := pw_cell_below HB.out (HP0.out.2.2.1)
        have hxr29_3 : wc.cell? ⟨ad0.block, ad0.off + 3, none⟩ = some (.int .i64 a0_3) := pw_cell_below HB.out (HP0.out.2.2.2.1)
        have hxr29_4 : wc.cell? ⟨ad0.block, ad0.off + 4, none⟩ = some (.slice A0_4 l0_4.length c0_4) := pw_cell_below HB.out (HP0.out.2.2.2.2.1)
        have hxr29_5 : wc.cell? ⟨ad0.block, ad0.off + 5, none⟩ = some (.slice A0_5 l0_5.length c0_5) := pw_cell_below HB.out (HP0.out.2.2.2.2.2.1)
        have hxr29_6 : wc.cell? ⟨ad0.block, ad0.off + 6, none⟩ = some (.slice A0_6 l0_6.length c0_6) := pw_cell_below HB.out (HP0.out.2.2.2.2.2.2.1)
        have hxr29_7 : wc.cell? ⟨ad0.block, ad0.off + 7, none⟩ = some (.slice A0_7 l0_7.length c0_7) := pw_cell_below HB.out (HP0.out.2.2.2.2.2.2.2.1)
        go_wp2
        go_meet
        case rel => exact ⟨_, ((a0_2 != 1)), rfs, H', ⟨by have := HJ2.out; have := HJ11.out; first | omega | exact Nat.le_refl _⟩, ⟨blw⟩⟩
       rw [if_pos c25] at H
       have c25b0 : (a0_2 == 1) = true := beq_iff_eq.mpr c25
       have c25b1 : (a0_2 != 1) = false := bne_eq_false_iff_eq.mpr c25
       clear c25
       by_cases c26 : a0_0 = 2
       case neg =>
        rw [if_neg c26] at H
        have c26b0 : (a0_0 == 2) = false := beq_eq_false_iff_ne.mpr c26
        have c26b1 : (a0_0 != 2) = true := bne_iff_ne.mpr c26
        have H' := am H
        clear H
        have hxr28_0 : wc.cell? ad0 = some (.int .i64 a0_0) := pw_cell_below HB.out (HP0.out.1)
        have hxr28_1 : wc.cell? ⟨ad0.block, ad0.off + 1, none⟩ = some (.string a0_1) := pw_cell_below HB.out (HP0.out.2.1)
        have hxr28_2 : wc.cell? ⟨ad0.block, ad0.off + 2, none⟩ = some (.int .i64 a0_2) := pw_cell_below HB.out (HP0.out.2.2.1)
        have hxr28_3 : wc.cell? ⟨ad0.block, ad0.off + 3, none⟩ = some (.int .i64 a0_3) := pw_cell_below HB.out (HP0.out.2.2.2.1)
        have hxr28_4 : wc.cell? ⟨ad0.block, ad0.off + 4, none⟩ = some (.slice A0_4 l0_4.length c0_4) := pw_cell_below HB.out (HP0.out.2.2.2.2.1)
        have hxr28_5 : wc.cell? ⟨ad0.block, ad0.off + 5, none⟩ = some (.slice A0_5 l0_5.length c0_5) := pw_cell_below HB.out (HP0.out.2.2.2.2.2.1)
        have hxr28_6 : wc.cell? ⟨ad0.block, ad0.off + 6, none⟩ = some (.slice A0_6 l0_6.length c0_6) := pw_cell_below HB.out (HP0.out.2.2.2.2.2.2.1)
        have hxr28_7 : wc.cell? ⟨ad0.block, ad0.off + 7, none⟩ = some (.slice A0_7 l0_7.length c0_7) := pw_cell_below HB.out (HP0.out.2.2.2.2.2.2.2.1)
        go_wp2
        go_meet
        case rel => exact ⟨_, (false), rfs, H', ⟨by have := HJ2.out; have := HJ11.out; first | omega | exact Nat.le_refl _⟩, ⟨blw⟩⟩
       rw [if_pos c26] at H
       have c26b0 : (a0_0 == 2) = true := beq_iff_eq.mpr c26
       have c26b1 : (a0_0 != 2) = false := bne_eq_false_iff_eq.mpr c26
       clear c26
       have H' := am H
       clear H
       have hxr27_0 : wc.cell? ad0 = some (.int .i64 a0_0) := pw_cell_below HB.out (HP0.out.1)
       have hxr27_1 : wc.cell? ⟨ad0.block, ad0.off + 1, none⟩ = some (.string a0_1) := pw_cell_below HB.out (HP0.out.2.1)
       have hxr27_2 : wc.cell? ⟨ad0.block, ad0.off + 2, none⟩ = some (.int .i64 a0_2) := pw_cell_below HB.out (HP0.out.2.2.1)
       have hxr27_3 : wc.cell? ⟨ad0.block, ad0.off + 3, none⟩ = some (.int .i64 a0_3) := pw_cell_below HB.out (HP0.out.2.2.2.1)
       have hxr27_4 : wc.cell? ⟨ad0.block, ad0.off + 4, none⟩ = some (.slice A0_4 l0_4.length c0_4) := pw_cell_below HB.out (HP0.out.2.2.2.2.1)
       have hxr27_5 : wc.cell? ⟨ad0.block, ad0.off + 5, none⟩ = some (.slice A0_5 l0_5.length c0_5) := pw_cell_below HB.out (HP0.out.2.2.2.2.2.1)
       have hxr27_6 : wc.cell? ⟨ad0.block, ad0.off + 6, none⟩ = some (.slice A0_6 l0_6.length c0_6) := pw_cell_below HB.out (HP0.out.2.2.2.2.2.2.1)
       have hxr27_7 : wc.cell? ⟨ad0.block, ad0.off + 7, none⟩ = some (.slice A0_7 l0_7.length c0_7) := pw_cell_below HB.out (HP0.out.2.2.2.2.2.2.2.1)
       go_wp2
       go_meet
       case rel => exact ⟨_, (false), rfs, H', ⟨by have := HJ2.out; have := HJ11.out; first | omega | exact Nat.le_refl _⟩, ⟨blw⟩⟩
      case rest =>
       clear HC18
       (try clear c1); (try clear c2); (try clear p2 p2); (try clear c3); (try clear c4); (try clear c5); (try clear c5b0); (try clear c5b1); (try clear c6); (try clear c6b0); (try clear c6b1); (try clear c10); (try clear c13); (try clear c13b0); (try clear c13b1); (try clear c14); (try clear c14b0); (try clear c19); (try clear c20); (try clear c20b0); (try clear c20b1); (try clear c21); (try clear c21b0); (try clear c21b1); (try clear c22); (try clear c22b0); (try clear c22b1); (try clear c25); (try clear c25b0); (try clear c25b1); (try clear c26); (try clear c26b0); (try clear c26b1); (try clear c30); (try clear c30b0); (try clear c30b1)
       obtain ⟨kq, x40_17, rfl, HA, HJ17, HB⟩ := hcut
       cases kq with
       | zero => exact absurd HA.out (by simp [impl_nodeForm.j2])
       | succ kj17 =>
        have H := HA.out
        clear HA
        simp only [impl_nodeForm.j2] at H
        by_cases c33 : x40_17 = true
        ·subst c33
         have H1 : (some false) = some r := by rw [if_pos rfl] at H; exact H
         clear H
         have H := H1
         clear H1
         obtain rfl := Option.some.inj H
         go_wp2
         go_ret
         exact ⟨rfw, blw⟩
        replace c33 := Bool.eq_false_iff.mpr c33
        subst c33
        have H1 : (if t335 = true then (if a0_0 = 4 then (impl_nodeForm.j3 kj17 t335 t336 false a0_1 a0_3 l0_4 l0_5) else ((impl_IsName.f kj17 a0_1).bind fun t338 => (impl_nodeForm.j3 kj17 t335 t336 (!t338) a0_1 a0_3 l0_4 l0_5))) else (impl_nodeForm.j3 kj17 t335 t336 false a0_1 a0_3 l0_4 l0_5)) = some r := by rw [if_neg (show ¬ (false = true) by decide)] at H; exact H
        clear H
        have H := H1
        clear H1
        have HC34 := am H
        clear H
        go_upto_region 8 with (fail)
        go_cut [98] (fun v98 wc => ∃ (kq : Nat) (x98_33 : Bool), v98 = .bool x98_33 ∧ Aside0 (impl_nodeForm.j3 kq t335 t336 x98_33 a0_1 a0_3 l0_4 l0_5 = some r) ∧ Aside0 (kq ≤ kj17) ∧ Aside0 (Below w.heap.size w wc))
        case first =>
         have H := HC34.out
         clear HC34
         by_cases c35 : t335 = true
         case neg =>
          replace c35 := Bool.eq_false_iff.mpr c35
          subst c35
          have H1 : (impl_nodeForm.j3 kj17 false t336 false a0_1 a0_3 l0_4 l0_5) = some r := by rw [if_neg (show ¬ (false = true) by decide)] at H; exact H
          clear H
          have H := H1
          clear H1
          have H' := am H
          clear H
          go_wp2
          go_meet
          case rel => exact ⟨_, (false), rfs, H', ⟨by have := HJ2.out; have := HJ11.out; have := HJ17.out; first | omega | exact Nat.le_refl _⟩, ⟨blw⟩⟩
         subst c35
         have H1 : (if a0_0 = 4 then (impl_nodeForm.j3 kj17 true t336 false a0_1 a0_3 l0_4 l0_5) else ((impl_IsName.f kj17 a0_1).bind fun t338 => (impl_nodeForm.j3 kj17 true t336 (!t338) a0_1 a0_3 l0_4 l0_5))) = some r := by rw [if_pos rfl] at H; exact H
         clear H
         have H := H1
         clear H1
         by_cases c36 : a0_0 = 4
         ·rw [if_pos c36] at H
          have c36b0 : (a0_0 == 4) = true := beq_iff_eq.mpr c36
          have c36b1 : (a0_0 != 4) = false := bne_eq_false_iff_eq.mpr c36
          clear c36
          (first | rw [c36b0] | (simp only [i64_w, i32_w]; rw [c36b0]) | (rw [c36b1]; (try simp only [Bool.not_true, Bool.not_false])) | skip)
          have H' := am H
          clear H
          have hxr37_0 : wc.cell? ad0 = some (.int .i64 a0_0) := pw_cell_below HB.out (HP0.out.1)
          have hxr37_1 : wc.cell? ⟨ad0.block, ad0.off + 1, none⟩ = some (.string a0_1) := pw_cell_below HB.out (HP0.out.2.1)
          have hxr37_2 : wc.cell? ⟨ad0.block, ad0.off + 2, none⟩ = some (.int .i64 a0_2) := pw_cell_below HB.out (HP0.out.2.2.1)
          have hxr37_3 : wc.cell? ⟨ad0.block, ad0.off + 3, none⟩ = some (.int .i64 a0_3) := pw_cell_below HB.out (HP0.out.2.2.2.1)
          have hxr37_4 : wc.cell? ⟨ad0.block, ad0.off + 4, none⟩ = some (.slice A0_4 l0_4.length c0_4) := pw_cell_below HB.out (HP0.out.2.2.2.2.1)
          have hxr37_5 : wc.cell? ⟨ad0.block, ad0.off + 5, none⟩ = some (.slice A0_5 l0_5.length c0_5) := pw_cell_below HB.out (HP0.out.2.2.2.2.2.1)
          have hxr37_6 : wc.cell? ⟨ad0.block, ad0.off + 6, none⟩ = some (.slice A0_6 l0_6.length c0_6) := pw_cell_below HB.out (HP0.out.2.2.2.2.2.2.1)
          have hxr37_7 : wc.cell? ⟨ad0.block, ad0.off + 7, none⟩ = some (.slice A0_7 l0_7.length c0_7) := pw_cell_below HB.out (HP0.out.2.2.2.2.2.2.2.1)
          go_wp2
          go_meet
          case rel => exact ⟨_, (false), rfs, H', ⟨by have := HJ2.out; have := HJ11.out; have := HJ17.out; first | omega | exact Nat.le_refl _⟩, ⟨blw⟩⟩
         rw [if_neg c36] at H
         have c36b0 : (a0_0 == 4) = false := beq_eq_false_iff_ne.mpr c36
         have c36b1 : (a0_0 != 4) = true := bne_iff_ne.mpr c36
         (first | rw [c36b0] | (simp only [i64_w, i32_w]; rw [c36b0]) | (rw [c36b1]; (try simp only [Bool.not_true, Bool.not_false])) | skip)
         replace H := Option.bind_eq_some_iff.mp H
         obtain ⟨t338, A380, H⟩ := H
         replace H : (impl_nodeForm.j3 kj17 true t336 (!t338) a0_1 a0_3 l0_4 l0_5) = some r := H
         have A38 := am A380
         clear A380
         have H' := am H
         clear H
         have hxr39_0 : wc.cell? ad0 = some (.int .i64 a0_0) := pw_cell_below HB.out (HP0.out.1)
         have hxr39_1 : wc.cell? ⟨ad0.block, ad0.off + 1, none⟩ = some (.string a0_1) := pw_cell_below HB.out (HP0.out.2.1)
         have hxr39_2 : wc.cell? ⟨ad0.block, ad0.off + 2, none⟩ = some (.int .i64 a0_2) := pw_cell_below HB.out (HP0.out.2.2.1)
         have hxr39_3 : wc.cell? ⟨ad0.block, ad0.off + 3, none⟩ = some (.int .i64 a0_3) := pw_cell_below HB.out (HP0.out.2.2.2.1)
         have hxr39_4 : wc.cell? ⟨ad0.block, ad0.off + 4, none⟩ = some (.slice A0_4 l0_4.length c0_4) := pw_cell_below HB.out (HP0.out.2.2.2.2.1)
         have hxr39_5 : wc.cell? ⟨ad0.block, ad0.off + 5, none⟩ = some (.slice A0_5 l0_5.length c0_5) := pw_cell_below HB.out (HP0.out.2.2.2.2.2.1)
         have hxr39_6 : wc.cell? ⟨ad0.block, ad0.off + 6, none⟩ = some (.slice A0_6 l0_6.length c0_6) := pw_cell_below HB.out (HP0.out.2.2.2.2.2.2.1)
         have hxr39_7 : wc.cell? ⟨ad0.block, ad0.off + 7, none⟩ = some (.slice A0_7 l0_7.length c0_7) := pw_cell_below HB.out (HP0.out.2.2.2.2.2.2.2.1)
         go_wp2_with (first | (go_at_call 56; (with_reducible refine (impl_IsName.calls kj17 a0_1 t338 _ A38.out).mono ?_); rintro e w' ⟨rfl, ⟨nd, rfl⟩⟩))
         go_meet
         case rel => exact ⟨_, (!t338), rfs, H', ⟨by have := HJ2.out; have := HJ11.out; have := HJ17.out; first | omega | exact Nat.le_refl _⟩, ⟨blw⟩⟩
        case rest =>
         clear HC34
         (try clear c1); (try clear c2); (try clear p2 p2); (try clear c3); (try clear c4); (try clear c5); (try clear c5b0); (try clear c5b1); (try clear c6); (try clear c6b0); (try clear c6b1); (try clear c10); (try clear c13); (try clear c13b0); (try clear c13b1); (try clear c14); (try clear c14b0); (try clear c19); (try clear c20); (try clear c20b0); (try clear c20b1); (try clear c21); (try clear c21b0); (try clear c21b1); (try clear c22); (try clear c22b0); (try clear c22b1); (try clear c25); (try clear c25b0); (try clear c25b1); (try clear c26); (try clear c26b0); (try clear c26b1); (try clear c30); (try clear c30b0); (try clear c30b1); (try clear c33); (try clear c35); (try clear c36); (try clear c36b0); (try clear c36b1)
         obtain ⟨kq, x98_33, rfl, HA, HJ33, HB⟩ := hcut
         cases kq with
         | zero => exact absurd HA.out (by simp [impl_nodeForm.j3])
         | succ kj33 =>
          have H := HA.out
          clear HA
          simp only [impl_nodeForm.j3] at H
          by_cases c40 : x98_33 = true
          ·subst c40
           have H1 : (some false) = some r := by rw [if_pos rfl] at H; exact H
           clear H
           have H := H1
           clear H1
           obtain rfl := Option.some.inj H
           go_wp2
           go_ret
           exact ⟨rfw, blw⟩
          replace c40 := Bool.eq_false_iff.mpr c40
          subst c40
          have H1 : (if t335 = true then (impl_nodeForm.j4 kj33 t336 a0_3 l0_4 l0_5) else (if a0_1.toList = ([] : List UInt8) then (impl_nodeForm.j4 kj33 t336 a0_3 l0_4 l0_5) else (some false))) = some r := by rw [if_neg (show ¬ (false = true) by decide)] at H; exact H
          clear H
          have H := H1
          clear H1
          by_cases c41 : t335 = true
          ·subst c41
           have H1 : (impl_nodeForm.j4 kj33 t336 a0_3 l0_4 l0_5) = some r := by rw [if_pos rfl] at H; exact H
           clear H
           have H := H1
           clear H1
           have H' := am H
           clear H
           go_wp2
           go_meet
           case rel => exact ⟨_, H', ⟨by have := HJ2.out; have := HJ11.out; have := HJ17.out; have := HJ33.out; first | omega | exact Nat.le_refl _⟩, ⟨blw⟩⟩
          replace c41 := Bool.eq_false_iff.mpr c41
          subst c41
          have H1 : (if a0_1.toList = ([] : List UInt8) then (impl_nodeForm.j4 kj33 t336 a0_3 l0_4 l0_5) else (some false)) = some r := by rw [if_neg (show ¬ (false = true) by decide)] at H; exact H
          clear H
          have H := H1
          clear H1
          by_cases c42 : a0_1.toList = ([] : List UInt8)
          case neg =>
           rw [if_neg c42] at H
           have c42b0 : (a0_1.toList == ([] : List UInt8)) = false := beq_eq_false_iff_ne.mpr c42
           have c42e0 : (a0_1.toList).isEmpty = false := by cases h_ : a0_1.toList with | nil => exact absurd h_ c42 | cons _ _ => rfl
           have c42b1 : (a0_1.toList != ([] : List UInt8)) = true := bne_iff_ne.mpr c42
           obtain rfl := Option.some.inj H
           have hxr44_0 : wc.cell? ad0 = some (.int .i64 a0_0) := pw_cell_below HB.out (HP0.out.1)
           have hxr44_1 : wc.cell? ⟨ad0.block, ad0.off + 1, none⟩ = some (.string a0_1) := pw_cell_below HB.out (HP0.out.2.1)
           have hxr44_2 : wc.cell? ⟨ad0.block, ad0.off + 2, none⟩ = some (.int .i64 a0_2) := pw_cell_below HB.out (HP0.out.2.2.1)
           have hxr44_3 : wc.cell? ⟨ad0.block, ad0.off + 3, none⟩ = some (.int .i64 a0_3) := pw_cell_below HB.out (HP0.out.2.2.2.1)
           have hxr44_4 : wc.cell? ⟨ad0.block, ad0.off + 4, none⟩ = some (.slice A0_4 l0_4.length c0_4) := pw_cell_below HB.out (HP0.out.2.2.2.2.1)
           have hxr44_5 : wc.cell? ⟨ad0.block, ad0.off + 5, none⟩ = some (.slice A0_5 l0_5.length c0_5) := pw_cell_below HB.out (HP0.out.2.2.2.2.2.1)
           have hxr44_6 : wc.cell? ⟨ad0.block, ad0.off + 6, none⟩ = some (.slice A0_6 l0_6.length c0_6) := pw_cell_below HB.out (HP0.out.2.2.2.2.2.2.1)
           have hxr44_7 : wc.cell? ⟨ad0.block, ad0.off + 7, none⟩ = some (.slice A0_7 l0_7.length c0_7) := pw_cell_below HB.out (HP0.out.2.2.2.2.2.2.2.1)
           go_wp2
           go_ret
           exact ⟨rfw, blw⟩
          rw [if_pos c42] at H
          have c42b0 : (a0_1.toList == ([] : List UInt8)) = true := beq_iff_eq.mpr c42
          have c42e0 : (a0_1.toList).isEmpty = true := by rw [c42]; rfl
          have c42b1 : (a0_1.toList != ([] : List UInt8)) = false := bne_eq_false_iff_eq.mpr c42
          clear c42
          have H' := am H
          clear H
          have hxr43_0 : wc.cell? ad0 = some (.int .i64 a0_0) := pw_cell_below HB.out (HP0.out.1)
          have hxr43_1 : wc.cell? ⟨ad0.block, ad0.off + 1, none⟩ = some (.string a0_1) := pw_cell_below HB.out (HP0.out.2.1)
          have hxr43_2 : wc.cell? ⟨ad0.block, ad0.off + 2, none⟩ = some (.int .i64 a0_2) := pw_cell_below HB.out (HP0.out.2.2.1)
          have hxr43_3 : wc.cell? ⟨ad0.block, ad0.off + 3, none⟩ = some (.int .i64 a0_3) := pw_cell_below HB.out (HP0.out.2.2.2.1)
          have hxr43_4 : wc.cell? ⟨ad0.block, ad0.off + 4, none⟩ = some (.slice A0_4 l0_4.length c0_4) := pw_cell_below HB.out (HP0.out.2.2.2.2.1)
          have hxr43_5 : wc.cell? ⟨ad0.block, ad0.off + 5, none⟩ = some (.slice A0_5 l0_5.length c0_5) := pw_cell_below HB.out (HP0.out.2.2.2.2.2.1)
          have hxr43_6 : wc.cell? ⟨ad0.block, ad0.off + 6, none⟩ = some (.slice A0_6 l0_6.length c0_6) := pw_cell_below HB.out (HP0.out.2.2.2.2.2.2.1)
          have hxr43_7 : wc.cell? ⟨ad0.block, ad0.off + 7, none⟩ = some (.slice A0_7 l0_7.length c0_7) := pw_cell_below HB.out (HP0.out.2.2.2.2.2.2.2.1)
          go_wp2
          go_meet
          case rel => exact ⟨_, H', ⟨by have := HJ2.out; have := HJ11.out; have := HJ17.out; have := HJ33.out; first | omega | exact Nat.le_refl _⟩, ⟨blw⟩⟩
   case rest =>
    clear HC11
    (try clear c1); (try clear c2); (try clear p2 p2); (try clear c3); (try clear c4); (try clear c5); (try clear c5b0); (try clear c5b1); (try clear c6); (try clear c6b0); (try clear c6b1); (try clear c10); (try clear c13); (try clear c13b0); (try clear c13b1); (try clear c14); (try clear c14b0); (try clear c19); (try clear c20); (try clear c20b0); (try clear c20b1); (try clear c21); (try clear c21b0); (try clear c21b1); (try clear c22); (try clear c22b0); (try clear c22b1); (try clear c25); (try clear c25b0); (try clear c25b1); (try clear c26); (try clear c26b0); (try clear c26b1); (try clear c30); (try clear c30b0); (try clear c30b1); (try clear c33); (try clear c35); (try clear c36); (try clear c36b0); (try clear c36b1); (try clear c40); (try clear c41); (try clear c42); (try clear c42b0); (try clear c42b1)
    obtain ⟨kq, HA, HJ10, HB⟩ := hcut
    cases kq with
    | zero => exact absurd HA.out (by simp [impl_nodeForm.j4])
    | succ kj10 =>
     have H := HA.out
     clear HA
     simp only [impl_nodeForm.j4] at H
     by_cases c45 : t336 = true
     ·subst c45
      have H1 : ((impl_IsValidType.f kj10 a0_3 l0_4 l0_5).bind fun t339 => (some t339)) = some r := by rw [if_pos rfl] at H; exact H
      clear H
      have H := H1
      clear H1
      replace H := Option.bind_eq_some_iff.mp H
      obtain ⟨t339, A460, H⟩ := H
      replace H : (some t339) = some r := H
      have A46 := am A460
      clear A460
      obtain rfl := Option.some.inj H
      have hxr47_0 : wc.cell? ad0 = some (.int .i64 a0_0) := pw_cell_below HB.out (HP0.out.1)
      have hxr47_1 : wc.cell? ⟨ad0.block, ad0.off + 1, none⟩ = some (.string a0_1) := pw_cell_below HB.out (HP0.out.2.1)
      have hxr47_2 : wc.cell? ⟨ad0.block, ad0.off + 2, none⟩ = some (.int .i64 a0_2) := pw_cell_below HB.out (HP0.out.2.2.1)
      have hxr47_3 : wc.cell? ⟨ad0.block, ad0.off + 3, none⟩ = some (.int .i64 a0_3) := pw_cell_below HB.out (HP0.out.2.2.2.1)
      have hxr47_4 : wc.cell? ⟨ad0.block, ad0.off + 4, none⟩ = some (.slice A0_4 l0_4.length c0_4) := pw_cell_below HB.out (HP0.out.2.2.2.2.1)
      have hxr47_5 : wc.cell? ⟨ad0.block, ad0.off + 5, none⟩ = some (.slice A0_5 l0_5.length c0_5) := pw_cell_below HB.out (HP0.out.2.2.2.2.2.1)
      have hxr47_6 : wc.cell? ⟨ad0.block, ad0.off + 6, none⟩ = some (.slice A0_6 l0_6.length c0_6) := pw_cell_below HB.out (HP0.out.2.2.2.2.2.2.1)
      have hxr47_7 : wc.cell? ⟨ad0.block, ad0.off + 7, none⟩ = some (.slice A0_7 l0_7.length c0_7) := pw_cell_below HB.out (HP0.out.2.2.2.2.2.2.2.1)
      go_wp2_with (first | ((with_reducible refine gate_callee (f := 57) rfl ?_); refine goesL_ (some 129) rfl rfl Tryd.func57 kr rfl #[.agg #[.int .i64 a0_3, .slice A0_4 l0_4.length c0_4, .slice A0_5 l0_5.length c0_5]] rfl mpw ?_; (with_reducible refine (impl_IsValidType.calls kj10 a0_3 _ _ l0_4 _ _ l0_5 t339 _ ?side1 ?side2 ?side3 ?side4 A46.out).mono ?_); (case side1 => have X_ := HR0_4; exact cbl); (case side2 => exact HC0_4.out); (case side3 => have X_ := HR0_5; exact cbl); (case side4 => exact HC0_5.out); rintro e w48 ⟨rfl, hb⟩; refine ⟨_, rfl, ?_⟩; have n0_ := am (below_step blw hb); clear HB; revert n0_; intro HB; (try clear hb); (try clear hb2); (try clear hk); (try clear hi)))
      go_ret
      exact ⟨rfw, blw⟩
     replace c45 := Bool.eq_false_iff.mpr c45
     subst c45
     have H1 : ((impl_isZeroType.f a0_3 l0_4 l0_5).bind fun t340 => (some t340)) = some r := by rw [if_neg (show ¬ (false = true) by decide)] at H; exact H
     clear H
     have H := H1
     clear H1
     replace H := Option.bind_eq_some_iff.mp H
     obtain ⟨t340, A490, H⟩ := H
     replace H : (some t340) = some r := H
     have A49 := am A490
     clear A490
     obtain rfl := Option.some.inj H
     have hxr50_0 : wc.cell? ad0 = some (.int .i64 a0_0) := pw_cell_below HB.out (HP0.out.1)
     have hxr50_1 : wc.cell? ⟨ad0.block, ad0.off + 1, none⟩ = some (.string a0_1) := pw_cell_below HB.out (HP0.out.2.1)
     have hxr50_2 : wc.cell? ⟨ad0.block, ad0.off + 2, none⟩ = some (.int .i64 a0_2) := pw_cell_below HB.out (HP0.out.2.2.1)
     have hxr50_3 : wc.cell? ⟨ad0.block, ad0.off + 3, none⟩ = some (.int .i64 a0_3) := pw_cell_below HB.out (HP0.out.2.2.2.1)
     have hxr50_4 : wc.cell? ⟨ad0.block, ad0.off + 4, none⟩ = some (.slice A0_4 l0_4.length c0_4) := pw_cell_below HB.out (HP0.out.2.2.2.2.1)
     have hxr50_5 : wc.cell? ⟨ad0.block, ad0.off + 5, none⟩ = some (.slice A0_5 l0_5.length c0_5) := pw_cell_below HB.out (HP0.out.2.2.2.2.2.1)
     have hxr50_6 : wc.cell? ⟨ad0.block, ad0.off + 6, none⟩ = some (.slice A0_6 l0_6.length c0_6) := pw_cell_below HB.out (HP0.out.2.2.2.2.2.2.1)
     have hxr50_7 : wc.cell? ⟨ad0.block, ad0.off + 7, none⟩ = some (.slice A0_7 l0_7.length c0_7) := pw_cell_below HB.out (HP0.out.2.2.2.2.2.2.2.1)
     go_wp2_with (first | ((with_reducible refine gate_callee (f := 58) rfl ?_); refine goesL_ (some 134) rfl rfl Tryd.func58 kr rfl #[.agg #[.int .i64 a0_3, .slice A0_4 l0_4.length c0_4, .slice A0_5 l0_5.length c0_5]] rfl mpw ?_; (with_reducible refine (impl_isZeroType.calls a0_3 _ _ l0_4 _ _ l0_5 t340 _ ?side1 ?side2 ?side3 ?side4 A49.out).mono ?_); (case side1 => have X_ := HR0_4; exact cbl); (case side2 => exact HC0_4.out); (case side3 => have X_ := HR0_5; exact cbl); (case side4 => exact HC0_5.out); rintro e w51 ⟨rfl, hb⟩; refine ⟨_, rfl, ?_⟩; have n0_ := am (below_step blw hb); clear HB; revert n0_; intro HB; (try clear hb); (try clear hb2); (try clear hk); (try clear hi)))
     go_ret
     exact ⟨rfw, blw⟩

end Go.Proofs.YtgplgphchdgedaaDoor.Px
end
section
namespace Go.Proofs.YtgplgphchdgedaaDoor.Px
set_option maxHeartbeats 8000000
set_option maxRecDepth 100000
open Go.RowKit Go.Proofs.YtgplgphchdgedaaDoor.Ext Go.Proofs.YtgplgphchdgedaaDoorW.PrintWords Go.Proofs.YtgplgphchdgedaaDoorW.PrintLast Go.Proofs.YtgplgphchdgedaaDoorW.PrintMore
attribute [local go_sem] max2_int min2_int max_two min_two max_three min_three max_four min_four   -- for this text's walks alone
set_option linter.unusedVariables false
set_option linter.unusedSimpArgs false

/-! ### impl_termForm: function 33 -/
mutual
def impl_termForm.l0 : Nat → Int → Int → List (S36) → Option (Bool)
 | 0, _, _, _ => none
 | k + 1, x11, x12, x707 => if x12 < x11 then (if 0 ≤ x12 then (if x12 < (x707.length : Int) then ((impl_termForm.f k ((rd_T36 x707 x12).f0) ((rd_T36 x707 x12).f1) ((rd_T36 x707 x12).f2) ((rd_T36 x707 x12).f3.f0) ((rd_T36 x707 x12).f3.f1) ((rd_T36 x707 x12).f3.f2) ((rd_T36 x707 x12).f4) ((rd_T36 x707 x12).f5)).bind fun t343 => (if t343 = true then (impl_termForm.l0 k x11 (wrap64 (x12 + 1)) x707) else (some false))) else (none)) else (none)) else (some true)
def impl_termForm.f : Nat → Int → ByteArray → Int → Int → List ByteArray → List (S33) → List ByteArray → List (S36) → Option (Bool)
 | 0, _, _, _, _, _, _, _, _ => none
 | k + 1, a0_0, a0_1, a0_2, a0_3, l0_4, l0_5, l0_6, l0_7 => (impl_nodeForm.f k a0_0 a0_1 a0_2 a0_3 l0_4 l0_5 l0_6 l0_7).bind fun t341 => (if t341 = true then (impl_termForm.l0 k (l0_7.length : Int) 0 l0_7) else (some false))
end
theorem impl_termForm.calls (k : Nat) : ∀ (ad0 : Addr) (a0_0 : Int) (a0_1 : ByteArray) (a0_2 : Int) (a0_3 : Int) (A0_4 : Option Addr) (c0_4 : Nat) (l0_4 : List ByteArray) (A0_5 : Option Addr) (c0_5 : Nat) (l0_5 : List (S33)) (A0_6 : Option Addr) (c0_6 : Nat) (l0_6 : List ByteArray) (A0_7 : Option Addr) (c0_7 : Nat) (l0_7 : List (S36)) (r : Bool) (w : World) (hp0 : Cells w ad0 [.int .i64 a0_0, .string a0_1, .int .i64 a0_2, .int .i64 a0_3, .slice A0_4 l0_4.length c0_4, .slice A0_5 l0_5.length c0_5, .slice A0_6 l0_6.length c0_6, .slice A0_7 l0_7.length c0_7]) (hr0_4 : Kd.C Kd.string w A0_4 l0_4.length l0_4) (hc0_4 : l0_4.length ≤ c0_4) (hr0_5 : Kd.C k33 w A0_5 l0_5.length l0_5) (hc0_5 : l0_5.length ≤ c0_5) (hr0_6 : Kd.C Kd.string w A0_6 l0_6.length l0_6) (hc0_6 : l0_6.length ≤ c0_6) (hr0_7 : Kd.C k36 w A0_7 l0_7.length l0_7) (hc0_7 : l0_7.length ≤ c0_7) (h : impl_termForm.f k a0_0 a0_1 a0_2 a0_3 l0_4 l0_5 l0_6 l0_7 = some r),
  Calls Tryd.prog 33 #[.pointer (some ad0)] w fun e w' => e = .returned (.bool r) ∧ Below w.heap.size w w' := by
 induction k using Nat.strongRecOn with
 | _ k ih =>
 intro ad0 a0_0 a0_1 a0_2 a0_3 A0_4 c0_4 l0_4 A0_5 c0_5 l0_5 A0_6 c0_6 l0_6 A0_7 c0_7 l0_7 r w hp0 hr0_4 hc0_4 hr0_5 hc0_5 hr0_6 hc0_6 hr0_7 hc0_7 h
 cases k with
 | zero => exact absurd h (by simp [impl_termForm.f])
 | succ k =>
 simp only [impl_termForm.f] at h
 have HP0 := am hp0
 clear hp0
 have HR0_4 := am hr0_4
 have HC0_4 := am hc0_4
 clear hr0_4 hc0_4
 have HR0_5 := am hr0_5
 have HC0_5 := am hc0_5
 clear hr0_5 hc0_5
 have HR0_6 := am hr0_6
 have HC0_6 := am hc0_6
 clear hr0_6 hc0_6
 have HR0_7 := am hr0_7
 have HC0_7 := am hc0_7
 clear hr0_7 hc0_7
 have HB := am (Below.refl w.heap.size w)
 have H : ((impl_nodeForm.f k a0_0 a0_1 a0_2 a0_3 l0_4 l0_5 l0_6 l0_7).bind fun t341 => (if t341 = true then (impl_termForm.l0 k (l0_7.length : Int) 0 l0_7) else (some false))) = some r := h
 clear h
 replace H := Option.bind_eq_some_iff.mp H
 obtain ⟨t341, A20, H⟩ := H
 replace H : (if t341 = true then (impl_termForm.l0 k (l0_7.length : Int) 0 l0_7) else (some false)) = some r := H
 have A2 := am A20
 clear A20
 have HC3 := am H
 clear H
 go_enter Tryd.func33, Tryd.ntmps33
 go_upto_if 6 with (first | ((with_reducible refine gate_callee (f := 40) rfl ?_); refine goesL_ (some 5) rfl rfl Tryd.func40 kr rfl #[.pointer (some ad0)] rfl mpw ?_; (with_reducible refine (impl_nodeForm.calls k ad0 a0_0 a0_1 a0_2 a0_3 A0_4 c0_4 l0_4 A0_5 c0_5 l0_5 A0_6 c0_6 l0_6 A0_7 c0_7 l0_7 t341 _ ?side1 ?side2 ?side3 ?side4 ?side5 ?side6 ?side7 ?side8 ?side9 A2.out).mono ?_); (case side1 => have X_ := HP0; exact clx); (case side2 => have X_ := HR0_4; exact cbx); (case side3 => exact HC0_4.out); (case side4 => have X_ := HR0_5; exact cbx); (case side5 => exact HC0_5.out); (case side6 => have X_ := HR0_6; exact cbx); (case side7 => exact HC0_6.out); (case side8 => have X_ := HR0_7; exact cbx); (case side9 => exact HC0_7.out); rintro e w4 ⟨rfl, hb⟩; refine ⟨_, rfl, ?_⟩; have n0_ := am (below_step blw hb); clear HB; revert n0_; intro HB; (try clear hb); (try clear hb2); (try clear hk); (try clear hi)))
 have H := HC3.out
 clear HC3
 by_cases c5 : t341 = true
 case neg =>
  replace c5 := Bool.eq_false_iff.mpr c5
  subst c5
  have H1 : (some false) = some r := by rw [if_neg (show ¬ (false = true) by decide)] at H; exact H
  clear H
  have H := H1
  clear H1
  obtain rfl := Option.some.inj H
  go_wp2
  go_ret
  exact ⟨rfw, blw⟩
 subst c5
 have H1 : (impl_termForm.l0 k (l0_7.length : Int) 0 l0_7) = some r := by rw [if_pos rfl] at H; exact H
 clear H
 have H := H1
 clear H1
 have H' := am H
 clear H
 have hxr6_0 : w4.cell? ad0 = some (.int .i64 a0_0) := pw_cell_below HB.out (HP0.out.1)
 have hxr6_1 : w4.cell? ⟨ad0.block, ad0.off + 1, none⟩ = some (.string a0_1) := pw_cell_below HB.out (HP0.out.2.1)
 have hxr6_2 : w4.cell? ⟨ad0.block, ad0.off + 2, none⟩ = some (.int .i64 a0_2) := pw_cell_below HB.out (HP0.out.2.2.1)
 have hxr6_3 : w4.cell? ⟨ad0.block, ad0.off + 3, none⟩ = some (.int .i64 a0_3) := pw_cell_below HB.out (HP0.out.2.2.2.1)
 have hxr6_4 : w4.cell? ⟨ad0.block, ad0.off + 4, none⟩ = some (.slice A0_4 l0_4.length c0_4) := pw_cell_below HB.out (HP0.out.2.2.2.2.1)
 have hxr6_5 : w4.cell? ⟨ad0.block, ad0.off + 5, none⟩ = some (.slice A0_5 l0_5.length c0_5) := pw_cell_below HB.out (HP0.out.2.2.2.2.2.1)
 have hxr6_6 : w4.cell? ⟨ad0.block, ad0.off + 6, none⟩ = some (.slice A0_6 l0_6.length c0_6) := pw_cell_below HB.out (HP0.out.2.2.2.2.2.2.1)
 have hxr6_7 : w4.cell? ⟨ad0.block, ad0.off + 7, none⟩ = some (.slice A0_7 l0_7.length c0_7) := pw_cell_below HB.out (HP0.out.2.2.2.2.2.2.2.1)
 go_wp2
 go_loopg [12] k (fun kq v12 w' => ∃ (x12_1 : Int), v12 = .int .i64 x12_1 ∧ Aside0 (impl_termForm.l0 kq (l0_7.length : Int) x12_1 l0_7 = some r) ∧ Aside0 (kq ≤ k) ∧ Aside0 (Below w.heap.size w w'))
 case atStart => exact ⟨(0), rfs, H', ⟨Nat.le_refl _⟩, ⟨blw⟩⟩
 case round =>
  clear H'
  (try clear p2); (try clear c3); (try clear c4); (try clear c5)
  obtain ⟨x12_1, rfl, HA, HK1, HB⟩ := hrel
  cases gk with
  | zero => exact absurd HA.out (by simp [impl_termForm.l0])
  | succ k1 =>
   have H := HA.out
   clear HA
   simp only [impl_termForm.l0] at H
   by_cases c7 : x12_1 < (l0_7.length : Int)
   case neg =>
    rw [if_neg c7] at H
    have c7b0 : decide (x12_1 < (l0_7.length : Int)) = false := decide_eq_false c7
    clear c7
    (first | rw [c7b0] | (simp only [i64_w, i32_w]; rw [c7b0]) | skip)
    obtain rfl := Option.some.inj H
    go_wp2
    go_ret
    exact ⟨rfw, blw⟩
   rw [if_pos c7] at H
   have c7b0 : decide (x12_1 < (l0_7.length : Int)) = true := decide_eq_true c7
   clear c7
   (first | rw [c7b0] | (simp only [i64_w, i32_w]; rw [c7b0]) | skip)
   by_cases c8 : 0 ≤ x12_1
   case neg =>
    rw [if_neg c8] at H
    exact absurd H (by simp)
   rw [if_pos c8] at H
   have c8b0 : decide (0 ≤ x12_1) = true := decide_eq_true c8
   clear c8
   by_cases c9 : x12_1 < (l0_7.length : Int)
   case neg =>
    rw [if_neg c9] at H
    exact absurd H (by simp)
   rw [if_pos c9] at H
   have c9b0 : decide (x12_1 < (l0_7.length : Int)) = true := decide_eq_true c9
   clear c9
   replace H := Option.bind_eq_some_iff.mp H
   obtain ⟨t343, A100, H⟩ := H
   replace H : (if t343 = true then (impl_termForm.l0 k1 (l0_7.length : Int) (wrap64 (x12_1 + 1)) l0_7) else (some false)) = some r := H
   have A10 := am A100
   clear A100
   have HC11 := am H
   clear H
   have hxr12_0 : wr.cell? ad0 = some (.int .i64 a0_0) := pw_cell_below HB.out (HP0.out.1)
   have hxr12_1 : wr.cell? ⟨ad0.block, ad0.off + 1, none⟩ = some (.string a0_1) := pw_cell_below HB.out (HP0.out.2.1)
   have hxr12_2 : wr.cell? ⟨ad0.block, ad0.off + 2, none⟩ = some (.int .i64 a0_2) := pw_cell_below HB.out (HP0.out.2.2.1)
   have hxr12_3 : wr.cell? ⟨ad0.block, ad0.off + 3, none⟩ = some (.int .i64 a0_3) := pw_cell_below HB.out (HP0.out.2.2.2.1)
   have hxr12_4 : wr.cell? ⟨ad0.block, ad0.off + 4, none⟩ = some (.slice A0_4 l0_4.length c0_4) := pw_cell_below HB.out (HP0.out.2.2.2.2.1)
   have hxr12_5 : wr.cell? ⟨ad0.block, ad0.off + 5, none⟩ = some (.slice A0_5 l0_5.length c0_5) := pw_cell_below HB.out (HP0.out.2.2.2.2.2.1)
   have hxr12_6 : wr.cell? ⟨ad0.block, ad0.off + 6, none⟩ = some (.slice A0_6 l0_6.length c0_6) := pw_cell_below HB.out (HP0.out.2.2.2.2.2.2.1)
   have hxr12_7 : wr.cell? ⟨ad0.block, ad0.off + 7, none⟩ = some (.slice A0_7 l0_7.length c0_7) := pw_cell_below HB.out (HP0.out.2.2.2.2.2.2.2.1)
   have p342 : 0 ≤ (x12_1 : Int) := of_decide_eq_true asw
   have q342 : x12_1 < (l0_7.length : Int) := of_decide_eq_true asw
   obtain ⟨ad342, A342_4, c342_4, A342_5, c342_5, A342_6, c342_6, A342_7, c342_7, e342, hx342_0, hx342_1, hx342_2, hx342_3, hx342_4, hx342_5, hx342_6, hx342_7, hl342_4, hi342_4, hl342_5, hi342_5, hl342_6, hi342_6, hl342_7, hi342_7⟩ := at_T36 HR0_7.out x12_1 p342 q342
   cases e342
   have HP342 := am (show Cells w (ad342.add (x12_1.toNat * 8)) [.int .i64 ((rd_T36 l0_7 x12_1).f0), .string ((rd_T36 l0_7 x12_1).f1), .int .i64 ((rd_T36 l0_7 x12_1).f2), .int .i64 ((rd_T36 l0_7 x12_1).f3.f0), .slice A342_4 ((rd_T36 l0_7 x12_1).f3.f1).length c342_4, .slice A342_5 ((rd_T36 l0_7 x12_1).f3.f2).length c342_5, .slice A342_6 ((rd_T36 l0_7 x12_1).f4).length c342_6, .slice A342_7 ((rd_T36 l0_7 x12_1).f5).length c342_7] from ⟨hx342_0, hx342_1, hx342_2, hx342_3, hx342_4, hx342_5, hx342_6, hx342_7, trivial⟩)
   replace hx342_0 := upw HB.out hx342_0
   replace hx342_1 := upw HB.out hx342_1
   replace hx342_2 := upw HB.out hx342_2
   replace hx342_3 := upw HB.out hx342_3
   replace hx342_4 := upw HB.out hx342_4
   replace hx342_5 := upw HB.out hx342_5
   replace hx342_6 := upw HB.out hx342_6
   replace hx342_7 := upw HB.out hx342_7
   have HR342_4 := am hi342_4
   have HC342_4 := am hl342_4
   clear hi342_4 hl342_4
   have HR342_5 := am hi342_5
   have HC342_5 := am hl342_5
   clear hi342_5 hl342_5
   have HR342_6 := am hi342_6
   have HC342_6 := am hl342_6
   clear hi342_6 hl342_6
   have HR342_7 := am hi342_7
   have HC342_7 := am hl342_7
   clear hi342_7 hl342_7
   replace p342 := eq_true p342
   replace q342 := eq_true q342
   go_upto_if 22 with (first | ((with_reducible refine gate_callee (f := 33) rfl ?_); refine goesL_ (some 21) rfl rfl Tryd.func33 kr rfl #[.pointer (some (ad342.add (x12_1.toNat * 8)))] rfl mpw ?_; (with_reducible refine (ih k1 (by have := HK1.out; omega) (ad342.add (x12_1.toNat * 8)) ((rd_T36 l0_7 x12_1).f0) ((rd_T36 l0_7 x12_1).f1) ((rd_T36 l0_7 x12_1).f2) ((rd_T36 l0_7 x12_1).f3.f0) A342_4 c342_4 ((rd_T36 l0_7 x12_1).f3.f1) A342_5 c342_5 ((rd_T36 l0_7 x12_1).f3.f2) A342_6 c342_6 ((rd_T36 l0_7 x12_1).f4) A342_7 c342_7 ((rd_T36 l0_7 x12_1).f5) t343 _ ?side1 ?side2 ?side3 ?side4 ?side5 ?side6 ?side7 ?side8 ?side9 A10.out).mono ?_); (case side1 => repeat (first | exact (Cells_below HP342.out HB.out) | (with_reducible refine Cells_alloc ?_ _) | (with_reducible refine Cells_drewN ?_ _) | (with_reducible refine Cells_drew ?_))); (case side2 => have X_ := HR342_4; exact cbl); (case side3 => exact HC342_4.out); (case side4 => have X_ := HR342_5; exact cbl); (case side5 => exact HC342_5.out); (case side6 => have X_ := HR342_6; exact cbl); (case side7 => exact HC342_6.out); (case side8 => have X_ := HR342_7; exact cbl); (case side9 => exact HC342_7.out); rintro e w13 ⟨rfl, hb⟩; refine ⟨_, rfl, ?_⟩; have n0_ := am (below_step blw hb); clear HB; revert n0_; intro HB; (try clear hb); (try clear hb2); (try clear hk); (try clear hi)))
   have H := HC11.out
   clear HC11
   by_cases c14 : t343 = true
   case neg =>
    replace c14 := Bool.eq_false_iff.mpr c14
    subst c14
    have H1 : (some false) = some r := by rw [if_neg (show ¬ (false = true) by decide)] at H; exact H
    clear H
    have H := H1
    clear H1
    obtain rfl := Option.some.inj H
    go_wp2
    go_ret
    exact ⟨rfw, blw⟩
   subst c14
   have H1 : (impl_termForm.l0 k1 (l0_7.length : Int) (wrap64 (x12_1 + 1)) l0_7) = some r := by rw [if_pos rfl] at H; exact H
   clear H
   have H := H1
   clear H1
   have H' := am H
   clear H
   go_wp2
   go_roundg k1
   case measure => have := HK1.out; omega
   case rel => exact ⟨(wrap64 (x12_1 + 1)), rfs, H', ⟨by have := HK1.out; omega⟩, ⟨blw⟩⟩

/-! ### impl_IsValidTerm: function 17 -/
def impl_IsValidTerm.f (k : Nat) (a0_0 : Int) (a0_1 : ByteArray) (a0_2 : Int) (a0_3 : Int) (l0_4 : List ByteArray) (l0_5 : List (S33)) (l0_6 : List ByteArray) (l0_7 : List (S36)) : Option (Bool) := (impl_sizeOf.f k a0_0 a0_1 a0_2 a0_3 l0_4 l0_5 l0_6 l0_7).bind fun t345 => (if t345 ≤ 60 then ((impl_DepthOfTerm.f k a0_0 a0_1 a0_2 a0_3 l0_4 l0_5 l0_6 l0_7).bind fun t346 => (if t346 ≤ 16 then ((impl_termForm.f k a0_0 a0_1 a0_2 a0_3 l0_4 l0_5 l0_6 l0_7).bind fun t347 => (some t347)) else (some false))) else (some false))
theorem impl_IsValidTerm.calls (k : Nat) (a0_0 : Int) (a0_1 : ByteArray) (a0_2 : Int) (a0_3 : Int) (A0_4 : Option Addr) (c0_4 : Nat) (l0_4 : List ByteArray) (A0_5 : Option Addr) (c0_5 : Nat) (l0_5 : List (S33)) (A0_6 : Option Addr) (c0_6 : Nat) (l0_6 : List ByteArray) (A0_7 : Option Addr) (c0_7 : Nat) (l0_7 : List (S36)) (r : Bool) (w : World) (hr0_4 : Kd.C Kd.string w A0_4 l0_4.length l0_4) (hc0_4 : l0_4.length ≤ c0_4) (hr0_5 : Kd.C k33 w A0_5 l0_5.length l0_5) (hc0_5 : l0_5.length ≤ c0_5) (hr0_6 : Kd.C Kd.string w A0_6 l0_6.length l0_6) (hc0_6 : l0_6.length ≤ c0_6) (hr0_7 : Kd.C k36 w A0_7 l0_7.length l0_7) (hc0_7 : l0_7.length ≤ c0_7) (h : impl_IsValidTerm.f k a0_0 a0_1 a0_2 a0_3 l0_4 l0_5 l0_6 l0_7 = some r) :
  Calls Tryd.prog 17 #[.agg #[.int .i64 a0_0, .string a0_1, .int .i64 a0_2, .int .i64 a0_3, .slice A0_4 l0_4.length c0_4, .slice A0_5 l0_5.length c0_5, .slice A0_6 l0_6.length c0_6, .slice A0_7 l0_7.length c0_7]] w fun e w' => e = .returned (.bool r) ∧ Below w.heap.size w w' := by
 have hu36 := Tryd.underlying36
 have HR0_4 := am hr0_4
 have HC0_4 := am hc0_4
 clear hr0_4 hc0_4
 have HR0_5 := am hr0_5
 have HC0_5 := am hc0_5
 clear hr0_5 hc0_5
 have HR0_6 := am hr0_6
 have HC0_6 := am hc0_6
 clear hr0_6 hc0_6
 have HR0_7 := am hr0_7
 have HC0_7 := am hc0_7
 clear hr0_7 hc0_7
 have HB := am (Below.refl w.heap.size w)
 have H : ((impl_sizeOf.f k a0_0 a0_1 a0_2 a0_3 l0_4 l0_5 l0_6 l0_7).bind fun t345 => (if t345 ≤ 60 then ((impl_DepthOfTerm.f k a0_0 a0_1 a0_2 a0_3 l0_4 l0_5 l0_6 l0_7).bind fun t346 => (if t346 ≤ 16 then ((impl_termForm.f k a0_0 a0_1 a0_2 a0_3 l0_4 l0_5 l0_6 l0_7).bind fun t347 => (some t347)) else (some false))) else (some false))) = some r := h
 clear h
 replace H := Option.bind_eq_some_iff.mp H
 obtain ⟨t345, A20, H⟩ := H
 replace H : (if t345 ≤ 60 then ((impl_DepthOfTerm.f k a0_0 a0_1 a0_2 a0_3 l0_4 l0_5 l0_6 l0_7).bind fun t346 => (if t346 ≤ 16 then ((impl_termForm.f k a0_0 a0_1 a0_2 a0_3 l0_4 l0_5 l0_6 l0_7).bind fun t347 => (some t347)) else (some false))) else (some false)) = some r := H
 have A2 := am A20
 clear A20
 by_cases c3 : t345 ≤ 60
 case neg =>
  rw [if_neg c3] at H
  have c3b0 : decide (t345 ≤ 60) = false := decide_eq_false c3
  clear c3
  obtain rfl := Option.some.inj H
  go_enter Tryd.func17, Tryd.ntmps17
  go_wp2_with (first | ((with_reducible refine gate_dst (N := 1) rfl ?_); refine box_event ?hg (N := 1) ?hd (cs := #[.int .i64 a0_0, .string a0_1, .int .i64 a0_2, .int .i64 a0_3, .slice A0_4 l0_4.length c0_4, .slice A0_5 l0_5.length c0_5, .slice A0_6 l0_6.length c0_6, .slice A0_7 l0_7.length c0_7]) (t := 36) ?hr ?_; (case hd => rfl); (case hg => rfl); (case hr => exact hrw); intro gb344 hg w14 hbox hb; have n0_ := am (below_step blw hb); have n1_ := am (hbox); have n2_ := am ((by rw [hg]; exact (below_size blw) : w.heap.size ≤ gb344)); have n3_ := n2_; clear HB; revert n0_ n1_ n2_ n3_; intro HB BK344 GW344 GE344; clear hb hbox hg) | ((with_reducible refine gate_callee (f := 31) rfl ?_); refine goesL_ (some 3) rfl rfl Tryd.func31 kr rfl #[.pointer (some ⟨gb344, 0, none⟩)] rfl mpw ?_; (with_reducible refine (impl_sizeOf.calls k ⟨gb344, 0, none⟩ a0_0 a0_1 a0_2 a0_3 A0_4 c0_4 l0_4 A0_5 c0_5 l0_5 A0_6 c0_6 l0_6 A0_7 c0_7 l0_7 t345 _ ?side1 ?side2 ?side3 ?side4 ?side5 ?side6 ?side7 ?side8 ?side9 A2.out).mono ?_); (case side1 => exact Cells_blk bkw); (case side2 => have X_ := HR0_4; exact cbl); (case side3 => exact HC0_4.out); (case side4 => have X_ := HR0_5; exact cbl); (case side5 => exact HC0_5.out); (case side6 => have X_ := HR0_6; exact cbl); (case side7 => exact HC0_6.out); (case side8 => have X_ := HR0_7; exact cbl); (case side9 => exact HC0_7.out); rintro e w' ⟨rfl, ⟨nd, rfl⟩⟩; refine ⟨_, rfl, ?_⟩))
  go_ret
  exact ⟨rfw, blw⟩
 rw [if_pos c3] at H
 have c3b0 : decide (t345 ≤ 60) = true := decide_eq_true c3
 clear c3
 replace H := Option.bind_eq_some_iff.mp H
 obtain ⟨t346, A40, H⟩ := H
 replace H : (if t346 ≤ 16 then ((impl_termForm.f k a0_0 a0_1 a0_2 a0_3 l0_4 l0_5 l0_6 l0_7).bind fun t347 => (some t347)) else (some false)) = some r := H
 have A4 := am A40
 clear A40
 by_cases c5 : t346 ≤ 16
 case neg =>
  rw [if_neg c5] at H
  have c5b0 : decide (t346 ≤ 16) = false := decide_eq_false c5
  clear c5
  obtain rfl := Option.some.inj H
  go_enter Tryd.func17, Tryd.ntmps17
  go_wp2_with (first | ((with_reducible refine gate_dst (N := 1) rfl ?_); refine box_event ?hg (N := 1) ?hd (cs := #[.int .i64 a0_0, .string a0_1, .int .i64 a0_2, .int .i64 a0_3, .slice A0_4 l0_4.length c0_4, .slice A0_5 l0_5.length c0_5, .slice A0_6 l0_6.length c0_6, .slice A0_7 l0_7.length c0_7]) (t := 36) ?hr ?_; (case hd => rfl); (case hg => rfl); (case hr => exact hrw); intro gb344 hg w11 hbox hb; have n0_ := am (below_step blw hb); have n1_ := am (hbox); have n2_ := am ((by rw [hg]; exact (below_size blw) : w.heap.size ≤ gb344)); have n3_ := n2_; clear HB; revert n0_ n1_ n2_ n3_; intro HB BK344 GW344 GE344; clear hb hbox hg) | ((with_reducible refine gate_callee (f := 31) rfl ?_); refine goesL_ (some 3) rfl rfl Tryd.func31 kr rfl #[.pointer (some ⟨gb344, 0, none⟩)] rfl mpw ?_; (with_reducible refine (impl_sizeOf.calls k ⟨gb344, 0, none⟩ a0_0 a0_1 a0_2 a0_3 A0_4 c0_4 l0_4 A0_5 c0_5 l0_5 A0_6 c0_6 l0_6 A0_7 c0_7 l0_7 t345 _ ?side1 ?side2 ?side3 ?side4 ?side5 ?side6 ?side7 ?side8 ?side9 A2.out).mono ?_); (case side1 => exact Cells_blk bkw); (case side2 => have X_ := HR0_4; exact cbl); (case side3 => exact HC0_4.out); (case side4 => have X_ := HR0_5; exact cbl); (case side5 => exact HC0_5.out); (case side6 => have X_ := HR0_6; exact cbl); (case side7 => exact HC0_6.out); (case side8 => have X_ := HR0_7; exact cbl); (case side9 => exact HC0_7.out); rintro e w' ⟨rfl, ⟨nd, rfl⟩⟩; refine ⟨_, rfl, ?_⟩; obtain ⟨hcz12_0, hcz12_1, hcz12_2, hcz12_3, hcz12_4, hcz12_5, hcz12_6, hcz12_7⟩ := cls8 BK344.out; obtain ⟨hfz12_0, hfz12_1, hfz12_2, hfz12_3, hfz12_4, hfz12_5, hfz12_6, hfz12_7⟩ := frz8 BK344.out) | (go_at_call 32; (with_reducible refine (impl_DepthOfTerm.calls k a0_0 a0_1 a0_2 a0_3 _ _ l0_4 _ _ l0_5 _ _ l0_6 _ _ l0_7 t346 _ ?side1 ?side2 ?side3 ?side4 ?side5 ?side6 ?side7 ?side8 A4.out).mono ?_); (case side1 => repeat (first | exact (Kd.C_below HR0_4.out blw) | (with_reducible refine Kd.C_alloc ?_ _) | (with_reducible refine Kd.C_drewN ?_ _) | (with_reducible refine Kd.C_drew ?_))); (case side2 => exact HC0_4.out); (case side3 => repeat (first | exact (Kd.C_below HR0_5.out blw) | (with_reducible refine Kd.C_alloc ?_ _) | (with_reducible refine Kd.C_drewN ?_ _) | (with_reducible refine Kd.C_drew ?_))); (case side4 => exact HC0_5.out); (case side5 => repeat (first | exact (Kd.C_below HR0_6.out blw) | (with_reducible refine Kd.C_alloc ?_ _) | (with_reducible refine Kd.C_drewN ?_ _) | (with_reducible refine Kd.C_drew ?_))); (case side6 => exact HC0_6.out); (case side7 => repeat (first | exact (Kd.C_below HR0_7.out blw) | (with_reducible refine Kd.C_alloc ?_ _) | (with_reducible refine Kd.C_drewN ?_ _) | (with_reducible refine Kd.C_drew ?_))); (case side8 => exact HC0_7.out); rintro e w13 ⟨rfl, hb⟩; have n0_ := am (blk_below (g := gb344) bkw hb); have n1_ := am (below_step blw hb); clear BK344; clear HB; revert n0_ n1_; intro BK344 HB; (try clear hb); (try clear hb2); (try clear hk); (try clear hi)))
  go_ret
  exact ⟨rfw, blw⟩
 rw [if_pos c5] at H
 have c5b0 : decide (t346 ≤ 16) = true := decide_eq_true c5
 clear c5
 replace H := Option.bind_eq_some_iff.mp H
 obtain ⟨t347, A60, H⟩ := H
 replace H : (some t347) = some r := H
 have A6 := am A60
 clear A60
 obtain rfl := Option.some.inj H
 go_enter Tryd.func17, Tryd.ntmps17
 go_wp2_with (first | ((with_reducible refine gate_dst (N := 1) rfl ?_); refine box_event ?hg (N := 1) ?hd (cs := #[.int .i64 a0_0, .string a0_1, .int .i64 a0_2, .int .i64 a0_3, .slice A0_4 l0_4.length c0_4, .slice A0_5 l0_5.length c0_5, .slice A0_6 l0_6.length c0_6, .slice A0_7 l0_7.length c0_7]) (t := 36) ?hr ?_; (case hd => rfl); (case hg => rfl); (case hr => exact hrw); intro gb344 hg w7 hbox hb; have n0_ := am (below_step blw hb); have n1_ := am (hbox); have n2_ := am ((by rw [hg]; exact (below_size blw) : w.heap.size ≤ gb344)); have n3_ := n2_; clear HB; revert n0_ n1_ n2_ n3_; intro HB BK344 GW344 GE344; clear hb hbox hg) | ((with_reducible refine gate_callee (f := 31) rfl ?_); refine goesL_ (some 3) rfl rfl Tryd.func31 kr rfl #[.pointer (some ⟨gb344, 0, none⟩)] rfl mpw ?_; (with_reducible refine (impl_sizeOf.calls k ⟨gb344, 0, none⟩ a0_0 a0_1 a0_2 a0_3 A0_4 c0_4 l0_4 A0_5 c0_5 l0_5 A0_6 c0_6 l0_6 A0_7 c0_7 l0_7 t345 _ ?side1 ?side2 ?side3 ?side4 ?side5 ?side6 ?side7 ?side8 ?side9 A2.out).mono ?_); (case side1 => exact Cells_blk bkw); (case side2 => have X_ := HR0_4; exact cbl); (case side3 => exact HC0_4.out); (case side4 => have X_ := HR0_5; exact cbl); (case side5 => exact HC0_5.out); (case side6 => have X_ := HR0_6; exact cbl); (case side7 => exact HC0_6.out); (case side8 => have X_ := HR0_7; exact cbl); (case side9 => exact HC0_7.out); rintro e w' ⟨rfl, ⟨nd, rfl⟩⟩; refine ⟨_, rfl, ?_⟩; obtain ⟨hcz8_0, hcz8_1, hcz8_2, hcz8_3, hcz8_4, hcz8_5, hcz8_6, hcz8_7⟩ := cls8 BK344.out; obtain ⟨hfz8_0, hfz8_1, hfz8_2, hfz8_3, hfz8_4, hfz8_5, hfz8_6, hfz8_7⟩ := frz8 BK344.out) | (go_at_call 32; (with_reducible refine (impl_DepthOfTerm.calls k a0_0 a0_1 a0_2 a0_3 _ _ l0_4 _ _ l0_5 _ _ l0_6 _ _ l0_7 t346 _ ?side1 ?side2 ?side3 ?side4 ?side5 ?side6 ?side7 ?side8 A4.out).mono ?_); (case side1 => repeat (first | exact (Kd.C_below HR0_4.out blw) | (with_reducible refine Kd.C_alloc ?_ _) | (with_reducible refine Kd.C_drewN ?_ _) | (with_reducible refine Kd.C_drew ?_))); (case side2 => exact HC0_4.out); (case side3 => repeat (first | exact (Kd.C_below HR0_5.out blw) | (with_reducible refine Kd.C_alloc ?_ _) | (with_reducible refine Kd.C_drewN ?_ _) | (with_reducible refine Kd.C_drew ?_))); (case side4 => exact HC0_5.out); (case side5 => repeat (first | exact (Kd.C_below HR0_6.out blw) | (with_reducible refine Kd.C_alloc ?_ _) | (with_reducible refine Kd.C_drewN ?_ _) | (with_reducible refine Kd.C_drew ?_))); (case side6 => exact HC0_6.out); (case side7 => repeat (first | exact (Kd.C_below HR0_7.out blw) | (with_reducible refine Kd.C_alloc ?_ _) | (with_reducible refine Kd.C_drewN ?_ _) | (with_reducible refine Kd.C_drew ?_))); (case side8 => exact HC0_7.out); rintro e w9 ⟨rfl, hb⟩; have n0_ := am (blk_below (g := gb344) bkw hb); have n1_ := am (below_step blw hb); clear BK344; clear HB; revert n0_ n1_; intro BK344 HB; (try clear hb); (try clear hb2); (try clear hk); (try clear hi)) | (go_at_call 33; (with_reducible refine (impl_termForm.calls k ⟨gb344, 0, none⟩ a0_0 a0_1 a0_2 a0_3 A0_4 c0_4 l0_4 A0_5 c0_5 l0_5 A0_6 c0_6 l0_6 A0_7 c0_7 l0_7 t347 _ ?side1 ?side2 ?side3 ?side4 ?side5 ?side6 ?side7 ?side8 ?side9 A6.out).mono ?_); (case side1 => exact Cells_blk bkw); (case side2 => have X_ := HR0_4; exact cbl); (case side3 => exact HC0_4.out); (case side4 => have X_ := HR0_5; exact cbl); (case side5 => exact HC0_5.out); (case side6 => have X_ := HR0_6; exact cbl); (case side7 => exact HC0_6.out); (case side8 => have X_ := HR0_7; exact cbl); (case side9 => exact HC0_7.out); rintro e w10 ⟨rfl, hb⟩; have n0_ := am (blk_below (g := gb344) bkw hb); have n1_ := am (below_step blw hb); clear BK344; clear HB; revert n0_ n1_; intro BK344 HB; (try clear hb); (try clear hb2); (try clear hk); (try clear hi)))
 go_ret
 exact ⟨rfw, blw⟩

-- NOT PRINTED: function 83 (strconv_numDigits)

-- NOT PRINTED: function 84 (strconv_formatBase10)

-- NOT PRINTED: function 92 (bits_TrailingZeros32)

-- NOT PRINTED: function 93 (bits_TrailingZeros64)

-- NOT PRINTED: function 91 (bits_TrailingZeros)

-- NOT PRINTED: function 85 (strconv_formatBits)

-- NOT PRINTED: function 79 (strconv_FormatInt)

-- NOT PRINTED: function 73 (strconv_Itoa_73)

/-! ### strconv_Itoa_60: function 60 -/
/-- strconv.Itoa, as_ its laid contract tells it. -/
def strconv_Itoa_60.f (a0 : Int) : Option ByteArray :=
 if -9223372036854775808 ≤ a0 ∧ a0 ≤ 9223372036854775807 then some ⟨(Lib.itoa a0).toArray⟩ else none
theorem strconv_Itoa_60.calls (a0 : Int) (r : ByteArray) (w : World) (hL : Laid w) (h : strconv_Itoa_60.f a0 = some r) :
  Calls Tryd.prog 60 #[.int .i64 a0] w fun e w' => e = .returned (.string r) ∧ Below w.heap.size w w' := by
 unfold strconv_Itoa_60.f at h
 by_cases hc : -9223372036854775808 ≤ a0 ∧ a0 ≤ 9223372036854775807
 case neg =>
  rw [if_neg hc] at h
  cases h
 rw [if_pos hc] at h
 obtain rfl := Option.some.inj h
 refine (Tryd.strconv_Itoa a0 hc.1 hc.2 w (Laid_tab hL)).mono ?_
 rintro e w' ⟨he, k, os, rfl⟩
 exact ⟨he, Lib.below_grow _ w (Nat.le_refl _) k os⟩

/-! ### impl_FormatInt: function 46 -/
def impl_FormatInt.f (a0 : Int) : Option (ByteArray) := (strconv_Itoa_60.f a0).bind fun t367 => (some t367)
theorem impl_FormatInt.calls (a0 : Int) (r : ByteArray) (w : World) (hL : Laid w) (h : impl_FormatInt.f a0 = some r) :
  Calls Tryd.prog 46 #[.int .i64 a0] w fun e w' => e = .returned (.string r) ∧ Below w.heap.size w w' := by
 have HLD := am hL
 clear hL
 have HB := am (Below.refl w.heap.size w)
 have H : ((strconv_Itoa_60.f a0).bind fun t367 => (some t367)) = some r := h
 clear h
 replace H := Option.bind_eq_some_iff.mp H
 obtain ⟨t367, A20, H⟩ := H
 replace H : (some t367) = some r := H
 have A2 := am A20
 clear A20
 obtain rfl := Option.some.inj H
 go_enter Tryd.func46, Tryd.ntmps46
 go_wp2_with (first | ((with_reducible refine gate_callee (f := 60) rfl ?_); refine goesL_ (some 4) rfl rfl Tryd.func60 kr rfl #[.int .i64 a0] rfl mpw ?_; (with_reducible refine (strconv_Itoa_60.calls a0 t367 _ ?side1 A2.out).mono ?_); (case side1 => repeat (first | exact HLD.out | (with_reducible refine Laid_alloc ?_ _) | (with_reducible refine Laid_drewN ?_ _) | (with_reducible refine Laid_drew ?_))); rintro e w3 ⟨rfl, hb⟩; refine ⟨_, rfl, ?_⟩; have n0_ := am (below_step blw hb); clear HB; revert n0_; intro HB; (try clear hb); (try clear hb2); (try clear hk); (try clear hi)))
 go_ret
 exact ⟨rfw, blw⟩

/-! ### impl_boolText: function 47 -/
def impl_boolText.f (a0 : Int) : Option (ByteArray) := if a0 = 1 then (some (⟨#[35, 116]⟩ : ByteArray)) else (some (⟨#[35, 102]⟩ : ByteArray))
theorem impl_boolText.calls (a0 : Int) (r : ByteArray) (w : World) (h : impl_boolText.f a0 = some r) :
  Calls Tryd.prog 47 #[.int .i64 a0] w fun e w' => e = .returned (.string r) ∧ Drawn0 w w' := by
 have H : (if a0 = 1 then (some (⟨#[35, 116]⟩ : ByteArray)) else (some (⟨#[35, 102]⟩ : ByteArray))) = some r := h
 clear h
 by_cases c2 : a0 = 1
 case neg =>
  rw [if_neg c2] at H
  have c2b0 : (a0 == 1) = false := beq_eq_false_iff_ne.mpr c2
  have c2b1 : (a0 != 1) = true := bne_iff_ne.mpr c2
  obtain rfl := Option.some.inj H
  go_enter Tryd.func47, Tryd.ntmps47
  go_wp2
  go_ret
  exact ⟨rfs, by repeat (first | exact Drawn0.refl _ | apply Drawn0.step)⟩
 rw [if_pos c2] at H
 have c2b0 : (a0 == 1) = true := beq_iff_eq.mpr c2
 have c2b1 : (a0 != 1) = false := bne_eq_false_iff_eq.mpr c2
 clear c2
 obtain rfl := Option.some.inj H
 go_enter Tryd.func47, Tryd.ntmps47
 go_wp2
 go_ret
 exact ⟨rfs, by repeat (first | exact Drawn0.refl _ | apply Drawn0.step)⟩

-- NOT PRINTED: function 35 (strings_Builder_String)

-- NOT PRINTED: function 72 (abi_NoEscape)

-- NOT PRINTED: function 59 (strings_Builder_copyCheck)

-- NOT PRINTED: function 42 (strings_Builder_WriteString)

-- NOT PRINTED: function 86 (bytealg_MakeNoZero)

-- NOT PRINTED: function 80 (strings_Builder_grow)

-- NOT PRINTED: function 74 (strings_Builder_Grow)

end Go.Proofs.YtgplgphchdgedaaDoor.Px
end
section
namespace Go.Proofs.YtgplgphchdgedaaDoor.Px
open Go.RowKit Go.Proofs.YtgplgphchdgedaaDoor.Ext Go.Proofs.YtgplgphchdgedaaDoorW.PrintWords Go.Proofs.YtgplgphchdgedaaDoorW.PrintLast Go.Proofs.YtgplgphchdgedaaDoorW.PrintMore
attribute [local go_sem] max2_int min2_int max_two min_two max_three min_three max_four min_four   -- for this text's walks alone
set_option linter.unusedVariables false
set_option linter.unusedSimpArgs false

/-! ### strings_Join: function 61 -/
/-- strings.Join, as_ its laid contract tells it. -/
def strings_Join.f (l0 : List ByteArray) (a1 : ByteArray) : Option ByteArray :=
 if l0.length ≤ 140737488355328 ∧ (Lib.join (l0.map (·.data.toList)) a1.data.toList).length ≤ 140737488355328 then some ⟨(Lib.join (l0.map (·.data.toList)) a1.data.toList).toArray⟩ else none
theorem strings_Join.calls (A0 : Option Addr) (c0 : Nat) (l0 : List ByteArray) (a1 : ByteArray) (r : ByteArray) (w : World) (hr0 : Kd.C Kd.string w A0 l0.length l0) (hc0 : l0.length ≤ c0) (h : strings_Join.f l0 a1 = some r) :
  Calls Tryd.prog 61 #[.slice A0 l0.length c0, .string a1] w fun e w' => e = .returned (.string r) ∧ Below w.heap.size w w' := by
 unfold strings_Join.f at h
 by_cases hc : l0.length ≤ 140737488355328 ∧ (Lib.join (l0.map (·.data.toList)) a1.data.toList).length ≤ 140737488355328
 case neg =>
  rw [if_neg hc] at h
  cases h
 rw [if_pos hc] at h
 obtain rfl := Option.some.inj h
 by_cases hz : l0.length = 0
 case neg =>
  obtain ⟨bk, o, rfl, hb, hcl⟩ := strCells hr0 (by omega)
  exact Tryd.strings_Join bk o c0 l0 a1 w hcl hb hc.1 hc0 hc.2
 obtain rfl := List.length_eq_zero_iff.1 hz
 exact (Tryd.strings_Join_none A0 c0 a1 w).mono fun e w' ⟨he, hw⟩ => ⟨he, hw ▸ Below.refl _ _⟩

end Go.Proofs.YtgplgphchdgedaaDoor.Px
end
