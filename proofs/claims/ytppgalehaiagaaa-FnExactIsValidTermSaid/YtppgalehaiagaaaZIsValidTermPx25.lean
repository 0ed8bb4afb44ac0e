/- Printed by a program of this session: what functions of the translation come to, each contract as it stands. No condition. -/
import Derived.Test.YtppgalehaiagaaaZIsValidTermPx0M
import Derived.Test.YtppgalehaiagaaaZIsValidTermPx6M
import Derived.Test.YtppgalehaiagaaaZIsValidTermPx9M
import Derived.Test.YtppgalehaiagaaaZIsValidTermPx23M
namespace Go.Proofs.Ytppgalehaiagaaa.Px
open Go.RowKit Go.Proofs.Ytppgalehaiagaaa.Ext Go.Proofs.YtppgalehaiagaaaW.PrintWords Go.Proofs.YtppgalehaiagaaaW.PrintLast Go.Proofs.YtppgalehaiagaaaW.PrintMore
attribute [local go_sem] max2_int min2_int max_two min_two max_three min_three max_four min_four   -- for this text's walks alone
set_option linter.unusedVariables false
set_option linter.unusedSimpArgs false

/-! ### impl_nodeForm: function 155 -/
mutual
def impl_nodeForm.j0 : Nat → Bool → Bool → Bool → Int → ByteArray → Int → Int → List ByteArray → List (S33) → Option (Bool)
 | 0, _, _, _, _, _, _, _, _, _ => none
 | k + 1, x4, x5, x39, x700, x701, x702, x703, x704, x705 => if x39 = true then (some false) else (if x700 = 2 then (if x702 < 0 then (impl_nodeForm.j1 k x4 x5 true x700 x701 x702 x703 x704 x705) else (impl_nodeForm.j1 k x4 x5 (decide (x702 > 999)) x700 x701 x702 x703 x704 x705)) else (impl_nodeForm.j1 k x4 x5 false x700 x701 x702 x703 x704 x705))
def impl_nodeForm.j4 : Nat → Bool → Int → List ByteArray → List (S33) → Option (Bool)
 | 0, _, _, _, _ => none
 | k + 1, x5, x703, x704, x705 => if x5 = true then ((impl_IsValidType.f k x703 x704 x705).bind fun t434 => (some t434)) else ((impl_isZeroType.f x703 x704 x705).bind fun t435 => (some t435))
def impl_nodeForm.j1 : Nat → Bool → Bool → Bool → Int → ByteArray → Int → Int → List ByteArray → List (S33) → Option (Bool)
 | 0, _, _, _, _, _, _, _, _, _ => none
 | k + 1, x4, x5, x40, x700, x701, x702, x703, x704, x705 => if x40 = true then (impl_nodeForm.j2 k x4 x5 x40 x700 x701 x703 x704 x705) else (if x700 = 3 then (if x702 = 0 then (if x700 = 2 then (impl_nodeForm.j2 k x4 x5 false x700 x701 x703 x704 x705) else (impl_nodeForm.j2 k x4 x5 false x700 x701 x703 x704 x705)) else (if x702 = 1 then (if x700 = 2 then (impl_nodeForm.j2 k x4 x5 false x700 x701 x703 x704 x705) else (impl_nodeForm.j2 k x4 x5 false x700 x701 x703 x704 x705)) else (impl_nodeForm.j2 k x4 x5 (x702 != 1) x700 x701 x703 x704 x705))) else (if x700 = 2 then (impl_nodeForm.j2 k x4 x5 false x700 x701 x703 x704 x705) else (impl_nodeForm.j2 k x4 x5 (x702 != 0) x700 x701 x703 x704 x705)))
def impl_nodeForm.j2 : Nat → Bool → Bool → Bool → Int → ByteArray → Int → List ByteArray → List (S33) → Option (Bool)
 | 0, _, _, _, _, _, _, _, _ => none
 | k + 1, x4, x5, x40, x700, x701, x703, x704, x705 => if x40 = true then (some false) else (if x4 = true then (if x700 = 4 then (impl_nodeForm.j3 k x4 x5 false x701 x703 x704 x705) else ((impl_IsName.f k x701).bind fun t433 => (impl_nodeForm.j3 k x4 x5 (!t433) x701 x703 x704 x705))) else (impl_nodeForm.j3 k x4 x5 false x701 x703 x704 x705))
def impl_nodeForm.j3 : Nat → Bool → Bool → Bool → ByteArray → Int → List ByteArray → List (S33) → Option (Bool)
 | 0, _, _, _, _, _, _, _ => none
 | k + 1, x4, x5, x98, x701, x703, x704, x705 => if x98 = true then (some false) else (if x4 = true then (impl_nodeForm.j4 k x5 x703 x704 x705) else (if x701.toList = ([] : List UInt8) then (impl_nodeForm.j4 k x5 x703 x704 x705) else (some false)))
end
def impl_nodeForm.f (k : Nat) (a0_0 : Int) (a0_1 : ByteArray) (a0_2 : Int) (a0_3 : Int) (l0_4 : List ByteArray) (l0_5 : List (S33)) (l0_6 : List ByteArray) (l0_7 : List (S36)) : Option (Bool) := (impl_shape.f k a0_0 a0_1 a0_2 a0_3 l0_4 l0_5 l0_6 l0_7).bind fun bt429 => (if bt429.2.2.2 = true then (if (l0_7.length : Int) = bt429.1 then (if a0_0 = 5 then (impl_nodeForm.j0 k bt429.2.1 bt429.2.2.1 false a0_0 a0_1 a0_2 a0_3 l0_4 l0_5) else (impl_nodeForm.j0 k bt429.2.1 bt429.2.2.1 (decide ((l0_6.length : Int) > 0)) a0_0 a0_1 a0_2 a0_3 l0_4 l0_5)) else (impl_nodeForm.j0 k bt429.2.1 bt429.2.2.1 true a0_0 a0_1 a0_2 a0_3 l0_4 l0_5)) else (impl_nodeForm.j0 k bt429.2.1 bt429.2.2.1 true a0_0 a0_1 a0_2 a0_3 l0_4 l0_5))
set_option maxHeartbeats 8000000 in
set_option maxRecDepth 100000 in
theorem impl_nodeForm.calls (k : Nat) (ad0 : Addr) (a0_0 : Int) (a0_1 : ByteArray) (a0_2 : Int) (a0_3 : Int) (A0_4 : Option Addr) (c0_4 : Nat) (l0_4 : List ByteArray) (A0_5 : Option Addr) (c0_5 : Nat) (l0_5 : List (S33)) (A0_6 : Option Addr) (c0_6 : Nat) (l0_6 : List ByteArray) (A0_7 : Option Addr) (c0_7 : Nat) (l0_7 : List (S36)) (r : Bool) (w : World) (hp0 : Cells w ad0 [.int .i64 a0_0, .string a0_1, .int .i64 a0_2, .int .i64 a0_3, .slice A0_4 l0_4.length c0_4, .slice A0_5 l0_5.length c0_5, .slice A0_6 l0_6.length c0_6, .slice A0_7 l0_7.length c0_7]) (hr0_4 : Kd.C Kd.string w A0_4 l0_4.length l0_4) (hc0_4 : l0_4.length ≤ c0_4) (hr0_5 : Kd.C k33 w A0_5 l0_5.length l0_5) (hc0_5 : l0_5.length ≤ c0_5) (hr0_6 : Kd.C Kd.string w A0_6 l0_6.length l0_6) (hc0_6 : l0_6.length ≤ c0_6) (hr0_7 : Kd.C k36 w A0_7 l0_7.length l0_7) (hc0_7 : l0_7.length ≤ c0_7) (h : impl_nodeForm.f k a0_0 a0_1 a0_2 a0_3 l0_4 l0_5 l0_6 l0_7 = some r) :
  Calls Try.prog 155 #[.pointer (some ad0)] w fun e w' => e = .returned (.bool r) ∧ Below w.heap.size w w' := by
 have hu33 := Try.underlying33
 have HP0 := Aside0.mk hp0
 clear hp0
 have HR0_4 := Aside0.mk hr0_4
 have HC0_4 := Aside0.mk hc0_4
 clear hr0_4 hc0_4
 have HR0_5 := Aside0.mk hr0_5
 have HC0_5 := Aside0.mk hc0_5
 clear hr0_5 hc0_5
 have HR0_6 := Aside0.mk hr0_6
 have HC0_6 := Aside0.mk hc0_6
 clear hr0_6 hc0_6
 have HR0_7 := Aside0.mk hr0_7
 have HC0_7 := Aside0.mk hc0_7
 clear hr0_7 hc0_7
 have HB := Aside0.mk (Below.refl w.heap.size w)
 have H : ((impl_shape.f k a0_0 a0_1 a0_2 a0_3 l0_4 l0_5 l0_6 l0_7).bind fun bt429 => (if bt429.2.2.2 = true then (if (l0_7.length : Int) = bt429.1 then (if a0_0 = 5 then (impl_nodeForm.j0 k bt429.2.1 bt429.2.2.1 false a0_0 a0_1 a0_2 a0_3 l0_4 l0_5) else (impl_nodeForm.j0 k bt429.2.1 bt429.2.2.1 (decide ((l0_6.length : Int) > 0)) a0_0 a0_1 a0_2 a0_3 l0_4 l0_5)) else (impl_nodeForm.j0 k bt429.2.1 bt429.2.2.1 true a0_0 a0_1 a0_2 a0_3 l0_4 l0_5)) else (impl_nodeForm.j0 k bt429.2.1 bt429.2.2.1 true a0_0 a0_1 a0_2 a0_3 l0_4 l0_5))) = some r := h
 clear h
 replace H := Option.bind_eq_some_iff.mp H
 obtain ⟨⟨t429, t430, t431, t432⟩, A20, H⟩ := H
 replace H : (if t432 = true then (if (l0_7.length : Int) = t429 then (if a0_0 = 5 then (impl_nodeForm.j0 k t430 t431 false a0_0 a0_1 a0_2 a0_3 l0_4 l0_5) else (impl_nodeForm.j0 k t430 t431 (decide ((l0_6.length : Int) > 0)) a0_0 a0_1 a0_2 a0_3 l0_4 l0_5)) else (impl_nodeForm.j0 k t430 t431 true a0_0 a0_1 a0_2 a0_3 l0_4 l0_5)) else (impl_nodeForm.j0 k t430 t431 true a0_0 a0_1 a0_2 a0_3 l0_4 l0_5)) = some r := H
 have A2 := Aside0.mk A20
 clear A20
 have HC3 := Aside0.mk H
 clear H
 go_enter Try.func155, Try.ntmps155
 go_upto_region 2 with (first | ((with_reducible refine gate_callee (f := 175) rfl ?_); refine goesL_ (some 9) rfl rfl Try.func175 (by kernel_rfl) rfl #[.pointer (some ad0)] rfl (by (try simp only [List.map_toArray, List.map_cons, List.map_nil]); first | done | rfl | (simp only [List.length_drop, List.length_take]; rfl)) ?_; (with_reducible refine (impl_shape.calls k ad0 a0_0 a0_1 a0_2 a0_3 A0_4 c0_4 l0_4 A0_5 c0_5 l0_5 A0_6 c0_6 l0_6 A0_7 c0_7 l0_7 t429 t430 t431 t432 _ ?side1 ?side2 ?side3 ?side4 ?side5 ?side6 ?side7 ?side8 ?side9 A2.out).mono ?_); (case side1 => repeat (first | exact HP0.out | (with_reducible refine Cells_alloc ?_ _) | (with_reducible refine Cells_drewN ?_ _) | (with_reducible refine Cells_drew ?_))); (case side2 => repeat (first | exact HR0_4.out | (with_reducible refine Kd.C_alloc ?_ _) | (with_reducible refine Kd.C_drewN ?_ _) | (with_reducible refine Kd.C_drew ?_))); (case side3 => exact HC0_4.out); (case side4 => repeat (first | exact HR0_5.out | (with_reducible refine Kd.C_alloc ?_ _) | (with_reducible refine Kd.C_drewN ?_ _) | (with_reducible refine Kd.C_drew ?_))); (case side5 => exact HC0_5.out); (case side6 => repeat (first | exact HR0_6.out | (with_reducible refine Kd.C_alloc ?_ _) | (with_reducible refine Kd.C_drewN ?_ _) | (with_reducible refine Kd.C_drew ?_))); (case side7 => exact HC0_6.out); (case side8 => repeat (first | exact HR0_7.out | (with_reducible refine Kd.C_alloc ?_ _) | (with_reducible refine Kd.C_drewN ?_ _) | (with_reducible refine Kd.C_drew ?_))); (case side9 => exact HC0_7.out); rintro e w' ⟨rfl, ⟨nd, rfl⟩⟩; refine ⟨_, rfl, ?_⟩))
 (try simp only [Act.put, List.setIfInBounds_toArray, List.set_cons_zero, List.set_cons_succ])
 go_cut [39] (fun v39 wc => ∃ (kq : Nat) (x39_2 : Bool), v39 = .bool x39_2 ∧ Aside0 (impl_nodeForm.j0 kq t430 t431 x39_2 a0_0 a0_1 a0_2 a0_3 l0_4 l0_5 = some r) ∧ Aside0 (kq ≤ k) ∧ Aside0 (Below w.heap.size w wc))
 case first =>
  have H := HC3.out
  clear HC3
  by_cases c4 : t432 = true
  ·subst c4
   have H1 : (if (l0_7.length : Int) = t429 then (if a0_0 = 5 then (impl_nodeForm.j0 k t430 t431 false a0_0 a0_1 a0_2 a0_3 l0_4 l0_5) else (impl_nodeForm.j0 k t430 t431 (decide ((l0_6.length : Int) > 0)) a0_0 a0_1 a0_2 a0_3 l0_4 l0_5)) else (impl_nodeForm.j0 k t430 t431 true a0_0 a0_1 a0_2 a0_3 l0_4 l0_5)) = some r := by rw [if_pos rfl] at H; exact H
   clear H
   have H := H1
   clear H1
   by_cases c5 : (l0_7.length : Int) = t429
   ·rw [if_pos c5] at H
    have c5b0 : ((l0_7.length : Int) == t429) = true := beq_iff_eq.mpr c5
    have c5b1 : ((l0_7.length : Int) != t429) = false := bne_eq_false_iff_eq.mpr c5
    clear c5
    (first | rw [c5b0] | (simp only [i64_w, i32_w]; rw [c5b0]) | (rw [c5b1]; (try simp only [Bool.not_true, Bool.not_false])) | skip)
    by_cases c6 : a0_0 = 5
    ·rw [if_pos c6] at H
     have c6b0 : (a0_0 == 5) = true := beq_iff_eq.mpr c6
     have c6b1 : (a0_0 != 5) = false := bne_eq_false_iff_eq.mpr c6
     clear c6
     have H' := Aside0.mk H
     clear H
     have hxr7_0 : w.cell? ad0 = some (.int .i64 a0_0) := pw_cell_below HB.out (HP0.out.1)
     have hxr7_1 : w.cell? ⟨ad0.block, ad0.off + 1, none⟩ = some (.string a0_1) := pw_cell_below HB.out (HP0.out.2.1)
     have hxr7_2 : w.cell? ⟨ad0.block, ad0.off + 2, none⟩ = some (.int .i64 a0_2) := pw_cell_below HB.out (HP0.out.2.2.1)
     have hxr7_3 : w.cell? ⟨ad0.block, ad0.off + 3, none⟩ = some (.int .i64 a0_3) := pw_cell_below HB.out (HP0.out.2.2.2.1)
     have hxr7_4 : w.cell? ⟨ad0.block, ad0.off + 4, none⟩ = some (.slice A0_4 l0_4.length c0_4) := pw_cell_below HB.out (HP0.out.2.2.2.2.1)
     have hxr7_5 : w.cell? ⟨ad0.block, ad0.off + 5, none⟩ = some (.slice A0_5 l0_5.length c0_5) := pw_cell_below HB.out (HP0.out.2.2.2.2.2.1)
     have hxr7_6 : w.cell? ⟨ad0.block, ad0.off + 6, none⟩ = some (.slice A0_6 l0_6.length c0_6) := pw_cell_below HB.out (HP0.out.2.2.2.2.2.2.1)
     have hxr7_7 : w.cell? ⟨ad0.block, ad0.off + 7, none⟩ = some (.slice A0_7 l0_7.length c0_7) := pw_cell_below HB.out (HP0.out.2.2.2.2.2.2.2.1)
     go_wp2
     go_meet
     case rel => exact ⟨_, (false), (by first | rfl | (simp; done) | (simp [i64_w, i32_w]; done) | (simp [*]; done)), H', ⟨by first | omega | exact Nat.le_refl _⟩, ⟨by repeat (first | (with_reducible first | exact HB.out | apply below_alloc | apply pw_below_drewN | apply below_drew1) | exact HB.out)⟩⟩
    ·rw [if_neg c6] at H
     have c6b0 : (a0_0 == 5) = false := beq_eq_false_iff_ne.mpr c6
     have c6b1 : (a0_0 != 5) = true := bne_iff_ne.mpr c6
     have H' := Aside0.mk H
     clear H
     have hxr8_0 : w.cell? ad0 = some (.int .i64 a0_0) := pw_cell_below HB.out (HP0.out.1)
     have hxr8_1 : w.cell? ⟨ad0.block, ad0.off + 1, none⟩ = some (.string a0_1) := pw_cell_below HB.out (HP0.out.2.1)
     have hxr8_2 : w.cell? ⟨ad0.block, ad0.off + 2, none⟩ = some (.int .i64 a0_2) := pw_cell_below HB.out (HP0.out.2.2.1)
     have hxr8_3 : w.cell? ⟨ad0.block, ad0.off + 3, none⟩ = some (.int .i64 a0_3) := pw_cell_below HB.out (HP0.out.2.2.2.1)
     have hxr8_4 : w.cell? ⟨ad0.block, ad0.off + 4, none⟩ = some (.slice A0_4 l0_4.length c0_4) := pw_cell_below HB.out (HP0.out.2.2.2.2.1)
     have hxr8_5 : w.cell? ⟨ad0.block, ad0.off + 5, none⟩ = some (.slice A0_5 l0_5.length c0_5) := pw_cell_below HB.out (HP0.out.2.2.2.2.2.1)
     have hxr8_6 : w.cell? ⟨ad0.block, ad0.off + 6, none⟩ = some (.slice A0_6 l0_6.length c0_6) := pw_cell_below HB.out (HP0.out.2.2.2.2.2.2.1)
     have hxr8_7 : w.cell? ⟨ad0.block, ad0.off + 7, none⟩ = some (.slice A0_7 l0_7.length c0_7) := pw_cell_below HB.out (HP0.out.2.2.2.2.2.2.2.1)
     go_wp2
     go_meet
     case rel => exact ⟨_, (decide ((l0_6.length : Int) > 0)), (by first | rfl | (simp; done) | (simp [i64_w, i32_w]; done) | (simp [*]; done)), H', ⟨by first | omega | exact Nat.le_refl _⟩, ⟨by repeat (first | (with_reducible first | exact HB.out | apply below_alloc | apply pw_below_drewN | apply below_drew1) | exact HB.out)⟩⟩
   ·rw [if_neg c5] at H
    have c5b0 : ((l0_7.length : Int) == t429) = false := beq_eq_false_iff_ne.mpr c5
    have c5b1 : ((l0_7.length : Int) != t429) = true := bne_iff_ne.mpr c5
    (first | rw [c5b0] | (simp only [i64_w, i32_w]; rw [c5b0]) | (rw [c5b1]; (try simp only [Bool.not_true, Bool.not_false])) | skip)
    have H' := Aside0.mk H
    clear H
    have hxr9_0 : w.cell? ad0 = some (.int .i64 a0_0) := pw_cell_below HB.out (HP0.out.1)
    have hxr9_1 : w.cell? ⟨ad0.block, ad0.off + 1, none⟩ = some (.string a0_1) := pw_cell_below HB.out (HP0.out.2.1)
    have hxr9_2 : w.cell? ⟨ad0.block, ad0.off + 2, none⟩ = some (.int .i64 a0_2) := pw_cell_below HB.out (HP0.out.2.2.1)
    have hxr9_3 : w.cell? ⟨ad0.block, ad0.off + 3, none⟩ = some (.int .i64 a0_3) := pw_cell_below HB.out (HP0.out.2.2.2.1)
    have hxr9_4 : w.cell? ⟨ad0.block, ad0.off + 4, none⟩ = some (.slice A0_4 l0_4.length c0_4) := pw_cell_below HB.out (HP0.out.2.2.2.2.1)
    have hxr9_5 : w.cell? ⟨ad0.block, ad0.off + 5, none⟩ = some (.slice A0_5 l0_5.length c0_5) := pw_cell_below HB.out (HP0.out.2.2.2.2.2.1)
    have hxr9_6 : w.cell? ⟨ad0.block, ad0.off + 6, none⟩ = some (.slice A0_6 l0_6.length c0_6) := pw_cell_below HB.out (HP0.out.2.2.2.2.2.2.1)
    have hxr9_7 : w.cell? ⟨ad0.block, ad0.off + 7, none⟩ = some (.slice A0_7 l0_7.length c0_7) := pw_cell_below HB.out (HP0.out.2.2.2.2.2.2.2.1)
    go_wp2
    go_meet
    case rel => exact ⟨_, (true), (by first | rfl | (simp; done) | (simp [i64_w, i32_w]; done) | (simp [*]; done)), H', ⟨by first | omega | exact Nat.le_refl _⟩, ⟨by repeat (first | (with_reducible first | exact HB.out | apply below_alloc | apply pw_below_drewN | apply below_drew1) | exact HB.out)⟩⟩
  ·replace c4 := Bool.eq_false_iff.mpr c4
   subst c4
   have H1 : (impl_nodeForm.j0 k t430 t431 true a0_0 a0_1 a0_2 a0_3 l0_4 l0_5) = some r := by rw [if_neg (show ¬ (false = true) by decide)] at H; exact H
   clear H
   have H := H1
   clear H1
   have H' := Aside0.mk H
   clear H
   go_wp2
   go_meet
   case rel => exact ⟨_, (true), (by first | rfl | (simp; done) | (simp [i64_w, i32_w]; done) | (simp [*]; done)), H', ⟨by first | omega | exact Nat.le_refl _⟩, ⟨by repeat (first | (with_reducible first | exact HB.out | apply below_alloc | apply pw_below_drewN | apply below_drew1) | exact HB.out)⟩⟩
 case rest =>
  clear HC3
  (try clear c1); (try clear p2); (try clear c4); (try clear c5); (try clear c5b0); (try clear c5b1); (try clear c6); (try clear c6b0); (try clear c6b1)
  obtain ⟨kq, x39_2, rfl, HA, HJ2, HB⟩ := hcut
  cases kq with
  | zero => exact absurd HA.out (by simp [impl_nodeForm.j0])
  | succ kj2 =>
   have H := HA.out
   clear HA
   simp only [impl_nodeForm.j0] at H
   by_cases c10 : x39_2 = true
   ·subst c10
    have H1 : (some false) = some r := by rw [if_pos rfl] at H; exact H
    clear H
    have H := H1
    clear H1
    obtain rfl := Option.some.inj H
    go_wp2
    go_ret
    exact ⟨by first | rfl | (simp [errW_none, errW_some] <;> rfl) | (simp [*, errW_none, errW_some] <;> rfl), by repeat (first | (with_reducible first | exact HB.out | apply below_alloc | apply pw_below_drewN | apply below_drew1) | exact HB.out)⟩
   ·replace c10 := Bool.eq_false_iff.mpr c10
    subst c10
    have H1 : (if a0_0 = 2 then (if a0_2 < 0 then (impl_nodeForm.j1 kj2 t430 t431 true a0_0 a0_1 a0_2 a0_3 l0_4 l0_5) else (impl_nodeForm.j1 kj2 t430 t431 (decide (a0_2 > 999)) a0_0 a0_1 a0_2 a0_3 l0_4 l0_5)) else (impl_nodeForm.j1 kj2 t430 t431 false a0_0 a0_1 a0_2 a0_3 l0_4 l0_5)) = some r := by rw [if_neg (show ¬ (false = true) by decide)] at H; exact H
    clear H
    have H := H1
    clear H1
    have HC11 := Aside0.mk H
    clear H
    go_upto_block 0 with (fail)
    go_cut [] (fun wc => ∃ (kq : Nat), Aside0 (impl_nodeForm.j4 kq t431 a0_3 l0_4 l0_5 = some r) ∧ Aside0 (kq ≤ kj2) ∧ Aside0 (Below w.heap.size w wc))
    case first =>
     have H := HC11.out
     clear HC11
     have HC12 := Aside0.mk H
     clear H
     go_upto_region 4 with (fail)
     go_cut [40] (fun v40 wc => ∃ (kq : Nat) (x40_11 : Bool), v40 = .bool x40_11 ∧ Aside0 (impl_nodeForm.j1 kq t430 t431 x40_11 a0_0 a0_1 a0_2 a0_3 l0_4 l0_5 = some r) ∧ Aside0 (kq ≤ kj2) ∧ Aside0 (Below w.heap.size w wc))
     case first =>
      have H := HC12.out
      clear HC12
      by_cases c13 : a0_0 = 2
      ·rw [if_pos c13] at H
       have c13b0 : (a0_0 == 2) = true := beq_iff_eq.mpr c13
       have c13b1 : (a0_0 != 2) = false := bne_eq_false_iff_eq.mpr c13
       clear c13
       (first | rw [c13b0] | (simp only [i64_w, i32_w]; rw [c13b0]) | (rw [c13b1]; (try simp only [Bool.not_true, Bool.not_false])) | skip)
       by_cases c14 : a0_2 < 0
       ·rw [if_pos c14] at H
        have c14b0 : decide (a0_2 < 0) = true := decide_eq_true c14
        clear c14
        have H' := Aside0.mk H
        clear H
        have hxr15_0 : wc.cell? ad0 = some (.int .i64 a0_0) := pw_cell_below HB.out (HP0.out.1)
        have hxr15_1 : wc.cell? ⟨ad0.block, ad0.off + 1, none⟩ = some (.string a0_1) := pw_cell_below HB.out (HP0.out.2.1)
        have hxr15_2 : wc.cell? ⟨ad0.block, ad0.off + 2, none⟩ = some (.int .i64 a0_2) := pw_cell_below HB.out (HP0.out.2.2.1)
        have hxr15_3 : wc.cell? ⟨ad0.block, ad0.off + 3, none⟩ = some (.int .i64 a0_3) := pw_cell_below HB.out (HP0.out.2.2.2.1)
        have hxr15_4 : wc.cell? ⟨ad0.block, ad0.off + 4, none⟩ = some (.slice A0_4 l0_4.length c0_4) := pw_cell_below HB.out (HP0.out.2.2.2.2.1)
        have hxr15_5 : wc.cell? ⟨ad0.block, ad0.off + 5, none⟩ = some (.slice A0_5 l0_5.length c0_5) := pw_cell_below HB.out (HP0.out.2.2.2.2.2.1)
        have hxr15_6 : wc.cell? ⟨ad0.block, ad0.off + 6, none⟩ = some (.slice A0_6 l0_6.length c0_6) := pw_cell_below HB.out (HP0.out.2.2.2.2.2.2.1)
        have hxr15_7 : wc.cell? ⟨ad0.block, ad0.off + 7, none⟩ = some (.slice A0_7 l0_7.length c0_7) := pw_cell_below HB.out (HP0.out.2.2.2.2.2.2.2.1)
        go_wp2
        go_meet
        case rel => exact ⟨_, (true), (by first | rfl | (simp; done) | (simp [i64_w, i32_w]; done) | (simp [*]; done)), H', ⟨by have := HJ2.out; first | omega | exact Nat.le_refl _⟩, ⟨by repeat (first | (with_reducible first | exact HB.out | apply below_alloc | apply pw_below_drewN | apply below_drew1) | exact HB.out)⟩⟩
       ·rw [if_neg c14] at H
        have c14b0 : decide (a0_2 < 0) = false := decide_eq_false c14
        clear c14
        have H' := Aside0.mk H
        clear H
        have hxr16_0 : wc.cell? ad0 = some (.int .i64 a0_0) := pw_cell_below HB.out (HP0.out.1)
        have hxr16_1 : wc.cell? ⟨ad0.block, ad0.off + 1, none⟩ = some (.string a0_1) := pw_cell_below HB.out (HP0.out.2.1)
        have hxr16_2 : wc.cell? ⟨ad0.block, ad0.off + 2, none⟩ = some (.int .i64 a0_2) := pw_cell_below HB.out (HP0.out.2.2.1)
        have hxr16_3 : wc.cell? ⟨ad0.block, ad0.off + 3, none⟩ = some (.int .i64 a0_3) := pw_cell_below HB.out (HP0.out.2.2.2.1)
        have hxr16_4 : wc.cell? ⟨ad0.block, ad0.off + 4, none⟩ = some (.slice A0_4 l0_4.length c0_4) := pw_cell_below HB.out (HP0.out.2.2.2.2.1)
        have hxr16_5 : wc.cell? ⟨ad0.block, ad0.off + 5, none⟩ = some (.slice A0_5 l0_5.length c0_5) := pw_cell_below HB.out (HP0.out.2.2.2.2.2.1)
        have hxr16_6 : wc.cell? ⟨ad0.block, ad0.off + 6, none⟩ = some (.slice A0_6 l0_6.length c0_6) := pw_cell_below HB.out (HP0.out.2.2.2.2.2.2.1)
        have hxr16_7 : wc.cell? ⟨ad0.block, ad0.off + 7, none⟩ = some (.slice A0_7 l0_7.length c0_7) := pw_cell_below HB.out (HP0.out.2.2.2.2.2.2.2.1)
        go_wp2
        go_meet
        case rel => exact ⟨_, (decide (a0_2 > 999)), (by first | rfl | (simp; done) | (simp [i64_w, i32_w]; done) | (simp [*]; done)), H', ⟨by have := HJ2.out; first | omega | exact Nat.le_refl _⟩, ⟨by repeat (first | (with_reducible first | exact HB.out | apply below_alloc | apply pw_below_drewN | apply below_drew1) | exact HB.out)⟩⟩
      ·rw [if_neg c13] at H
       have c13b0 : (a0_0 == 2) = false := beq_eq_false_iff_ne.mpr c13
       have c13b1 : (a0_0 != 2) = true := bne_iff_ne.mpr c13
       (first | rw [c13b0] | (simp only [i64_w, i32_w]; rw [c13b0]) | (rw [c13b1]; (try simp only [Bool.not_true, Bool.not_false])) | skip)
       have H' := Aside0.mk H
       clear H
       have hxr17_0 : wc.cell? ad0 = some (.int .i64 a0_0) := pw_cell_below HB.out (HP0.out.1)
       have hxr17_1 : wc.cell? ⟨ad0.block, ad0.off + 1, none⟩ = some (.string a0_1) := pw_cell_below HB.out (HP0.out.2.1)
       have hxr17_2 : wc.cell? ⟨ad0.block, ad0.off + 2, none⟩ = some (.int .i64 a0_2) := pw_cell_below HB.out (HP0.out.2.2.1)
       have hxr17_3 : wc.cell? ⟨ad0.block, ad0.off + 3, none⟩ = some (.int .i64 a0_3) := pw_cell_below HB.out (HP0.out.2.2.2.1)
       have hxr17_4 : wc.cell? ⟨ad0.block, ad0.off + 4, none⟩ = some (.slice A0_4 l0_4.length c0_4) := pw_cell_below HB.out (HP0.out.2.2.2.2.1)
       have hxr17_5 : wc.cell? ⟨ad0.block, ad0.off + 5, none⟩ = some (.slice A0_5 l0_5.length c0_5) := pw_cell_below HB.out (HP0.out.2.2.2.2.2.1)
       have hxr17_6 : wc.cell? ⟨ad0.block, ad0.off + 6, none⟩ = some (.slice A0_6 l0_6.length c0_6) := pw_cell_below HB.out (HP0.out.2.2.2.2.2.2.1)
       have hxr17_7 : wc.cell? ⟨ad0.block, ad0.off + 7, none⟩ = some (.slice A0_7 l0_7.length c0_7) := pw_cell_below HB.out (HP0.out.2.2.2.2.2.2.2.1)
       go_wp2
       go_meet
       case rel => exact ⟨_, (false), (by first | rfl | (simp; done) | (simp [i64_w, i32_w]; done) | (simp [*]; done)), H', ⟨by have := HJ2.out; first | omega | exact Nat.le_refl _⟩, ⟨by repeat (first | (with_reducible first | exact HB.out | apply below_alloc | apply pw_below_drewN | apply below_drew1) | exact HB.out)⟩⟩
     case rest =>
      clear HC12
      (try clear c1); (try clear p2); (try clear c4); (try clear c5); (try clear c5b0); (try clear c5b1); (try clear c6); (try clear c6b0); (try clear c6b1); (try clear c10); (try clear c13); (try clear c13b0); (try clear c13b1); (try clear c14); (try clear c14b0); (try clear c15); (try clear c17); (try clear p2)
      obtain ⟨kq, x40_11, rfl, HA, HJ11, HB⟩ := hcut
      cases kq with
      | zero => exact absurd HA.out (by simp [impl_nodeForm.j1])
      | succ kj11 =>
       have H := HA.out
       clear HA
       simp only [impl_nodeForm.j1] at H
       have HC18 := Aside0.mk H
       clear H
       go_upto_if 40 with (fail)
       go_cut [40] (fun v40 wc => ∃ (kq : Nat) (x40_17 : Bool), v40 = .bool x40_17 ∧ Aside0 (impl_nodeForm.j2 kq t430 t431 x40_17 a0_0 a0_1 a0_3 l0_4 l0_5 = some r) ∧ Aside0 (kq ≤ kj11) ∧ Aside0 (Below w.heap.size w wc))
       case first =>
        have H := HC18.out
        clear HC18
        by_cases c19 : x40_11 = true
        ·subst c19
         have H1 : (impl_nodeForm.j2 kj11 t430 t431 true a0_0 a0_1 a0_3 l0_4 l0_5) = some r := by rw [if_pos rfl] at H; exact H
         clear H
         have H := H1
         clear H1
         have H' := Aside0.mk H
         clear H
         go_wp2
         go_meet
         case rel => exact ⟨_, (true), (by first | rfl | (simp; done) | (simp [i64_w, i32_w]; done) | (simp [*]; done)), H', ⟨by have := HJ2.out; have := HJ11.out; first | omega | exact Nat.le_refl _⟩, ⟨by repeat (first | (with_reducible first | exact HB.out | apply below_alloc | apply pw_below_drewN | apply below_drew1) | exact HB.out)⟩⟩
        ·replace c19 := Bool.eq_false_iff.mpr c19
         subst c19
         have H1 : (if a0_0 = 3 then (if a0_2 = 0 then (if a0_0 = 2 then (impl_nodeForm.j2 kj11 t430 t431 false a0_0 a0_1 a0_3 l0_4 l0_5) else (impl_nodeForm.j2 kj11 t430 t431 false a0_0 a0_1 a0_3 l0_4 l0_5)) else (if a0_2 = 1 then (if a0_0 = 2 then (impl_nodeForm.j2 kj11 t430 t431 false a0_0 a0_1 a0_3 l0_4 l0_5) else (impl_nodeForm.j2 kj11 t430 t431 false a0_0 a0_1 a0_3 l0_4 l0_5)) else (impl_nodeForm.j2 kj11 t430 t431 (a0_2 != 1) a0_0 a0_1 a0_3 l0_4 l0_5))) else (if a0_0 = 2 then (impl_nodeForm.j2 kj11 t430 t431 false a0_0 a0_1 a0_3 l0_4 l0_5) else (impl_nodeForm.j2 kj11 t430 t431 (a0_2 != 0) a0_0 a0_1 a0_3 l0_4 l0_5))) = some r := by rw [if_neg (show ¬ (false = true) by decide)] at H; exact H
         clear H
         have H := H1
         clear H1
         by_cases c20 : a0_0 = 3
         ·rw [if_pos c20] at H
          have c20b0 : (a0_0 == 3) = true := beq_iff_eq.mpr c20
          have c20b1 : (a0_0 != 3) = false := bne_eq_false_iff_eq.mpr c20
          clear c20
          (first | rw [c20b0] | (simp only [i64_w, i32_w]; rw [c20b0]) | (rw [c20b1]; (try simp only [Bool.not_true, Bool.not_false])) | skip)
          by_cases c21 : a0_2 = 0
          ·rw [if_pos c21] at H
           have c21b0 : (a0_2 == 0) = true := beq_iff_eq.mpr c21
           have c21b1 : (a0_2 != 0) = false := bne_eq_false_iff_eq.mpr c21
           clear c21
           by_cases c22 : a0_0 = 2
           ·rw [if_pos c22] at H
            have c22b0 : (a0_0 == 2) = true := beq_iff_eq.mpr c22
            have c22b1 : (a0_0 != 2) = false := bne_eq_false_iff_eq.mpr c22
            clear c22
            have H' := Aside0.mk H
            clear H
            have hxr23_0 : wc.cell? ad0 = some (.int .i64 a0_0) := pw_cell_below HB.out (HP0.out.1)
            have hxr23_1 : wc.cell? ⟨ad0.block, ad0.off + 1, none⟩ = some (.string a0_1) := pw_cell_below HB.out (HP0.out.2.1)
            have hxr23_2 : wc.cell? ⟨ad0.block, ad0.off + 2, none⟩ = some (.int .i64 a0_2) := pw_cell_below HB.out (HP0.out.2.2.1)
            have hxr23_3 : wc.cell? ⟨ad0.block, ad0.off + 3, none⟩ = some (.int .i64 a0_3) := pw_cell_below HB.out (HP0.out.2.2.2.1)
            have hxr23_4 : wc.cell? ⟨ad0.block, ad0.off + 4, none⟩ = some (.slice A0_4 l0_4.length c0_4) := pw_cell_below HB.out (HP0.out.2.2.2.2.1)
            have hxr23_5 : wc.cell? ⟨ad0.block, ad0.off + 5, none⟩ = some (.slice A0_5 l0_5.length c0_5) := pw_cell_below HB.out (HP0.out.2.2.2.2.2.1)
            have hxr23_6 : wc.cell? ⟨ad0.block, ad0.off + 6, none⟩ = some (.slice A0_6 l0_6.length c0_6) := pw_cell_below HB.out (HP0.out.2.2.2.2.2.2.1)
            have hxr23_7 : wc.cell? ⟨ad0.block, ad0.off + 7, none⟩ = some (.slice A0_7 l0_7.length c0_7) := pw_cell_below HB.out (HP0.out.2.2.2.2.2.2.2.1)
            go_wp2
            go_meet
            case rel => exact ⟨_, (false), (by first | rfl | (simp; done) | (simp [i64_w, i32_w]; done) | (simp [*]; done)), H', ⟨by have := HJ2.out; have := HJ11.out; first | omega | exact Nat.le_refl _⟩, ⟨by repeat (first | (with_reducible first | exact HB.out | apply below_alloc | apply pw_below_drewN | apply below_drew1) | exact HB.out)⟩⟩
           ·rw [if_neg c22] at H
            have c22b0 : (a0_0 == 2) = false := beq_eq_false_iff_ne.mpr c22
            have c22b1 : (a0_0 != 2) = true := bne_iff_ne.mpr c22
            have H' := Aside0.mk H
            clear H
            have hxr24_0 : wc.cell? ad0 = some (.int .i64 a0_0) := pw_cell_below HB.out (HP0.out.1)
            have hxr24_1 : wc.cell? ⟨ad0.block, ad0.off + 1, none⟩ = some (.string a0_1) := pw_cell_below HB.out (HP0.out.2.1)
            have hxr24_2 : wc.cell? ⟨ad0.block, ad0.off + 2, none⟩ = some (.int .i64 a0_2) := pw_cell_below HB.out (HP0.out.2.2.1)
            have hxr24_3 : wc.cell? ⟨ad0.block, ad0.off + 3, none⟩ = some (.int .i64 a0_3) := pw_cell_below HB.out (HP0.out.2.2.2.1)
            have hxr24_4 : wc.cell? ⟨ad0.block, ad0.off + 4, none⟩ = some (.slice A0_4 l0_4.length c0_4) := pw_cell_below HB.out (HP0.out.2.2.2.2.1)
            have hxr24_5 : wc.cell? ⟨ad0.block, ad0.off + 5, none⟩ = some (.slice A0_5 l0_5.length c0_5) := pw_cell_below HB.out (HP0.out.2.2.2.2.2.1)
            have hxr24_6 : wc.cell? ⟨ad0.block, ad0.off + 6, none⟩ = some (.slice A0_6 l0_6.length c0_6) := pw_cell_below HB.out (HP0.out.2.2.2.2.2.2.1)
            have hxr24_7 : wc.cell? ⟨ad0.block, ad0.off + 7, none⟩ = some (.slice A0_7 l0_7.length c0_7) := pw_cell_below HB.out (HP0.out.2.2.2.2.2.2.2.1)
            go_wp2
            go_meet
            case rel => exact ⟨_, (false), (by first | rfl | (simp; done) | (simp [i64_w, i32_w]; done) | (simp [*]; done)), H', ⟨by have := HJ2.out; have := HJ11.out; first | omega | exact Nat.le_refl _⟩, ⟨by repeat (first | (with_reducible first | exact HB.out | apply below_alloc | apply pw_below_drewN | apply below_drew1) | exact HB.out)⟩⟩
          ·rw [if_neg c21] at H
           have c21b0 : (a0_2 == 0) = false := beq_eq_false_iff_ne.mpr c21
           have c21b1 : (a0_2 != 0) = true := bne_iff_ne.mpr c21
           by_cases c25 : a0_2 = 1
           ·rw [if_pos c25] at H
            have c25b0 : (a0_2 == 1) = true := beq_iff_eq.mpr c25
            have c25b1 : (a0_2 != 1) = false := bne_eq_false_iff_eq.mpr c25
            clear c25
            by_cases c26 : a0_0 = 2
            ·rw [if_pos c26] at H
             have c26b0 : (a0_0 == 2) = true := beq_iff_eq.mpr c26
             have c26b1 : (a0_0 != 2) = false := bne_eq_false_iff_eq.mpr c26
             clear c26
             have H' := Aside0.mk H
             clear H
             have hxr27_0 : wc.cell? ad0 = some (.int .i64 a0_0) := pw_cell_below HB.out (HP0.out.1)
             have hxr27_1 : wc.cell? ⟨ad0.block, ad0.off + 1, none⟩ = some (.string a0_1) := pw_cell_below HB.out (HP0.out.2.1)
             have hxr27_2 : wc.cell? ⟨ad0.block, ad0.off + 2, none⟩ = some (.int .i64 a0_2) := pw_cell_below HB.out (HP0.out.2.2.1)
             have hxr27_3 : wc.cell? ⟨ad0.block, ad0.off + 3, none⟩ = some (.int .i64 a0_3) := pw_cell_below HB.out (HP0.out.2.2.2.1)
             have hxr27_4 : wc.cell? ⟨ad0.block, ad0.off + 4, none⟩ = some (.slice A0_4 l0_4.length c0_4) := pw_cell_below HB.out (HP0.out.2.2.2.2.1)
             have hxr27_5 : wc.cell? ⟨ad0.block, ad0.off + 5, none⟩ = some (.slice A0_5 l0_5.length c0_5) := pw_cell_below HB.out (HP0.out.2.2.2.2.2.1)
             have hxr27_6 : wc.cell? ⟨ad0.block, ad0.off + 6, none⟩ = some (.slice A0_6 l0_6.length c0_6) := pw_cell_below HB.out (HP0.out.2.2.2.2.2.2.1)
             have hxr27_7 : wc.cell? ⟨ad0.block, ad0.off + 7, none⟩ = some (.slice A0_7 l0_7.length c0_7) := pw_cell_below HB.out (HP0.out.2.2.2.2.2.2.2.1)
             go_wp2
             go_meet
             case rel => exact ⟨_, (false), (by first | rfl | (simp; done) | (simp [i64_w, i32_w]; done) | (simp [*]; done)), H', ⟨by have := HJ2.out; have := HJ11.out; first | omega | exact Nat.le_refl _⟩, ⟨by repeat (first | (with_reducible first | exact HB.out | apply below_alloc | apply pw_below_drewN | apply below_drew1) | exact HB.out)⟩⟩
            ·rw [if_neg c26] at H
             have c26b0 : (a0_0 == 2) = false := beq_eq_false_iff_ne.mpr c26
             have c26b1 : (a0_0 != 2) = true := bne_iff_ne.mpr c26
             have H' := Aside0.mk H
             clear H
             have hxr28_0 : wc.cell? ad0 = some (.int .i64 a0_0) := pw_cell_below HB.out (HP0.out.1)
             have hxr28_1 : wc.cell? ⟨ad0.block, ad0.off + 1, none⟩ = some (.string a0_1) := pw_cell_below HB.out (HP0.out.2.1)
             have hxr28_2 : wc.cell? ⟨ad0.block, ad0.off + 2, none⟩ = some (.int .i64 a0_2) := pw_cell_below HB.out (HP0.out.2.2.1)
             have hxr28_3 : wc.cell? ⟨ad0.block, ad0.off + 3, none⟩ = some (.int .i64 a0_3) := pw_cell_below HB.out (HP0.out.2.2.2.1)
             have hxr28_4 : wc.cell? ⟨ad0.block, ad0.off + 4, none⟩ = some (.slice A0_4 l0_4.length c0_4) := pw_cell_below HB.out (HP0.out.2.2.2.2.1)
             have hxr28_5 : wc.cell? ⟨ad0.block, ad0.off + 5, none⟩ = some (.slice A0_5 l0_5.length c0_5) := pw_cell_below HB.out (HP0.out.2.2.2.2.2.1)
             have hxr28_6 : wc.cell? ⟨ad0.block, ad0.off + 6, none⟩ = some (.slice A0_6 l0_6.length c0_6) := pw_cell_below HB.out (HP0.out.2.2.2.2.2.2.1)
             have hxr28_7 : wc.cell? ⟨ad0.block, ad0.off + 7, none⟩ = some (.slice A0_7 l0_7.length c0_7) := pw_cell_below HB.out (HP0.out.2.2.2.2.2.2.2.1)
             go_wp2
             go_meet
             case rel => exact ⟨_, (false), (by first | rfl | (simp; done) | (simp [i64_w, i32_w]; done) | (simp [*]; done)), H', ⟨by have := HJ2.out; have := HJ11.out; first | omega | exact Nat.le_refl _⟩, ⟨by repeat (first | (with_reducible first | exact HB.out | apply below_alloc | apply pw_below_drewN | apply below_drew1) | exact HB.out)⟩⟩
           ·rw [if_neg c25] at H
            have c25b0 : (a0_2 == 1) = false := beq_eq_false_iff_ne.mpr c25
            have c25b1 : (a0_2 != 1) = true := bne_iff_ne.mpr c25
            have H' := Aside0.mk H
            clear H
            have hxr29_0 : wc.cell? ad0 = some (.int .i64 a0_0) := pw_cell_below HB.out (HP0.out.1)
            have hxr29_1 : wc.cell? ⟨ad0.block, ad0.off + 1, none⟩ = some (.string a0_1) := pw_cell_below HB.out (HP0.out.2.1)
            have hxr29_2 : wc.cell? ⟨ad0.block, ad0.off + 2, none⟩ = some (.int .i64 a0_2) := pw_cell_below HB.out (HP0.out.2.2.1)
            have hxr29_3 : wc.cell? ⟨ad0.block, ad0.off + 3, none⟩ = some (.int .i64 a0_3) := pw_cell_below HB.out (HP0.out.2.2.2.1)
            have hxr29_4 : wc.cell? ⟨ad0.block, ad0.off + 4, none⟩ = some (.slice A0_4 l0_4.length c0_4) := pw_cell_below HB.out (HP0.out.2.2.2.2.1)
            have hxr29_5 : wc.cell? ⟨ad0.block, ad0.off + 5, none⟩ = some (.slice A0_5 l0_5.length c0_5) := pw_cell_below HB.out (HP0.out.2.2.2.2.2.1)
            have hxr29_6 : wc.cell? ⟨ad0.block, ad0.off + 6, none⟩ = some (.slice A0_6 l0_6.length c0_6) := pw_cell_below HB.out (HP0.out.2.2.2.2.2.2.1)
            have hxr29_7 : wc.cell? ⟨ad0.block, ad0.off + 7, none⟩ = some (.slice A0_7 l0_7.length c0_7) := pw_cell_below HB.out (HP0.out.2.2.2.2.2.2.2.1)
            go_wp2
            go_meet
            case rel => exact ⟨_, ((a0_2 != 1)), (by first | rfl | (simp; done) | (simp [i64_w, i32_w]; done) | (simp [*]; done)), H', ⟨by have := HJ2.out; have := HJ11.out; first | omega | exact Nat.le_refl _⟩, ⟨by repeat (first | (with_reducible first | exact HB.out | apply below_alloc | apply pw_below_drewN | apply below_drew1) | exact HB.out)⟩⟩
         ·rw [if_neg c20] at H
          have c20b0 : (a0_0 == 3) = false := beq_eq_false_iff_ne.mpr c20
          have c20b1 : (a0_0 != 3) = true := bne_iff_ne.mpr c20
          (first | rw [c20b0] | (simp only [i64_w, i32_w]; rw [c20b0]) | (rw [c20b1]; (try simp only [Bool.not_true, Bool.not_false])) | skip)
          by_cases c30 : a0_0 = 2
          ·rw [if_pos c30] at H
           have c30b0 : (a0_0 == 2) = true := beq_iff_eq.mpr c30
           have c30b1 : (a0_0 != 2) = false := bne_eq_false_iff_eq.mpr c30
           clear c30
           have H' := Aside0.mk H
           clear H
           have hxr31_0 : wc.cell? ad0 = some (.int .i64 a0_0) := pw_cell_below HB.out (HP0.out.1)
           have hxr31_1 : wc.cell? ⟨ad0.block, ad0.off + 1, none⟩ = some (.string a0_1) := pw_cell_below HB.out (HP0.out.2.1)
           have hxr31_2 : wc.cell? ⟨ad0.block, ad0.off + 2, none⟩ = some (.int .i64 a0_2) := pw_cell_below HB.out (HP0.out.2.2.1)
           have hxr31_3 : wc.cell? ⟨ad0.block, ad0.off + 3, none⟩ = some (.int .i64 a0_3) := pw_cell_below HB.out (HP0.out.2.2.2.1)
           have hxr31_4 : wc.cell? ⟨ad0.block, ad0.off + 4, none⟩ = some (.slice A0_4 l0_4.length c0_4) := pw_cell_below HB.out (HP0.out.2.2.2.2.1)
           have hxr31_5 : wc.cell? ⟨ad0.block, ad0.off + 5, none⟩ = some (.slice A0_5 l0_5.length c0_5) := pw_cell_below HB.out (HP0.out.2.2.2.2.2.1)
           have hxr31_6 : wc.cell? ⟨ad0.block, ad0.off + 6, none⟩ = some (.slice A0_6 l0_6.length c0_6) := pw_cell_below HB.out (HP0.out.2.2.2.2.2.2.1)
           have hxr31_7 : wc.cell? ⟨ad0.block, ad0.off + 7, none⟩ = some (.slice A0_7 l0_7.length c0_7) := pw_cell_below HB.out (HP0.out.2.2.2.2.2.2.2.1)
           go_wp2
           go_meet
           case rel => exact ⟨_, (false), (by first | rfl | (simp; done) | (simp [i64_w, i32_w]; done) | (simp [*]; done)), H', ⟨by have := HJ2.out; have := HJ11.out; first | omega | exact Nat.le_refl _⟩, ⟨by repeat (first | (with_reducible first | exact HB.out | apply below_alloc | apply pw_below_drewN | apply below_drew1) | exact HB.out)⟩⟩
          ·rw [if_neg c30] at H
           have c30b0 : (a0_0 == 2) = false := beq_eq_false_iff_ne.mpr c30
           have c30b1 : (a0_0 != 2) = true := bne_iff_ne.mpr c30
           have H' := Aside0.mk H
           clear H
           have hxr32_0 : wc.cell? ad0 = some (.int .i64 a0_0) := pw_cell_below HB.out (HP0.out.1)
           have hxr32_1 : wc.cell? ⟨ad0.block, ad0.off + 1, none⟩ = some (.string a0_1) := pw_cell_below HB.out (HP0.out.2.1)
           have hxr32_2 : wc.cell? ⟨ad0.block, ad0.off + 2, none⟩ = some (.int .i64 a0_2) := pw_cell_below HB.out (HP0.out.2.2.1)
           have hxr32_3 : wc.cell? ⟨ad0.block, ad0.off + 3, none⟩ = some (.int .i64 a0_3) := pw_cell_below HB.out (HP0.out.2.2.2.1)
           have hxr32_4 : wc.cell? ⟨ad0.block, ad0.off + 4, none⟩ = some (.slice A0_4 l0_4.length c0_4) := pw_cell_below HB.out (HP0.out.2.2.2.2.1)
           have hxr32_5 : wc.cell? ⟨ad0.block, ad0.off + 5, none⟩ = some (.slice A0_5 l0_5.length c0_5) := pw_cell_below HB.out (HP0.out.2.2.2.2.2.1)
           have hxr32_6 : wc.cell? ⟨ad0.block, ad0.off + 6, none⟩ = some (.slice A0_6 l0_6.length c0_6) := pw_cell_below HB.out (HP0.out.2.2.2.2.2.2.1)
           have hxr32_7 : wc.cell? ⟨ad0.block, ad0.off + 7, none⟩ = some (.slice A0_7 l0_7.length c0_7) := pw_cell_below HB.out (HP0.out.2.2.2.2.2.2.2.1)
           go_wp2
           go_meet
           case rel => exact ⟨_, ((a0_2 != 0)), (by first | rfl | (simp; done) | (simp [i64_w, i32_w]; done) | (simp [*]; done)), H', ⟨by have := HJ2.out; have := HJ11.out; first | omega | exact Nat.le_refl _⟩, ⟨by repeat (first | (with_reducible first | exact HB.out | apply below_alloc | apply pw_below_drewN | apply below_drew1) | exact HB.out)⟩⟩
       case rest =>
        clear HC18
        (try clear c1); (try clear c2); (try clear p2); (try clear c3); (try clear c4); (try clear c5); (try clear c5b0); (try clear c5b1); (try clear c6); (try clear c6b0); (try clear c6b1); (try clear c10); (try clear c13); (try clear c13b0); (try clear c13b1); (try clear c14); (try clear c14b0); (try clear c15); (try clear c17); (try clear c19); (try clear c20); (try clear c20b0); (try clear c20b1); (try clear c21); (try clear c21b0); (try clear c21b1); (try clear c22); (try clear c22b0); (try clear c22b1); (try clear c25); (try clear c25b0); (try clear c25b1); (try clear c26); (try clear c26b0); (try clear c26b1); (try clear c30); (try clear c30b0); (try clear c30b1); (try clear p2)
        obtain ⟨kq, x40_17, rfl, HA, HJ17, HB⟩ := hcut
        cases kq with
        | zero => exact absurd HA.out (by simp [impl_nodeForm.j2])
        | succ kj17 =>
         have H := HA.out
         clear HA
         simp only [impl_nodeForm.j2] at H
         by_cases c33 : x40_17 = true
         ·subst c33
          have H1 : (some false) = some r := by rw [if_pos rfl] at H; exact H
          clear H
          have H := H1
          clear H1
          obtain rfl := Option.some.inj H
          go_wp2
          go_ret
          exact ⟨by first | rfl | (simp [errW_none, errW_some] <;> rfl) | (simp [*, errW_none, errW_some] <;> rfl), by repeat (first | (with_reducible first | exact HB.out | apply below_alloc | apply pw_below_drewN | apply below_drew1) | exact HB.out)⟩
         ·replace c33 := Bool.eq_false_iff.mpr c33
          subst c33
          have H1 : (if t430 = true then (if a0_0 = 4 then (impl_nodeForm.j3 kj17 t430 t431 false a0_1 a0_3 l0_4 l0_5) else ((impl_IsName.f kj17 a0_1).bind fun t433 => (impl_nodeForm.j3 kj17 t430 t431 (!t433) a0_1 a0_3 l0_4 l0_5))) else (impl_nodeForm.j3 kj17 t430 t431 false a0_1 a0_3 l0_4 l0_5)) = some r := by rw [if_neg (show ¬ (false = true) by decide)] at H; exact H
          clear H
          have H := H1
          clear H1
          have HC34 := Aside0.mk H
          clear H
          go_upto_region 8 with (fail)
          go_cut [98] (fun v98 wc => ∃ (kq : Nat) (x98_33 : Bool), v98 = .bool x98_33 ∧ Aside0 (impl_nodeForm.j3 kq t430 t431 x98_33 a0_1 a0_3 l0_4 l0_5 = some r) ∧ Aside0 (kq ≤ kj17) ∧ Aside0 (Below w.heap.size w wc))
          case first =>
           have H := HC34.out
           clear HC34
           by_cases c35 : t430 = true
           ·subst c35
            have H1 : (if a0_0 = 4 then (impl_nodeForm.j3 kj17 true t431 false a0_1 a0_3 l0_4 l0_5) else ((impl_IsName.f kj17 a0_1).bind fun t433 => (impl_nodeForm.j3 kj17 true t431 (!t433) a0_1 a0_3 l0_4 l0_5))) = some r := by rw [if_pos rfl] at H; exact H
            clear H
            have H := H1
            clear H1
            by_cases c36 : a0_0 = 4
            ·rw [if_pos c36] at H
             have c36b0 : (a0_0 == 4) = true := beq_iff_eq.mpr c36
             have c36b1 : (a0_0 != 4) = false := bne_eq_false_iff_eq.mpr c36
             clear c36
             (first | rw [c36b0] | (simp only [i64_w, i32_w]; rw [c36b0]) | (rw [c36b1]; (try simp only [Bool.not_true, Bool.not_false])) | skip)
             have H' := Aside0.mk H
             clear H
             have hxr37_0 : wc.cell? ad0 = some (.int .i64 a0_0) := pw_cell_below HB.out (HP0.out.1)
             have hxr37_1 : wc.cell? ⟨ad0.block, ad0.off + 1, none⟩ = some (.string a0_1) := pw_cell_below HB.out (HP0.out.2.1)
             have hxr37_2 : wc.cell? ⟨ad0.block, ad0.off + 2, none⟩ = some (.int .i64 a0_2) := pw_cell_below HB.out (HP0.out.2.2.1)
             have hxr37_3 : wc.cell? ⟨ad0.block, ad0.off + 3, none⟩ = some (.int .i64 a0_3) := pw_cell_below HB.out (HP0.out.2.2.2.1)
             have hxr37_4 : wc.cell? ⟨ad0.block, ad0.off + 4, none⟩ = some (.slice A0_4 l0_4.length c0_4) := pw_cell_below HB.out (HP0.out.2.2.2.2.1)
             have hxr37_5 : wc.cell? ⟨ad0.block, ad0.off + 5, none⟩ = some (.slice A0_5 l0_5.length c0_5) := pw_cell_below HB.out (HP0.out.2.2.2.2.2.1)
             have hxr37_6 : wc.cell? ⟨ad0.block, ad0.off + 6, none⟩ = some (.slice A0_6 l0_6.length c0_6) := pw_cell_below HB.out (HP0.out.2.2.2.2.2.2.1)
             have hxr37_7 : wc.cell? ⟨ad0.block, ad0.off + 7, none⟩ = some (.slice A0_7 l0_7.length c0_7) := pw_cell_below HB.out (HP0.out.2.2.2.2.2.2.2.1)
             go_wp2
             go_meet
             case rel => exact ⟨_, (false), (by first | rfl | (simp; done) | (simp [i64_w, i32_w]; done) | (simp [*]; done)), H', ⟨by have := HJ2.out; have := HJ11.out; have := HJ17.out; first | omega | exact Nat.le_refl _⟩, ⟨by repeat (first | (with_reducible first | exact HB.out | apply below_alloc | apply pw_below_drewN | apply below_drew1) | exact HB.out)⟩⟩
            ·rw [if_neg c36] at H
             have c36b0 : (a0_0 == 4) = false := beq_eq_false_iff_ne.mpr c36
             have c36b1 : (a0_0 != 4) = true := bne_iff_ne.mpr c36
             (first | rw [c36b0] | (simp only [i64_w, i32_w]; rw [c36b0]) | (rw [c36b1]; (try simp only [Bool.not_true, Bool.not_false])) | skip)
             replace H := Option.bind_eq_some_iff.mp H
             obtain ⟨t433, A380, H⟩ := H
             replace H : (impl_nodeForm.j3 kj17 true t431 (!t433) a0_1 a0_3 l0_4 l0_5) = some r := H
             have A38 := Aside0.mk A380
             clear A380
             have H' := Aside0.mk H
             clear H
             have hxr39_0 : wc.cell? ad0 = some (.int .i64 a0_0) := pw_cell_below HB.out (HP0.out.1)
             have hxr39_1 : wc.cell? ⟨ad0.block, ad0.off + 1, none⟩ = some (.string a0_1) := pw_cell_below HB.out (HP0.out.2.1)
             have hxr39_2 : wc.cell? ⟨ad0.block, ad0.off + 2, none⟩ = some (.int .i64 a0_2) := pw_cell_below HB.out (HP0.out.2.2.1)
             have hxr39_3 : wc.cell? ⟨ad0.block, ad0.off + 3, none⟩ = some (.int .i64 a0_3) := pw_cell_below HB.out (HP0.out.2.2.2.1)
             have hxr39_4 : wc.cell? ⟨ad0.block, ad0.off + 4, none⟩ = some (.slice A0_4 l0_4.length c0_4) := pw_cell_below HB.out (HP0.out.2.2.2.2.1)
             have hxr39_5 : wc.cell? ⟨ad0.block, ad0.off + 5, none⟩ = some (.slice A0_5 l0_5.length c0_5) := pw_cell_below HB.out (HP0.out.2.2.2.2.2.1)
             have hxr39_6 : wc.cell? ⟨ad0.block, ad0.off + 6, none⟩ = some (.slice A0_6 l0_6.length c0_6) := pw_cell_below HB.out (HP0.out.2.2.2.2.2.2.1)
             have hxr39_7 : wc.cell? ⟨ad0.block, ad0.off + 7, none⟩ = some (.slice A0_7 l0_7.length c0_7) := pw_cell_below HB.out (HP0.out.2.2.2.2.2.2.2.1)
             go_wp2_with (first | (go_at_call 96; (with_reducible refine (impl_IsName.calls kj17 a0_1 t433 _ A38.out).mono ?_); rintro e w' ⟨rfl, ⟨nd, rfl⟩⟩))
             go_meet
             case rel => exact ⟨_, (!t433), (by first | rfl | (simp; done) | (simp [i64_w, i32_w]; done) | (simp [*]; done)), H', ⟨by have := HJ2.out; have := HJ11.out; have := HJ17.out; first | omega | exact Nat.le_refl _⟩, ⟨by repeat (first | (with_reducible first | exact HB.out | apply below_alloc | apply pw_below_drewN | apply below_drew1) | exact HB.out)⟩⟩
           ·replace c35 := Bool.eq_false_iff.mpr c35
            subst c35
            have H1 : (impl_nodeForm.j3 kj17 false t431 false a0_1 a0_3 l0_4 l0_5) = some r := by rw [if_neg (show ¬ (false = true) by decide)] at H; exact H
            clear H
            have H := H1
            clear H1
            have H' := Aside0.mk H
            clear H
            go_wp2
            go_meet
            case rel => exact ⟨_, (false), (by first | rfl | (simp; done) | (simp [i64_w, i32_w]; done) | (simp [*]; done)), H', ⟨by have := HJ2.out; have := HJ11.out; have := HJ17.out; first | omega | exact Nat.le_refl _⟩, ⟨by repeat (first | (with_reducible first | exact HB.out | apply below_alloc | apply pw_below_drewN | apply below_drew1) | exact HB.out)⟩⟩
          case rest =>
           clear HC34
           (try clear c1); (try clear c2); (try clear p2); (try clear c3); (try clear c4); (try clear c5); (try clear c5b0); (try clear c5b1); (try clear c6); (try clear c6b0); (try clear c6b1); (try clear c10); (try clear c13); (try clear c13b0); (try clear c13b1); (try clear c14); (try clear c14b0); (try clear c15); (try clear c17); (try clear c19); (try clear c20); (try clear c20b0); (try clear c20b1); (try clear c21); (try clear c21b0); (try clear c21b1); (try clear c22); (try clear c22b0); (try clear c22b1); (try clear c25); (try clear c25b0); (try clear c25b1); (try clear c26); (try clear c26b0); (try clear c26b1); (try clear c30); (try clear c30b0); (try clear c30b1); (try clear c33); (try clear c35); (try clear c36); (try clear c36b0); (try clear c36b1); (try clear p2)
           obtain ⟨kq, x98_33, rfl, HA, HJ33, HB⟩ := hcut
           cases kq with
           | zero => exact absurd HA.out (by simp [impl_nodeForm.j3])
           | succ kj33 =>
            have H := HA.out
            clear HA
            simp only [impl_nodeForm.j3] at H
            by_cases c40 : x98_33 = true
            ·subst c40
             have H1 : (some false) = some r := by rw [if_pos rfl] at H; exact H
             clear H
             have H := H1
             clear H1
             obtain rfl := Option.some.inj H
             go_wp2
             go_ret
             exact ⟨by first | rfl | (simp [errW_none, errW_some] <;> rfl) | (simp [*, errW_none, errW_some] <;> rfl), by repeat (first | (with_reducible first | exact HB.out | apply below_alloc | apply pw_below_drewN | apply below_drew1) | exact HB.out)⟩
            ·replace c40 := Bool.eq_false_iff.mpr c40
             subst c40
             have H1 : (if t430 = true then (impl_nodeForm.j4 kj33 t431 a0_3 l0_4 l0_5) else (if a0_1.toList = ([] : List UInt8) then (impl_nodeForm.j4 kj33 t431 a0_3 l0_4 l0_5) else (some false))) = some r := by rw [if_neg (show ¬ (false = true) by decide)] at H; exact H
             clear H
             have H := H1
             clear H1
             by_cases c41 : t430 = true
             ·subst c41
              have H1 : (impl_nodeForm.j4 kj33 t431 a0_3 l0_4 l0_5) = some r := by rw [if_pos rfl] at H; exact H
              clear H
              have H := H1
              clear H1
              have H' := Aside0.mk H
              clear H
              go_wp2
              go_meet
              case rel => exact ⟨_, H', ⟨by have := HJ2.out; have := HJ11.out; have := HJ17.out; have := HJ33.out; first | omega | exact Nat.le_refl _⟩, ⟨by repeat (first | (with_reducible first | exact HB.out | apply below_alloc | apply pw_below_drewN | apply below_drew1) | exact HB.out)⟩⟩
             ·replace c41 := Bool.eq_false_iff.mpr c41
              subst c41
              have H1 : (if a0_1.toList = ([] : List UInt8) then (impl_nodeForm.j4 kj33 t431 a0_3 l0_4 l0_5) else (some false)) = some r := by rw [if_neg (show ¬ (false = true) by decide)] at H; exact H
              clear H
              have H := H1
              clear H1
              by_cases c42 : a0_1.toList = ([] : List UInt8)
              ·rw [if_pos c42] at H
               have c42b0 : (a0_1.toList == ([] : List UInt8)) = true := beq_iff_eq.mpr c42
               have c42b1 : (a0_1.toList != ([] : List UInt8)) = false := bne_eq_false_iff_eq.mpr c42
               clear c42
               have H' := Aside0.mk H
               clear H
               have hxr43_0 : wc.cell? ad0 = some (.int .i64 a0_0) := pw_cell_below HB.out (HP0.out.1)
               have hxr43_1 : wc.cell? ⟨ad0.block, ad0.off + 1, none⟩ = some (.string a0_1) := pw_cell_below HB.out (HP0.out.2.1)
               have hxr43_2 : wc.cell? ⟨ad0.block, ad0.off + 2, none⟩ = some (.int .i64 a0_2) := pw_cell_below HB.out (HP0.out.2.2.1)
               have hxr43_3 : wc.cell? ⟨ad0.block, ad0.off + 3, none⟩ = some (.int .i64 a0_3) := pw_cell_below HB.out (HP0.out.2.2.2.1)
               have hxr43_4 : wc.cell? ⟨ad0.block, ad0.off + 4, none⟩ = some (.slice A0_4 l0_4.length c0_4) := pw_cell_below HB.out (HP0.out.2.2.2.2.1)
               have hxr43_5 : wc.cell? ⟨ad0.block, ad0.off + 5, none⟩ = some (.slice A0_5 l0_5.length c0_5) := pw_cell_below HB.out (HP0.out.2.2.2.2.2.1)
               have hxr43_6 : wc.cell? ⟨ad0.block, ad0.off + 6, none⟩ = some (.slice A0_6 l0_6.length c0_6) := pw_cell_below HB.out (HP0.out.2.2.2.2.2.2.1)
               have hxr43_7 : wc.cell? ⟨ad0.block, ad0.off + 7, none⟩ = some (.slice A0_7 l0_7.length c0_7) := pw_cell_below HB.out (HP0.out.2.2.2.2.2.2.2.1)
               go_wp2
               go_meet
               case rel => exact ⟨_, H', ⟨by have := HJ2.out; have := HJ11.out; have := HJ17.out; have := HJ33.out; first | omega | exact Nat.le_refl _⟩, ⟨by repeat (first | (with_reducible first | exact HB.out | apply below_alloc | apply pw_below_drewN | apply below_drew1) | exact HB.out)⟩⟩
              ·rw [if_neg c42] at H
               have c42b0 : (a0_1.toList == ([] : List UInt8)) = false := beq_eq_false_iff_ne.mpr c42
               have c42b1 : (a0_1.toList != ([] : List UInt8)) = true := bne_iff_ne.mpr c42
               obtain rfl := Option.some.inj H
               have hxr44_0 : wc.cell? ad0 = some (.int .i64 a0_0) := pw_cell_below HB.out (HP0.out.1)
               have hxr44_1 : wc.cell? ⟨ad0.block, ad0.off + 1, none⟩ = some (.string a0_1) := pw_cell_below HB.out (HP0.out.2.1)
               have hxr44_2 : wc.cell? ⟨ad0.block, ad0.off + 2, none⟩ = some (.int .i64 a0_2) := pw_cell_below HB.out (HP0.out.2.2.1)
               have hxr44_3 : wc.cell? ⟨ad0.block, ad0.off + 3, none⟩ = some (.int .i64 a0_3) := pw_cell_below HB.out (HP0.out.2.2.2.1)
               have hxr44_4 : wc.cell? ⟨ad0.block, ad0.off + 4, none⟩ = some (.slice A0_4 l0_4.length c0_4) := pw_cell_below HB.out (HP0.out.2.2.2.2.1)
               have hxr44_5 : wc.cell? ⟨ad0.block, ad0.off + 5, none⟩ = some (.slice A0_5 l0_5.length c0_5) := pw_cell_below HB.out (HP0.out.2.2.2.2.2.1)
               have hxr44_6 : wc.cell? ⟨ad0.block, ad0.off + 6, none⟩ = some (.slice A0_6 l0_6.length c0_6) := pw_cell_below HB.out (HP0.out.2.2.2.2.2.2.1)
               have hxr44_7 : wc.cell? ⟨ad0.block, ad0.off + 7, none⟩ = some (.slice A0_7 l0_7.length c0_7) := pw_cell_below HB.out (HP0.out.2.2.2.2.2.2.2.1)
               go_wp2
               go_ret
               exact ⟨by first | rfl | (simp [errW_none, errW_some] <;> rfl) | (simp [*, errW_none, errW_some] <;> rfl), by repeat (first | (with_reducible first | exact HB.out | apply below_alloc | apply pw_below_drewN | apply below_drew1) | exact HB.out)⟩
    case rest =>
     clear HC11
     (try clear c1); (try clear c2); (try clear p2); (try clear c3); (try clear c4); (try clear c5); (try clear c5b0); (try clear c5b1); (try clear c6); (try clear c6b0); (try clear c6b1); (try clear c10); (try clear c13); (try clear c13b0); (try clear c13b1); (try clear c14); (try clear c14b0); (try clear c15); (try clear c17); (try clear c19); (try clear c20); (try clear c20b0); (try clear c20b1); (try clear c21); (try clear c21b0); (try clear c21b1); (try clear c22); (try clear c22b0); (try clear c22b1); (try clear c25); (try clear c25b0); (try clear c25b1); (try clear c26); (try clear c26b0); (try clear c26b1); (try clear c30); (try clear c30b0); (try clear c30b1); (try clear c33); (try clear c35); (try clear c36); (try clear c36b0); (try clear c36b1); (try clear c40); (try clear c41); (try clear c42); (try clear c42b0); (try clear c42b1); (try clear p2)
     obtain ⟨kq, HA, HJ10, HB⟩ := hcut
     cases kq with
     | zero => exact absurd HA.out (by simp [impl_nodeForm.j4])
     | succ kj10 =>
      have H := HA.out
      clear HA
      simp only [impl_nodeForm.j4] at H
      by_cases c45 : t431 = true
      ·subst c45
       have H1 : ((impl_IsValidType.f kj10 a0_3 l0_4 l0_5).bind fun t434 => (some t434)) = some r := by rw [if_pos rfl] at H; exact H
       clear H
       have H := H1
       clear H1
       replace H := Option.bind_eq_some_iff.mp H
       obtain ⟨t434, A460, H⟩ := H
       replace H : (some t434) = some r := H
       have A46 := Aside0.mk A460
       clear A460
       obtain rfl := Option.some.inj H
       have hxr47_0 : wc.cell? ad0 = some (.int .i64 a0_0) := pw_cell_below HB.out (HP0.out.1)
       have hxr47_1 : wc.cell? ⟨ad0.block, ad0.off + 1, none⟩ = some (.string a0_1) := pw_cell_below HB.out (HP0.out.2.1)
       have hxr47_2 : wc.cell? ⟨ad0.block, ad0.off + 2, none⟩ = some (.int .i64 a0_2) := pw_cell_below HB.out (HP0.out.2.2.1)
       have hxr47_3 : wc.cell? ⟨ad0.block, ad0.off + 3, none⟩ = some (.int .i64 a0_3) := pw_cell_below HB.out (HP0.out.2.2.2.1)
       have hxr47_4 : wc.cell? ⟨ad0.block, ad0.off + 4, none⟩ = some (.slice A0_4 l0_4.length c0_4) := pw_cell_below HB.out (HP0.out.2.2.2.2.1)
       have hxr47_5 : wc.cell? ⟨ad0.block, ad0.off + 5, none⟩ = some (.slice A0_5 l0_5.length c0_5) := pw_cell_below HB.out (HP0.out.2.2.2.2.2.1)
       have hxr47_6 : wc.cell? ⟨ad0.block, ad0.off + 6, none⟩ = some (.slice A0_6 l0_6.length c0_6) := pw_cell_below HB.out (HP0.out.2.2.2.2.2.2.1)
       have hxr47_7 : wc.cell? ⟨ad0.block, ad0.off + 7, none⟩ = some (.slice A0_7 l0_7.length c0_7) := pw_cell_below HB.out (HP0.out.2.2.2.2.2.2.2.1)
       go_wp2_with (first | ((with_reducible refine gate_callee (f := 143) rfl ?_); refine goesL_ (some 129) rfl rfl Try.func143 (by kernel_rfl) rfl #[.agg #[.int .i64 a0_3, .slice A0_4 l0_4.length c0_4, .slice A0_5 l0_5.length c0_5]] rfl (by (try simp only [List.map_toArray, List.map_cons, List.map_nil]); first | done | rfl | (simp only [List.length_drop, List.length_take]; rfl)) ?_; (with_reducible refine (impl_IsValidType.calls kj10 a0_3 _ _ l0_4 _ _ l0_5 t434 _ ?side1 ?side2 ?side3 ?side4 A46.out).mono ?_); (case side1 => repeat (first | exact (Kd.C_below HR0_4.out HB.out) | (with_reducible refine Kd.C_alloc ?_ _) | (with_reducible refine Kd.C_drewN ?_ _) | (with_reducible refine Kd.C_drew ?_))); (case side2 => exact HC0_4.out); (case side3 => repeat (first | exact (Kd.C_below HR0_5.out HB.out) | (with_reducible refine Kd.C_alloc ?_ _) | (with_reducible refine Kd.C_drewN ?_ _) | (with_reducible refine Kd.C_drew ?_))); (case side4 => exact HC0_5.out); rintro e w48 ⟨rfl, hb⟩; refine ⟨_, rfl, ?_⟩; have n0_ := Aside0.mk (below_step (by repeat (first | (with_reducible first | exact HB.out | apply below_alloc | apply pw_below_drewN | apply below_drew1) | exact HB.out)) hb); clear HB; have HB := n0_; clear n0_; (try clear hb); (try clear hb2); (try clear hk); (try clear hi)))
       go_ret
       exact ⟨by first | rfl | (simp [errW_none, errW_some] <;> rfl) | (simp [*, errW_none, errW_some] <;> rfl), by repeat (first | (with_reducible first | exact HB.out | apply below_alloc | apply pw_below_drewN | apply below_drew1) | exact HB.out)⟩
      ·replace c45 := Bool.eq_false_iff.mpr c45
       subst c45
       have H1 : ((impl_isZeroType.f a0_3 l0_4 l0_5).bind fun t435 => (some t435)) = some r := by rw [if_neg (show ¬ (false = true) by decide)] at H; exact H
       clear H
       have H := H1
       clear H1
       replace H := Option.bind_eq_some_iff.mp H
       obtain ⟨t435, A490, H⟩ := H
       replace H : (some t435) = some r := H
       have A49 := Aside0.mk A490
       clear A490
       obtain rfl := Option.some.inj H
       have hxr50_0 : wc.cell? ad0 = some (.int .i64 a0_0) := pw_cell_below HB.out (HP0.out.1)
       have hxr50_1 : wc.cell? ⟨ad0.block, ad0.off + 1, none⟩ = some (.string a0_1) := pw_cell_below HB.out (HP0.out.2.1)
       have hxr50_2 : wc.cell? ⟨ad0.block, ad0.off + 2, none⟩ = some (.int .i64 a0_2) := pw_cell_below HB.out (HP0.out.2.2.1)
       have hxr50_3 : wc.cell? ⟨ad0.block, ad0.off + 3, none⟩ = some (.int .i64 a0_3) := pw_cell_below HB.out (HP0.out.2.2.2.1)
       have hxr50_4 : wc.cell? ⟨ad0.block, ad0.off + 4, none⟩ = some (.slice A0_4 l0_4.length c0_4) := pw_cell_below HB.out (HP0.out.2.2.2.2.1)
       have hxr50_5 : wc.cell? ⟨ad0.block, ad0.off + 5, none⟩ = some (.slice A0_5 l0_5.length c0_5) := pw_cell_below HB.out (HP0.out.2.2.2.2.2.1)
       have hxr50_6 : wc.cell? ⟨ad0.block, ad0.off + 6, none⟩ = some (.slice A0_6 l0_6.length c0_6) := pw_cell_below HB.out (HP0.out.2.2.2.2.2.2.1)
       have hxr50_7 : wc.cell? ⟨ad0.block, ad0.off + 7, none⟩ = some (.slice A0_7 l0_7.length c0_7) := pw_cell_below HB.out (HP0.out.2.2.2.2.2.2.2.1)
       go_wp2_with (first | ((with_reducible refine gate_callee (f := 176) rfl ?_); refine goesL_ (some 134) rfl rfl Try.func176 (by kernel_rfl) rfl #[.agg #[.int .i64 a0_3, .slice A0_4 l0_4.length c0_4, .slice A0_5 l0_5.length c0_5]] rfl (by (try simp only [List.map_toArray, List.map_cons, List.map_nil]); first | done | rfl | (simp only [List.length_drop, List.length_take]; rfl)) ?_; (with_reducible refine (impl_isZeroType.calls a0_3 _ _ l0_4 _ _ l0_5 t435 _ ?side1 ?side2 ?side3 ?side4 A49.out).mono ?_); (case side1 => repeat (first | exact (Kd.C_below HR0_4.out HB.out) | (with_reducible refine Kd.C_alloc ?_ _) | (with_reducible refine Kd.C_drewN ?_ _) | (with_reducible refine Kd.C_drew ?_))); (case side2 => exact HC0_4.out); (case side3 => repeat (first | exact (Kd.C_below HR0_5.out HB.out) | (with_reducible refine Kd.C_alloc ?_ _) | (with_reducible refine Kd.C_drewN ?_ _) | (with_reducible refine Kd.C_drew ?_))); (case side4 => exact HC0_5.out); rintro e w51 ⟨rfl, hb⟩; refine ⟨_, rfl, ?_⟩; have n0_ := Aside0.mk (below_step (by repeat (first | (with_reducible first | exact HB.out | apply below_alloc | apply pw_below_drewN | apply below_drew1) | exact HB.out)) hb); clear HB; have HB := n0_; clear n0_; (try clear hb); (try clear hb2); (try clear hk); (try clear hi)))
       go_ret
       exact ⟨by first | rfl | (simp [errW_none, errW_some] <;> rfl) | (simp [*, errW_none, errW_some] <;> rfl), by repeat (first | (with_reducible first | exact HB.out | apply below_alloc | apply pw_below_drewN | apply below_drew1) | exact HB.out)⟩

end Go.Proofs.Ytppgalehaiagaaa.Px
