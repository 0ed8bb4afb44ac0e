/- Printed by a program of this session: what functions of the translation come to, each contract as it stands. No condition. -/
import Derived.Test.YtgplgphchdgedaaDoorZFormatTermSh
import Derived.Test.YtgplgphchdgedaaDoorZFormatTermPx0M
import Derived.Test.YtgplgphchdgedaaDoorZFormatTermPx21M
import Derived.Test.YtgplgphchdgedaaDoorZFormatTermWWords
import Derived.Test.YtgplgphchdgedaaDoorZFormatTermWLastM
import Derived.Shelf.Strings.BuilderK
import Derived.Tactics2
import Derived.BigCall
import Derived.Test.YtgplgphchdgedaaDoorZFormatTermPx10M
import Derived.Lib.ItoaLen
section
namespace Go.Proofs.YtgplgphchdgedaaDoor.Px
open Go.RowKit Go.Proofs.YtgplgphchdgedaaDoor.Ext Go.Proofs.YtgplgphchdgedaaDoorW.PrintWords Go.Proofs.YtgplgphchdgedaaDoorW.PrintLast Go.Proofs.YtgplgphchdgedaaDoorW.PrintMore
attribute [local go_sem] max2_int min2_int max_two min_two max_three min_three max_four min_four   -- for this text's walks alone
set_option linter.unusedVariables false
set_option linter.unusedSimpArgs false

/-! ### impl_typeText: function 48 -/
mutual
def impl_typeText.l0 : Nat → List ByteArray → List ByteArray → Int → Int → List (S33) → Option (ByteArray)
 | 0, _, _, _, _, _ => none
 | k + 1, x3, x46, x47, x48, x702 => if x48 < x47 then (if 0 ≤ x48 then (if x48 < (x46.length : Int) then (if (rdOf ByteArray.empty x46 x48).size + 1 ≤ 9223372036854775807 then (if x48 < (x702.length : Int) then ((impl_typeText.f k ((rd_T33 x702 x48).f0) ((rd_T33 x702 x48).f1) ((rd_T33 x702 x48).f2)).bind fun t379 => (if (rdOf ByteArray.empty x46 x48).size + 1 + t379.size ≤ 9223372036854775807 then (if x3.length < 8796093022208 then (impl_typeText.l0 k (x3 ++ [((rdOf ByteArray.empty x46 x48) ++ (⟨#[58]⟩ : ByteArray)) ++ t379]) x46 x47 (wrap64 (x48 + 1)) x702) else (none)) else (none))) else (none)) else (none)) else (none)) else (none)) else ((strings_Join.f x3 (⟨#[44]⟩ : ByteArray)).bind fun t383 => (if 1 + t383.size ≤ 9223372036854775807 then (if 1 + t383.size + 1 ≤ 9223372036854775807 then (some (((⟨#[123]⟩ : ByteArray) ++ t383) ++ (⟨#[125]⟩ : ByteArray))) else (none)) else (none)))
def impl_typeText.f : Nat → Int → List ByteArray → List (S33) → Option (ByteArray)
 | 0, _, _, _ => none
 | k + 1, a0_0, l0_1, l0_2 => if a0_0 = 1 then (some (⟨#[73]⟩ : ByteArray)) else (if a0_0 = 2 then (some (⟨#[66]⟩ : ByteArray)) else (if a0_0 = 4 then (if 0 < (l0_2.length : Int) then ((impl_typeText.f k ((rd_T33 l0_2 0).f0) ((rd_T33 l0_2 0).f1) ((rd_T33 l0_2 0).f2)).bind fun t369 => (if 1 + t369.size ≤ 9223372036854775807 then (if 1 + t369.size + 1 ≤ 9223372036854775807 then (some (((⟨#[91]⟩ : ByteArray) ++ t369) ++ (⟨#[93]⟩ : ByteArray))) else (none)) else (none))) else (none)) else (if a0_0 = 5 then (if 0 < (l0_2.length : Int) then ((impl_typeText.f k ((rd_T33 l0_2 0).f0) ((rd_T33 l0_2 0).f1) ((rd_T33 l0_2 0).f2)).bind fun t371 => (if 1 + t371.size ≤ 9223372036854775807 then (if 1 + t371.size + 1 ≤ 9223372036854775807 then (if 1 < (l0_2.length : Int) then ((impl_typeText.f k ((rd_T33 l0_2 1).f0) ((rd_T33 l0_2 1).f1) ((rd_T33 l0_2 1).f2)).bind fun t373 => (if 1 + t371.size + 1 + t373.size ≤ 9223372036854775807 then (if 1 + t371.size + 1 + t373.size + 1 ≤ 9223372036854775807 then (some (((((⟨#[40]⟩ : ByteArray) ++ t371) ++ (⟨#[62]⟩ : ByteArray)) ++ t373) ++ (⟨#[41]⟩ : ByteArray))) else (none)) else (none))) else (none)) else (none)) else (none))) else (none)) else (impl_typeText.l0 k (([] : List ByteArray)) l0_1 (l0_1.length : Int) 0 l0_2))))
end
def impl_typeText.T9 : Bool × List (List Nat × List Nat) := (true, [([], []), ([0], [0]), ([1], [1]), ([2], [2]), ([3], [3]), ([4], [4]), ([5], [5]), ([6], [6]), ([], []), ([8], [8]), ([9], [9]), ([10], [10]), ([11], [11]), ([12, 5], [12]), ([7, 13], [7, 13]), ([14], [14]), ([15, 13, 0, 1, 2, 3, 4, 5, 6, 7, 8, 9, 10, 11, 12, 13, 14, 15], [15])])
def impl_typeText.B9 : List Nat := [0, 1, 3, 7, 15, 31, 63, 127, 0, 256, 768, 1792, 3840, 7999, 16383, 32767, 65535]
theorem impl_typeText.tab9 : rtab .any (opsOf Tryd.f48 9) = impl_typeText.T9 := by kernel_rfl
theorem impl_typeText.bits9 : waitsOk impl_typeText.T9.2 impl_typeText.B9 = true := by kernel_rfl
set_option maxHeartbeats 8000000 in
set_option maxRecDepth 100000 in
theorem impl_typeText.calls (k : Nat) : ∀ (ad0 : Addr) (a0_0 : Int) (A0_1 : Option Addr) (c0_1 : Nat) (l0_1 : List ByteArray) (A0_2 : Option Addr) (c0_2 : Nat) (l0_2 : List (S33)) (r : ByteArray) (w : World) (hp0 : Cells w ad0 [.int .i64 a0_0, .slice A0_1 l0_1.length c0_1, .slice A0_2 l0_2.length c0_2]) (hr0_1 : Kd.C Kd.string w A0_1 l0_1.length l0_1) (hc0_1 : l0_1.length ≤ c0_1) (hr0_2 : Kd.C k33 w A0_2 l0_2.length l0_2) (hc0_2 : l0_2.length ≤ c0_2) (h : impl_typeText.f k a0_0 l0_1 l0_2 = some r),
  Calls Tryd.prog 48 #[.pointer (some ad0)] w fun e w' => e = .returned (.string r) ∧ Below w.heap.size w w' := by
 induction k using Nat.strongRecOn with
 | _ k ih =>
 intro ad0 a0_0 A0_1 c0_1 l0_1 A0_2 c0_2 l0_2 r w hp0 hr0_1 hc0_1 hr0_2 hc0_2 h
 cases k with
 | zero => exact absurd h (by simp [impl_typeText.f])
 | succ k =>
 simp only [impl_typeText.f] at h
 have HP0 := am hp0
 clear hp0
 have HR0_1 := am hr0_1
 have HC0_1 := am hc0_1
 clear hr0_1 hc0_1
 have HR0_2 := am hr0_2
 have HC0_2 := am hc0_2
 clear hr0_2 hc0_2
 have HB := am (Below.refl w.heap.size w)
 have H : (if a0_0 = 1 then (some (⟨#[73]⟩ : ByteArray)) else (if a0_0 = 2 then (some (⟨#[66]⟩ : ByteArray)) else (if a0_0 = 4 then (if 0 < (l0_2.length : Int) then ((impl_typeText.f k ((rd_T33 l0_2 0).f0) ((rd_T33 l0_2 0).f1) ((rd_T33 l0_2 0).f2)).bind fun t369 => (if 1 + t369.size ≤ 9223372036854775807 then (if 1 + t369.size + 1 ≤ 9223372036854775807 then (some (((⟨#[91]⟩ : ByteArray) ++ t369) ++ (⟨#[93]⟩ : ByteArray))) else (none)) else (none))) else (none)) else (if a0_0 = 5 then (if 0 < (l0_2.length : Int) then ((impl_typeText.f k ((rd_T33 l0_2 0).f0) ((rd_T33 l0_2 0).f1) ((rd_T33 l0_2 0).f2)).bind fun t371 => (if 1 + t371.size ≤ 9223372036854775807 then (if 1 + t371.size + 1 ≤ 9223372036854775807 then (if 1 < (l0_2.length : Int) then ((impl_typeText.f k ((rd_T33 l0_2 1).f0) ((rd_T33 l0_2 1).f1) ((rd_T33 l0_2 1).f2)).bind fun t373 => (if 1 + t371.size + 1 + t373.size ≤ 9223372036854775807 then (if 1 + t371.size + 1 + t373.size + 1 ≤ 9223372036854775807 then (some (((((⟨#[40]⟩ : ByteArray) ++ t371) ++ (⟨#[62]⟩ : ByteArray)) ++ t373) ++ (⟨#[41]⟩ : ByteArray))) else (none)) else (none))) else (none)) else (none)) else (none))) else (none)) else (impl_typeText.l0 k (([] : List ByteArray)) l0_1 (l0_1.length : Int) 0 l0_2))))) = some r := h
 clear h
 by_cases c2 : a0_0 = 1
 ·rw [if_pos c2] at H
  have c2b0 : (a0_0 == 1) = true := beq_iff_eq.mpr c2
  have c2b1 : (a0_0 != 1) = false := bne_eq_false_iff_eq.mpr c2
  clear c2
  obtain rfl := Option.some.inj H
  have hxr3_0 : w.cell? ad0 = some (.int .i64 a0_0) := HP0.out.1
  have hxr3_1 : w.cell? ⟨ad0.block, ad0.off + 1, none⟩ = some (.slice A0_1 l0_1.length c0_1) := HP0.out.2.1
  have hxr3_2 : w.cell? ⟨ad0.block, ad0.off + 2, none⟩ = some (.slice A0_2 l0_2.length c0_2) := HP0.out.2.2.1
  go_enter Tryd.func48, Tryd.ntmps48
  go_wp2
  go_ret
  exact ⟨rfw, blw⟩
 rw [if_neg c2] at H
 have c2b0 : (a0_0 == 1) = false := beq_eq_false_iff_ne.mpr c2
 have c2b1 : (a0_0 != 1) = true := bne_iff_ne.mpr c2
 by_cases c4 : a0_0 = 2
 ·rw [if_pos c4] at H
  have c4b0 : (a0_0 == 2) = true := beq_iff_eq.mpr c4
  have c4b1 : (a0_0 != 2) = false := bne_eq_false_iff_eq.mpr c4
  clear c4
  obtain rfl := Option.some.inj H
  have hxr5_0 : w.cell? ad0 = some (.int .i64 a0_0) := HP0.out.1
  have hxr5_1 : w.cell? ⟨ad0.block, ad0.off + 1, none⟩ = some (.slice A0_1 l0_1.length c0_1) := HP0.out.2.1
  have hxr5_2 : w.cell? ⟨ad0.block, ad0.off + 2, none⟩ = some (.slice A0_2 l0_2.length c0_2) := HP0.out.2.2.1
  go_enter Tryd.func48, Tryd.ntmps48
  go_wp2
  go_ret
  exact ⟨rfw, blw⟩
 rw [if_neg c4] at H
 have c4b0 : (a0_0 == 2) = false := beq_eq_false_iff_ne.mpr c4
 have c4b1 : (a0_0 != 2) = true := bne_iff_ne.mpr c4
 by_cases c6 : a0_0 = 4
 ·rw [if_pos c6] at H
  have c6b0 : (a0_0 == 4) = true := beq_iff_eq.mpr c6
  have c6b1 : (a0_0 != 4) = false := bne_eq_false_iff_eq.mpr c6
  clear c6
  by_cases c7 : 0 < (l0_2.length : Int)
  case neg =>
   rw [if_neg c7] at H
   exact absurd H (by simp)
  rw [if_pos c7] at H
  have c7b0 : decide (0 < (l0_2.length : Int)) = true := decide_eq_true c7
  have c7b1 : decide (0 < l0_2.length) = true := decide_eq_true (by omega)
  clear c7
  replace H := Option.bind_eq_some_iff.mp H
  obtain ⟨t369, A80, H⟩ := H
  replace H : (if 1 + t369.size ≤ 9223372036854775807 then (if 1 + t369.size + 1 ≤ 9223372036854775807 then (some (((⟨#[91]⟩ : ByteArray) ++ t369) ++ (⟨#[93]⟩ : ByteArray))) else (none)) else (none)) = some r := H
  have A8 := am A80
  clear A80
  by_cases c9 : 1 + t369.size ≤ 9223372036854775807
  case neg =>
   rw [if_neg c9] at H
   exact absurd H (by simp)
  rw [if_pos c9] at H
  have c9b0 := eq_true c9
  have c9b1 : decide (1 + t369.size ≤ 9223372036854775807) = true := decide_eq_true c9
  try have c9b2 : (9223372036854775807 < 1 + t369.size) = False := eq_false (Nat.not_lt.2 c9)
  by_cases c10 : 1 + t369.size + 1 ≤ 9223372036854775807
  case neg =>
   rw [if_neg c10] at H
   exact absurd H (by simp)
  rw [if_pos c10] at H
  have c10b0 := eq_true c10
  have c10b1 : decide (1 + t369.size + 1 ≤ 9223372036854775807) = true := decide_eq_true c10
  try have c10b2 : (9223372036854775807 < 1 + t369.size + 1) = False := eq_false (Nat.not_lt.2 c10)
  obtain rfl := Option.some.inj H
  have hxr11_0 : w.cell? ad0 = some (.int .i64 a0_0) := HP0.out.1
  have hxr11_1 : w.cell? ⟨ad0.block, ad0.off + 1, none⟩ = some (.slice A0_1 l0_1.length c0_1) := HP0.out.2.1
  have hxr11_2 : w.cell? ⟨ad0.block, ad0.off + 2, none⟩ = some (.slice A0_2 l0_2.length c0_2) := HP0.out.2.2.1
  have p368 : 0 ≤ (0 : Int) := (by omega)
  have q368 : 0 < (l0_2.length : Int) := of_decide_eq_true asw
  obtain ⟨ad368, A368_1, c368_1, A368_2, c368_2, e368, hx368_0, hx368_1, hx368_2, hl368_1, hi368_1, hl368_2, hi368_2⟩ := at_T33 HR0_2.out 0 p368 q368
  cases e368
  have HP368 := am (show Cells w ad368 [.int .i64 ((rd_T33 l0_2 0).f0), .slice A368_1 ((rd_T33 l0_2 0).f1).length c368_1, .slice A368_2 ((rd_T33 l0_2 0).f2).length c368_2] from ⟨hx368_0, hx368_1, hx368_2, trivial⟩)
  have qi368 : (0 < l0_2.length) = True := eq_true (by omega)
  (try rw [show ((0 : Int)).toNat = 0 from rfl] at hx368_0)
  (try rw [show 0 * 3 = 0 from rfl] at hx368_0)
  (try rw [Addr.add_zero'] at hx368_0)
  (try rw [show ((0 : Int)).toNat = 0 from rfl] at hx368_1)
  (try rw [show 0 * 3 = 0 from rfl] at hx368_1)
  (try rw [Addr.add_zero'] at hx368_1)
  (try rw [show ((0 : Int)).toNat = 0 from rfl] at hx368_2)
  (try rw [show 0 * 3 = 0 from rfl] at hx368_2)
  (try rw [Addr.add_zero'] at hx368_2)
  have HR368_1 := am hi368_1
  have HC368_1 := am hl368_1
  clear hi368_1 hl368_1
  have HR368_2 := am hi368_2
  have HC368_2 := am hl368_2
  clear hi368_2 hl368_2
  replace p368 := eq_true p368
  replace q368 := eq_true q368
  go_enter Tryd.func48, Tryd.ntmps48
  go_wp2_with (first | ((with_reducible refine gate_callee (f := 48) rfl ?_); refine goesL_ (some 21) rfl rfl Tryd.func48 kr rfl #[.pointer (some ad368)] rfl mpw ?_; (with_reducible refine (ih k (by omega) ad368 ((rd_T33 l0_2 0).f0) A368_1 c368_1 ((rd_T33 l0_2 0).f1) A368_2 c368_2 ((rd_T33 l0_2 0).f2) t369 _ ?side1 ?side2 ?side3 ?side4 ?side5 A8.out).mono ?_); (case side1 => have X_ := HP368; exact clx); (case side2 => have X_ := HR368_1; exact cbx); (case side3 => exact HC368_1.out); (case side4 => have X_ := HR368_2; exact cbx); (case side5 => exact HC368_2.out); rintro e w12 ⟨rfl, hb⟩; refine ⟨_, rfl, ?_⟩; have n0_ := am (below_step blw hb); clear HB; revert n0_; intro HB; (try clear hb); (try clear hb2); (try clear hk); (try clear hi)))
  go_ret
  exact ⟨rfw, blw⟩
 rw [if_neg c6] at H
 have c6b0 : (a0_0 == 4) = false := beq_eq_false_iff_ne.mpr c6
 have c6b1 : (a0_0 != 4) = true := bne_iff_ne.mpr c6
 by_cases c13 : a0_0 = 5
 case neg =>
  rw [if_neg c13] at H
  have c13b0 : (a0_0 == 5) = false := beq_eq_false_iff_ne.mpr c13
  have c13b1 : (a0_0 != 5) = true := bne_iff_ne.mpr c13
  obtain ⟨y374, hy374⟩ : ∃ y_ : List ByteArray, y_ = (([] : List ByteArray)) := ⟨_, rfl⟩
  replace H : (impl_typeText.l0 k y374 l0_1 (l0_1.length : Int) 0 l0_2) = some r := by first | (rw [hy374]; with_reducible exact H) | (have H2_ := (Option.bind_some _ _).symm.trans H; rw [hy374]; with_reducible exact H2_) | (have H2_ := (Option.bind_some _ _).symm.trans H; with_reducible exact H2_) | with_reducible exact H | (rw [hy374]; exact H) | exact H
  have Ny374 := am hy374
  clear hy374
  have H' := am H
  clear H
  have hxr26_0 : w.cell? ad0 = some (.int .i64 a0_0) := HP0.out.1
  have hxr26_1 : w.cell? ⟨ad0.block, ad0.off + 1, none⟩ = some (.slice A0_1 l0_1.length c0_1) := HP0.out.2.1
  have hxr26_2 : w.cell? ⟨ad0.block, ad0.off + 2, none⟩ = some (.slice A0_2 l0_2.length c0_2) := HP0.out.2.2.1
  go_enter Tryd.func48, Tryd.ntmps48
  go_wp2_with (first | ((with_reducible refine gate_dst (N := 42) rfl ?_); refine Kd.R_lit Kd.string _ 9 ?hg (N := 42) ?hd (xs := ([] : List ByteArray)) (inner := []) (ok := fun _ => True) (okp := fun _ => True) ?hr ?hp (fun _ hk => hk) trivial (Below.refl _ _) (Nat.le_refl _) (by simp) ?_; (case hd => rfl); (case hg => rfl); (case hr => exact hrw); (case hp => exact (Reps.none _ _)); intro v375 w27 ho28 hb hg_ hnew_; clear hg_ hnew_; (first | rw [← Ny374.out] at ho28 | (simp only [Int.reduceToNat] at ho28; rw [← Ny374.out] at ho28)); have n0_ := am (Kd.R_lower ho28 (below_size blw)); have n1_ := am (below_step blw hb); clear HB; revert n0_ n1_; intro HO376 HB; clear hb ho28; have hxr29_0 : w27.cell? ad0 = some (.int .i64 a0_0) := pw_cell_below HB.out (HP0.out.1); have hxr29_1 : w27.cell? ⟨ad0.block, ad0.off + 1, none⟩ = some (.slice A0_1 l0_1.length c0_1) := pw_cell_below HB.out (HP0.out.2.1); have hxr29_2 : w27.cell? ⟨ad0.block, ad0.off + 2, none⟩ = some (.slice A0_2 l0_2.length c0_2) := pw_cell_below HB.out (HP0.out.2.2.1)))
  go_loopg [3, 48] k (fun kq v3 v48 w' => ∃ (x3_1 : List ByteArray) (x48_1 : Int), v48 = .int .i64 x48_1 ∧ Aside0 (impl_typeText.l0 kq x3_1 l0_1 (l0_1.length : Int) x48_1 l0_2 = some r) ∧ Aside0 (kq ≤ k) ∧ Aside0 (Kd.R Kd.string 9 w' w.heap.size (fun _ => True) v3 x3_1) ∧ Aside0 (Below w.heap.size w w'))
  case atStart => exact ⟨(y374), (0), rfs, H', ⟨Nat.le_refl _⟩, ⟨by (with_reducible repeat (first | apply Kd.R_alloc | apply Kd.R_drewN | apply Kd.R_drew)); exact HO376.out⟩, ⟨blw⟩⟩
  case round =>
   clear H'
   (try clear c1); (try clear c2); (try clear c2b0); (try clear c2b1); (try clear p2); (try clear c3); (try clear p3); (try clear q3); (try clear hx3); (try clear qi3); (try clear c4); (try clear c4b0); (try clear c4b1); (try clear c6); (try clear c6b0); (try clear c6b1); (try clear c7); (try clear c7b0); (try clear c7b1); (try clear c9); (try clear c9b0); (try clear c9b1); (try clear c9b2); (try clear c10); (try clear c10b0); (try clear c10b1); (try clear c10b2); (try clear c13); (try clear c13b0); (try clear c13b1); (try clear c14); (try clear c14b0); (try clear c14b1); (try clear c16); (try clear c16b0); (try clear c16b1); (try clear c16b2); (try clear c17); (try clear c17b0); (try clear c17b1); (try clear c17b2); (try clear c18); (try clear c18b0); (try clear c18b1); (try clear c20); (try clear c20b0); (try clear c20b1); (try clear c20b2); (try clear c21); (try clear c21b0); (try clear c21b1); (try clear c21b2); (try clear hx368_0 hx368_1 hx368_2); (try clear hx370_0 hx370_1 hx370_2); (try clear hx372_0 hx372_1 hx372_2); (try clear p368); (try clear p370); (try clear p372); (try clear q368); (try clear q370); (try clear q372)
   obtain ⟨x3_1, x48_1, rfl, HA, HK1, HO_3, HB⟩ := hrel
   cases gk with
   | zero => exact absurd HA.out (by simp [impl_typeText.l0])
   | succ k1 =>
    have H := HA.out
    clear HA
    simp only [impl_typeText.l0] at H
    by_cases c30 : x48_1 < (l0_1.length : Int)
    case neg =>
     rw [if_neg c30] at H
     have c30b0 : decide (x48_1 < (l0_1.length : Int)) = false := decide_eq_false c30
     clear c30
     replace H := Option.bind_eq_some_iff.mp H
     obtain ⟨t383, A410, H⟩ := H
     replace H : (if 1 + t383.size ≤ 9223372036854775807 then (if 1 + t383.size + 1 ≤ 9223372036854775807 then (some (((⟨#[123]⟩ : ByteArray) ++ t383) ++ (⟨#[125]⟩ : ByteArray))) else (none)) else (none)) = some r := H
     have A41 := am A410
     clear A410
     by_cases c42 : 1 + t383.size ≤ 9223372036854775807
     case neg =>
      rw [if_neg c42] at H
      exact absurd H (by simp)
     rw [if_pos c42] at H
     have c42b0 := eq_true c42
     have c42b1 : decide (1 + t383.size ≤ 9223372036854775807) = true := decide_eq_true c42
     try have c42b2 : (9223372036854775807 < 1 + t383.size) = False := eq_false (Nat.not_lt.2 c42)
     by_cases c43 : 1 + t383.size + 1 ≤ 9223372036854775807
     case neg =>
      rw [if_neg c43] at H
      exact absurd H (by simp)
     rw [if_pos c43] at H
     have c43b0 := eq_true c43
     have c43b1 : decide (1 + t383.size + 1 ≤ 9223372036854775807) = true := decide_eq_true c43
     try have c43b2 : (9223372036854775807 < 1 + t383.size + 1) = False := eq_false (Nat.not_lt.2 c43)
     obtain rfl := Option.some.inj H
     obtain ⟨Ao44, co44, eo44⟩ := Kd.R_slice HO_3.out
     subst eo44
     go_wp2_with (first | ((with_reducible refine gate_callee (f := 61) rfl ?_); refine goesL_ (some 68) rfl rfl Tryd.func61 kr rfl #[.slice Ao44 x3_1.length co44, .string (⟨#[44]⟩ : ByteArray)] rfl mpw ?_; (with_reducible refine (strings_Join.calls _ _ x3_1 (⟨#[44]⟩ : ByteArray) t383 _ ?side1 ?side2 A41.out).mono ?_); (case side1 => repeat (first | exact (Kd.R_reads' HO_3.out).2.2 | (with_reducible refine Kd.C_alloc ?_ _) | (with_reducible refine Kd.C_drewN ?_ _) | (with_reducible refine Kd.C_drew ?_))); (case side2 => exact (Kd.R_reads' HO_3.out).2.1); rintro e w45 ⟨rfl, hb⟩; refine ⟨_, rfl, ?_⟩; have n0_ := am (Kd.R_below (by (with_reducible repeat (first | apply Kd.R_alloc | apply Kd.R_drewN | apply Kd.R_drew)); exact HO_3.out) hb); have n1_ := am (below_step blw hb); clear HO_3; clear HB; revert n0_ n1_; intro HO_3 HB; (try clear hb); (try clear hb2); (try clear hk); (try clear hi)))
     go_ret
     exact ⟨rfw, blw⟩
    rw [if_pos c30] at H
    have c30b0 : decide (x48_1 < (l0_1.length : Int)) = true := decide_eq_true c30
    clear c30
    by_cases c31 : 0 ≤ x48_1
    case neg =>
     rw [if_neg c31] at H
     exact absurd H (by simp)
    rw [if_pos c31] at H
    have c31b0 : decide (0 ≤ x48_1) = true := decide_eq_true c31
    clear c31
    by_cases c32 : x48_1 < (l0_1.length : Int)
    case neg =>
     rw [if_neg c32] at H
     exact absurd H (by simp)
    rw [if_pos c32] at H
    have c32b0 : decide (x48_1 < (l0_1.length : Int)) = true := decide_eq_true c32
    clear c32
    by_cases c33 : (rdOf ByteArray.empty l0_1 x48_1).size + 1 ≤ 9223372036854775807
    case neg =>
     rw [if_neg c33] at H
     exact absurd H (by simp)
    rw [if_pos c33] at H
    have c33b0 := eq_true c33
    have c33b1 : decide ((rdOf ByteArray.empty l0_1 x48_1).size + 1 ≤ 9223372036854775807) = true := decide_eq_true c33
    try have c33b2 : (9223372036854775807 < (rdOf ByteArray.empty l0_1 x48_1).size + 1) = False := eq_false (Nat.not_lt.2 c33)
    by_cases c34 : x48_1 < (l0_2.length : Int)
    case neg =>
     rw [if_neg c34] at H
     exact absurd H (by simp)
    rw [if_pos c34] at H
    have c34b0 : decide (x48_1 < (l0_2.length : Int)) = true := decide_eq_true c34
    clear c34
    replace H := Option.bind_eq_some_iff.mp H
    obtain ⟨t379, A350, H⟩ := H
    replace H : (if (rdOf ByteArray.empty l0_1 x48_1).size + 1 + t379.size ≤ 9223372036854775807 then (if x3_1.length < 8796093022208 then (impl_typeText.l0 k1 (x3_1 ++ [((rdOf ByteArray.empty l0_1 x48_1) ++ (⟨#[58]⟩ : ByteArray)) ++ t379]) l0_1 (l0_1.length : Int) (wrap64 (x48_1 + 1)) l0_2) else (none)) else (none)) = some r := H
    have A35 := am A350
    clear A350
    by_cases c36 : (rdOf ByteArray.empty l0_1 x48_1).size + 1 + t379.size ≤ 9223372036854775807
    case neg =>
     rw [if_neg c36] at H
     exact absurd H (by simp)
    rw [if_pos c36] at H
    have c36b0 := eq_true c36
    have c36b1 : decide ((rdOf ByteArray.empty l0_1 x48_1).size + 1 + t379.size ≤ 9223372036854775807) = true := decide_eq_true c36
    try have c36b2 : (9223372036854775807 < (rdOf ByteArray.empty l0_1 x48_1).size + 1 + t379.size) = False := eq_false (Nat.not_lt.2 c36)
    by_cases c37 : x3_1.length < 8796093022208
    case neg =>
     rw [if_neg c37] at H
     exact absurd H (by simp)
    rw [if_pos c37] at H
    have LMc37 := am c37
    clear c37
    obtain ⟨y380, hy380⟩ : ∃ y_ : List ByteArray, y_ = (x3_1 ++ [((rdOf ByteArray.empty l0_1 x48_1) ++ (⟨#[58]⟩ : ByteArray)) ++ t379]) := ⟨_, rfl⟩
    replace H : (impl_typeText.l0 k1 y380 l0_1 (l0_1.length : Int) (wrap64 (x48_1 + 1)) l0_2) = some r := by first | (rw [hy380]; with_reducible exact H) | (have H2_ := (Option.bind_some _ _).symm.trans H; rw [hy380]; with_reducible exact H2_) | (have H2_ := (Option.bind_some _ _).symm.trans H; with_reducible exact H2_) | with_reducible exact H | (rw [hy380]; exact H) | exact H
    have Ny380 := am hy380
    clear hy380
    have H' := am H
    clear H
    have p377 : 0 ≤ (x48_1 : Int) := of_decide_eq_true asw
    have q377 : x48_1 < (l0_1.length : Int) := of_decide_eq_true asw
    obtain ⟨ad377, e377, hx377_0⟩ := Kd.at_string HR0_1.out x48_1 p377 q377
    cases e377
    replace hx377_0 := upw HB.out hx377_0
    replace p377 := eq_true p377
    replace q377 := eq_true q377
    have hxr38_0 : wr.cell? ad0 = some (.int .i64 a0_0) := pw_cell_below HB.out (HP0.out.1)
    have hxr38_1 : wr.cell? ⟨ad0.block, ad0.off + 1, none⟩ = some (.slice (some ad377) l0_1.length c0_1) := pw_cell_below HB.out (HP0.out.2.1)
    have hxr38_2 : wr.cell? ⟨ad0.block, ad0.off + 2, none⟩ = some (.slice A0_2 l0_2.length c0_2) := pw_cell_below HB.out (HP0.out.2.2.1)
    have p378 : 0 ≤ (x48_1 : Int) := of_decide_eq_true asw
    have q378 : x48_1 < (l0_2.length : Int) := of_decide_eq_true asw
    obtain ⟨ad378, A378_1, c378_1, A378_2, c378_2, e378, hx378_0, hx378_1, hx378_2, hl378_1, hi378_1, hl378_2, hi378_2⟩ := at_T33 HR0_2.out x48_1 p378 q378
    cases e378
    have HP378 := am (show Cells w (ad378.add (x48_1.toNat * 3)) [.int .i64 ((rd_T33 l0_2 x48_1).f0), .slice A378_1 ((rd_T33 l0_2 x48_1).f1).length c378_1, .slice A378_2 ((rd_T33 l0_2 x48_1).f2).length c378_2] from ⟨hx378_0, hx378_1, hx378_2, trivial⟩)
    replace hx378_0 := upw HB.out hx378_0
    replace hx378_1 := upw HB.out hx378_1
    replace hx378_2 := upw HB.out hx378_2
    have HR378_1 := am hi378_1
    have HC378_1 := am hl378_1
    clear hi378_1 hl378_1
    have HR378_2 := am hi378_2
    have HC378_2 := am hl378_2
    clear hi378_2 hl378_2
    replace p378 := eq_true p378
    replace q378 := eq_true q378
    go_wp2_with (first | ((with_reducible refine gate_callee (f := 48) rfl ?_); refine goesL_ (some 62) rfl rfl Tryd.func48 kr rfl #[.pointer (some (ad378.add (x48_1.toNat * 3)))] rfl mpw ?_; (with_reducible refine (ih k1 (by have := HK1.out; omega) (ad378.add (x48_1.toNat * 3)) ((rd_T33 l0_2 x48_1).f0) A378_1 c378_1 ((rd_T33 l0_2 x48_1).f1) A378_2 c378_2 ((rd_T33 l0_2 x48_1).f2) t379 _ ?side1 ?side2 ?side3 ?side4 ?side5 A35.out).mono ?_); (case side1 => repeat (first | exact (Cells_below HP378.out HB.out) | (with_reducible refine Cells_alloc ?_ _) | (with_reducible refine Cells_drewN ?_ _) | (with_reducible refine Cells_drew ?_))); (case side2 => have X_ := HR378_1; exact cbl); (case side3 => exact HC378_1.out); (case side4 => have X_ := HR378_2; exact cbl); (case side5 => exact HC378_2.out); rintro e w39 ⟨rfl, hb⟩; refine ⟨_, rfl, ?_⟩; have n0_ := am (Kd.R_below (by (with_reducible repeat (first | apply Kd.R_alloc | apply Kd.R_drewN | apply Kd.R_drew)); exact HO_3.out) hb); have n1_ := am (below_step blw hb); clear HO_3; clear HB; revert n0_ n1_; intro HO_3 HB; (try clear hb); (try clear hb2); (try clear hk); (try clear hi)) | ((with_reducible refine gate_builtin (b := .append) (xs := #[.tmp 53, .tmp 64]) rfl ?_); at_builtin; refine Kd.R_append Kd.string (w0 := w) w.heap.size rfl (.tmp 53) (.tmp 64) 22 9 (.string ⟨#[]⟩) 16 rfl Tryd.underlying22 info9 rfl (by decide) (by omega) u3 x3_1 (((rdOf ByteArray.empty l0_1 x48_1) ++ (⟨#[58]⟩ : ByteArray)) ++ t379) [.string (((rdOf ByteArray.empty l0_1 x48_1) ++ (⟨#[58]⟩ : ByteArray)) ++ t379)] (fun _ => True) (fun _ => False) rfl rfl ?aP (fun _ hk => hk.elim) ?aF ?aO ?aB ?aS ?aL ?_; (case aP => exact rfl); (case aB => exact blw); (case aF => exact (fun _ _ => trivial)); (case aO => exact (by (with_reducible repeat (first | apply Kd.R_alloc | apply Kd.R_drewN | apply Kd.R_drew)); exact HO_3.out)); (case aS => exact (below_size blw)); (case aL => have := LMc37.out; omega); intro v381 w40 ho hb hg hat; rw [← Ny380.out] at ho; have n0_ := am (hb); have n1_ := am (ho); clear HB; clear HO_3; revert n0_ n1_; intro HB HO382; clear ho hb hg hat))
    go_roundg k1
    case measure => have := HK1.out; omega
    case rel => exact ⟨(y380), (wrap64 (x48_1 + 1)), rfs, H', ⟨by have := HK1.out; omega⟩, ⟨by (with_reducible repeat (first | apply Kd.R_alloc | apply Kd.R_drewN | apply Kd.R_drew)); exact HO382.out⟩, ⟨blw⟩⟩
 rw [if_pos c13] at H
 have c13b0 : (a0_0 == 5) = true := beq_iff_eq.mpr c13
 have c13b1 : (a0_0 != 5) = false := bne_eq_false_iff_eq.mpr c13
 clear c13
 by_cases c14 : 0 < (l0_2.length : Int)
 case neg =>
  rw [if_neg c14] at H
  exact absurd H (by simp)
 rw [if_pos c14] at H
 have c14b0 : decide (0 < (l0_2.length : Int)) = true := decide_eq_true c14
 have c14b1 : decide (0 < l0_2.length) = true := decide_eq_true (by omega)
 clear c14
 replace H := Option.bind_eq_some_iff.mp H
 obtain ⟨t371, A150, H⟩ := H
 replace H : (if 1 + t371.size ≤ 9223372036854775807 then (if 1 + t371.size + 1 ≤ 9223372036854775807 then (if 1 < (l0_2.length : Int) then ((impl_typeText.f k ((rd_T33 l0_2 1).f0) ((rd_T33 l0_2 1).f1) ((rd_T33 l0_2 1).f2)).bind fun t373 => (if 1 + t371.size + 1 + t373.size ≤ 9223372036854775807 then (if 1 + t371.size + 1 + t373.size + 1 ≤ 9223372036854775807 then (some (((((⟨#[40]⟩ : ByteArray) ++ t371) ++ (⟨#[62]⟩ : ByteArray)) ++ t373) ++ (⟨#[41]⟩ : ByteArray))) else (none)) else (none))) else (none)) else (none)) else (none)) = some r := H
 have A15 := am A150
 clear A150
 by_cases c16 : 1 + t371.size ≤ 9223372036854775807
 case neg =>
  rw [if_neg c16] at H
  exact absurd H (by simp)
 rw [if_pos c16] at H
 have c16b0 := eq_true c16
 have c16b1 : decide (1 + t371.size ≤ 9223372036854775807) = true := decide_eq_true c16
 try have c16b2 : (9223372036854775807 < 1 + t371.size) = False := eq_false (Nat.not_lt.2 c16)
 by_cases c17 : 1 + t371.size + 1 ≤ 9223372036854775807
 case neg =>
  rw [if_neg c17] at H
  exact absurd H (by simp)
 rw [if_pos c17] at H
 have c17b0 := eq_true c17
 have c17b1 : decide (1 + t371.size + 1 ≤ 9223372036854775807) = true := decide_eq_true c17
 try have c17b2 : (9223372036854775807 < 1 + t371.size + 1) = False := eq_false (Nat.not_lt.2 c17)
 by_cases c18 : 1 < (l0_2.length : Int)
 case neg =>
  rw [if_neg c18] at H
  exact absurd H (by simp)
 rw [if_pos c18] at H
 have c18b0 : decide (1 < (l0_2.length : Int)) = true := decide_eq_true c18
 have c18b1 : decide (1 < l0_2.length) = true := decide_eq_true (by omega)
 clear c18
 replace H := Option.bind_eq_some_iff.mp H
 obtain ⟨t373, A190, H⟩ := H
 replace H : (if 1 + t371.size + 1 + t373.size ≤ 9223372036854775807 then (if 1 + t371.size + 1 + t373.size + 1 ≤ 9223372036854775807 then (some (((((⟨#[40]⟩ : ByteArray) ++ t371) ++ (⟨#[62]⟩ : ByteArray)) ++ t373) ++ (⟨#[41]⟩ : ByteArray))) else (none)) else (none)) = some r := H
 have A19 := am A190
 clear A190
 by_cases c20 : 1 + t371.size + 1 + t373.size ≤ 9223372036854775807
 case neg =>
  rw [if_neg c20] at H
  exact absurd H (by simp)
 rw [if_pos c20] at H
 have c20b0 := eq_true c20
 have c20b1 : decide (1 + t371.size + 1 + t373.size ≤ 9223372036854775807) = true := decide_eq_true c20
 try have c20b2 : (9223372036854775807 < 1 + t371.size + 1 + t373.size) = False := eq_false (Nat.not_lt.2 c20)
 by_cases c21 : 1 + t371.size + 1 + t373.size + 1 ≤ 9223372036854775807
 case neg =>
  rw [if_neg c21] at H
  exact absurd H (by simp)
 rw [if_pos c21] at H
 have c21b0 := eq_true c21
 have c21b1 : decide (1 + t371.size + 1 + t373.size + 1 ≤ 9223372036854775807) = true := decide_eq_true c21
 try have c21b2 : (9223372036854775807 < 1 + t371.size + 1 + t373.size + 1) = False := eq_false (Nat.not_lt.2 c21)
 obtain rfl := Option.some.inj H
 have hxr22_0 : w.cell? ad0 = some (.int .i64 a0_0) := HP0.out.1
 have hxr22_1 : w.cell? ⟨ad0.block, ad0.off + 1, none⟩ = some (.slice A0_1 l0_1.length c0_1) := HP0.out.2.1
 have hxr22_2 : w.cell? ⟨ad0.block, ad0.off + 2, none⟩ = some (.slice A0_2 l0_2.length c0_2) := HP0.out.2.2.1
 go_enter Tryd.func48, Tryd.ntmps48
 try go_wp2
 have n0_ := am (below_drew1 HB.out)
 clear HB
 revert n0_
 intro HB
 have p370 : 0 ≤ (0 : Int) := (by omega)
 have q370 : 0 < (l0_2.length : Int) := of_decide_eq_true asw
 obtain ⟨ad370, A370_1, c370_1, A370_2, c370_2, e370, hx370_0, hx370_1, hx370_2, hl370_1, hi370_1, hl370_2, hi370_2⟩ := at_T33 HR0_2.out 0 p370 q370
 have hw370_2 := hx370_2
 (try rw [show ((0 : Int)).toNat = 0 from rfl] at hw370_2)
 (try rw [show 0 * 3 = 0 from rfl] at hw370_2)
 (try rw [Addr.add_zero'] at hw370_2)
 have hw370_1 := hx370_1
 (try rw [show ((0 : Int)).toNat = 0 from rfl] at hw370_1)
 (try rw [show 0 * 3 = 0 from rfl] at hw370_1)
 (try rw [Addr.add_zero'] at hw370_1)
 have hw370_0 := hx370_0
 (try rw [show ((0 : Int)).toNat = 0 from rfl] at hw370_0)
 (try rw [show 0 * 3 = 0 from rfl] at hw370_0)
 (try rw [Addr.add_zero'] at hw370_0)
 cases e370
 have HP370 := am (show Cells w ad370 [.int .i64 ((rd_T33 l0_2 0).f0), .slice A370_1 ((rd_T33 l0_2 0).f1).length c370_1, .slice A370_2 ((rd_T33 l0_2 0).f2).length c370_2] from ⟨hx370_0, hx370_1, hx370_2, trivial⟩)
 have qi370 : (0 < l0_2.length) = True := eq_true (by omega)
 (try rw [show ((0 : Int)).toNat = 0 from rfl] at hx370_0)
 (try rw [show 0 * 3 = 0 from rfl] at hx370_0)
 (try rw [Addr.add_zero'] at hx370_0)
 (try rw [show ((0 : Int)).toNat = 0 from rfl] at hx370_1)
 (try rw [show 0 * 3 = 0 from rfl] at hx370_1)
 (try rw [Addr.add_zero'] at hx370_1)
 (try rw [show ((0 : Int)).toNat = 0 from rfl] at hx370_2)
 (try rw [show 0 * 3 = 0 from rfl] at hx370_2)
 (try rw [Addr.add_zero'] at hx370_2)
 replace hx370_0 := upw HB.out hx370_0
 replace hx370_1 := upw HB.out hx370_1
 replace hx370_2 := upw HB.out hx370_2
 have HR370_1 := am hi370_1
 have HC370_1 := am hl370_1
 clear hi370_1 hl370_1
 have HR370_2 := am hi370_2
 have HC370_2 := am hl370_2
 clear hi370_2 hl370_2
 replace p370 := eq_true p370
 replace q370 := eq_true q370
 have p372 : 0 ≤ (1 : Int) := (by omega)
 have q372 : 1 < (l0_2.length : Int) := of_decide_eq_true asw
 obtain ⟨ad372, A372_1, c372_1, A372_2, c372_2, e372, hx372_0, hx372_1, hx372_2, hl372_1, hi372_1, hl372_2, hi372_2⟩ := at_T33 HR0_2.out 1 p372 q372
 have hw372_2 := hx372_2
 (try rw [show ((1 : Int)).toNat = 1 from rfl] at hw372_2)
 (try rw [show 1 * 3 = 3 from rfl] at hw372_2)
 (try simp only [Nat.reduceMul, Nat.reduceEqDiff, Go.Addr.add, ↓reduceIte] at hw372_2)
 have hw372_1 := hx372_1
 (try rw [show ((1 : Int)).toNat = 1 from rfl] at hw372_1)
 (try rw [show 1 * 3 = 3 from rfl] at hw372_1)
 (try simp only [Nat.reduceMul, Nat.reduceEqDiff, Go.Addr.add, ↓reduceIte] at hw372_1)
 have hw372_0 := hx372_0
 (try rw [show ((1 : Int)).toNat = 1 from rfl] at hw372_0)
 (try rw [show 1 * 3 = 3 from rfl] at hw372_0)
 (try simp only [Nat.reduceMul, Nat.reduceEqDiff, Go.Addr.add, ↓reduceIte] at hw372_0)
 obtain rfl : ad370 = ad372 := (by injection e372)
 (try simp only [show (1 : Int).toNat = 1 from rfl, Nat.reduceMul, Nat.reduceEqDiff, Go.Addr.add, ↓reduceIte] at hx372_0)
 (try simp only [show (1 : Int).toNat = 1 from rfl, Nat.reduceMul, Nat.reduceEqDiff, Go.Addr.add, ↓reduceIte] at hx372_1)
 (try simp only [show (1 : Int).toNat = 1 from rfl, Nat.reduceMul, Nat.reduceEqDiff, Go.Addr.add, ↓reduceIte] at hx372_2)
 have HP372 := am (show Cells w (ad370.add 3) [.int .i64 ((rd_T33 l0_2 1).f0), .slice A372_1 ((rd_T33 l0_2 1).f1).length c372_1, .slice A372_2 ((rd_T33 l0_2 1).f2).length c372_2] from ⟨hx372_0, hx372_1, hx372_2, trivial⟩)
 have qi372 : (1 < l0_2.length) = True := eq_true (by omega)
 (try rw [show ((1 : Int)).toNat = 1 from rfl] at hx372_0)
 (try rw [show 1 * 3 = 3 from rfl] at hx372_0)
 (try rw [show ((1 : Int)).toNat = 1 from rfl] at hx372_1)
 (try rw [show 1 * 3 = 3 from rfl] at hx372_1)
 (try rw [show ((1 : Int)).toNat = 1 from rfl] at hx372_2)
 (try rw [show 1 * 3 = 3 from rfl] at hx372_2)
 replace hx372_0 := upw HB.out hx372_0
 replace hx372_1 := upw HB.out hx372_1
 replace hx372_2 := upw HB.out hx372_2
 have HR372_1 := am hi372_1
 have HC372_1 := am hl372_1
 clear hi372_1 hl372_1
 have HR372_2 := am hi372_2
 have HC372_2 := am hl372_2
 clear hi372_2 hl372_2
 replace p372 := eq_true p372
 replace q372 := eq_true q372
 refine start_ (n := 17) (S := fun w' => w'.cell? ad0 = some (.int .i64 a0_0) ∧ w'.cell? ⟨ad0.block, ad0.off + 1, none⟩ = some (.slice A0_1 l0_1.length c0_1) ∧ w'.cell? ⟨ad0.block, ad0.off + 2, none⟩ = some (.slice (some ad370) l0_2.length c0_2) ∧ w'.cell? ad370 = some (.int .i64 ((rd_T33 l0_2 0).f0)) ∧ w'.cell? ⟨ad370.block, ad370.off + 1, none⟩ = some (.slice A370_1 ((rd_T33 l0_2 0).f1).length c370_1) ∧ w'.cell? ⟨ad370.block, ad370.off + 2, none⟩ = some (.slice A370_2 ((rd_T33 l0_2 0).f2).length c370_2) ∧ w'.cell? ⟨ad370.block, ad370.off + 3, none⟩ = some (.int .i64 ((rd_T33 l0_2 1).f0)) ∧ w'.cell? ⟨ad370.block, ad370.off + 3 + 1, none⟩ = some (.slice A372_1 ((rd_T33 l0_2 1).f1).length c372_1) ∧ w'.cell? ⟨ad370.block, ad370.off + 3 + 2, none⟩ = some (.slice A372_2 ((rd_T33 l0_2 1).f2).length c372_2)) (ds := []) #[false,false,false,false,false,false,false,false,false,false,false,false,false,false,false,false,false] kr rfl rfl ⟨(by first | exact pw_cell_below HB.out (HP0.out.1) | exact HP0.out.1), (by first | exact pw_cell_below HB.out (HP0.out.2.1) | exact HP0.out.2.1), (by first | exact pw_cell_below HB.out (HP0.out.2.2.1) | exact HP0.out.2.2.1), ((upw HB.out hw370_0 : _)), ((upw HB.out hw370_1 : _)), ((upw HB.out hw370_2 : _)), ((upw HB.out hw372_0 : _)), ((upw HB.out hw372_1 : _)), ((upw HB.out hw372_2 : _))⟩ (fun hHeld => ?_); refine with_tabW impl_typeText.tab9 impl_typeText.bits9 (fun HT_ HW_ => ?_)
 generalize w.drew = w23 at HB HR370_1 HR370_2 HR372_1 HR372_2 hx370_0 hx370_1 hx370_2 hx372_0 hx372_1 hx372_2 hHeld ⊢
 refine pure_ (i := 0) (N := some 26) (v := ?_) (a' := ?_) (bm 17 1) rfl rfl (any_of HT_.out kr) qi (Or.inl ⟨by rfl, ?_⟩) ?_ ?_
 rotate_left
 ·intro w'
  go_simp
  with_reducible rfl
 rotate_left
 ·simp only [sx]
  rfl
 refine pure_ (i := 1) (N := some 27) (v := ?_) (a' := ?_) (bm 17 3) rfl rfl (any_of HT_.out kr) qi (Or.inl ⟨by rfl, ?_⟩) ?_ ?_
 rotate_left
 ·intro w'
  go_simp
  with_reducible rfl
 rotate_left
 ·simp only [sx]
  rfl
 refine pure_ (i := 2) (N := some 28) (v := ?_) (a' := ?_) (bm 17 7) rfl rfl (any_of HT_.out kr) qi (Or.inl ⟨by rfl, ?_⟩) ?_ ?_
 rotate_left
 ·intro w'
  go_simp
  with_reducible rfl
 rotate_left
 ·simp only [sx]
  rfl
 refine pure_ (i := 8) (N := some 34) (v := ?_) (a' := ?_) (bm 17 263) rfl rfl (any_of HT_.out kr) qi (Or.inl ⟨by rfl, ?_⟩) ?_ ?_
 rotate_left
 ·intro w'
  go_simp
  with_reducible rfl
 rotate_left
 ·simp only [sx]
  rfl
 refine pure_ (i := 9) (N := some 35) (v := ?_) (a' := ?_) (bm 17 775) rfl rfl (any_of HT_.out kr) qi (Or.inl ⟨by rfl, ?_⟩) ?_ ?_
 rotate_left
 ·intro w'
  go_simp
  with_reducible rfl
 rotate_left
 ·simp only [sx]
  rfl
 refine pure_ (i := 10) (N := some 36) (v := ?_) (a' := ?_) (bm 17 1799) rfl rfl (any_of HT_.out kr) qi (Or.inl ⟨by rfl, ?_⟩) ?_ ?_
 rotate_left
 ·intro w'
  go_simp
  with_reducible rfl
 rotate_left
 ·simp only [sx]
  rfl
 refine take_ (i := 3) (N := some 29) (v := ?_) (a' := ?_) (bm 17 1807) rfl rfl (take_ofW HT_.out HW_.out kr) qi (Or.inl ⟨by rfl, ?_⟩) hHeld ?_ ?_
 rotate_left
 ·rintro w' ⟨s0, s1, s2, s3, s4, s5, s6, s7, s8⟩
  go_simp
  with_reducible rfl
 rotate_left
 ·simp only [sx]
  rfl
 refine pure_ (i := 4) (N := some 30) (v := ?_) (a' := ?_) (bm 17 1823) rfl rfl (any_of HT_.out kr) qi (Or.inl ⟨by rfl, ?_⟩) ?_ ?_
 rotate_left
 ·intro w'
  go_simp
  with_reducible rfl
 rotate_left
 ·simp only [sx]
  rfl
 refine take_ (i := 11) (N := some 37) (v := ?_) (a' := ?_) (bm 17 3871) rfl rfl (take_ofW HT_.out HW_.out kr) qi (Or.inl ⟨by rfl, ?_⟩) hHeld ?_ ?_
 rotate_left
 ·rintro w' ⟨s0, s1, s2, s3, s4, s5, s6, s7, s8⟩
  go_simp
  with_reducible rfl
 rotate_left
 ·simp only [sx]
  rfl
 refine pure_ (i := 12) (N := some 38) (v := ?_) (a' := ?_) (bm 17 7967) rfl rfl (any_of HT_.out kr) qi (Or.inl ⟨by rfl, ?_⟩) ?_ ?_
 rotate_left
 ·intro w'
  go_simp
  with_reducible rfl
 rotate_left
 ·simp only [sx]
  rfl
 refine one_ (i := 5) (N := some 31) (bm 17 7999) rfl rfl (one_of HT_.out kr) (by decide) (fun K hK => ?_)
 refine goes_ Tryd.func48 kr rfl #[.pointer (some ad370)] (by rfl) rfl rfl mpw ?_
 with_reducible refine (ih k (by omega) ad370 ((rd_T33 l0_2 0).f0) A370_1 c370_1 ((rd_T33 l0_2 0).f1) A370_2 c370_2 ((rd_T33 l0_2 0).f2) t371 _ ?side1 ?side2 ?side3 ?side4 ?side5 A15.out).mono ?_
 (case side1 => repeat (first | exact (Cells_below HP370.out HB.out) | (with_reducible refine Cells_alloc ?_ _) | (with_reducible refine Cells_drewN ?_ _) | (with_reducible refine Cells_drew ?_)))
 (case side2 => have X_ := HR370_1; exact cbl)
 (case side3 => exact HC370_1.out)
 (case side4 => have X_ := HR370_2; exact cbl)
 (case side5 => exact HC370_2.out)
 rintro e w24 ⟨rfl, hb⟩
 refine ⟨_, rfl, ?_⟩
 have n0_ := am (below_step blw hb)
 clear HB
 revert n0_
 intro HB
 (try clear hb)
 (try clear hb2)
 (try clear hk)
 (try clear hi)
 refine hK.out _ _ ⟨(by first | exact pw_cell_below HB.out (HP0.out.1) | exact HP0.out.1), (by first | exact pw_cell_below HB.out (HP0.out.2.1) | exact HP0.out.2.1), (by first | exact pw_cell_below HB.out (HP0.out.2.2.1) | exact HP0.out.2.2.1), ((upw HB.out hw370_0 : _)), ((upw HB.out hw370_1 : _)), ((upw HB.out hw370_2 : _)), ((upw HB.out hw372_0 : _)), ((upw HB.out hw372_1 : _)), ((upw HB.out hw372_2 : _))⟩ (fun hHeld => ?_)
 clear hK K
 refine norm_ (a' := ?_) ?_ ?_
 rotate_left
 ·show Act.put _ (some 31) _ = _
  simp only [sx]
  rfl
 refine pure_ (i := 6) (N := some 32) (v := ?_) (a' := ?_) (bm 17 8063) rfl rfl (any_of HT_.out kr) qi (Or.inl ⟨by rfl, ?_⟩) ?_ ?_
 rotate_left
 ·intro w'
  go_simp
  with_reducible rfl
 rotate_left
 ·simp only [sx]
  rfl
 refine pure_ (i := 7) (N := some 33) (v := ?_) (a' := ?_) (bm 17 8191) rfl rfl (any_of HT_.out kr) qi (Or.inl ⟨by rfl, ?_⟩) ?_ ?_
 rotate_left
 ·intro w'
  go_simp
  with_reducible rfl
 rotate_left
 ·simp only [sx]
  rfl
 refine one_ (i := 13) (N := some 39) (bm 17 16383) rfl rfl (one_of HT_.out kr) (by decide) (fun K hK => ?_)
 refine goes_ Tryd.func48 kr rfl #[.pointer (some (ad370.add 3))] (by rfl) rfl rfl mpw ?_
 with_reducible refine (ih k (by omega) (ad370.add 3) ((rd_T33 l0_2 1).f0) A372_1 c372_1 ((rd_T33 l0_2 1).f1) A372_2 c372_2 ((rd_T33 l0_2 1).f2) t373 _ ?side1 ?side2 ?side3 ?side4 ?side5 A19.out).mono ?_
 (case side1 => repeat (first | exact (Cells_below HP372.out HB.out) | (with_reducible refine Cells_alloc ?_ _) | (with_reducible refine Cells_drewN ?_ _) | (with_reducible refine Cells_drew ?_)))
 (case side2 => have X_ := HR372_1; exact cbl)
 (case side3 => exact HC372_1.out)
 (case side4 => have X_ := HR372_2; exact cbl)
 (case side5 => exact HC372_2.out)
 rintro e w25 ⟨rfl, hb⟩
 refine ⟨_, rfl, ?_⟩
 have n0_ := am (below_step blw hb)
 clear HB
 revert n0_
 intro HB
 (try clear hb)
 (try clear hb2)
 (try clear hk)
 (try clear hi)
 refine hK.out _ _ ⟨(by first | exact pw_cell_below HB.out (HP0.out.1) | exact HP0.out.1), (by first | exact pw_cell_below HB.out (HP0.out.2.1) | exact HP0.out.2.1), (by first | exact pw_cell_below HB.out (HP0.out.2.2.1) | exact HP0.out.2.2.1), ((upw HB.out hw370_0 : _)), ((upw HB.out hw370_1 : _)), ((upw HB.out hw370_2 : _)), ((upw HB.out hw372_0 : _)), ((upw HB.out hw372_1 : _)), ((upw HB.out hw372_2 : _))⟩ (fun hHeld => ?_)
 clear hK K
 refine norm_ (a' := ?_) ?_ ?_
 rotate_left
 ·show Act.put _ (some 39) _ = _
  simp only [sx]
  rfl
 refine pure_ (i := 14) (N := some 40) (v := ?_) (a' := ?_) (bm 17 32767) rfl rfl (any_of HT_.out kr) qi (Or.inl ⟨by rfl, ?_⟩) ?_ ?_
 rotate_left
 ·intro w'
  go_simp
  with_reducible rfl
 rotate_left
 ·simp only [sx]
  rfl
 refine pure_ (i := 15) (N := some 41) (v := ?_) (a' := ?_) (bm 17 65535) rfl rfl (any_of HT_.out kr) qi (Or.inl ⟨by rfl, ?_⟩) ?_ ?_
 rotate_left
 ·intro w'
  go_simp
  with_reducible rfl
 rotate_left
 ·simp only [sx]
  rfl
 refine pure_ (i := 16) (N := some 2) (v := ?_) (a' := ?_) (bm 17 131071) rfl rfl (any_of HT_.out kr) qi (Or.inl ⟨by rfl, ?_⟩) ?_ ?_
 rotate_left
 ·intro w'
  go_simp
  with_reducible rfl
 rotate_left
 ·simp only [sx]
  rfl
 refine done_ (done_of HT_.out kr) ?_
 try go_wp2
 go_ret
 exact ⟨rfw, blw⟩

-- NOT PRINTED: function 34 (impl_Term_text)

end Go.Proofs.YtgplgphchdgedaaDoor.Px
end
section
namespace Go.Proofs.YtgplgphchdgedaaDoor.Px
open Go.RowKit Go.Proofs.YtgplgphchdgedaaDoor.Ext Go.Proofs.YtgplgphchdgedaaDoorW.PrintWords Go.Proofs.YtgplgphchdgedaaDoorW.PrintLast Go.Proofs.YtgplgphchdgedaaDoorW.PrintMore
attribute [local go_sem] max2_int min2_int max_two min_two max_three min_three max_four min_four   -- for this text's walks alone
set_option linter.unusedVariables false
set_option linter.unusedSimpArgs false

/-! ### laws_eqStringS: function 20 -/
def laws_eqStringS.l0 : Nat → List ByteArray → List ByteArray → Int → Option (Bool)
 | 0, _, _, _ => none
 | k + 1, x0, x1, x5 => if x5 < (x0.length : Int) then (if 0 ≤ x5 then (if x5 < (x1.length : Int) then (if (rdOf ByteArray.empty x0 x5).toList = (rdOf ByteArray.empty x1 x5).toList then (laws_eqStringS.l0 k x0 x1 (wrap64 (x5 + 1))) else (some false)) else (none)) else (none)) else (some true)
def laws_eqStringS.f (k : Nat) (l0 : List ByteArray) (l1 : List ByteArray) : Option (Bool) := if (l0.length : Int) = (l1.length : Int) then (laws_eqStringS.l0 k l0 l1 0) else (some false)
set_option maxHeartbeats 8000000 in
set_option maxRecDepth 100000 in
theorem laws_eqStringS.calls (k : Nat) (A0 : Option Addr) (c0 : Nat) (l0 : List ByteArray) (A1 : Option Addr) (c1 : Nat) (l1 : List ByteArray) (r : Bool) (w : World) (hr0 : Kd.C Kd.string w A0 l0.length l0) (hc0 : l0.length ≤ c0) (hr1 : Kd.C Kd.string w A1 l1.length l1) (hc1 : l1.length ≤ c1) (h : laws_eqStringS.f k l0 l1 = some r) :
  Calls Tryd.prog 20 #[.slice A0 l0.length c0, .slice A1 l1.length c1] w fun e w' => e = .returned (.bool r) ∧ Drawn0 w w' := by
 have HR0 := am hr0
 have HC0 := am hc0
 clear hr0 hc0
 have HR1 := am hr1
 have HC1 := am hc1
 clear hr1 hc1
 have H : (if (l0.length : Int) = (l1.length : Int) then (laws_eqStringS.l0 k l0 l1 0) else (some false)) = some r := h
 clear h
 by_cases c3 : (l0.length : Int) = (l1.length : Int)
 case neg =>
  rw [if_neg c3] at H
  have c3b0 : ((l0.length : Int) == (l1.length : Int)) = false := beq_eq_false_iff_ne.mpr c3
  have c3b1 : ((l0.length : Int) != (l1.length : Int)) = true := bne_iff_ne.mpr c3
  have c3b2 : (l0.length == l1.length) = false := by first | simpa using c3 | (simp at c3 ⊢; omega)
  obtain rfl := Option.some.inj H
  go_enter Tryd.func20, Tryd.ntmps20
  go_wp2
  repeat (go_quiet (fail); try go_wp2)
  go_ret
  exact ⟨rfs, by repeat (first | exact Drawn0.refl _ | apply Drawn0.step)⟩
 rw [if_pos c3] at H
 have c3b0 : ((l0.length : Int) == (l1.length : Int)) = true := beq_iff_eq.mpr c3
 have c3b1 : ((l0.length : Int) != (l1.length : Int)) = false := bne_eq_false_iff_eq.mpr c3
 have c3b2 : (l0.length == l1.length) = true := by first | simpa using c3 | (simp at c3 ⊢; omega)
 clear c3
 have H' := am H
 clear H
 go_enter Tryd.func20, Tryd.ntmps20
 go_wp2
 repeat (go_quiet (fail); try go_wp2)
 go_loopg [5] k (fun kq v5 w' => ∃ (x5_1 : Int), v5 = .int .i64 x5_1 ∧ Aside0 (laws_eqStringS.l0 kq l0 l1 x5_1 = some r) ∧ Aside0 (kq ≤ k) ∧ Drawn0 w w')
 case atStart => exact ⟨(0), rfs, H', ⟨Nat.le_refl _⟩, by repeat (first | exact Drawn0.refl _ | apply Drawn0.step)⟩
 case round =>
  clear H'
  (try clear c1); (try clear c2); (try clear p2); (try clear c3); (try clear c3b0); (try clear c3b1); (try clear c3b2)
  obtain ⟨x5_1, rfl, HA, HK1, ⟨m1, rfl⟩⟩ := hrel
  cases gk with
  | zero => exact absurd HA.out (by simp [laws_eqStringS.l0])
  | succ k1 =>
   have H := HA.out
   clear HA
   simp only [laws_eqStringS.l0] at H
   by_cases c4 : x5_1 < (l0.length : Int)
   case neg =>
    rw [if_neg c4] at H
    have c4b0 : decide (x5_1 < (l0.length : Int)) = false := decide_eq_false c4
    clear c4
    obtain rfl := Option.some.inj H
    go_wp2
    repeat (go_quiet (fail); try go_wp2)
    go_ret
    exact ⟨rfs, by repeat (first | exact Drawn0.refl _ | apply Drawn0.step)⟩
   rw [if_pos c4] at H
   have c4b0 : decide (x5_1 < (l0.length : Int)) = true := decide_eq_true c4
   clear c4
   by_cases c5 : 0 ≤ x5_1
   case neg =>
    rw [if_neg c5] at H
    exact absurd H (by simp)
   rw [if_pos c5] at H
   have c5b0 : decide (0 ≤ x5_1) = true := decide_eq_true c5
   clear c5
   by_cases c6 : x5_1 < (l1.length : Int)
   case neg =>
    rw [if_neg c6] at H
    exact absurd H (by simp)
   rw [if_pos c6] at H
   have c6b0 : decide (x5_1 < (l1.length : Int)) = true := decide_eq_true c6
   clear c6
   by_cases c7 : (rdOf ByteArray.empty l0 x5_1).toList = (rdOf ByteArray.empty l1 x5_1).toList
   case neg =>
    rw [if_neg c7] at H
    have c7b0 : ((rdOf ByteArray.empty l0 x5_1).toList == (rdOf ByteArray.empty l1 x5_1).toList) = false := beq_eq_false_iff_ne.mpr c7
    have c7b1 : ((rdOf ByteArray.empty l0 x5_1).toList != (rdOf ByteArray.empty l1 x5_1).toList) = true := bne_iff_ne.mpr c7
    obtain rfl := Option.some.inj H
    have p387 : 0 ≤ (x5_1 : Int) := of_decide_eq_true asw
    have q387 : x5_1 < (l0.length : Int) := of_decide_eq_true asw
    obtain ⟨ad387, e387, hx387_0⟩ := Kd.at_string HR0.out x5_1 p387 q387
    cases e387
    replace p387 := eq_true p387
    replace q387 := eq_true q387
    have p388 : 0 ≤ (x5_1 : Int) := of_decide_eq_true asw
    have q388 : x5_1 < (l1.length : Int) := of_decide_eq_true asw
    obtain ⟨ad388, e388, hx388_0⟩ := Kd.at_string HR1.out x5_1 p388 q388
    cases e388
    replace p388 := eq_true p388
    replace q388 := eq_true q388
    go_wp2
    repeat (go_quiet (fail); try go_wp2)
    go_ret
    exact ⟨rfs, by repeat (first | exact Drawn0.refl _ | apply Drawn0.step)⟩
   rw [if_pos c7] at H
   have c7b0 : ((rdOf ByteArray.empty l0 x5_1).toList == (rdOf ByteArray.empty l1 x5_1).toList) = true := beq_iff_eq.mpr c7
   have c7b1 : ((rdOf ByteArray.empty l0 x5_1).toList != (rdOf ByteArray.empty l1 x5_1).toList) = false := bne_eq_false_iff_eq.mpr c7
   clear c7
   have H' := am H
   clear H
   have p387 : 0 ≤ (x5_1 : Int) := of_decide_eq_true asw
   have q387 : x5_1 < (l0.length : Int) := of_decide_eq_true asw
   obtain ⟨ad387, e387, hx387_0⟩ := Kd.at_string HR0.out x5_1 p387 q387
   cases e387
   replace p387 := eq_true p387
   replace q387 := eq_true q387
   have p388 : 0 ≤ (x5_1 : Int) := of_decide_eq_true asw
   have q388 : x5_1 < (l1.length : Int) := of_decide_eq_true asw
   obtain ⟨ad388, e388, hx388_0⟩ := Kd.at_string HR1.out x5_1 p388 q388
   cases e388
   replace p388 := eq_true p388
   replace q388 := eq_true q388
   go_wp2
   repeat (go_quiet (fail); try go_wp2)
   go_roundg k1
   case measure => have := HK1.out; omega
   case rel => exact ⟨(wrap64 (x5_1 + 1)), rfs, H', ⟨by have := HK1.out; omega⟩, by repeat (first | exact Drawn0.refl _ | apply Drawn0.step)⟩

end Go.Proofs.YtgplgphchdgedaaDoor.Px
end
section
namespace Go.Proofs.YtgplgphchdgedaaDoor.Pl
open Go.RowKit Go.Proofs.YtgplgphchdgedaaDoorW.PrintWords
set_option linter.unusedVariables false
theorem Ev.up {α : Type} {g : Nat → Option α} {r : α} (h : Ev (fun k => g (k + 1)) r) : Ev g r := Ev.step (f := fun k => g (k + 1)) (fun _ => rfl) h
theorem Ev.pos {α : Type} {A B : Nat → Option α} {r : α} {c : Prop} [Decidable c] (hc : c) (h : Ev A r) : Ev (fun n => if c then A n else B n) r :=
  Ev.congr (f := A) (fun k => by rw [if_pos hc]) h
theorem Ev.neg {α : Type} {A B : Nat → Option α} {r : α} {c : Prop} [Decidable c] (hc : ¬ c) (h : Ev B r) : Ev (fun n => if c then A n else B n) r :=
  Ev.congr (f := B) (fun k => by rw [if_neg hc]) h
theorem Ev.cases {α : Type} {A B : Nat → Option α} {r : α} {c : Prop} [Decidable c] (h1 : c → Ev A r) (h2 : ¬ c → Ev B r) : Ev (fun n => if c then A n else B n) r := by
  by_cases hc : c
  · exact Ev.pos hc (h1 hc)
  · exact Ev.neg hc (h2 hc)
theorem Ev.eq {α : Type} {g : Nat → Option α} {r r' : α} (h : Ev g r) (e : r = r') : Ev g r' := e ▸ h
theorem Ev.const {α : Type} {a r : α} (e : a = r) : Ev (fun _ => some a) r := by subst e; exact Ev.now _
/-- A call without rounds. -/
theorem Ev.fix {α β : Type} {g : Option α} {a : α} {f : Nat → α → Option β} {r : β} (hg : g = some a) (h : Ev (fun n => f n a) r) : Ev (fun n => g.bind (f n)) r := by subst hg; exact h
theorem w1 {i n : Nat} (h : i < n) (hn : n ≤ maxLen) : wrap64 ((i : Int) + 1) = ((i + 1 : Nat) : Int) := by
  have : n ≤ 9223372036854775807 := hn
  unfold wrap64
  omega
theorem w1' {i n : Nat} (h : i < n) (hn : n ≤ 1048576) : wrap64 ((i : Int) + 1) = ((i + 1 : Nat) : Int) := w1 h (by unfold maxLen; omega)
theorem w64 {a : Int} (h : -9223372036854775808 ≤ a) (h2 : a ≤ 9223372036854775807) : wrap64 a = a := by unfold wrap64; omega
theorem wf64 {a : Int} (h : (Lit.int .i64 a).wf = true) : -9223372036854775808 ≤ a ∧ a ≤ 9223372036854775807 := by
  have h1 := of_decide_eq_true ((Bool.and_eq_true _ _).mp h).1
  have h2 := of_decide_eq_true ((Bool.and_eq_true _ _).mp h).2
  exact ⟨h1, h2⟩
/-- What is left of a budget, or -1. -/
def cut (n : Nat) (left : Int) : Int := if (n : Int) ≤ left then left - n else -1
theorem cut_zero {left : Int} (h : 0 ≤ left) : cut 0 left = left := by unfold cut; rw [if_pos (by omega)]; omega
theorem cut_neg {n : Nat} {left : Int} : cut n left < 0 ↔ ¬ ((n : Int) ≤ left) := by
  unfold cut
  split <;> omega
theorem cut_le {n : Nat} {left : Int} (h : 0 ≤ left) : cut n left ≤ left := by unfold cut; split <;> omega
theorem cut_add {m n : Nat} {left : Int} (h : 0 ≤ cut m left) : cut n (cut m left) = cut (m + n) left := by
  unfold cut at *
  split at h
  · rename_i h1
    simp only [if_pos h1]
    by_cases h2 : (n : Int) ≤ left - m
    · rw [if_pos h2, if_pos (by omega)]; omega
    · rw [if_neg h2, if_neg (by omega)]
  · omega
theorem cut_add' {m n : Nat} {left : Int} (h : cut m left < 0) : cut (m + n) left = -1 := by
  have := cut_neg.1 h
  unfold cut
  rw [if_neg (by omega)]
/-- 'left -= n; if left < 0 { return -1 }' -/
theorem cut_sub {n : Nat} {left : Int} (h : 0 ≤ left) (hl : left ≤ 1048576) (hn : n ≤ maxLen) : (wrap64 (left - (n : Int)) < 0 ↔ cut n left < 0) ∧ (0 ≤ cut n left → wrap64 (left - (n : Int)) = cut n left) := by
  have hn' : n ≤ 9223372036854775807 := hn
  have e : wrap64 (left - (n : Int)) = left - n := w64 (by omega) (by omega)
  rw [e, cut_neg]
  unfold cut
  constructor
  · omega
  · intro h2
    split at h2
    · rename_i h3; rw [if_pos h3]
    · omega
def sumF (W : Nat → Nat) : Nat → Nat → Nat
  | _, 0 => 0
  | i, m + 1 => W i + sumF W (i + 1) m
theorem sz_loop (n : Nat) (X : Nat → Nat → Int → Option Int) (L : Nat → Int → Nat → Option Int) (W : Nat → Nat)
    (h1 : ∀ k left i, i < n → L (k + 1) left i = (X k i left).bind fun t => if t < 0 then some (-1) else L k t (i + 1))
    (h2 : ∀ k left, L (k + 1) left n = some left)
    (hX : ∀ i left, i < n → 0 ≤ left → left ≤ 1048576 → Ev (fun k => X k i left) (cut (W i) left)) :
    ∀ m i left, i + m = n → 0 ≤ left → left ≤ 1048576 → Ev (fun k => L k left i) (cut (sumF W i m) left) := by
  intro m
  induction m with
  | zero =>
    intro i left hi h0 hl
    obtain rfl : i = n := by omega
    refine Ev.step (h2 · left) ?_
    exact Ev.const (cut_zero h0).symm
  | succ m ih =>
    intro i left hi h0 hl
    refine Ev.step (fun k => h1 k left i (by omega)) (Ev.bind (hX i left (by omega) h0 hl) ?_)
    by_cases hc : cut (W i) left < 0
    · exact Ev.pos hc (Ev.const (cut_add' hc).symm)
    · refine Ev.neg hc (Ev.eq (ih (i + 1) _ (by omega) (by omega) ?_) (cut_add (by omega)))
      have := cut_le (n := W i) h0
      omega
theorem sz_loop' (n : Nat) (L : Nat → Int → Nat → Option Int) (W : Nat → Nat)
    (h1 : ∀ k left i, i < n → 0 ≤ left → left ≤ 1048576 → L (k + 1) left i = if cut (W i) left < 0 then some (-1) else L k (cut (W i) left) (i + 1))
    (h2 : ∀ k left, L (k + 1) left n = some left) :
    ∀ m i left, i + m = n → 0 ≤ left → left ≤ 1048576 → Ev (fun k => L k left i) (cut (sumF W i m) left) := by
  intro m
  induction m with
  | zero =>
    intro i left hi h0 hl
    obtain rfl : i = n := by omega
    refine Ev.step (h2 · left) ?_
    exact Ev.const (cut_zero h0).symm
  | succ m ih =>
    intro i left hi h0 hl
    refine Ev.step (fun k => h1 k left i (by omega) h0 hl) ?_
    by_cases hc : cut (W i) left < 0
    · exact Ev.pos hc (Ev.const (cut_add' hc).symm)
    · refine Ev.neg hc (Ev.eq (ih (i + 1) _ (by omega) (by omega) ?_) (cut_add (by omega)))
      have := cut_le (n := W i) h0
      omega
theorem Ev.map {α β : Type} {g : Nat → Option α} {a : α} (f : α → β) (h : Ev g a) : Ev (fun k => (g k).map f) (f a) := by
  obtain ⟨K, hK⟩ := h
  exact ⟨K, fun k hk => by show (g k).map f = _; rw [hK k hk]; rfl⟩
theorem to_loop {α : Type} (n : Nat) (X : Nat → Nat → Option α) (L : Nat → List α → Nat → Option (List α)) (v : Nat → α)
    (h1 : ∀ k out i, i < n → out.length = n → L (k + 1) out i = (X k i).bind fun t => L k (out.set i t) (i + 1))
    (h2 : ∀ k out, L (k + 1) out n = some out)
    (hX : ∀ i, i < n → Ev (fun k => X k i) (v i)) :
    ∀ m i out, i + m = n → out.length = n → Ev (fun k => L k out i) (out.take i ++ (List.range' i m).map v) := by
  intro m
  induction m with
  | zero =>
    intro i out hi hl
    obtain rfl : i = n := by omega
    refine Ev.step (h2 · out) (Ev.const ?_)
    simp [← hl]
  | succ m ih =>
    intro i out hi hl
    refine Ev.step (fun k => h1 k out i (by omega) hl) (Ev.bind (hX i (by omega)) ?_)
    refine Ev.eq (ih (i + 1) (out.set i (v i)) (by omega) (by simpa using hl)) ?_
    rw [List.range'_succ, List.map_cons, List.take_succ_eq_append_getElem (by simp; omega)]
    simp [List.take_set_of_le]
theorem eq_loop (n : Nat) (X : Nat → Nat → Option Bool) (L : Nat → Nat → Option Bool)
    (h1 : ∀ k i, i < n → L (k + 1) i = (X k i).bind fun t => if t = true then L k (i + 1) else some false)
    (h2 : ∀ k, L (k + 1) n = some true)
    (hX : ∀ i, i < n → Ev (fun k => X k i) true) :
    ∀ m i, i + m = n → Ev (fun k => L k i) true := by
  intro m
  induction m with
  | zero =>
    intro i hi
    obtain rfl : i = n := by omega
    exact Ev.step h2 (Ev.now _)
  | succ m ih =>
    intro i hi
    exact Ev.step (fun k => h1 k i (by omega)) (Ev.bind (hX i (by omega)) (Ev.pos rfl (ih (i + 1) (by omega))))
/-- A loop that gathers. -/
theorem fold_loop {σ τ ρ : Type} (n : Nat) (X : Nat → Nat → Option τ) (L : Nat → σ → Nat → Option ρ) (g : σ → τ → σ) (v : Nat → τ) (fin : σ → ρ)
    (h1 : ∀ k s i, i < n → L (k + 1) s i = (X k i).bind fun t => L k (g s t) (i + 1))
    (h2 : ∀ k s, L (k + 1) s n = some (fin s))
    (hX : ∀ i, i < n → Ev (fun k => X k i) (v i)) :
    ∀ m i s, i + m = n → Ev (fun k => L k s i) (fin ((List.range' i m).foldl (fun s i => g s (v i)) s)) := by
  intro m
  induction m with
  | zero =>
    intro i s hi
    obtain rfl : i = n := by omega
    exact Ev.step (h2 · s) (Ev.now _)
  | succ m ih =>
    intro i s hi
    refine Ev.step (fun k => h1 k s i (by omega)) (Ev.bind (hX i (by omega)) ?_)
    rw [List.range'_succ, List.foldl_cons]
    exact ih (i + 1) (g s (v i)) (by omega)
theorem range_map_getElem {α β : Type} (f : α → β) (d : α) (xs : List α) : (List.range' 0 xs.length).map (fun i => f (xs.getD i d)) = xs.map f := by
  apply List.ext_getElem
  · simp
  · intro i h1 h2
    simp at h1
    simp [h1]
theorem sumF_list {α : Type} (f : α → Nat) (d : α) (xs : List α) : ∀ m i, i + m = xs.length → sumF (fun i => f (xs.getD i d)) i m = ((xs.drop i).map f).sum := by
  intro m
  induction m with
  | zero => intro i hi; simp [sumF, List.drop_of_length_le (show xs.length ≤ i by omega)]
  | succ m ih =>
    intro i hi
    have hlt : i < xs.length := by omega
    rw [List.drop_eq_getElem_cons hlt, List.map_cons, List.sum_cons, sumF, ih (i + 1) (by omega)]
    simp [List.getD_eq_getElem?_getD, hlt]
theorem foldl_range {α σ : Type} (g : σ → α → σ) (d : α) (xs : List α) (s : σ) : (List.range' 0 xs.length).foldl (fun s i => g s (xs.getD i d)) s = xs.foldl g s := by
  have h : xs = (List.range' 0 xs.length).map (fun i => xs.getD i d) := by
    have := range_map_getElem (fun x => x) d xs
    simpa using this.symm
  conv => rhs; rw [h, List.foldl_map]
def szs (xs : List ByteArray) : Nat := (xs.map ByteArray.size).sum
def wts (xs : List ByteArray) : Nat := xs.length + szs xs
theorem rdOf_str (xs : List ByteArray) (i : Nat) : rdOf ByteArray.empty xs (i : Int) = xs.getD i ByteArray.empty := by simp [rdOf]
theorem mem_getD {α : Type} (xs : List α) (d : α) (i : Nat) (h : i < xs.length) : xs.getD i d ∈ xs := by
  simp [List.getD_eq_getElem?_getD, h]
theorem sum_le_of_mem {α : Type} (f : α → Nat) {xs : List α} {x : α} (h : x ∈ xs) : f x ≤ (xs.map f).sum := by
  induction xs with
  | nil => cases h
  | cons y ys ih =>
    rcases List.mem_cons.1 h with rfl | h
    · simp
    · have := ih h
      simp
      omega
theorem fold_wrap {α : Type} (f : α → Nat) : ∀ (xs : List α) (s : Nat), s + (xs.map f).sum ≤ 9223372036854775807 → xs.foldl (fun (s : Int) y => wrap64 (s + (f y : Int))) (s : Int) = ((s + (xs.map f).sum : Nat) : Int)
  | [], s, _ => by simp
  | x :: xs, s, h => by
    rw [List.map_cons, List.sum_cons] at h
    rw [List.foldl_cons, w64 (a := (s : Int) + (f x : Int)) (by omega) (by omega), List.map_cons, List.sum_cons, ← Nat.add_assoc]
    have := fold_wrap f xs (s + f x) (by omega)
    rw [← this]
    simp
/-- Two texts with rounds come to the same. -/
def Same {α : Type} (f g : Nat → Option α) : Prop := ∃ r, Ev f r ∧ Ev g r
theorem Same.ret {α : Type} {a b : α} (h : a = b) : Same (fun _ => some a) (fun _ => some b) := ⟨a, Ev.now a, Ev.const h.symm⟩
theorem Same.symm {α : Type} {f g : Nat → Option α} (h : Same f g) : Same g f := let ⟨r, a, b⟩ := h; ⟨r, b, a⟩
theorem Same.bind {α β : Type} {f g : Nat → Option α} {F G : Nat → α → Option β} (h : Same f g) (k : ∀ r, Ev f r → Ev g r → Same (F · r) (G · r)) : Same (fun n => (f n).bind (F n)) (fun n => (g n).bind (G n)) := by
  obtain ⟨r, a, b⟩ := h
  obtain ⟨s, c, d⟩ := k r a b
  exact ⟨s, Ev.bind a c, Ev.bind b d⟩
theorem Same.bindL {α β : Type} {f : Nat → Option α} {F : Nat → α → Option β} {g : Nat → Option β} {a : α} (h : Ev f a) (k : Same (F · a) g) : Same (fun n => (f n).bind (F n)) g := by
  obtain ⟨s, c, d⟩ := k
  exact ⟨s, Ev.bind h c, d⟩
theorem Same.bindR {α β : Type} {f : Nat → Option α} {F : Nat → α → Option β} {g : Nat → Option β} {a : α} (h : Ev f a) (k : Same g (F · a)) : Same g (fun n => (f n).bind (F n)) := (Same.bindL h k.symm).symm
theorem Same.posL {α : Type} {A B g : Nat → Option α} {c : Prop} [Decidable c] (hc : c) (h : Same A g) : Same (fun n => if c then A n else B n) g := let ⟨r, a, b⟩ := h; ⟨r, Ev.pos hc a, b⟩
theorem Same.negL {α : Type} {A B g : Nat → Option α} {c : Prop} [Decidable c] (hc : ¬ c) (h : Same B g) : Same (fun n => if c then A n else B n) g := let ⟨r, a, b⟩ := h; ⟨r, Ev.neg hc a, b⟩
theorem Same.posR {α : Type} {A B g : Nat → Option α} {c : Prop} [Decidable c] (hc : c) (h : Same g A) : Same g (fun n => if c then A n else B n) := let ⟨r, a, b⟩ := h; ⟨r, a, Ev.pos hc b⟩
theorem Same.negR {α : Type} {A B g : Nat → Option α} {c : Prop} [Decidable c] (hc : ¬ c) (h : Same g B) : Same g (fun n => if c then A n else B n) := let ⟨r, a, b⟩ := h; ⟨r, a, Ev.neg hc b⟩
theorem Same.pos {α : Type} {A B C D : Nat → Option α} {c d : Prop} [Decidable c] [Decidable d] (hc : c) (hd : d) (h : Same A C) : Same (fun n => if c then A n else B n) (fun n => if d then C n else D n) := Same.posL hc (Same.posR hd h)
theorem Same.neg {α : Type} {A B C D : Nat → Option α} {c d : Prop} [Decidable c] [Decidable d] (hc : ¬ c) (hd : ¬ d) (h : Same B D) : Same (fun n => if c then A n else B n) (fun n => if d then C n else D n) := Same.negL hc (Same.negR hd h)
theorem Same.ite {α : Type} {A B C D : Nat → Option α} {c d : Prop} [Decidable c] [Decidable d] (e : c ↔ d) (h1 : c → Same A C) (h2 : ¬ c → Same B D) : Same (fun n => if c then A n else B n) (fun n => if d then C n else D n) := by
  by_cases hc : c
  · exact Same.pos hc (e.1 hc) (h1 hc)
  · exact Same.neg hc (fun h => hc (e.2 h)) (h2 hc)
theorem Same.up {α : Type} {f g : Nat → Option α} (h : Same (fun k => f (k + 1)) (fun k => g (k + 1))) : Same f g := let ⟨r, a, b⟩ := h; ⟨r, Ev.up a, Ev.up b⟩
/-- A loop over an index, on both sides, with one state. -/
theorem Same.loop {σ ρ : Type} (n : Nat) (L M : Nat → σ → Nat → Option ρ) (hend : ∀ s, Same (fun k => L k s n) (fun k => M k s n))
    (hstep : ∀ i s, i < n → (∀ s', Same (fun k => L k s' (i + 1)) (fun k => M k s' (i + 1))) → Same (fun k => L k s i) (fun k => M k s i)) : ∀ s, Same (fun k => L k s 0) (fun k => M k s 0) := by
  suffices h : ∀ m i s, i + m = n → Same (fun k => L k s i) (fun k => M k s i) from fun s => h n 0 s (by omega)
  intro m
  induction m with
  | zero => intro i s hi; obtain rfl : i = n := by omega
            exact hend s
  | succ m ih => intro i s hi; exact hstep i s (by omega) (fun s' => ih (i + 1) s' (by omega))
theorem mx_eq (a b : Int) : mx a b = if a > b then a else b := by unfold mx; split <;> split <;> omega
/-- Does one of a list say yes, in order; else what stands at the end. -/
theorem any_ev {α : Type} (xs : List α) (d : α) (P : α → Bool) (fin : Bool) (L X : Nat → Nat → Option Bool)
    (h1 : ∀ k i, i < xs.length → L (k + 1) i = (X k i).bind fun t => if t = true then some true else L k (i + 1))
    (hend : Ev (fun k => L k xs.length) fin) (hX : ∀ i, i < xs.length → Ev (fun k => X k i) (P (xs.getD i d))) : Ev (fun k => L k 0) (xs.any P || fin) := by
  suffices h : ∀ m i, i + m = xs.length → Ev (fun k => L k i) ((xs.drop i).any P || fin) from by simpa using h xs.length 0 (by omega)
  intro m
  induction m with
  | zero =>
    intro i hi
    obtain rfl : i = xs.length := by omega
    simpa using hend
  | succ m ih =>
    intro i hi
    have hlt : i < xs.length := by omega
    refine Ev.step (fun k => h1 k i hlt) (Ev.bind (hX i hlt) ?_)
    rw [List.drop_eq_getElem_cons hlt, List.any_cons, show xs.getD i d = xs[i] by simp [List.getD_eq_getElem?_getD, hlt]]
    cases hp : P xs[i]
    · exact Ev.neg (by simp) (by simpa using ih (i + 1) (by omega))
    · exact Ev.pos rfl (Ev.const (by simp))
/-- Do all of a list say yes, in order; then what stands at the end. -/
theorem all_ev {α : Type} (xs : List α) (d : α) (P : α → Bool) (fin : Bool) (L X : Nat → Nat → Option Bool)
    (h1 : ∀ k i, i < xs.length → L (k + 1) i = (X k i).bind fun t => if t = true then L k (i + 1) else some false)
    (hend : Ev (fun k => L k xs.length) fin) (hX : ∀ i, i < xs.length → Ev (fun k => X k i) (P (xs.getD i d))) : Ev (fun k => L k 0) (xs.all P && fin) := by
  suffices h : ∀ m i, i + m = xs.length → Ev (fun k => L k i) ((xs.drop i).all P && fin) from by simpa using h xs.length 0 (by omega)
  intro m
  induction m with
  | zero =>
    intro i hi
    obtain rfl : i = xs.length := by omega
    simpa using hend
  | succ m ih =>
    intro i hi
    have hlt : i < xs.length := by omega
    refine Ev.step (fun k => h1 k i hlt) (Ev.bind (hX i hlt) ?_)
    rw [List.drop_eq_getElem_cons hlt, List.all_cons, show xs.getD i d = xs[i] by simp [List.getD_eq_getElem?_getD, hlt]]
    cases hp : P xs[i]
    · exact Ev.neg (by simp) (Ev.const (by simp))
    · exact Ev.pos rfl (by simpa using ih (i + 1) (by omega))
end Go.Proofs.YtgplgphchdgedaaDoor.Pl
end
section
namespace Go.Proofs.YtgplgphchdgedaaDoor.Px
open Go.RowKit Go.Proofs.YtgplgphchdgedaaDoorW.PrintWords Go.Proofs.YtgplgphchdgedaaDoorW.PrintLast Go.Proofs.YtgplgphchdgedaaDoorW.PrintMore Go.Proofs.YtgplgphchdgedaaDoor.Pl Go.Proofs.YtgplgphchdgedaaDoor.Ext
set_option linter.unusedVariables false
set_option linter.unusedSimpArgs false
set_option maxHeartbeats 1000000 in
set_option maxRecDepth 100000 in
theorem bld_used (b : Nat) (w : World) (h0 : w.cell? ⟨b, 0, none⟩ = some (.pointer (some ⟨b, 0, none⟩))) : Calls Tryd.prog 59 #[.pointer (some ⟨b, 0, none⟩)] w fun e w' => e = .returned (.tuple #[]) ∧ w' = w := by
  obtain ⟨j, hj, _⟩ := Option.map_eq_some_iff.1 Tryd.Builder_Extra_169.sizeBuilder
  go_enter Tryd.func59, Tryd.ntmps59
  go_wp2
  rw [Lib.run_neq_ptr_same w _ Tryd.underlying61 hj]
  go_wp2
  go_end0
  exact ⟨rfl, rfl⟩
set_option maxHeartbeats 1000000 in
set_option maxRecDepth 100000 in
theorem bld_fresh (b : Nat) (w : World) (h0 : w.cell? ⟨b, 0, none⟩ = some (.pointer none)) (hsh : w.shape? b = some (64, 2)) (hfz : w.frozen? ⟨b, 0, none⟩ = false) : Calls Tryd.prog 59 #[.pointer (some ⟨b, 0, none⟩)] w fun e w' => e = .returned (.tuple #[]) ∧ w' = w.setCell ⟨b, 0, none⟩ (.pointer (some ⟨b, 0, none⟩)) := by
  obtain ⟨j, hj, hjs⟩ := Option.map_eq_some_iff.1 Tryd.Builder_Extra_169.sizeBuilder
  go_enter Tryd.func59, Tryd.ntmps59
  go_wp2
  rw [Lib.run_to_unsafe w ⟨b, 0, none⟩ Tryd.underlying61 Tryd.underlying92 hj (by rw [hjs]; decide) hsh (Nat.zero_lt_succ 1)]
  simp only [Result.andThen]
  rw [Oper.upon_value]
  go_wp2
  rw [run_callFunc_extern Tryd.func72 (by kernel_rfl) (by kernel_rfl) (by kernel_rfl) (e := Extern.AbiNoEscape.same) (by kernel_rfl)]
  rw [Lib.run_noEscape]
  simp only [Result.andThen]
  rw [Oper.upon_value]
  go_wp2
  rw [Lib.run_from_unsafe w ⟨b, 0, none⟩ Tryd.underlying92 Tryd.underlying61 hj hsh Tryd.Builder_Extra_169.liesBuilder]
  simp only [Result.andThen]
  rw [Oper.upon_value]
  go_wp2
  go_end0
  exact ⟨rfl, rfl⟩
theorem bld_check (B b : Nat) (bs : List Value) (w : World) (h : Lib.IsBuilderF 64 5 B b bs w) : Calls Tryd.prog 59 #[.pointer (some ⟨b, 0, none⟩)] w fun e w' => e = .returned (.tuple #[]) ∧ Lib.BuilderAtF 64 5 B b (.pointer (some ⟨b, 0, none⟩)) bs w' ∧ Below B w w' ∧ Lib.OthersKept 5 (some b) w w' := by
  rcases h with h | h
  · refine (bld_fresh b w h.cell0 h.shape h.frozen0).mono ?_
    rintro e w' ⟨rfl, rfl⟩
    exact ⟨rfl, h.used _, (Below.refl B w).setCell (p := ⟨b, 0, none⟩) h.1 _, (Lib.OthersKept.refl _ _ w).setCell ⟨b, 0, none⟩ rfl _⟩
  · refine (bld_used b w h.cell0).mono ?_
    rintro e w' ⟨rfl, rfl⟩
    exact ⟨rfl, h, Below.refl B _, Lib.OthersKept.refl _ _ _⟩
set_option maxHeartbeats 2000000 in
set_option maxRecDepth 100000 in
theorem bld_write (B b : Nat) (bs : List Value) (s : ByteArray) (w : World) (h : Lib.IsBuilderF 64 5 B b bs w) (hlen : bs.length + s.size ≤ 140737488355328) (hBw : B ≤ w.heap.size) :
    Calls Tryd.prog 42 #[.pointer (some ⟨b, 0, none⟩), .string s] w fun e w' => e = .returned (.tuple #[.int .i64 s.size, .nilIface]) ∧ Lib.IsBuilderF 64 5 B b (bs ++ Lib.strCells s) w' ∧ Below B w w' ∧ Lib.OthersKept 5 (some b) w w' := by
  obtain ⟨i0, hi, hz0, hz1, hz2⟩ := info_parts Tryd.Builder_Extra_169.infoByte
  go_enter Tryd.func42, Tryd.ntmps42
  go_wp2_with (fail)
  refine (bld_check B b bs _ h).mono ?_
  rintro e w1 ⟨rfl, h1, hb1, hk1⟩
  (try refine ⟨_, rfl, ?_⟩)
  obtain ⟨hB, v, hbk, hown, hne⟩ := h1
  have c0 : w1.cell? ⟨b, 0, none⟩ = some (.pointer (some ⟨b, 0, none⟩)) := by rw [Lib.cell_of_heap hbk]; rfl
  have c1 : w1.cell? ⟨b, 1, none⟩ = some v := by rw [Lib.cell_of_heap hbk]; rfl
  go_wp2_with (at_builtin; refine Lib.wpList_append_own_stringF _ rfl _ _ 62 9 rfl B 5 i0 Tryd.underlying62 Tryd.underlying9 hi hz0 hz1 hz2 _ _ _ rfl hown s rfl ?c3 ?c4 ?c5 ?_)
  case c3 => unfold maxLen; omega
  case c4 => omega
  case c5 => have := hb1.size; omega
  intro v' w2 hown' hgrow _
  have hlt : b < w1.heap.size := by
    rcases Nat.lt_or_ge b w1.heap.size with h' | h'
    · exact h'
    · simp [Array.getElem?_eq_none h'] at hbk
  have hb2 : w2.heap[b]? = some (.cells #[.pointer (some ⟨b, 0, none⟩), v] 64 (0, 0)) := by
    rw [hgrow.block b hlt (fun e => hne e.symm)]
    exact hbk
  have d0 : w2.cell? ⟨b, 0, none⟩ = some (.pointer (some ⟨b, 0, none⟩)) := by rw [Lib.cell_of_heap hb2]; rfl
  have d1 : w2.cell? ⟨b, 1, none⟩ = some v := by rw [Lib.cell_of_heap hb2]; rfl
  have f1 : w2.frozen? ⟨b, 1, none⟩ = false := Lib.frozen_of_heap hb2 1
  obtain ⟨ao, n', cap, rfl⟩ : ∃ ao n' cap, v' = .slice ao n' cap := by
    rcases hown'.2 with ⟨hv, _⟩ | ⟨g, cap, cur, fz, hv, _⟩
    · exact ⟨_, _, _, hv⟩
    · exact ⟨_, _, _, hv⟩
  go_wp2
  go_ret2
  refine ⟨rfl, .inr ?_, ?_, (hk1.grown hgrow (Lib.ownsRowF_kind hown)).setCell ⟨b, 1, none⟩ rfl _⟩
  · exact Lib.BuilderAtF.put (T := 64) (e := 5) hB hb2 (bs' := bs ++ Lib.strCells s) (by simpa [Lib.strCells_length] using hown') Tryd.Builder_Extra_169.neB5
  · exact (hb1.grown hgrow (by have := hb1.size; omega) (fun k hk => (hown.lt k hk).1)).setCell (p := ⟨b, 1, none⟩) hB _
end Go.Proofs.YtgplgphchdgedaaDoor.Px
end
section
namespace Go.Proofs.YtgplgphchdgedaaDoor.Px
open Go.RowKit Go.Proofs.YtgplgphchdgedaaDoorW.PrintWords Go.Proofs.YtgplgphchdgedaaDoorW.PrintLast Go.Proofs.YtgplgphchdgedaaDoor.Pl Go.Proofs.YtgplgphchdgedaaDoor.Ext
set_option linter.unusedVariables false
set_option linter.unusedSimpArgs false
theorem tmod10 (u : Nat) : Int.tmod (u : Int) 10 = ((u % 10 : Nat) : Int) := rfl
theorem tdiv10 (u : Nat) : Int.tdiv (u : Int) 10 = ((u / 10 : Nat) : Int) := rfl
theorem tmod10n (u : Nat) : Int.tmod (-(u : Int)) 10 = -((u % 10 : Nat) : Int) := by rw [Int.neg_tmod, tmod10]
theorem tdiv10n (u : Nat) : Int.tdiv (-(u : Int)) 10 = -((u / 10 : Nat) : Int) := by rw [Int.neg_tdiv, tdiv10]
theorem baExt {a b : ByteArray} (h : a.data.toList = b.data.toList) : a = b := by
  cases a with | mk a => cases b with | mk b =>
  congr 1
  exact Array.toList_inj.1 h
theorem baApp (a b : ByteArray) : (a ++ b).data.toList = a.data.toList ++ b.data.toList := by simp
theorem digitB (d : Nat) (h : d < 10) : strOfNums [(wrap64 (48 + (d : Int))) % 256] = ⟨#[UInt8.ofNat (48 + d)]⟩ := by
  rw [w64 (by omega) (by omega)]
  have : ((48 + (d : Int)) % 256).toNat = 48 + d := by omega
  simp [strOfNums, this]
theorem dd10 (u : Nat) (h : u ≠ 0) : (if u / 10 = 0 then [] else Lib.decDigits (u / 10)) ++ [UInt8.ofNat (48 + u % 10)] = Lib.decDigits u := by
  by_cases h10 : u < 10
  · rw [if_pos (by omega), Lib.decDigits, dif_pos h10, Nat.mod_eq_of_lt h10]; rfl
  · rw [if_neg (by omega)]
    conv => rhs; rw [Lib.decDigits, dif_neg h10]
/-- What the reference's loop has when it stands at a number. -/
def outI (u : Nat) (neg : Bool) (out : ByteArray) : ByteArray := ⟨((if neg = true then [45] else []) ++ (if u = 0 then [] else Lib.decDigits u) ++ out.data.toList).toArray⟩
theorem outI_step (u : Nat) (neg : Bool) (out : ByteArray) (h : u ≠ 0) : outI (u / 10) neg ((⟨#[UInt8.ofNat (48 + u % 10)]⟩ : ByteArray) ++ out) = outI u neg out := by
  apply baExt
  simp only [outI]
  rw [if_neg h, ← dd10 u h, baApp]
  simp [List.append_assoc]
theorem intLoop_zero (neg : Bool) (out : ByteArray) (h : out.size ≤ 1000) : Ev (fun k => spec_FormatInt.l0 k 0 neg out) (outI 0 neg out) := by
  refine Ev.up ?_
  simp only [spec_FormatInt.l0]
  refine Ev.pos trivial (Ev.cases (fun hn => ?_) (fun hn => ?_))
  · refine Ev.pos (by omega) (Ev.const ?_)
    apply baExt
    rw [baApp]
    simp [outI, hn]
  · refine Ev.const ?_
    apply baExt
    simp [outI, hn]
theorem intLoop_ev : ∀ (n u : Nat) (x : Int) (neg : Bool) (out : ByteArray), (x = (u : Int) ∨ x = -(u : Int)) → u < 10 ^ n → u ≤ 9223372036854775808 → (x = (u : Int) → u ≤ 9223372036854775807) → out.size + n ≤ 1000 → Ev (fun k => spec_FormatInt.l0 k x neg out) (outI u neg out) := by
  intro n
  induction n with
  | zero =>
    intro u x neg out hx hu _ _ ho
    have h0 : u = 0 := by omega
    subst h0
    have : x = 0 := by omega
    subst this
    exact intLoop_zero neg out (by omega)
  | succ n ih =>
    intro u x neg out hx hu hb hb2 ho
    by_cases h0 : u = 0
    · subst h0
      have : x = 0 := by omega
      subst this
      exact intLoop_zero neg out (by omega)
    have h10 : u / 10 < 10 ^ n := by rw [Nat.pow_succ] at hu; omega
    have hs : ((⟨#[UInt8.ofNat (48 + u % 10)]⟩ : ByteArray) ++ out).size = 1 + out.size := by rw [ByteArray.size_append]; rfl
    have hs1 : (⟨#[UInt8.ofNat (48 + u % 10)]⟩ : ByteArray).size = 1 := rfl
    refine Ev.up ?_
    simp only [spec_FormatInt.l0]
    refine Ev.neg (by omega) ?_
    by_cases hx0 : x < 0
    · have ex : x = -(u : Int) := by omega
      subst ex
      have ih' := ih (u / 10) (-((u / 10 : Nat) : Int)) neg ((⟨#[UInt8.ofNat (48 + u % 10)]⟩ : ByteArray) ++ out) (Or.inr rfl) h10 (by omega) (by omega) (by rw [hs]; omega)
      rw [outI_step u neg out h0] at ih'
      rw [tmod10n, tdiv10n, Int.neg_neg]
      have wd : wrap64 (-((u / 10 : Nat) : Int)) = -((u / 10 : Nat) : Int) := w64 (by omega) (by omega)
      have wm : wrap64 ((u % 10 : Nat) : Int) = ((u % 10 : Nat) : Int) := w64 (by omega) (by omega)
      rw [wd, wm]
      refine Ev.cases (fun hc => ?_) (fun hc => ?_)
      · simp only [Option.bind_some]
        rw [digitB _ (Nat.mod_lt _ (by decide))]
        exact Ev.pos (by rw [hs1]; omega) ih'
      · have e0 : u % 10 = 0 := by omega
        have e1 : (-((u % 10 : Nat) : Int)) = ((u % 10 : Nat) : Int) := by omega
        rw [e1]
        simp only [Option.bind_some]
        rw [digitB _ (Nat.mod_lt _ (by decide))]
        exact Ev.pos (by rw [hs1]; omega) ih'
    · have ex : x = (u : Int) := by omega
      subst ex
      have ih' := ih (u / 10) ((u / 10 : Nat) : Int) neg ((⟨#[UInt8.ofNat (48 + u % 10)]⟩ : ByteArray) ++ out) (Or.inl rfl) h10 (by omega) (by omega) (by rw [hs]; omega)
      rw [outI_step u neg out h0] at ih'
      have hb3 := hb2 rfl
      rw [tmod10, tdiv10]
      have wd : wrap64 ((u / 10 : Nat) : Int) = ((u / 10 : Nat) : Int) := w64 (by omega) (by omega)
      rw [wd]
      refine Ev.neg (by omega) ?_
      simp only [Option.bind_some]
      rw [digitB _ (Nat.mod_lt _ (by decide))]
      exact Ev.pos (by rw [hs1]; omega) ih'
/-- A number's text. -/
def itB (x : Int) : ByteArray := ⟨(Lib.itoa x).toArray⟩
theorem spec_FormatInt_ev (x : Int) (h0 : -9223372036854775808 ≤ x) (h1 : x ≤ 9223372036854775807) : Ev (fun k => spec_FormatInt.f k x) (itB x) := by
  simp only [spec_FormatInt.f]
  refine Ev.cases (fun hx => Ev.const ?_) (fun hx => ?_)
  · subst hx
    simp [itB, Lib.itoa, Lib.decDigits]
  · have h := intLoop_ev 20 x.natAbs x (decide (x < 0)) (⟨#[]⟩ : ByteArray) (by omega) (by omega) (by omega) (by omega) (by decide)
    have e : outI x.natAbs (decide (x < 0)) (⟨#[]⟩ : ByteArray) = itB x := by
      apply baExt
      simp only [outI, itB, Lib.itoa]
      rw [if_neg (show ¬ x.natAbs = 0 by omega)]
      by_cases hn : x < 0
      · simp [hn]
      · have : x.natAbs = x.toNat := by omega
        simp [hn, this]
    rw [e] at h
    exact h
theorem impl_FormatInt_eq (x : Int) (h0 : -9223372036854775808 ≤ x) (h1 : x ≤ 9223372036854775807) : impl_FormatInt.f x = some (itB x) := by
  simp only [impl_FormatInt.f, strconv_Itoa_60.f]
  rw [if_pos ⟨h0, h1⟩]
  rfl
theorem itB_size (x : Int) (h0 : -9223372036854775808 ≤ x) (h1 : x ≤ 9223372036854775807) : (itB x).size ≤ 21 := by
  have := Lib.itoa_length_le x h0 h1
  simpa [itB, ByteArray.size] using this
end Go.Proofs.YtgplgphchdgedaaDoor.Px
end
