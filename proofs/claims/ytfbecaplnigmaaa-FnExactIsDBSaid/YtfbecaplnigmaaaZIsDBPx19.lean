/- Printed by a program of this session: what functions of the translation come to, each contract as it stands. No condition. -/
import Derived.Test.YtfbecaplnigmaaaZIsDBSh
import Derived.Test.YtfbecaplnigmaaaZIsDBPx0M
import Derived.Test.YtfbecaplnigmaaaZIsDBPx18
namespace Go.Proofs.Ytfbecaplnigmaaa.Px
set_option maxHeartbeats 8000000
set_option maxRecDepth 100000
open Go.RowKit Go.Proofs.Ytfbecaplnigmaaa.Ext Go.Proofs.YtfbecaplnigmaaaW.PrintWords Go.Proofs.YtfbecaplnigmaaaW.PrintLast Go.Proofs.YtfbecaplnigmaaaW.PrintMore
attribute [local go_sem] max2_int min2_int max_two min_two max_three min_three max_four min_four   -- for this text's walks alone
set_option linter.unusedVariables false
set_option linter.unusedSimpArgs false

mutual
def impl_fits.j0 : Nat → Bool → List (S56) → List (S51) → Option (Bool)
 | 0, _, _, _ => none
 | k + 1, x99, x703, x722 => if x99 = true then (some false) else (impl_fits.l0 k (x703.length : Int) 0 x703 x722)
def impl_fits.l0 : Nat → Int → Int → List (S56) → List (S51) → Option (Bool)
 | 0, _, _, _, _ => none
 | k + 1, x104, x105, x703, x722 => if x105 < x104 then (if 0 ≤ x105 then (if x105 < (x703.length : Int) then (if x105 < (x722.length : Int) then ((impl_fits.f k ((rd_T56 x703 x105).f0) ((rd_T56 x703 x105).f1) ((rd_T56 x703 x105).f2) ((rd_T56 x703 x105).f3) ((rd_T51 x722 x105).f0) ((rd_T51 x722 x105).f1) ((rd_T51 x722 x105).f2)).bind fun t353 => (if t353 = true then (impl_fits.l0 k x104 (wrap64 (x105 + 1)) x703 x722) else (some false))) else (none)) else (none)) else (none)) else (some true)
def impl_fits.f : Nat → Int → Int → List ByteArray → List (S56) → Int → List ByteArray → List (S51) → Option (Bool)
 | 0, _, _, _, _, _, _, _ => none
 | k + 1, a0_0, a0_1, l0_2, l0_3, a1_0, l1_1, l1_2 => if a1_0 = 1 then (if a0_0 = 1 then ((impl_plainOk.f a0_0 a0_1 l0_2 l0_3).bind fun t347 => (some t347)) else (some false)) else (if a1_0 = 2 then (if a0_0 = 2 then ((impl_plainOk.f a0_0 a0_1 l0_2 l0_3).bind fun t348 => (some t348)) else (some false)) else (if a1_0 = 4 then (if a0_0 = 4 then (if a0_1 = 0 then (if (l0_2.length : Int) = 0 then ((slices_ContainsFunc_Value_of_fits_1.f k l0_3 a1_0 l1_1 l1_2).bind fun t349 => (some (!t349))) else (some false)) else (some false)) else (some false)) else (if a0_0 = 3 then (if a0_1 = 0 then ((slices_Equal_string.f k l0_2 l1_1).bind fun t350 => (if t350 = true then (impl_fits.j0 k ((l0_3.length : Int) != (l1_2.length : Int)) l0_3 l1_2) else (impl_fits.j0 k true l0_3 l1_2))) else (impl_fits.j0 k true l0_3 l1_2)) else (impl_fits.j0 k true l0_3 l1_2))))
def impl_fits_1.f : Nat → Int → Int → List ByteArray → List (S56) → Int → List ByteArray → List (S51) → Option (Bool)
 | 0, _, _, _, _, _, _, _ => none
 | k + 1, a0_0, a0_1, l0_2, l0_3, a1_0, l1_1, l1_2 => if 0 < (l1_2.length : Int) then ((impl_fits.f k a0_0 a0_1 l0_2 l0_3 ((rd_T51 l1_2 0).f0) ((rd_T51 l1_2 0).f1) ((rd_T51 l1_2 0).f2)).bind fun t356 => (some (!t356))) else (none)
def slices_ContainsFunc_Value_of_fits_1.f : Nat → List (S56) → Int → List ByteArray → List (S51) → Option (Bool)
 | 0, _, _, _, _ => none
 | k + 1, l0, a1_0, l1_1, l1_2 => (slices_IndexFunc_Value_of_fits_1.f k l0 a1_0 l1_1 l1_2).bind fun t357 => (some (decide (t357 ≥ 0)))
def slices_IndexFunc_Value_of_fits_1.l0 : Nat → List (S56) → Int → Int → Int → List ByteArray → List (S51) → Option (Int)
 | 0, _, _, _, _, _, _ => none
 | k + 1, x0, x7, x8, x720, x721, x722 => if x8 < x7 then (if 0 ≤ x8 then (if x8 < (x0.length : Int) then ((impl_fits_1.f k ((rd_T56 x0 x8).f0) ((rd_T56 x0 x8).f1) ((rd_T56 x0 x8).f2) ((rd_T56 x0 x8).f3) x720 x721 x722).bind fun t359 => (if t359 = true then (some x8) else (slices_IndexFunc_Value_of_fits_1.l0 k x0 x7 (wrap64 (x8 + 1)) x720 x721 x722))) else (none)) else (none)) else (some (-1))
def slices_IndexFunc_Value_of_fits_1.f : Nat → List (S56) → Int → List ByteArray → List (S51) → Option (Int)
 | 0, _, _, _, _ => none
 | k + 1, l0, a1_0, l1_1, l1_2 => slices_IndexFunc_Value_of_fits_1.l0 k l0 (l0.length : Int) 0 a1_0 l1_1 l1_2
end
/-! ### impl_fits: function 39 -/
def impl_fits.T8 : Bool × List (List Nat × List Nat) := (true, [([], []), ([0], [0]), ([1], [1]), ([2], [2]), ([3], [3]), ([4], [4]), ([5], [5]), ([6, 5], [5, 6]), ([7, 5], [5, 7]), ([8, 5], [5, 8]), ([9, 5], [5, 9]), ([5, 10], [5, 10]), ([11, 5], [11]), ([12], [12]), ([13, 12], [12, 13]), ([14, 12], [12, 14]), ([15, 12], [12, 15]), ([12], [12]), ([17, 12], [12, 17]), ([18, 12], [12, 18]), ([19, 12], [12, 19]), ([16, 20, 12, 12], [12, 16, 20]), ([21, 12], [12, 21]), ([12, 22], [12, 22]), ([23, 21], [23]), ([24], [24]), ([25, 24], [24, 25]), ([26, 24], [24, 26]), ([27, 24], [24, 27]), ([28, 24], [24, 28]), ([24], [24]), ([30, 24], [24, 30]), ([31, 24], [24, 31]), ([32, 24], [24, 32]), ([33, 24], [24, 33]), ([29, 34, 24], [24, 29, 34]), ([24, 35], [24, 35])])
def impl_fits.B8 : List Nat := [0, 1, 3, 7, 15, 31, 63, 127, 255, 511, 1023, 2047, 4095, 8191, 16383, 32767, 65535, 8191, 139263, 401407, 925695, 2097151, 4194303, 8388607, 16777215, 33554431, 67108863, 134217727, 268435455, 536870911, 33554431, 1107296255, 3254779903, 7549747199, 16139681791, 34359738367, 68719476735]
theorem impl_fits.tab8 : rtab .any (opsOf Try.f39 8) = impl_fits.T8 := by kernel_rfl
theorem impl_fits.bits8 : waitsOk impl_fits.T8.2 impl_fits.B8 = true := by kernel_rfl
def impl_fits.T13 : Bool × List (List Nat × List Nat) := (true, [([], []), ([0], [0]), ([1], [1]), ([2], [2]), ([], []), ([3, 4], [3, 4]), ([], []), ([6], [6]), ([7], [7]), ([8], [8]), ([], []), ([9, 10], [9, 10]), ([5, 11], [5, 11]), ([12], [12])])
def impl_fits.B13 : List Nat := [0, 1, 3, 7, 0, 31, 0, 64, 192, 448, 0, 1984, 4095, 8191]
theorem impl_fits.tab13 : rtab .any (opsOf Try.f39 13) = impl_fits.T13 := by kernel_rfl
theorem impl_fits.bits13 : waitsOk impl_fits.T13.2 impl_fits.B13 = true := by kernel_rfl
theorem impl_fits.step (k : Nat) (ih : ∀ m, m < k → ∀ (ad0 : Addr) (a0_0 : Int) (a0_1 : Int) (A0_2 : Option Addr) (c0_2 : Nat) (l0_2 : List ByteArray) (A0_3 : Option Addr) (c0_3 : Nat) (l0_3 : List (S56)) (ad1 : Addr) (a1_0 : Int) (A1_1 : Option Addr) (c1_1 : Nat) (l1_1 : List ByteArray) (A1_2 : Option Addr) (c1_2 : Nat) (l1_2 : List (S51)) (r : Bool) (w : World) (hp0 : Cells w ad0 [.int .i64 a0_0, .int .i64 a0_1, .slice A0_2 l0_2.length c0_2, .slice A0_3 l0_3.length c0_3]) (hr0_2 : Kd.C Kd.string w A0_2 l0_2.length l0_2) (hc0_2 : l0_2.length ≤ c0_2) (hr0_3 : Kd.C k56 w A0_3 l0_3.length l0_3) (hc0_3 : l0_3.length ≤ c0_3) (hp1 : Cells w ad1 [.int .i64 a1_0, .slice A1_1 l1_1.length c1_1, .slice A1_2 l1_2.length c1_2]) (hr1_1 : Kd.C Kd.string w A1_1 l1_1.length l1_1) (hc1_1 : l1_1.length ≤ c1_1) (hr1_2 : Kd.C k51 w A1_2 l1_2.length l1_2) (hc1_2 : l1_2.length ≤ c1_2) (h : impl_fits.f m a0_0 a0_1 l0_2 l0_3 a1_0 l1_1 l1_2 = some r),
  Calls Try.prog 39 #[.pointer (some ad0), .pointer (some ad1)] w fun e w' => e = .returned (.bool r) ∧ Below w.heap.size w w') (ih_60 : ∀ m, m < k → ∀ (a0_0 : Int) (a0_1 : Int) (A0_2 : Option Addr) (c0_2 : Nat) (l0_2 : List ByteArray) (A0_3 : Option Addr) (c0_3 : Nat) (l0_3 : List (S56)) (av1 : Addr) (ad1 : Addr) (a1_0 : Int) (A1_1 : Option Addr) (c1_1 : Nat) (l1_1 : List ByteArray) (A1_2 : Option Addr) (c1_2 : Nat) (l1_2 : List (S51)) (r : Bool) (w : World) (hr0_2 : Kd.C Kd.string w A0_2 l0_2.length l0_2) (hc0_2 : l0_2.length ≤ c0_2) (hr0_3 : Kd.C k56 w A0_3 l0_3.length l0_3) (hc0_3 : l0_3.length ≤ c0_3) (hp1 : Cells w ad1 [.int .i64 a1_0, .slice A1_1 l1_1.length c1_1, .slice A1_2 l1_2.length c1_2]) (hq1 : Cells w av1 [.pointer (some ad1)]) (hr1_1 : Kd.C Kd.string w A1_1 l1_1.length l1_1) (hc1_1 : l1_1.length ≤ c1_1) (hr1_2 : Kd.C k51 w A1_2 l1_2.length l1_2) (hc1_2 : l1_2.length ≤ c1_2) (h : impl_fits_1.f m a0_0 a0_1 l0_2 l0_3 a1_0 l1_1 l1_2 = some r),
  Calls Try.prog 60 #[.agg #[.int .i64 a0_0, .int .i64 a0_1, .slice A0_2 l0_2.length c0_2, .slice A0_3 l0_3.length c0_3], .pointer (some av1)] w fun e w' => e = .returned (.bool r) ∧ Below w.heap.size w w') (ih_105 : ∀ m, m < k → ∀ (A0 : Option Addr) (c0 : Nat) (l0 : List (S56)) (av1 : Addr) (ad1 : Addr) (a1_0 : Int) (A1_1 : Option Addr) (c1_1 : Nat) (l1_1 : List ByteArray) (A1_2 : Option Addr) (c1_2 : Nat) (l1_2 : List (S51)) (r : Bool) (w : World) (hr0 : Kd.C k56 w A0 l0.length l0) (hc0 : l0.length ≤ c0) (hp1 : Cells w ad1 [.int .i64 a1_0, .slice A1_1 l1_1.length c1_1, .slice A1_2 l1_2.length c1_2]) (hq1 : Cells w av1 [.pointer (some ad1)]) (hr1_1 : Kd.C Kd.string w A1_1 l1_1.length l1_1) (hc1_1 : l1_1.length ≤ c1_1) (hr1_2 : Kd.C k51 w A1_2 l1_2.length l1_2) (hc1_2 : l1_2.length ≤ c1_2) (h : slices_ContainsFunc_Value_of_fits_1.f m l0 a1_0 l1_1 l1_2 = some r),
  Calls Try.prog 19 #[.slice A0 l0.length c0, .func (.func 60) #[] #[.pointer (some av1)]] w fun e w' => e = .returned (.bool r) ∧ Below w.heap.size w w') (ih_106 : ∀ m, m < k → ∀ (A0 : Option Addr) (c0 : Nat) (l0 : List (S56)) (av1 : Addr) (ad1 : Addr) (a1_0 : Int) (A1_1 : Option Addr) (c1_1 : Nat) (l1_1 : List ByteArray) (A1_2 : Option Addr) (c1_2 : Nat) (l1_2 : List (S51)) (r : Int) (w : World) (hr0 : Kd.C k56 w A0 l0.length l0) (hc0 : l0.length ≤ c0) (hp1 : Cells w ad1 [.int .i64 a1_0, .slice A1_1 l1_1.length c1_1, .slice A1_2 l1_2.length c1_2]) (hq1 : Cells w av1 [.pointer (some ad1)]) (hr1_1 : Kd.C Kd.string w A1_1 l1_1.length l1_1) (hc1_1 : l1_1.length ≤ c1_1) (hr1_2 : Kd.C k51 w A1_2 l1_2.length l1_2) (hc1_2 : l1_2.length ≤ c1_2) (h : slices_IndexFunc_Value_of_fits_1.f m l0 a1_0 l1_1 l1_2 = some r),
  Calls Try.prog 36 #[.slice A0 l0.length c0, .func (.func 60) #[] #[.pointer (some av1)]] w fun e w' => e = .returned (.int .i64 r) ∧ Below w.heap.size w w') : ∀ (ad0 : Addr) (a0_0 : Int) (a0_1 : Int) (A0_2 : Option Addr) (c0_2 : Nat) (l0_2 : List ByteArray) (A0_3 : Option Addr) (c0_3 : Nat) (l0_3 : List (S56)) (ad1 : Addr) (a1_0 : Int) (A1_1 : Option Addr) (c1_1 : Nat) (l1_1 : List ByteArray) (A1_2 : Option Addr) (c1_2 : Nat) (l1_2 : List (S51)) (r : Bool) (w : World) (hp0 : Cells w ad0 [.int .i64 a0_0, .int .i64 a0_1, .slice A0_2 l0_2.length c0_2, .slice A0_3 l0_3.length c0_3]) (hr0_2 : Kd.C Kd.string w A0_2 l0_2.length l0_2) (hc0_2 : l0_2.length ≤ c0_2) (hr0_3 : Kd.C k56 w A0_3 l0_3.length l0_3) (hc0_3 : l0_3.length ≤ c0_3) (hp1 : Cells w ad1 [.int .i64 a1_0, .slice A1_1 l1_1.length c1_1, .slice A1_2 l1_2.length c1_2]) (hr1_1 : Kd.C Kd.string w A1_1 l1_1.length l1_1) (hc1_1 : l1_1.length ≤ c1_1) (hr1_2 : Kd.C k51 w A1_2 l1_2.length l1_2) (hc1_2 : l1_2.length ≤ c1_2) (h : impl_fits.f k a0_0 a0_1 l0_2 l0_3 a1_0 l1_1 l1_2 = some r),
  Calls Try.prog 39 #[.pointer (some ad0), .pointer (some ad1)] w fun e w' => e = .returned (.bool r) ∧ Below w.heap.size w w' := by
 intro ad0 a0_0 a0_1 A0_2 c0_2 l0_2 A0_3 c0_3 l0_3 ad1 a1_0 A1_1 c1_1 l1_1 A1_2 c1_2 l1_2 r w hp0 hr0_2 hc0_2 hr0_3 hc0_3 hp1 hr1_1 hc1_1 hr1_2 hc1_2 h
 cases k with
 | zero => exact absurd h (by simp [impl_fits.f])
 | succ k =>
 simp only [impl_fits.f] at h
 have hu84 := Try.underlying84
 have HP0 := Aside0.mk hp0
 clear hp0
 have HR0_2 := Aside0.mk hr0_2
 have HC0_2 := Aside0.mk hc0_2
 clear hr0_2 hc0_2
 have HR0_3 := Aside0.mk hr0_3
 have HC0_3 := Aside0.mk hc0_3
 clear hr0_3 hc0_3
 have HP1 := Aside0.mk hp1
 clear hp1
 have HR1_1 := Aside0.mk hr1_1
 have HC1_1 := Aside0.mk hc1_1
 clear hr1_1 hc1_1
 have HR1_2 := Aside0.mk hr1_2
 have HC1_2 := Aside0.mk hc1_2
 clear hr1_2 hc1_2
 have HB := Aside0.mk (Below.refl w.heap.size w)
 have H : (if a1_0 = 1 then (if a0_0 = 1 then ((impl_plainOk.f a0_0 a0_1 l0_2 l0_3).bind fun t347 => (some t347)) else (some false)) else (if a1_0 = 2 then (if a0_0 = 2 then ((impl_plainOk.f a0_0 a0_1 l0_2 l0_3).bind fun t348 => (some t348)) else (some false)) else (if a1_0 = 4 then (if a0_0 = 4 then (if a0_1 = 0 then (if (l0_2.length : Int) = 0 then ((slices_ContainsFunc_Value_of_fits_1.f k l0_3 a1_0 l1_1 l1_2).bind fun t349 => (some (!t349))) else (some false)) else (some false)) else (some false)) else (if a0_0 = 3 then (if a0_1 = 0 then ((slices_Equal_string.f k l0_2 l1_1).bind fun t350 => (if t350 = true then (impl_fits.j0 k ((l0_3.length : Int) != (l1_2.length : Int)) l0_3 l1_2) else (impl_fits.j0 k true l0_3 l1_2))) else (impl_fits.j0 k true l0_3 l1_2)) else (impl_fits.j0 k true l0_3 l1_2))))) = some r := h
 clear h
 by_cases c3 : a1_0 = 1
 ·rw [if_pos c3] at H
  have c3b0 : (a1_0 == 1) = true := beq_iff_eq.mpr c3
  have c3b1 : (a1_0 != 1) = false := bne_eq_false_iff_eq.mpr c3
  clear c3
  by_cases c4 : a0_0 = 1
  case neg =>
   rw [if_neg c4] at H
   have c4b0 : (a0_0 == 1) = false := beq_eq_false_iff_ne.mpr c4
   have c4b1 : (a0_0 != 1) = true := bne_iff_ne.mpr c4
   obtain rfl := Option.some.inj H
   go_enter Try.func39, Try.ntmps39
   go_wp2_with (first | ((with_reducible refine gate_dst (N := 3) rfl ?_); (try (refine gate_guard (by rfl) ?_; dsimp only)); refine box_event ?hg (N := 3) ?hd (cs := #[.pointer (some ad1)]) (t := 84) ?hr ?_; (case hd => rfl); (case hg => rfl); (case hr => exact hrw); intro gb346 hg w10 hbox hb; have n0_ := Aside0.mk (below_step blw hb); have n1_ := Aside0.mk (hbox); have n2_ := Aside0.mk ((by rw [hg]; exact (below_size blw) : w.heap.size ≤ gb346)); have n3_ := n2_; clear HB; revert n0_ n1_ n2_ n3_; intro HB BK346 GW346 GE346; clear hb hbox hg; have hcz11_0 : w10.cell? ⟨gb346, 0, none⟩ = some (.pointer (some ad1)) := (blk_cell BK346.out 0).trans rfl; have hfz11_0 := blk_frozen BK346.out 0; have hxr12_0 : w10.cell? ad1 = some (.int .i64 a1_0) := pw_cell_below HB.out (HP1.out.1); have hxr12_1 : w10.cell? ⟨ad1.block, ad1.off + 1, none⟩ = some (.slice A1_1 l1_1.length c1_1) := pw_cell_below HB.out (HP1.out.2.1); have hxr12_2 : w10.cell? ⟨ad1.block, ad1.off + 2, none⟩ = some (.slice A1_2 l1_2.length c1_2) := pw_cell_below HB.out (HP1.out.2.2.1); have hxr13_0 : w10.cell? ad0 = some (.int .i64 a0_0) := pw_cell_below HB.out (HP0.out.1); have hxr13_1 : w10.cell? ⟨ad0.block, ad0.off + 1, none⟩ = some (.int .i64 a0_1) := pw_cell_below HB.out (HP0.out.2.1); have hxr13_2 : w10.cell? ⟨ad0.block, ad0.off + 2, none⟩ = some (.slice A0_2 l0_2.length c0_2) := pw_cell_below HB.out (HP0.out.2.2.1); have hxr13_3 : w10.cell? ⟨ad0.block, ad0.off + 3, none⟩ = some (.slice A0_3 l0_3.length c0_3) := pw_cell_below HB.out (HP0.out.2.2.2.1)))
   go_ret
   exact ⟨rfw, blw⟩
  rw [if_pos c4] at H
  have c4b0 : (a0_0 == 1) = true := beq_iff_eq.mpr c4
  have c4b1 : (a0_0 != 1) = false := bne_eq_false_iff_eq.mpr c4
  clear c4
  replace H := Option.bind_eq_some_iff.mp H
  obtain ⟨t347, A50, H⟩ := H
  replace H : (some t347) = some r := H
  have A5 := Aside0.mk A50
  clear A50
  obtain rfl := Option.some.inj H
  go_enter Try.func39, Try.ntmps39
  go_wp2_with (first | ((with_reducible refine gate_dst (N := 3) rfl ?_); (try (refine gate_guard (by rfl) ?_; dsimp only)); refine box_event ?hg (N := 3) ?hd (cs := #[.pointer (some ad1)]) (t := 84) ?hr ?_; (case hd => rfl); (case hg => rfl); (case hr => exact hrw); intro gb346 hg w6 hbox hb; have n0_ := Aside0.mk (below_step blw hb); have n1_ := Aside0.mk (hbox); have n2_ := Aside0.mk ((by rw [hg]; exact (below_size blw) : w.heap.size ≤ gb346)); have n3_ := n2_; clear HB; revert n0_ n1_ n2_ n3_; intro HB BK346 GW346 GE346; clear hb hbox hg; have hcz7_0 : w6.cell? ⟨gb346, 0, none⟩ = some (.pointer (some ad1)) := (blk_cell BK346.out 0).trans rfl; have hfz7_0 := blk_frozen BK346.out 0; have hxr8_0 : w6.cell? ad1 = some (.int .i64 a1_0) := pw_cell_below HB.out (HP1.out.1); have hxr8_1 : w6.cell? ⟨ad1.block, ad1.off + 1, none⟩ = some (.slice A1_1 l1_1.length c1_1) := pw_cell_below HB.out (HP1.out.2.1); have hxr8_2 : w6.cell? ⟨ad1.block, ad1.off + 2, none⟩ = some (.slice A1_2 l1_2.length c1_2) := pw_cell_below HB.out (HP1.out.2.2.1); have hxr9_0 : w6.cell? ad0 = some (.int .i64 a0_0) := pw_cell_below HB.out (HP0.out.1); have hxr9_1 : w6.cell? ⟨ad0.block, ad0.off + 1, none⟩ = some (.int .i64 a0_1) := pw_cell_below HB.out (HP0.out.2.1); have hxr9_2 : w6.cell? ⟨ad0.block, ad0.off + 2, none⟩ = some (.slice A0_2 l0_2.length c0_2) := pw_cell_below HB.out (HP0.out.2.2.1); have hxr9_3 : w6.cell? ⟨ad0.block, ad0.off + 3, none⟩ = some (.slice A0_3 l0_3.length c0_3) := pw_cell_below HB.out (HP0.out.2.2.2.1)) | (go_at_call 59; (with_reducible refine (impl_plainOk.calls ad0 a0_0 a0_1 A0_2 c0_2 l0_2 A0_3 c0_3 l0_3 t347 _ ?side1 ?side2 ?side3 ?side4 ?side5 A5.out).mono ?_); (case side1 => repeat (first | exact (Cells_below HP0.out HB.out) | (with_reducible refine Cells_alloc ?_ _) | (with_reducible refine Cells_drewN ?_ _) | (with_reducible refine Cells_drew ?_))); (case side2 => have X_ := HR0_2; exact cbl); (case side3 => exact HC0_2.out); (case side4 => have X_ := HR0_3; exact cbl); (case side5 => exact HC0_3.out); rintro e w' ⟨rfl, ⟨nd, rfl⟩⟩))
  go_ret
  exact ⟨rfw, blw⟩
 rw [if_neg c3] at H
 have c3b0 : (a1_0 == 1) = false := beq_eq_false_iff_ne.mpr c3
 have c3b1 : (a1_0 != 1) = true := bne_iff_ne.mpr c3
 by_cases c14 : a1_0 = 2
 ·rw [if_pos c14] at H
  have c14b0 : (a1_0 == 2) = true := beq_iff_eq.mpr c14
  have c14b1 : (a1_0 != 2) = false := bne_eq_false_iff_eq.mpr c14
  clear c14
  by_cases c15 : a0_0 = 2
  case neg =>
   rw [if_neg c15] at H
   have c15b0 : (a0_0 == 2) = false := beq_eq_false_iff_ne.mpr c15
   have c15b1 : (a0_0 != 2) = true := bne_iff_ne.mpr c15
   obtain rfl := Option.some.inj H
   go_enter Try.func39, Try.ntmps39
   go_wp2_with (first | ((with_reducible refine gate_dst (N := 3) rfl ?_); (try (refine gate_guard (by rfl) ?_; dsimp only)); refine box_event ?hg (N := 3) ?hd (cs := #[.pointer (some ad1)]) (t := 84) ?hr ?_; (case hd => rfl); (case hg => rfl); (case hr => exact hrw); intro gb346 hg w21 hbox hb; have n0_ := Aside0.mk (below_step blw hb); have n1_ := Aside0.mk (hbox); have n2_ := Aside0.mk ((by rw [hg]; exact (below_size blw) : w.heap.size ≤ gb346)); have n3_ := n2_; clear HB; revert n0_ n1_ n2_ n3_; intro HB BK346 GW346 GE346; clear hb hbox hg; have hcz22_0 : w21.cell? ⟨gb346, 0, none⟩ = some (.pointer (some ad1)) := (blk_cell BK346.out 0).trans rfl; have hfz22_0 := blk_frozen BK346.out 0; have hxr23_0 : w21.cell? ad1 = some (.int .i64 a1_0) := pw_cell_below HB.out (HP1.out.1); have hxr23_1 : w21.cell? ⟨ad1.block, ad1.off + 1, none⟩ = some (.slice A1_1 l1_1.length c1_1) := pw_cell_below HB.out (HP1.out.2.1); have hxr23_2 : w21.cell? ⟨ad1.block, ad1.off + 2, none⟩ = some (.slice A1_2 l1_2.length c1_2) := pw_cell_below HB.out (HP1.out.2.2.1); have hxr24_0 : w21.cell? ad0 = some (.int .i64 a0_0) := pw_cell_below HB.out (HP0.out.1); have hxr24_1 : w21.cell? ⟨ad0.block, ad0.off + 1, none⟩ = some (.int .i64 a0_1) := pw_cell_below HB.out (HP0.out.2.1); have hxr24_2 : w21.cell? ⟨ad0.block, ad0.off + 2, none⟩ = some (.slice A0_2 l0_2.length c0_2) := pw_cell_below HB.out (HP0.out.2.2.1); have hxr24_3 : w21.cell? ⟨ad0.block, ad0.off + 3, none⟩ = some (.slice A0_3 l0_3.length c0_3) := pw_cell_below HB.out (HP0.out.2.2.2.1)))
   go_ret
   exact ⟨rfw, blw⟩
  rw [if_pos c15] at H
  have c15b0 : (a0_0 == 2) = true := beq_iff_eq.mpr c15
  have c15b1 : (a0_0 != 2) = false := bne_eq_false_iff_eq.mpr c15
  clear c15
  replace H := Option.bind_eq_some_iff.mp H
  obtain ⟨t348, A160, H⟩ := H
  replace H : (some t348) = some r := H
  have A16 := Aside0.mk A160
  clear A160
  obtain rfl := Option.some.inj H
  go_enter Try.func39, Try.ntmps39
  go_wp2_with (first | ((with_reducible refine gate_dst (N := 3) rfl ?_); (try (refine gate_guard (by rfl) ?_; dsimp only)); refine box_event ?hg (N := 3) ?hd (cs := #[.pointer (some ad1)]) (t := 84) ?hr ?_; (case hd => rfl); (case hg => rfl); (case hr => exact hrw); intro gb346 hg w17 hbox hb; have n0_ := Aside0.mk (below_step blw hb); have n1_ := Aside0.mk (hbox); have n2_ := Aside0.mk ((by rw [hg]; exact (below_size blw) : w.heap.size ≤ gb346)); have n3_ := n2_; clear HB; revert n0_ n1_ n2_ n3_; intro HB BK346 GW346 GE346; clear hb hbox hg; have hcz18_0 : w17.cell? ⟨gb346, 0, none⟩ = some (.pointer (some ad1)) := (blk_cell BK346.out 0).trans rfl; have hfz18_0 := blk_frozen BK346.out 0; have hxr19_0 : w17.cell? ad1 = some (.int .i64 a1_0) := pw_cell_below HB.out (HP1.out.1); have hxr19_1 : w17.cell? ⟨ad1.block, ad1.off + 1, none⟩ = some (.slice A1_1 l1_1.length c1_1) := pw_cell_below HB.out (HP1.out.2.1); have hxr19_2 : w17.cell? ⟨ad1.block, ad1.off + 2, none⟩ = some (.slice A1_2 l1_2.length c1_2) := pw_cell_below HB.out (HP1.out.2.2.1); have hxr20_0 : w17.cell? ad0 = some (.int .i64 a0_0) := pw_cell_below HB.out (HP0.out.1); have hxr20_1 : w17.cell? ⟨ad0.block, ad0.off + 1, none⟩ = some (.int .i64 a0_1) := pw_cell_below HB.out (HP0.out.2.1); have hxr20_2 : w17.cell? ⟨ad0.block, ad0.off + 2, none⟩ = some (.slice A0_2 l0_2.length c0_2) := pw_cell_below HB.out (HP0.out.2.2.1); have hxr20_3 : w17.cell? ⟨ad0.block, ad0.off + 3, none⟩ = some (.slice A0_3 l0_3.length c0_3) := pw_cell_below HB.out (HP0.out.2.2.2.1)) | (go_at_call 59; (with_reducible refine (impl_plainOk.calls ad0 a0_0 a0_1 A0_2 c0_2 l0_2 A0_3 c0_3 l0_3 t348 _ ?side1 ?side2 ?side3 ?side4 ?side5 A16.out).mono ?_); (case side1 => repeat (first | exact (Cells_below HP0.out HB.out) | (with_reducible refine Cells_alloc ?_ _) | (with_reducible refine Cells_drewN ?_ _) | (with_reducible refine Cells_drew ?_))); (case side2 => have X_ := HR0_2; exact cbl); (case side3 => exact HC0_2.out); (case side4 => have X_ := HR0_3; exact cbl); (case side5 => exact HC0_3.out); rintro e w' ⟨rfl, ⟨nd, rfl⟩⟩))
  go_ret
  exact ⟨rfw, blw⟩
 rw [if_neg c14] at H
 have c14b0 : (a1_0 == 2) = false := beq_eq_false_iff_ne.mpr c14
 have c14b1 : (a1_0 != 2) = true := bne_iff_ne.mpr c14
 by_cases c25 : a1_0 = 4
 ·rw [if_pos c25] at H
  have c25b0 : (a1_0 == 4) = true := beq_iff_eq.mpr c25
  have c25b1 : (a1_0 != 4) = false := bne_eq_false_iff_eq.mpr c25
  clear c25
  by_cases c26 : a0_0 = 4
  case neg =>
   rw [if_neg c26] at H
   have c26b0 : (a0_0 == 4) = false := beq_eq_false_iff_ne.mpr c26
   have c26b1 : (a0_0 != 4) = true := bne_iff_ne.mpr c26
   obtain rfl := Option.some.inj H
   go_enter Try.func39, Try.ntmps39
   go_wp2_with (first | ((with_reducible refine gate_dst (N := 3) rfl ?_); (try (refine gate_guard (by rfl) ?_; dsimp only)); refine box_event ?hg (N := 3) ?hd (cs := #[.pointer (some ad1)]) (t := 84) ?hr ?_; (case hd => rfl); (case hg => rfl); (case hr => exact hrw); intro gb346 hg w43 hbox hb; have n0_ := Aside0.mk (below_step blw hb); have n1_ := Aside0.mk (hbox); have n2_ := Aside0.mk ((by rw [hg]; exact (below_size blw) : w.heap.size ≤ gb346)); have n3_ := n2_; clear HB; revert n0_ n1_ n2_ n3_; intro HB BK346 GW346 GE346; clear hb hbox hg; have hcz44_0 : w43.cell? ⟨gb346, 0, none⟩ = some (.pointer (some ad1)) := (blk_cell BK346.out 0).trans rfl; have hfz44_0 := blk_frozen BK346.out 0; have hxr45_0 : w43.cell? ad1 = some (.int .i64 a1_0) := pw_cell_below HB.out (HP1.out.1); have hxr45_1 : w43.cell? ⟨ad1.block, ad1.off + 1, none⟩ = some (.slice A1_1 l1_1.length c1_1) := pw_cell_below HB.out (HP1.out.2.1); have hxr45_2 : w43.cell? ⟨ad1.block, ad1.off + 2, none⟩ = some (.slice A1_2 l1_2.length c1_2) := pw_cell_below HB.out (HP1.out.2.2.1); have hxr46_0 : w43.cell? ad0 = some (.int .i64 a0_0) := pw_cell_below HB.out (HP0.out.1); have hxr46_1 : w43.cell? ⟨ad0.block, ad0.off + 1, none⟩ = some (.int .i64 a0_1) := pw_cell_below HB.out (HP0.out.2.1); have hxr46_2 : w43.cell? ⟨ad0.block, ad0.off + 2, none⟩ = some (.slice A0_2 l0_2.length c0_2) := pw_cell_below HB.out (HP0.out.2.2.1); have hxr46_3 : w43.cell? ⟨ad0.block, ad0.off + 3, none⟩ = some (.slice A0_3 l0_3.length c0_3) := pw_cell_below HB.out (HP0.out.2.2.2.1)))
   go_ret
   exact ⟨rfw, blw⟩
  rw [if_pos c26] at H
  have c26b0 : (a0_0 == 4) = true := beq_iff_eq.mpr c26
  have c26b1 : (a0_0 != 4) = false := bne_eq_false_iff_eq.mpr c26
  clear c26
  by_cases c27 : a0_1 = 0
  case neg =>
   rw [if_neg c27] at H
   have c27b0 : (a0_1 == 0) = false := beq_eq_false_iff_ne.mpr c27
   have c27b1 : (a0_1 != 0) = true := bne_iff_ne.mpr c27
   obtain rfl := Option.some.inj H
   go_enter Try.func39, Try.ntmps39
   go_wp2_with (first | ((with_reducible refine gate_dst (N := 3) rfl ?_); (try (refine gate_guard (by rfl) ?_; dsimp only)); refine box_event ?hg (N := 3) ?hd (cs := #[.pointer (some ad1)]) (t := 84) ?hr ?_; (case hd => rfl); (case hg => rfl); (case hr => exact hrw); intro gb346 hg w39 hbox hb; have n0_ := Aside0.mk (below_step blw hb); have n1_ := Aside0.mk (hbox); have n2_ := Aside0.mk ((by rw [hg]; exact (below_size blw) : w.heap.size ≤ gb346)); have n3_ := n2_; clear HB; revert n0_ n1_ n2_ n3_; intro HB BK346 GW346 GE346; clear hb hbox hg; have hcz40_0 : w39.cell? ⟨gb346, 0, none⟩ = some (.pointer (some ad1)) := (blk_cell BK346.out 0).trans rfl; have hfz40_0 := blk_frozen BK346.out 0; have hxr41_0 : w39.cell? ad1 = some (.int .i64 a1_0) := pw_cell_below HB.out (HP1.out.1); have hxr41_1 : w39.cell? ⟨ad1.block, ad1.off + 1, none⟩ = some (.slice A1_1 l1_1.length c1_1) := pw_cell_below HB.out (HP1.out.2.1); have hxr41_2 : w39.cell? ⟨ad1.block, ad1.off + 2, none⟩ = some (.slice A1_2 l1_2.length c1_2) := pw_cell_below HB.out (HP1.out.2.2.1); have hxr42_0 : w39.cell? ad0 = some (.int .i64 a0_0) := pw_cell_below HB.out (HP0.out.1); have hxr42_1 : w39.cell? ⟨ad0.block, ad0.off + 1, none⟩ = some (.int .i64 a0_1) := pw_cell_below HB.out (HP0.out.2.1); have hxr42_2 : w39.cell? ⟨ad0.block, ad0.off + 2, none⟩ = some (.slice A0_2 l0_2.length c0_2) := pw_cell_below HB.out (HP0.out.2.2.1); have hxr42_3 : w39.cell? ⟨ad0.block, ad0.off + 3, none⟩ = some (.slice A0_3 l0_3.length c0_3) := pw_cell_below HB.out (HP0.out.2.2.2.1)))
   go_ret
   exact ⟨rfw, blw⟩
  rw [if_pos c27] at H
  have c27b0 : (a0_1 == 0) = true := beq_iff_eq.mpr c27
  have c27b1 : (a0_1 != 0) = false := bne_eq_false_iff_eq.mpr c27
  clear c27
  by_cases c28 : (l0_2.length : Int) = 0
  case neg =>
   rw [if_neg c28] at H
   have c28b0 : ((l0_2.length : Int) == 0) = false := beq_eq_false_iff_ne.mpr c28
   have c28b1 : ((l0_2.length : Int) != 0) = true := bne_iff_ne.mpr c28
   have c28b2 : ¬ (l0_2 = []) := fun h_ => c28 (by rw [h_]; rfl)
   obtain rfl := Option.some.inj H
   go_enter Try.func39, Try.ntmps39
   go_wp2_with (first | ((with_reducible refine gate_dst (N := 3) rfl ?_); (try (refine gate_guard (by rfl) ?_; dsimp only)); refine box_event ?hg (N := 3) ?hd (cs := #[.pointer (some ad1)]) (t := 84) ?hr ?_; (case hd => rfl); (case hg => rfl); (case hr => exact hrw); intro gb346 hg w35 hbox hb; have n0_ := Aside0.mk (below_step blw hb); have n1_ := Aside0.mk (hbox); have n2_ := Aside0.mk ((by rw [hg]; exact (below_size blw) : w.heap.size ≤ gb346)); have n3_ := n2_; clear HB; revert n0_ n1_ n2_ n3_; intro HB BK346 GW346 GE346; clear hb hbox hg; have hcz36_0 : w35.cell? ⟨gb346, 0, none⟩ = some (.pointer (some ad1)) := (blk_cell BK346.out 0).trans rfl; have hfz36_0 := blk_frozen BK346.out 0; have hxr37_0 : w35.cell? ad1 = some (.int .i64 a1_0) := pw_cell_below HB.out (HP1.out.1); have hxr37_1 : w35.cell? ⟨ad1.block, ad1.off + 1, none⟩ = some (.slice A1_1 l1_1.length c1_1) := pw_cell_below HB.out (HP1.out.2.1); have hxr37_2 : w35.cell? ⟨ad1.block, ad1.off + 2, none⟩ = some (.slice A1_2 l1_2.length c1_2) := pw_cell_below HB.out (HP1.out.2.2.1); have hxr38_0 : w35.cell? ad0 = some (.int .i64 a0_0) := pw_cell_below HB.out (HP0.out.1); have hxr38_1 : w35.cell? ⟨ad0.block, ad0.off + 1, none⟩ = some (.int .i64 a0_1) := pw_cell_below HB.out (HP0.out.2.1); have hxr38_2 : w35.cell? ⟨ad0.block, ad0.off + 2, none⟩ = some (.slice A0_2 l0_2.length c0_2) := pw_cell_below HB.out (HP0.out.2.2.1); have hxr38_3 : w35.cell? ⟨ad0.block, ad0.off + 3, none⟩ = some (.slice A0_3 l0_3.length c0_3) := pw_cell_below HB.out (HP0.out.2.2.2.1)))
   go_ret
   exact ⟨rfw, blw⟩
  rw [if_pos c28] at H
  have c28b0 : ((l0_2.length : Int) == 0) = true := beq_iff_eq.mpr c28
  have c28b1 : ((l0_2.length : Int) != 0) = false := bne_eq_false_iff_eq.mpr c28
  clear c28
  replace H := Option.bind_eq_some_iff.mp H
  obtain ⟨t349, A290, H⟩ := H
  replace H : (some (!t349)) = some r := H
  have A29 := Aside0.mk A290
  clear A290
  obtain rfl := Option.some.inj H
  go_enter Try.func39, Try.ntmps39
  go_wp2_with (first | ((with_reducible refine gate_dst (N := 3) rfl ?_); (try (refine gate_guard (by rfl) ?_; dsimp only)); refine box_event ?hg (N := 3) ?hd (cs := #[.pointer (some ad1)]) (t := 84) ?hr ?_; (case hd => rfl); (case hg => rfl); (case hr => exact hrw); intro gb346 hg w30 hbox hb; have n0_ := Aside0.mk (below_step blw hb); have n1_ := Aside0.mk (hbox); have n2_ := Aside0.mk ((by rw [hg]; exact (below_size blw) : w.heap.size ≤ gb346)); have n3_ := n2_; clear HB; revert n0_ n1_ n2_ n3_; intro HB BK346 GW346 GE346; clear hb hbox hg; have hcz31_0 : w30.cell? ⟨gb346, 0, none⟩ = some (.pointer (some ad1)) := (blk_cell BK346.out 0).trans rfl; have hfz31_0 := blk_frozen BK346.out 0; have hxr32_0 : w30.cell? ad1 = some (.int .i64 a1_0) := pw_cell_below HB.out (HP1.out.1); have hxr32_1 : w30.cell? ⟨ad1.block, ad1.off + 1, none⟩ = some (.slice A1_1 l1_1.length c1_1) := pw_cell_below HB.out (HP1.out.2.1); have hxr32_2 : w30.cell? ⟨ad1.block, ad1.off + 2, none⟩ = some (.slice A1_2 l1_2.length c1_2) := pw_cell_below HB.out (HP1.out.2.2.1); have hxr33_0 : w30.cell? ad0 = some (.int .i64 a0_0) := pw_cell_below HB.out (HP0.out.1); have hxr33_1 : w30.cell? ⟨ad0.block, ad0.off + 1, none⟩ = some (.int .i64 a0_1) := pw_cell_below HB.out (HP0.out.2.1); have hxr33_2 : w30.cell? ⟨ad0.block, ad0.off + 2, none⟩ = some (.slice A0_2 l0_2.length c0_2) := pw_cell_below HB.out (HP0.out.2.2.1); have hxr33_3 : w30.cell? ⟨ad0.block, ad0.off + 3, none⟩ = some (.slice A0_3 l0_3.length c0_3) := pw_cell_below HB.out (HP0.out.2.2.2.1)) | (go_at_call 19; (with_reducible refine (ih_105 k (by omega) _ _ l0_3 ⟨gb346, 0, none⟩ ad1 a1_0 A1_1 c1_1 l1_1 A1_2 c1_2 l1_2 t349 _ ?side1 ?side2 ?side3 ?side4 ?side5 ?side6 ?side7 ?side8 A29.out).mono ?_); (case side1 => have X_ := HR0_3; exact cbl); (case side2 => exact HC0_3.out); (case side3 => repeat (first | exact (Cells_below HP1.out HB.out) | (with_reducible refine Cells_alloc ?_ _) | (with_reducible refine Cells_drewN ?_ _) | (with_reducible refine Cells_drew ?_))); (case side4 => exact Cells_blk bkw); (case side5 => have X_ := HR1_1; exact cbl); (case side6 => exact HC1_1.out); (case side7 => have X_ := HR1_2; exact cbl); (case side8 => exact HC1_2.out); rintro e w34 ⟨rfl, hb⟩; have n0_ := Aside0.mk (blk_below (g := gb346) (o := .cells #[.pointer (some ad1)] 84 (0, 0)) bkw hb); have n1_ := Aside0.mk (below_step blw hb); clear BK346; clear HB; revert n0_ n1_; intro BK346 HB; (try clear hb); (try clear hb2); (try clear hk); (try clear hi)))
  go_ret
  exact ⟨rfw, blw⟩
 rw [if_neg c25] at H
 have c25b0 : (a1_0 == 4) = false := beq_eq_false_iff_ne.mpr c25
 have c25b1 : (a1_0 != 4) = true := bne_iff_ne.mpr c25
 have HC47 := Aside0.mk H
 clear H
 go_enter Try.func39, Try.ntmps39
 go_upto_region 8 with (first | ((with_reducible refine gate_dst (N := 3) rfl ?_); (try (refine gate_guard (by rfl) ?_; dsimp only)); refine box_event ?hg (N := 3) ?hd (cs := #[.pointer (some ad1)]) (t := 84) ?hr ?_; (case hd => rfl); (case hg => rfl); (case hr => exact hrw); intro gb346 hg w48 hbox hb; have n0_ := Aside0.mk (below_step blw hb); have n1_ := Aside0.mk (hbox); have n2_ := Aside0.mk ((by rw [hg]; exact (below_size blw) : w.heap.size ≤ gb346)); have n3_ := n2_; clear HB; revert n0_ n1_ n2_ n3_; intro HB BK346 GW346 GE346; clear hb hbox hg; have hcz49_0 : w48.cell? ⟨gb346, 0, none⟩ = some (.pointer (some ad1)) := (blk_cell BK346.out 0).trans rfl; have hfz49_0 := blk_frozen BK346.out 0; have hxr50_0 : w48.cell? ad1 = some (.int .i64 a1_0) := pw_cell_below HB.out (HP1.out.1); have hxr50_1 : w48.cell? ⟨ad1.block, ad1.off + 1, none⟩ = some (.slice A1_1 l1_1.length c1_1) := pw_cell_below HB.out (HP1.out.2.1); have hxr50_2 : w48.cell? ⟨ad1.block, ad1.off + 2, none⟩ = some (.slice A1_2 l1_2.length c1_2) := pw_cell_below HB.out (HP1.out.2.2.1)))
 (try simp only [Act.put, List.setIfInBounds_toArray, List.set_cons_zero, List.set_cons_succ])
 go_cut [99] (fun v99 wc => ∃ (kq : Nat) (x99_46 : Bool), v99 = .bool x99_46 ∧ Aside0 (impl_fits.j0 kq x99_46 l0_3 l1_2 = some r) ∧ Aside0 (kq ≤ k) ∧ Aside0 (wc.heap[gb346]? = some (.cells #[.pointer (some ad1)] 84 (0, 0))) ∧ Aside0 (Below w.heap.size w wc))
 case first =>
  have H := HC47.out
  clear HC47
  by_cases c51 : a0_0 = 3
  case neg =>
   rw [if_neg c51] at H
   have c51b0 : (a0_0 == 3) = false := beq_eq_false_iff_ne.mpr c51
   have c51b1 : (a0_0 != 3) = true := bne_iff_ne.mpr c51
   (first | rw [c51b0] | (simp only [i64_w, i32_w]; rw [c51b0]) | (rw [c51b1]; (try simp only [Bool.not_true, Bool.not_false])) | skip)
   have H' := Aside0.mk H
   clear H
   try go_wp2
   have n0_ := Aside0.mk (blk_drew BK346.out)
   have n1_ := Aside0.mk (below_drew1 HB.out)
   clear BK346
   clear HB
   revert n0_ n1_
   intro BK346 HB
   refine start_ (n := 37) (S := fun w' => w'.cell? ad0 = some (.int .i64 a0_0) ∧ w'.cell? ⟨ad0.block, ad0.off + 1, none⟩ = some (.int .i64 a0_1) ∧ w'.cell? ⟨ad0.block, ad0.off + 2, none⟩ = some (.slice A0_2 l0_2.length c0_2) ∧ w'.cell? ⟨ad0.block, ad0.off + 3, none⟩ = some (.slice A0_3 l0_3.length c0_3)) (ds := []) #[false,false,false,false,false,false,false,false,false,false,false,false,false,false,false,false,false,false,false,false,false,false,false,false,false,false,false,false,false,false,false,false,false,false,false,false,false] kr rfl rfl ⟨(by first | exact pw_cell_below HB.out (HP0.out.1) | exact HP0.out.1), (by first | exact pw_cell_below HB.out (HP0.out.2.1) | exact HP0.out.2.1), (by first | exact pw_cell_below HB.out (HP0.out.2.2.1) | exact HP0.out.2.2.1), (by first | exact pw_cell_below HB.out (HP0.out.2.2.2.1) | exact HP0.out.2.2.2.1)⟩ (fun hHeld => ?_); refine with_tabW impl_fits.tab8 impl_fits.bits8 (fun HT_ HW_ => ?_)
   generalize w48.drew = w58 at BK346 HB hHeld ⊢
   refine pure_ (i := 0) (N := some 63) (v := ?_) (a' := ?_) (bm 37 1) rfl rfl (any_of HT_.out kr) qi (Or.inl ⟨by rfl, ?_⟩) ?_ ?_
   rotate_left
   ·intro w'
    go_simp
    with_reducible rfl
   rotate_left
   ·simp only [sx]
    rfl
   refine pure_ (i := 1) (N := some 64) (v := ?_) (a' := ?_) (bm 37 3) rfl rfl (any_of HT_.out kr) qi (Or.inl ⟨by rfl, ?_⟩) ?_ ?_
   rotate_left
   ·intro w'
    go_simp
    with_reducible rfl
   rotate_left
   ·simp only [sx]
    rfl
   refine pure_ (i := 2) (N := some 65) (v := ?_) (a' := ?_) (bm 37 7) rfl rfl (any_of HT_.out kr) qi (Or.inl ⟨by rfl, ?_⟩) ?_ ?_
   rotate_left
   ·intro w'
    go_simp
    with_reducible rfl
   rotate_left
   ·simp only [sx]
    rfl
   refine take_ (i := 3) (N := some 66) (v := ?_) (a' := ?_) (bm 37 15) rfl rfl (take_ofW HT_.out HW_.out kr) qi (Or.inl ⟨by rfl, ?_⟩) hHeld ?_ ?_
   rotate_left
   ·rintro w' ⟨s0, s1, s2, s3⟩
    go_simp
    with_reducible rfl
   rotate_left
   ·simp only [sx]
    rfl
   refine pure_ (i := 4) (N := some 67) (v := ?_) (a' := ?_) (bm 37 31) rfl rfl (any_of HT_.out kr) qi (Or.inl ⟨by rfl, ?_⟩) ?_ ?_
   rotate_left
   ·intro w'
    go_simp
    with_reducible rfl
   rotate_left
   ·simp only [sx]
    rfl
   refine pure_ (i := 5) (N := some 68) (v := ?_) (a' := ?_) (bm 37 63) rfl rfl (any_of HT_.out kr) qi (Or.inl ⟨by rfl, ?_⟩) ?_ ?_
   rotate_left
   ·intro w'
    go_simp
    with_reducible rfl
   rotate_left
   ·simp only [sx]
    rfl
   refine pure_ (i := 6) (N := some 69) (v := undef) (a' := ?_) (bm 37 127) rfl rfl (any_of HT_.out kr) qi (Or.inr ⟨by rfl, rfl⟩) ?_ ?_
   rotate_left
   ·simp only [sx]
    rfl
   refine pure_ (i := 7) (N := some 70) (v := undef) (a' := ?_) (bm 37 255) rfl rfl (any_of HT_.out kr) qi (Or.inr ⟨by rfl, rfl⟩) ?_ ?_
   rotate_left
   ·simp only [sx]
    rfl
   refine pure_ (i := 8) (N := some 71) (v := undef) (a' := ?_) (bm 37 511) rfl rfl (any_of HT_.out kr) qi (Or.inr ⟨by rfl, rfl⟩) ?_ ?_
   rotate_left
   ·simp only [sx]
    rfl
   refine pure_ (i := 9) (N := some 72) (v := undef) (a' := ?_) (bm 37 1023) rfl rfl (any_of HT_.out kr) qi (Or.inr ⟨by rfl, rfl⟩) ?_ ?_
   rotate_left
   ·simp only [sx]
    rfl
   refine pure_ (i := 10) (N := some 73) (v := undef) (a' := ?_) (bm 37 2047) rfl rfl (any_of HT_.out kr) qi (Or.inr ⟨by rfl, rfl⟩) ?_ ?_
   rotate_left
   ·simp only [sx]
    rfl
   refine pure_ (i := 11) (N := some 74) (v := ?_) (a' := ?_) (bm 37 4095) rfl rfl (any_of HT_.out kr) qi (Or.inl ⟨by rfl, ?_⟩) ?_ ?_
   rotate_left
   ·intro w'
    go_simp
    with_reducible rfl
   rotate_left
   ·simp only [sx]
    rfl
   refine pure_ (i := 12) (N := some 75) (v := ?_) (a' := ?_) (bm 37 8191) rfl rfl (any_of HT_.out kr) qi (Or.inl ⟨by rfl, ?_⟩) ?_ ?_
   rotate_left
   ·intro w'
    go_simp
    with_reducible rfl
   rotate_left
   ·simp only [sx]
    rfl
   refine pure_ (i := 13) (N := some 76) (v := undef) (a' := ?_) (bm 37 16383) rfl rfl (any_of HT_.out kr) qi (Or.inr ⟨by rfl, rfl⟩) ?_ ?_
   rotate_left
   ·simp only [sx]
    rfl
   refine pure_ (i := 14) (N := some 77) (v := undef) (a' := ?_) (bm 37 32767) rfl rfl (any_of HT_.out kr) qi (Or.inr ⟨by rfl, rfl⟩) ?_ ?_
   rotate_left
   ·simp only [sx]
    rfl
   refine pure_ (i := 15) (N := some 78) (v := undef) (a' := ?_) (bm 37 65535) rfl rfl (any_of HT_.out kr) qi (Or.inr ⟨by rfl, rfl⟩) ?_ ?_
   rotate_left
   ·simp only [sx]
    rfl
   refine pure_ (i := 16) (N := some 79) (v := undef) (a' := ?_) (bm 37 131071) rfl rfl (any_of HT_.out kr) qi (Or.inr ⟨by rfl, rfl⟩) ?_ ?_
   rotate_left
   ·simp only [sx]
    rfl
   refine pure_ (i := 17) (N := some 80) (v := undef) (a' := ?_) (bm 37 262143) rfl rfl (any_of HT_.out kr) qi (Or.inr ⟨by rfl, rfl⟩) ?_ ?_
   rotate_left
   ·simp only [sx]
    rfl
   refine pure_ (i := 18) (N := some 81) (v := undef) (a' := ?_) (bm 37 524287) rfl rfl (any_of HT_.out kr) qi (Or.inr ⟨by rfl, rfl⟩) ?_ ?_
   rotate_left
   ·simp only [sx]
    rfl
   refine pure_ (i := 19) (N := some 82) (v := undef) (a' := ?_) (bm 37 1048575) rfl rfl (any_of HT_.out kr) qi (Or.inr ⟨by rfl, rfl⟩) ?_ ?_
   rotate_left
   ·simp only [sx]
    rfl
   refine pure_ (i := 20) (N := some 83) (v := undef) (a' := ?_) (bm 37 2097151) rfl rfl (any_of HT_.out kr) qi (Or.inr ⟨by rfl, rfl⟩) ?_ ?_
   rotate_left
   ·simp only [sx]
    rfl
   refine pure_ (i := 21) (N := some 84) (v := undef) (a' := ?_) (bm 37 4194303) rfl rfl (any_of HT_.out kr) qi (Or.inr ⟨by rfl, rfl⟩) ?_ ?_
   rotate_left
   ·simp only [sx]
    rfl
   refine pure_ (i := 22) (N := some 85) (v := undef) (a' := ?_) (bm 37 8388607) rfl rfl (any_of HT_.out kr) qi (Or.inr ⟨by rfl, rfl⟩) ?_ ?_
   rotate_left
   ·simp only [sx]
    rfl
   refine pure_ (i := 23) (N := some 86) (v := ?_) (a' := ?_) (bm 37 16777215) rfl rfl (any_of HT_.out kr) qi (Or.inl ⟨by rfl, ?_⟩) ?_ ?_
   rotate_left
   ·intro w'
    go_simp
    with_reducible rfl
   rotate_left
   ·simp only [sx]
    rfl
   refine pure_ (i := 24) (N := some 87) (v := ?_) (a' := ?_) (bm 37 33554431) rfl rfl (any_of HT_.out kr) qi (Or.inl ⟨by rfl, ?_⟩) ?_ ?_
   rotate_left
   ·intro w'
    go_simp
    with_reducible rfl
   rotate_left
   ·simp only [sx]
    rfl
   refine pure_ (i := 25) (N := some 88) (v := undef) (a' := ?_) (bm 37 67108863) rfl rfl (any_of HT_.out kr) qi (Or.inr ⟨by rfl, rfl⟩) ?_ ?_
   rotate_left
   ·simp only [sx]
    rfl
   refine pure_ (i := 26) (N := some 89) (v := undef) (a' := ?_) (bm 37 134217727) rfl rfl (any_of HT_.out kr) qi (Or.inr ⟨by rfl, rfl⟩) ?_ ?_
   rotate_left
   ·simp only [sx]
    rfl
   refine pure_ (i := 27) (N := some 90) (v := undef) (a' := ?_) (bm 37 268435455) rfl rfl (any_of HT_.out kr) qi (Or.inr ⟨by rfl, rfl⟩) ?_ ?_
   rotate_left
   ·simp only [sx]
    rfl
   refine pure_ (i := 28) (N := some 91) (v := undef) (a' := ?_) (bm 37 536870911) rfl rfl (any_of HT_.out kr) qi (Or.inr ⟨by rfl, rfl⟩) ?_ ?_
   rotate_left
   ·simp only [sx]
    rfl
   refine pure_ (i := 29) (N := some 92) (v := undef) (a' := ?_) (bm 37 1073741823) rfl rfl (any_of HT_.out kr) qi (Or.inr ⟨by rfl, rfl⟩) ?_ ?_
   rotate_left
   ·simp only [sx]
    rfl
   refine pure_ (i := 30) (N := some 93) (v := undef) (a' := ?_) (bm 37 2147483647) rfl rfl (any_of HT_.out kr) qi (Or.inr ⟨by rfl, rfl⟩) ?_ ?_
   rotate_left
   ·simp only [sx]
    rfl
   refine pure_ (i := 31) (N := some 94) (v := undef) (a' := ?_) (bm 37 4294967295) rfl rfl (any_of HT_.out kr) qi (Or.inr ⟨by rfl, rfl⟩) ?_ ?_
   rotate_left
   ·simp only [sx]
    rfl
   refine pure_ (i := 32) (N := some 95) (v := undef) (a' := ?_) (bm 37 8589934591) rfl rfl (any_of HT_.out kr) qi (Or.inr ⟨by rfl, rfl⟩) ?_ ?_
   rotate_left
   ·simp only [sx]
    rfl
   refine pure_ (i := 33) (N := some 96) (v := undef) (a' := ?_) (bm 37 17179869183) rfl rfl (any_of HT_.out kr) qi (Or.inr ⟨by rfl, rfl⟩) ?_ ?_
   rotate_left
   ·simp only [sx]
    rfl
   refine pure_ (i := 34) (N := some 97) (v := undef) (a' := ?_) (bm 37 34359738367) rfl rfl (any_of HT_.out kr) qi (Or.inr ⟨by rfl, rfl⟩) ?_ ?_
   rotate_left
   ·simp only [sx]
    rfl
   refine pure_ (i := 35) (N := some 98) (v := undef) (a' := ?_) (bm 37 68719476735) rfl rfl (any_of HT_.out kr) qi (Or.inr ⟨by rfl, rfl⟩) ?_ ?_
   rotate_left
   ·simp only [sx]
    rfl
   refine pure_ (i := 36) (N := some 99) (v := ?_) (a' := ?_) (bm 37 137438953471) rfl rfl (any_of HT_.out kr) qi (Or.inl ⟨by rfl, ?_⟩) ?_ ?_
   rotate_left
   ·intro w'
    go_simp
    with_reducible rfl
   rotate_left
   ·simp only [sx]
    rfl
   refine done_ (done_of HT_.out kr) ?_
   try go_wp2
   go_meet
   case rel => exact ⟨_, (true), rfs, H', ⟨by first | omega | exact Nat.le_refl _⟩, ⟨bkw⟩, ⟨blw⟩⟩
  rw [if_pos c51] at H
  have c51b0 : (a0_0 == 3) = true := beq_iff_eq.mpr c51
  have c51b1 : (a0_0 != 3) = false := bne_eq_false_iff_eq.mpr c51
  clear c51
  (first | rw [c51b0] | (simp only [i64_w, i32_w]; rw [c51b0]) | (rw [c51b1]; (try simp only [Bool.not_true, Bool.not_false])) | skip)
  by_cases c52 : a0_1 = 0
  case neg =>
   rw [if_neg c52] at H
   have c52b0 : (a0_1 == 0) = false := beq_eq_false_iff_ne.mpr c52
   have c52b1 : (a0_1 != 0) = true := bne_iff_ne.mpr c52
   have H' := Aside0.mk H
   clear H
   try go_wp2
   have n0_ := Aside0.mk (blk_drew BK346.out)
   have n1_ := Aside0.mk (below_drew1 HB.out)
   clear BK346
   clear HB
   revert n0_ n1_
   intro BK346 HB
   refine start_ (n := 37) (S := fun w' => w'.cell? ad0 = some (.int .i64 a0_0) ∧ w'.cell? ⟨ad0.block, ad0.off + 1, none⟩ = some (.int .i64 a0_1) ∧ w'.cell? ⟨ad0.block, ad0.off + 2, none⟩ = some (.slice A0_2 l0_2.length c0_2) ∧ w'.cell? ⟨ad0.block, ad0.off + 3, none⟩ = some (.slice A0_3 l0_3.length c0_3)) (ds := []) #[false,false,false,false,false,false,false,false,false,false,false,false,false,false,false,false,false,false,false,false,false,false,false,false,false,false,false,false,false,false,false,false,false,false,false,false,false] kr rfl rfl ⟨(by first | exact pw_cell_below HB.out (HP0.out.1) | exact HP0.out.1), (by first | exact pw_cell_below HB.out (HP0.out.2.1) | exact HP0.out.2.1), (by first | exact pw_cell_below HB.out (HP0.out.2.2.1) | exact HP0.out.2.2.1), (by first | exact pw_cell_below HB.out (HP0.out.2.2.2.1) | exact HP0.out.2.2.2.1)⟩ (fun hHeld => ?_); refine with_tabW impl_fits.tab8 impl_fits.bits8 (fun HT_ HW_ => ?_)
   generalize w48.drew = w57 at BK346 HB hHeld ⊢
   refine pure_ (i := 0) (N := some 63) (v := ?_) (a' := ?_) (bm 37 1) rfl rfl (any_of HT_.out kr) qi (Or.inl ⟨by rfl, ?_⟩) ?_ ?_
   rotate_left
   ·intro w'
    go_simp
    with_reducible rfl
   rotate_left
   ·simp only [sx]
    rfl
   refine pure_ (i := 1) (N := some 64) (v := ?_) (a' := ?_) (bm 37 3) rfl rfl (any_of HT_.out kr) qi (Or.inl ⟨by rfl, ?_⟩) ?_ ?_
   rotate_left
   ·intro w'
    go_simp
    with_reducible rfl
   rotate_left
   ·simp only [sx]
    rfl
   refine pure_ (i := 2) (N := some 65) (v := ?_) (a' := ?_) (bm 37 7) rfl rfl (any_of HT_.out kr) qi (Or.inl ⟨by rfl, ?_⟩) ?_ ?_
   rotate_left
   ·intro w'
    go_simp
    with_reducible rfl
   rotate_left
   ·simp only [sx]
    rfl
   refine take_ (i := 3) (N := some 66) (v := ?_) (a' := ?_) (bm 37 15) rfl rfl (take_ofW HT_.out HW_.out kr) qi (Or.inl ⟨by rfl, ?_⟩) hHeld ?_ ?_
   rotate_left
   ·rintro w' ⟨s0, s1, s2, s3⟩
    go_simp
    with_reducible rfl
   rotate_left
   ·simp only [sx]
    rfl
   refine pure_ (i := 4) (N := some 67) (v := ?_) (a' := ?_) (bm 37 31) rfl rfl (any_of HT_.out kr) qi (Or.inl ⟨by rfl, ?_⟩) ?_ ?_
   rotate_left
   ·intro w'
    go_simp
    with_reducible rfl
   rotate_left
   ·simp only [sx]
    rfl
   refine pure_ (i := 5) (N := some 68) (v := ?_) (a' := ?_) (bm 37 63) rfl rfl (any_of HT_.out kr) qi (Or.inl ⟨by rfl, ?_⟩) ?_ ?_
   rotate_left
   ·intro w'
    go_simp
    with_reducible rfl
   rotate_left
   ·simp only [sx]
    rfl
   refine pure_ (i := 6) (N := some 69) (v := ?_) (a' := ?_) (bm 37 127) rfl rfl (any_of HT_.out kr) qi (Or.inl ⟨by rfl, ?_⟩) ?_ ?_
   rotate_left
   ·intro w'
    go_simp
    with_reducible rfl
   rotate_left
   ·simp only [sx]
    rfl
   refine pure_ (i := 7) (N := some 70) (v := ?_) (a' := ?_) (bm 37 255) rfl rfl (any_of HT_.out kr) qi (Or.inl ⟨by rfl, ?_⟩) ?_ ?_
   rotate_left
   ·intro w'
    go_simp
    with_reducible rfl
   rotate_left
   ·simp only [sx]
    rfl
   refine pure_ (i := 8) (N := some 71) (v := ?_) (a' := ?_) (bm 37 511) rfl rfl (any_of HT_.out kr) qi (Or.inl ⟨by rfl, ?_⟩) ?_ ?_
   rotate_left
   ·intro w'
    go_simp
    with_reducible rfl
   rotate_left
   ·simp only [sx]
    rfl
   refine take_ (i := 9) (N := some 72) (v := ?_) (a' := ?_) (bm 37 1023) rfl rfl (take_ofW HT_.out HW_.out kr) qi (Or.inl ⟨by rfl, ?_⟩) hHeld ?_ ?_
   rotate_left
   ·rintro w' ⟨s0, s1, s2, s3⟩
    go_simp
    with_reducible rfl
   rotate_left
   ·simp only [sx]
    rfl
   refine pure_ (i := 10) (N := some 73) (v := ?_) (a' := ?_) (bm 37 2047) rfl rfl (any_of HT_.out kr) qi (Or.inl ⟨by rfl, ?_⟩) ?_ ?_
   rotate_left
   ·intro w'
    go_simp
    with_reducible rfl
   rotate_left
   ·simp only [sx]
    rfl
   refine pure_ (i := 11) (N := some 74) (v := ?_) (a' := ?_) (bm 37 4095) rfl rfl (any_of HT_.out kr) qi (Or.inl ⟨by rfl, ?_⟩) ?_ ?_
   rotate_left
   ·intro w'
    go_simp
    with_reducible rfl
   rotate_left
   ·simp only [sx]
    rfl
   refine pure_ (i := 12) (N := some 75) (v := ?_) (a' := ?_) (bm 37 8191) rfl rfl (any_of HT_.out kr) qi (Or.inl ⟨by rfl, ?_⟩) ?_ ?_
   rotate_left
   ·intro w'
    go_simp
    with_reducible rfl
   rotate_left
   ·simp only [sx]
    rfl
   refine pure_ (i := 13) (N := some 76) (v := undef) (a' := ?_) (bm 37 16383) rfl rfl (any_of HT_.out kr) qi (Or.inr ⟨by rfl, rfl⟩) ?_ ?_
   rotate_left
   ·simp only [sx]
    rfl
   refine pure_ (i := 14) (N := some 77) (v := undef) (a' := ?_) (bm 37 32767) rfl rfl (any_of HT_.out kr) qi (Or.inr ⟨by rfl, rfl⟩) ?_ ?_
   rotate_left
   ·simp only [sx]
    rfl
   refine pure_ (i := 15) (N := some 78) (v := undef) (a' := ?_) (bm 37 65535) rfl rfl (any_of HT_.out kr) qi (Or.inr ⟨by rfl, rfl⟩) ?_ ?_
   rotate_left
   ·simp only [sx]
    rfl
   refine pure_ (i := 16) (N := some 79) (v := undef) (a' := ?_) (bm 37 131071) rfl rfl (any_of HT_.out kr) qi (Or.inr ⟨by rfl, rfl⟩) ?_ ?_
   rotate_left
   ·simp only [sx]
    rfl
   refine pure_ (i := 17) (N := some 80) (v := undef) (a' := ?_) (bm 37 262143) rfl rfl (any_of HT_.out kr) qi (Or.inr ⟨by rfl, rfl⟩) ?_ ?_
   rotate_left
   ·simp only [sx]
    rfl
   refine pure_ (i := 18) (N := some 81) (v := undef) (a' := ?_) (bm 37 524287) rfl rfl (any_of HT_.out kr) qi (Or.inr ⟨by rfl, rfl⟩) ?_ ?_
   rotate_left
   ·simp only [sx]
    rfl
   refine pure_ (i := 19) (N := some 82) (v := undef) (a' := ?_) (bm 37 1048575) rfl rfl (any_of HT_.out kr) qi (Or.inr ⟨by rfl, rfl⟩) ?_ ?_
   rotate_left
   ·simp only [sx]
    rfl
   refine pure_ (i := 20) (N := some 83) (v := undef) (a' := ?_) (bm 37 2097151) rfl rfl (any_of HT_.out kr) qi (Or.inr ⟨by rfl, rfl⟩) ?_ ?_
   rotate_left
   ·simp only [sx]
    rfl
   refine pure_ (i := 21) (N := some 84) (v := undef) (a' := ?_) (bm 37 4194303) rfl rfl (any_of HT_.out kr) qi (Or.inr ⟨by rfl, rfl⟩) ?_ ?_
   rotate_left
   ·simp only [sx]
    rfl
   refine pure_ (i := 22) (N := some 85) (v := undef) (a' := ?_) (bm 37 8388607) rfl rfl (any_of HT_.out kr) qi (Or.inr ⟨by rfl, rfl⟩) ?_ ?_
   rotate_left
   ·simp only [sx]
    rfl
   refine pure_ (i := 23) (N := some 86) (v := ?_) (a' := ?_) (bm 37 16777215) rfl rfl (any_of HT_.out kr) qi (Or.inl ⟨by rfl, ?_⟩) ?_ ?_
   rotate_left
   ·intro w'
    go_simp
    with_reducible rfl
   rotate_left
   ·simp only [sx]
    rfl
   refine pure_ (i := 24) (N := some 87) (v := ?_) (a' := ?_) (bm 37 33554431) rfl rfl (any_of HT_.out kr) qi (Or.inl ⟨by rfl, ?_⟩) ?_ ?_
   rotate_left
   ·intro w'
    go_simp
    with_reducible rfl
   rotate_left
   ·simp only [sx]
    rfl
   refine pure_ (i := 25) (N := some 88) (v := undef) (a' := ?_) (bm 37 67108863) rfl rfl (any_of HT_.out kr) qi (Or.inr ⟨by rfl, rfl⟩) ?_ ?_
   rotate_left
   ·simp only [sx]
    rfl
   refine pure_ (i := 26) (N := some 89) (v := undef) (a' := ?_) (bm 37 134217727) rfl rfl (any_of HT_.out kr) qi (Or.inr ⟨by rfl, rfl⟩) ?_ ?_
   rotate_left
   ·simp only [sx]
    rfl
   refine pure_ (i := 27) (N := some 90) (v := undef) (a' := ?_) (bm 37 268435455) rfl rfl (any_of HT_.out kr) qi (Or.inr ⟨by rfl, rfl⟩) ?_ ?_
   rotate_left
   ·simp only [sx]
    rfl
   refine pure_ (i := 28) (N := some 91) (v := undef) (a' := ?_) (bm 37 536870911) rfl rfl (any_of HT_.out kr) qi (Or.inr ⟨by rfl, rfl⟩) ?_ ?_
   rotate_left
   ·simp only [sx]
    rfl
   refine pure_ (i := 29) (N := some 92) (v := undef) (a' := ?_) (bm 37 1073741823) rfl rfl (any_of HT_.out kr) qi (Or.inr ⟨by rfl, rfl⟩) ?_ ?_
   rotate_left
   ·simp only [sx]
    rfl
   refine pure_ (i := 30) (N := some 93) (v := undef) (a' := ?_) (bm 37 2147483647) rfl rfl (any_of HT_.out kr) qi (Or.inr ⟨by rfl, rfl⟩) ?_ ?_
   rotate_left
   ·simp only [sx]
    rfl
   refine pure_ (i := 31) (N := some 94) (v := undef) (a' := ?_) (bm 37 4294967295) rfl rfl (any_of HT_.out kr) qi (Or.inr ⟨by rfl, rfl⟩) ?_ ?_
   rotate_left
   ·simp only [sx]
    rfl
   refine pure_ (i := 32) (N := some 95) (v := undef) (a' := ?_) (bm 37 8589934591) rfl rfl (any_of HT_.out kr) qi (Or.inr ⟨by rfl, rfl⟩) ?_ ?_
   rotate_left
   ·simp only [sx]
    rfl
   refine pure_ (i := 33) (N := some 96) (v := undef) (a' := ?_) (bm 37 17179869183) rfl rfl (any_of HT_.out kr) qi (Or.inr ⟨by rfl, rfl⟩) ?_ ?_
   rotate_left
   ·simp only [sx]
    rfl
   refine pure_ (i := 34) (N := some 97) (v := undef) (a' := ?_) (bm 37 34359738367) rfl rfl (any_of HT_.out kr) qi (Or.inr ⟨by rfl, rfl⟩) ?_ ?_
   rotate_left
   ·simp only [sx]
    rfl
   refine pure_ (i := 35) (N := some 98) (v := undef) (a' := ?_) (bm 37 68719476735) rfl rfl (any_of HT_.out kr) qi (Or.inr ⟨by rfl, rfl⟩) ?_ ?_
   rotate_left
   ·simp only [sx]
    rfl
   refine pure_ (i := 36) (N := some 99) (v := ?_) (a' := ?_) (bm 37 137438953471) rfl rfl (any_of HT_.out kr) qi (Or.inl ⟨by rfl, ?_⟩) ?_ ?_
   rotate_left
   ·intro w'
    go_simp
    with_reducible rfl
   rotate_left
   ·simp only [sx]
    rfl
   refine done_ (done_of HT_.out kr) ?_
   try go_wp2
   go_meet
   case rel => exact ⟨_, (true), rfs, H', ⟨by first | omega | exact Nat.le_refl _⟩, ⟨bkw⟩, ⟨blw⟩⟩
  rw [if_pos c52] at H
  have c52b0 : (a0_1 == 0) = true := beq_iff_eq.mpr c52
  have c52b1 : (a0_1 != 0) = false := bne_eq_false_iff_eq.mpr c52
  clear c52
  replace H := Option.bind_eq_some_iff.mp H
  obtain ⟨t350, A530, H⟩ := H
  replace H : (if t350 = true then (impl_fits.j0 k ((l0_3.length : Int) != (l1_2.length : Int)) l0_3 l1_2) else (impl_fits.j0 k true l0_3 l1_2)) = some r := H
  have A53 := Aside0.mk A530
  clear A530
  by_cases c54 : t350 = true
  case neg =>
   replace c54 := Bool.eq_false_iff.mpr c54
   subst c54
   have H1 : (impl_fits.j0 k true l0_3 l1_2) = some r := by rw [if_neg (show ¬ (false = true) by decide)] at H; exact H
   clear H
   have H := H1
   clear H1
   have H' := Aside0.mk H
   clear H
   try go_wp2
   have n0_ := Aside0.mk (blk_drew BK346.out)
   have n1_ := Aside0.mk (below_drew1 HB.out)
   clear BK346
   clear HB
   revert n0_ n1_
   intro BK346 HB
   refine start_ (n := 37) (S := fun w' => w'.cell? ad0 = some (.int .i64 a0_0) ∧ w'.cell? ⟨ad0.block, ad0.off + 1, none⟩ = some (.int .i64 a0_1) ∧ w'.cell? ⟨ad0.block, ad0.off + 2, none⟩ = some (.slice A0_2 l0_2.length c0_2) ∧ w'.cell? ⟨ad0.block, ad0.off + 3, none⟩ = some (.slice A0_3 l0_3.length c0_3) ∧ w'.cell? ⟨gb346, 0, none⟩ = some (.pointer (some ad1)) ∧ w'.cell? ad1 = some (.int .i64 a1_0) ∧ w'.cell? ⟨ad1.block, ad1.off + 1, none⟩ = some (.slice A1_1 l1_1.length c1_1) ∧ w'.cell? ⟨ad1.block, ad1.off + 2, none⟩ = some (.slice A1_2 l1_2.length c1_2)) (ds := []) #[false,false,false,false,false,false,false,false,false,false,false,false,false,false,false,false,false,false,false,false,false,false,false,false,false,false,false,false,false,false,false,false,false,false,false,false,false] kr rfl rfl ⟨(by first | exact pw_cell_below HB.out (HP0.out.1) | exact HP0.out.1), (by first | exact pw_cell_below HB.out (HP0.out.2.1) | exact HP0.out.2.1), (by first | exact pw_cell_below HB.out (HP0.out.2.2.1) | exact HP0.out.2.2.1), (by first | exact pw_cell_below HB.out (HP0.out.2.2.2.1) | exact HP0.out.2.2.2.1), (blk_cell BK346.out 0).trans rfl, (by first | exact pw_cell_below HB.out (HP1.out.1) | exact HP1.out.1), (by first | exact pw_cell_below HB.out (HP1.out.2.1) | exact HP1.out.2.1), (by first | exact pw_cell_below HB.out (HP1.out.2.2.1) | exact HP1.out.2.2.1)⟩ (fun hHeld => ?_); refine with_tabW impl_fits.tab8 impl_fits.bits8 (fun HT_ HW_ => ?_)
   generalize w48.drew = w56 at BK346 HB hHeld ⊢
   refine pure_ (i := 0) (N := some 63) (v := ?_) (a' := ?_) (bm 37 1) rfl rfl (any_of HT_.out kr) qi (Or.inl ⟨by rfl, ?_⟩) ?_ ?_
   rotate_left
   ·intro w'
    go_simp
    with_reducible rfl
   rotate_left
   ·simp only [sx]
    rfl
   refine pure_ (i := 1) (N := some 64) (v := ?_) (a' := ?_) (bm 37 3) rfl rfl (any_of HT_.out kr) qi (Or.inl ⟨by rfl, ?_⟩) ?_ ?_
   rotate_left
   ·intro w'
    go_simp
    with_reducible rfl
   rotate_left
   ·simp only [sx]
    rfl
   refine pure_ (i := 2) (N := some 65) (v := ?_) (a' := ?_) (bm 37 7) rfl rfl (any_of HT_.out kr) qi (Or.inl ⟨by rfl, ?_⟩) ?_ ?_
   rotate_left
   ·intro w'
    go_simp
    with_reducible rfl
   rotate_left
   ·simp only [sx]
    rfl
   refine take_ (i := 3) (N := some 66) (v := ?_) (a' := ?_) (bm 37 15) rfl rfl (take_ofW HT_.out HW_.out kr) qi (Or.inl ⟨by rfl, ?_⟩) hHeld ?_ ?_
   rotate_left
   ·rintro w' ⟨s0, s1, s2, s3, s4, s5, s6, s7⟩
    go_simp
    with_reducible rfl
   rotate_left
   ·simp only [sx]
    rfl
   refine pure_ (i := 4) (N := some 67) (v := ?_) (a' := ?_) (bm 37 31) rfl rfl (any_of HT_.out kr) qi (Or.inl ⟨by rfl, ?_⟩) ?_ ?_
   rotate_left
   ·intro w'
    go_simp
    with_reducible rfl
   rotate_left
   ·simp only [sx]
    rfl
   refine pure_ (i := 5) (N := some 68) (v := ?_) (a' := ?_) (bm 37 63) rfl rfl (any_of HT_.out kr) qi (Or.inl ⟨by rfl, ?_⟩) ?_ ?_
   rotate_left
   ·intro w'
    go_simp
    with_reducible rfl
   rotate_left
   ·simp only [sx]
    rfl
   refine pure_ (i := 6) (N := some 69) (v := ?_) (a' := ?_) (bm 37 127) rfl rfl (any_of HT_.out kr) qi (Or.inl ⟨by rfl, ?_⟩) ?_ ?_
   rotate_left
   ·intro w'
    go_simp
    with_reducible rfl
   rotate_left
   ·simp only [sx]
    rfl
   refine pure_ (i := 7) (N := some 70) (v := ?_) (a' := ?_) (bm 37 255) rfl rfl (any_of HT_.out kr) qi (Or.inl ⟨by rfl, ?_⟩) ?_ ?_
   rotate_left
   ·intro w'
    go_simp
    with_reducible rfl
   rotate_left
   ·simp only [sx]
    rfl
   refine pure_ (i := 8) (N := some 71) (v := ?_) (a' := ?_) (bm 37 511) rfl rfl (any_of HT_.out kr) qi (Or.inl ⟨by rfl, ?_⟩) ?_ ?_
   rotate_left
   ·intro w'
    go_simp
    with_reducible rfl
   rotate_left
   ·simp only [sx]
    rfl
   refine take_ (i := 9) (N := some 72) (v := ?_) (a' := ?_) (bm 37 1023) rfl rfl (take_ofW HT_.out HW_.out kr) qi (Or.inl ⟨by rfl, ?_⟩) hHeld ?_ ?_
   rotate_left
   ·rintro w' ⟨s0, s1, s2, s3, s4, s5, s6, s7⟩
    go_simp
    with_reducible rfl
   rotate_left
   ·simp only [sx]
    rfl
   refine pure_ (i := 10) (N := some 73) (v := ?_) (a' := ?_) (bm 37 2047) rfl rfl (any_of HT_.out kr) qi (Or.inl ⟨by rfl, ?_⟩) ?_ ?_
   rotate_left
   ·intro w'
    go_simp
    with_reducible rfl
   rotate_left
   ·simp only [sx]
    rfl
   refine pure_ (i := 11) (N := some 74) (v := ?_) (a' := ?_) (bm 37 4095) rfl rfl (any_of HT_.out kr) qi (Or.inl ⟨by rfl, ?_⟩) ?_ ?_
   rotate_left
   ·intro w'
    go_simp
    with_reducible rfl
   rotate_left
   ·simp only [sx]
    rfl
   refine pure_ (i := 12) (N := some 75) (v := ?_) (a' := ?_) (bm 37 8191) rfl rfl (any_of HT_.out kr) qi (Or.inl ⟨by rfl, ?_⟩) ?_ ?_
   rotate_left
   ·intro w'
    go_simp
    with_reducible rfl
   rotate_left
   ·simp only [sx]
    rfl
   refine pure_ (i := 13) (N := some 76) (v := ?_) (a' := ?_) (bm 37 16383) rfl rfl (any_of HT_.out kr) qi (Or.inl ⟨by rfl, ?_⟩) ?_ ?_
   rotate_left
   ·intro w'
    go_simp
    with_reducible rfl
   rotate_left
   ·simp only [sx]
    rfl
   refine pure_ (i := 14) (N := some 77) (v := ?_) (a' := ?_) (bm 37 32767) rfl rfl (any_of HT_.out kr) qi (Or.inl ⟨by rfl, ?_⟩) ?_ ?_
   rotate_left
   ·intro w'
    go_simp
    with_reducible rfl
   rotate_left
   ·simp only [sx]
    rfl
   refine pure_ (i := 15) (N := some 78) (v := ?_) (a' := ?_) (bm 37 65535) rfl rfl (any_of HT_.out kr) qi (Or.inl ⟨by rfl, ?_⟩) ?_ ?_
   rotate_left
   ·intro w'
    go_simp
    with_reducible rfl
   rotate_left
   ·simp only [sx]
    rfl
   refine take_ (i := 16) (N := some 79) (v := ?_) (a' := ?_) (bm 37 131071) rfl rfl (take_ofW HT_.out HW_.out kr) qi (Or.inl ⟨by rfl, ?_⟩) hHeld ?_ ?_
   rotate_left
   ·rintro w' ⟨s0, s1, s2, s3, s4, s5, s6, s7⟩
    go_simp
    with_reducible rfl
   rotate_left
   ·simp only [sx]
    rfl
   refine take_ (i := 17) (N := some 80) (v := ?_) (a' := ?_) (bm 37 262143) rfl rfl (take_ofW HT_.out HW_.out kr) qi (Or.inl ⟨by rfl, ?_⟩) hHeld ?_ ?_
   rotate_left
   ·rintro w' ⟨s0, s1, s2, s3, s4, s5, s6, s7⟩
    go_simp
    with_reducible rfl
   rotate_left
   ·simp only [sx]
    rfl
   refine pure_ (i := 18) (N := some 81) (v := ?_) (a' := ?_) (bm 37 524287) rfl rfl (any_of HT_.out kr) qi (Or.inl ⟨by rfl, ?_⟩) ?_ ?_
   rotate_left
   ·intro w'
    go_simp
    with_reducible rfl
   rotate_left
   ·simp only [sx]
    rfl
   refine pure_ (i := 19) (N := some 82) (v := ?_) (a' := ?_) (bm 37 1048575) rfl rfl (any_of HT_.out kr) qi (Or.inl ⟨by rfl, ?_⟩) ?_ ?_
   rotate_left
   ·intro w'
    go_simp
    with_reducible rfl
   rotate_left
   ·simp only [sx]
    rfl
   refine take_ (i := 20) (N := some 83) (v := ?_) (a' := ?_) (bm 37 2097151) rfl rfl (take_ofW HT_.out HW_.out kr) qi (Or.inl ⟨by rfl, ?_⟩) hHeld ?_ ?_
   rotate_left
   ·rintro w' ⟨s0, s1, s2, s3, s4, s5, s6, s7⟩
    go_simp
    with_reducible rfl
   rotate_left
   ·simp only [sx]
    rfl
   refine one_ (i := 21) (N := some 84) (bm 37 4194303) rfl rfl (one_of HT_.out kr) (by decide) (fun K hK => ?_)
   refine goes_ Try.func61 kr rfl #[.slice A0_2 l0_2.length c0_2, .slice A1_1 l1_1.length c1_1] (by rfl) rfl rfl mpw ?_
   with_reducible refine (slices_Equal_string.calls k _ _ l0_2 _ _ l1_1 false _ ?side1 ?side2 ?side3 ?side4 A53.out).mono ?_
   (case side1 => have X_ := HR0_2; exact cbl)
   (case side2 => exact HC0_2.out)
   (case side3 => have X_ := HR1_1; exact cbl)
   (case side4 => exact HC1_1.out)
   rintro e w' ⟨rfl, ⟨nd, rfl⟩⟩
   refine ⟨_, rfl, ?_⟩
   refine hK.out _ _ ⟨(by first | exact pw_cell_below HB.out (HP0.out.1) | exact HP0.out.1), (by first | exact pw_cell_below HB.out (HP0.out.2.1) | exact HP0.out.2.1), (by first | exact pw_cell_below HB.out (HP0.out.2.2.1) | exact HP0.out.2.2.1), (by first | exact pw_cell_below HB.out (HP0.out.2.2.2.1) | exact HP0.out.2.2.2.1), (blk_cell BK346.out 0).trans rfl, (by first | exact pw_cell_below HB.out (HP1.out.1) | exact HP1.out.1), (by first | exact pw_cell_below HB.out (HP1.out.2.1) | exact HP1.out.2.1), (by first | exact pw_cell_below HB.out (HP1.out.2.2.1) | exact HP1.out.2.2.1)⟩ (fun hHeld => ?_)
   clear hK K
   refine norm_ (a' := ?_) ?_ ?_
   rotate_left
   ·show Act.put _ (some 84) _ = _
    simp only [sx]
    rfl
   refine pure_ (i := 22) (N := some 85) (v := ?_) (a' := ?_) (bm 37 8388607) rfl rfl (any_of HT_.out kr) qi (Or.inl ⟨by rfl, ?_⟩) ?_ ?_
   rotate_left
   ·intro w'
    go_simp
    with_reducible rfl
   rotate_left
   ·simp only [sx]
    rfl
   refine pure_ (i := 23) (N := some 86) (v := ?_) (a' := ?_) (bm 37 16777215) rfl rfl (any_of HT_.out kr) qi (Or.inl ⟨by rfl, ?_⟩) ?_ ?_
   rotate_left
   ·intro w'
    go_simp
    with_reducible rfl
   rotate_left
   ·simp only [sx]
    rfl
   refine pure_ (i := 24) (N := some 87) (v := ?_) (a' := ?_) (bm 37 33554431) rfl rfl (any_of HT_.out kr) qi (Or.inl ⟨by rfl, ?_⟩) ?_ ?_
   rotate_left
   ·intro w'
    go_simp
    with_reducible rfl
   rotate_left
   ·simp only [sx]
    rfl
   refine pure_ (i := 25) (N := some 88) (v := undef) (a' := ?_) (bm 37 67108863) rfl rfl (any_of HT_.out kr) qi (Or.inr ⟨by rfl, rfl⟩) ?_ ?_
   rotate_left
   ·simp only [sx]
    rfl
   refine pure_ (i := 26) (N := some 89) (v := undef) (a' := ?_) (bm 37 134217727) rfl rfl (any_of HT_.out kr) qi (Or.inr ⟨by rfl, rfl⟩) ?_ ?_
   rotate_left
   ·simp only [sx]
    rfl
   refine pure_ (i := 27) (N := some 90) (v := undef) (a' := ?_) (bm 37 268435455) rfl rfl (any_of HT_.out kr) qi (Or.inr ⟨by rfl, rfl⟩) ?_ ?_
   rotate_left
   ·simp only [sx]
    rfl
   refine pure_ (i := 28) (N := some 91) (v := undef) (a' := ?_) (bm 37 536870911) rfl rfl (any_of HT_.out kr) qi (Or.inr ⟨by rfl, rfl⟩) ?_ ?_
   rotate_left
   ·simp only [sx]
    rfl
   refine pure_ (i := 29) (N := some 92) (v := undef) (a' := ?_) (bm 37 1073741823) rfl rfl (any_of HT_.out kr) qi (Or.inr ⟨by rfl, rfl⟩) ?_ ?_
   rotate_left
   ·simp only [sx]
    rfl
   refine pure_ (i := 30) (N := some 93) (v := undef) (a' := ?_) (bm 37 2147483647) rfl rfl (any_of HT_.out kr) qi (Or.inr ⟨by rfl, rfl⟩) ?_ ?_
   rotate_left
   ·simp only [sx]
    rfl
   refine pure_ (i := 31) (N := some 94) (v := undef) (a' := ?_) (bm 37 4294967295) rfl rfl (any_of HT_.out kr) qi (Or.inr ⟨by rfl, rfl⟩) ?_ ?_
   rotate_left
   ·simp only [sx]
    rfl
   refine pure_ (i := 32) (N := some 95) (v := undef) (a' := ?_) (bm 37 8589934591) rfl rfl (any_of HT_.out kr) qi (Or.inr ⟨by rfl, rfl⟩) ?_ ?_
   rotate_left
   ·simp only [sx]
    rfl
   refine pure_ (i := 33) (N := some 96) (v := undef) (a' := ?_) (bm 37 17179869183) rfl rfl (any_of HT_.out kr) qi (Or.inr ⟨by rfl, rfl⟩) ?_ ?_
   rotate_left
   ·simp only [sx]
    rfl
   refine pure_ (i := 34) (N := some 97) (v := undef) (a' := ?_) (bm 37 34359738367) rfl rfl (any_of HT_.out kr) qi (Or.inr ⟨by rfl, rfl⟩) ?_ ?_
   rotate_left
   ·simp only [sx]
    rfl
   refine pure_ (i := 35) (N := some 98) (v := undef) (a' := ?_) (bm 37 68719476735) rfl rfl (any_of HT_.out kr) qi (Or.inr ⟨by rfl, rfl⟩) ?_ ?_
   rotate_left
   ·simp only [sx]
    rfl
   refine pure_ (i := 36) (N := some 99) (v := ?_) (a' := ?_) (bm 37 137438953471) rfl rfl (any_of HT_.out kr) qi (Or.inl ⟨by rfl, ?_⟩) ?_ ?_
   rotate_left
   ·intro w'
    go_simp
    with_reducible rfl
   rotate_left
   ·simp only [sx]
    rfl
   refine done_ (done_of HT_.out kr) ?_
   try go_wp2
   go_meet
   case rel => exact ⟨_, (true), rfs, H', ⟨by first | omega | exact Nat.le_refl _⟩, ⟨bkw⟩, ⟨blw⟩⟩
  subst c54
  have H1 : (impl_fits.j0 k ((l0_3.length : Int) != (l1_2.length : Int)) l0_3 l1_2) = some r := by rw [if_pos rfl] at H; exact H
  clear H
  have H := H1
  clear H1
  have H' := Aside0.mk H
  clear H
  try go_wp2
  have n0_ := Aside0.mk (blk_drew BK346.out)
  have n1_ := Aside0.mk (below_drew1 HB.out)
  clear BK346
  clear HB
  revert n0_ n1_
  intro BK346 HB
  refine start_ (n := 37) (S := fun w' => w'.cell? ad0 = some (.int .i64 a0_0) ∧ w'.cell? ⟨ad0.block, ad0.off + 1, none⟩ = some (.int .i64 a0_1) ∧ w'.cell? ⟨ad0.block, ad0.off + 2, none⟩ = some (.slice A0_2 l0_2.length c0_2) ∧ w'.cell? ⟨ad0.block, ad0.off + 3, none⟩ = some (.slice A0_3 l0_3.length c0_3) ∧ w'.cell? ⟨gb346, 0, none⟩ = some (.pointer (some ad1)) ∧ w'.cell? ad1 = some (.int .i64 a1_0) ∧ w'.cell? ⟨ad1.block, ad1.off + 1, none⟩ = some (.slice A1_1 l1_1.length c1_1) ∧ w'.cell? ⟨ad1.block, ad1.off + 2, none⟩ = some (.slice A1_2 l1_2.length c1_2)) (ds := []) #[false,false,false,false,false,false,false,false,false,false,false,false,false,false,false,false,false,false,false,false,false,false,false,false,false,false,false,false,false,false,false,false,false,false,false,false,false] kr rfl rfl ⟨(by first | exact pw_cell_below HB.out (HP0.out.1) | exact HP0.out.1), (by first | exact pw_cell_below HB.out (HP0.out.2.1) | exact HP0.out.2.1), (by first | exact pw_cell_below HB.out (HP0.out.2.2.1) | exact HP0.out.2.2.1), (by first | exact pw_cell_below HB.out (HP0.out.2.2.2.1) | exact HP0.out.2.2.2.1), (blk_cell BK346.out 0).trans rfl, (by first | exact pw_cell_below HB.out (HP1.out.1) | exact HP1.out.1), (by first | exact pw_cell_below HB.out (HP1.out.2.1) | exact HP1.out.2.1), (by first | exact pw_cell_below HB.out (HP1.out.2.2.1) | exact HP1.out.2.2.1)⟩ (fun hHeld => ?_); refine with_tabW impl_fits.tab8 impl_fits.bits8 (fun HT_ HW_ => ?_)
  generalize w48.drew = w55 at BK346 HB hHeld ⊢
  refine pure_ (i := 0) (N := some 63) (v := ?_) (a' := ?_) (bm 37 1) rfl rfl (any_of HT_.out kr) qi (Or.inl ⟨by rfl, ?_⟩) ?_ ?_
  rotate_left
  ·intro w'
   go_simp
   with_reducible rfl
  rotate_left
  ·simp only [sx]
   rfl
  refine pure_ (i := 1) (N := some 64) (v := ?_) (a' := ?_) (bm 37 3) rfl rfl (any_of HT_.out kr) qi (Or.inl ⟨by rfl, ?_⟩) ?_ ?_
  rotate_left
  ·intro w'
   go_simp
   with_reducible rfl
  rotate_left
  ·simp only [sx]
   rfl
  refine pure_ (i := 2) (N := some 65) (v := ?_) (a' := ?_) (bm 37 7) rfl rfl (any_of HT_.out kr) qi (Or.inl ⟨by rfl, ?_⟩) ?_ ?_
  rotate_left
  ·intro w'
   go_simp
   with_reducible rfl
  rotate_left
  ·simp only [sx]
   rfl
  refine take_ (i := 3) (N := some 66) (v := ?_) (a' := ?_) (bm 37 15) rfl rfl (take_ofW HT_.out HW_.out kr) qi (Or.inl ⟨by rfl, ?_⟩) hHeld ?_ ?_
  rotate_left
  ·rintro w' ⟨s0, s1, s2, s3, s4, s5, s6, s7⟩
   go_simp
   with_reducible rfl
  rotate_left
  ·simp only [sx]
   rfl
  refine pure_ (i := 4) (N := some 67) (v := ?_) (a' := ?_) (bm 37 31) rfl rfl (any_of HT_.out kr) qi (Or.inl ⟨by rfl, ?_⟩) ?_ ?_
  rotate_left
  ·intro w'
   go_simp
   with_reducible rfl
  rotate_left
  ·simp only [sx]
   rfl
  refine pure_ (i := 5) (N := some 68) (v := ?_) (a' := ?_) (bm 37 63) rfl rfl (any_of HT_.out kr) qi (Or.inl ⟨by rfl, ?_⟩) ?_ ?_
  rotate_left
  ·intro w'
   go_simp
   with_reducible rfl
  rotate_left
  ·simp only [sx]
   rfl
  refine pure_ (i := 6) (N := some 69) (v := ?_) (a' := ?_) (bm 37 127) rfl rfl (any_of HT_.out kr) qi (Or.inl ⟨by rfl, ?_⟩) ?_ ?_
  rotate_left
  ·intro w'
   go_simp
   with_reducible rfl
  rotate_left
  ·simp only [sx]
   rfl
  refine pure_ (i := 7) (N := some 70) (v := ?_) (a' := ?_) (bm 37 255) rfl rfl (any_of HT_.out kr) qi (Or.inl ⟨by rfl, ?_⟩) ?_ ?_
  rotate_left
  ·intro w'
   go_simp
   with_reducible rfl
  rotate_left
  ·simp only [sx]
   rfl
  refine pure_ (i := 8) (N := some 71) (v := ?_) (a' := ?_) (bm 37 511) rfl rfl (any_of HT_.out kr) qi (Or.inl ⟨by rfl, ?_⟩) ?_ ?_
  rotate_left
  ·intro w'
   go_simp
   with_reducible rfl
  rotate_left
  ·simp only [sx]
   rfl
  refine take_ (i := 9) (N := some 72) (v := ?_) (a' := ?_) (bm 37 1023) rfl rfl (take_ofW HT_.out HW_.out kr) qi (Or.inl ⟨by rfl, ?_⟩) hHeld ?_ ?_
  rotate_left
  ·rintro w' ⟨s0, s1, s2, s3, s4, s5, s6, s7⟩
   go_simp
   with_reducible rfl
  rotate_left
  ·simp only [sx]
   rfl
  refine pure_ (i := 10) (N := some 73) (v := ?_) (a' := ?_) (bm 37 2047) rfl rfl (any_of HT_.out kr) qi (Or.inl ⟨by rfl, ?_⟩) ?_ ?_
  rotate_left
  ·intro w'
   go_simp
   with_reducible rfl
  rotate_left
  ·simp only [sx]
   rfl
  refine pure_ (i := 11) (N := some 74) (v := ?_) (a' := ?_) (bm 37 4095) rfl rfl (any_of HT_.out kr) qi (Or.inl ⟨by rfl, ?_⟩) ?_ ?_
  rotate_left
  ·intro w'
   go_simp
   with_reducible rfl
  rotate_left
  ·simp only [sx]
   rfl
  refine pure_ (i := 12) (N := some 75) (v := ?_) (a' := ?_) (bm 37 8191) rfl rfl (any_of HT_.out kr) qi (Or.inl ⟨by rfl, ?_⟩) ?_ ?_
  rotate_left
  ·intro w'
   go_simp
   with_reducible rfl
  rotate_left
  ·simp only [sx]
   rfl
  refine pure_ (i := 13) (N := some 76) (v := ?_) (a' := ?_) (bm 37 16383) rfl rfl (any_of HT_.out kr) qi (Or.inl ⟨by rfl, ?_⟩) ?_ ?_
  rotate_left
  ·intro w'
   go_simp
   with_reducible rfl
  rotate_left
  ·simp only [sx]
   rfl
  refine pure_ (i := 14) (N := some 77) (v := ?_) (a' := ?_) (bm 37 32767) rfl rfl (any_of HT_.out kr) qi (Or.inl ⟨by rfl, ?_⟩) ?_ ?_
  rotate_left
  ·intro w'
   go_simp
   with_reducible rfl
  rotate_left
  ·simp only [sx]
   rfl
  refine pure_ (i := 15) (N := some 78) (v := ?_) (a' := ?_) (bm 37 65535) rfl rfl (any_of HT_.out kr) qi (Or.inl ⟨by rfl, ?_⟩) ?_ ?_
  rotate_left
  ·intro w'
   go_simp
   with_reducible rfl
  rotate_left
  ·simp only [sx]
   rfl
  refine take_ (i := 16) (N := some 79) (v := ?_) (a' := ?_) (bm 37 131071) rfl rfl (take_ofW HT_.out HW_.out kr) qi (Or.inl ⟨by rfl, ?_⟩) hHeld ?_ ?_
  rotate_left
  ·rintro w' ⟨s0, s1, s2, s3, s4, s5, s6, s7⟩
   go_simp
   with_reducible rfl
  rotate_left
  ·simp only [sx]
   rfl
  refine take_ (i := 17) (N := some 80) (v := ?_) (a' := ?_) (bm 37 262143) rfl rfl (take_ofW HT_.out HW_.out kr) qi (Or.inl ⟨by rfl, ?_⟩) hHeld ?_ ?_
  rotate_left
  ·rintro w' ⟨s0, s1, s2, s3, s4, s5, s6, s7⟩
   go_simp
   with_reducible rfl
  rotate_left
  ·simp only [sx]
   rfl
  refine pure_ (i := 18) (N := some 81) (v := ?_) (a' := ?_) (bm 37 524287) rfl rfl (any_of HT_.out kr) qi (Or.inl ⟨by rfl, ?_⟩) ?_ ?_
  rotate_left
  ·intro w'
   go_simp
   with_reducible rfl
  rotate_left
  ·simp only [sx]
   rfl
  refine pure_ (i := 19) (N := some 82) (v := ?_) (a' := ?_) (bm 37 1048575) rfl rfl (any_of HT_.out kr) qi (Or.inl ⟨by rfl, ?_⟩) ?_ ?_
  rotate_left
  ·intro w'
   go_simp
   with_reducible rfl
  rotate_left
  ·simp only [sx]
   rfl
  refine take_ (i := 20) (N := some 83) (v := ?_) (a' := ?_) (bm 37 2097151) rfl rfl (take_ofW HT_.out HW_.out kr) qi (Or.inl ⟨by rfl, ?_⟩) hHeld ?_ ?_
  rotate_left
  ·rintro w' ⟨s0, s1, s2, s3, s4, s5, s6, s7⟩
   go_simp
   with_reducible rfl
  rotate_left
  ·simp only [sx]
   rfl
  refine one_ (i := 21) (N := some 84) (bm 37 4194303) rfl rfl (one_of HT_.out kr) (by decide) (fun K hK => ?_)
  refine goes_ Try.func61 kr rfl #[.slice A0_2 l0_2.length c0_2, .slice A1_1 l1_1.length c1_1] (by rfl) rfl rfl mpw ?_
  with_reducible refine (slices_Equal_string.calls k _ _ l0_2 _ _ l1_1 true _ ?side1 ?side2 ?side3 ?side4 A53.out).mono ?_
  (case side1 => have X_ := HR0_2; exact cbl)
  (case side2 => exact HC0_2.out)
  (case side3 => have X_ := HR1_1; exact cbl)
  (case side4 => exact HC1_1.out)
  rintro e w' ⟨rfl, ⟨nd, rfl⟩⟩
  refine ⟨_, rfl, ?_⟩
  refine hK.out _ _ ⟨(by first | exact pw_cell_below HB.out (HP0.out.1) | exact HP0.out.1), (by first | exact pw_cell_below HB.out (HP0.out.2.1) | exact HP0.out.2.1), (by first | exact pw_cell_below HB.out (HP0.out.2.2.1) | exact HP0.out.2.2.1), (by first | exact pw_cell_below HB.out (HP0.out.2.2.2.1) | exact HP0.out.2.2.2.1), (blk_cell BK346.out 0).trans rfl, (by first | exact pw_cell_below HB.out (HP1.out.1) | exact HP1.out.1), (by first | exact pw_cell_below HB.out (HP1.out.2.1) | exact HP1.out.2.1), (by first | exact pw_cell_below HB.out (HP1.out.2.2.1) | exact HP1.out.2.2.1)⟩ (fun hHeld => ?_)
  clear hK K
  refine norm_ (a' := ?_) ?_ ?_
  rotate_left
  ·show Act.put _ (some 84) _ = _
   simp only [sx]
   rfl
  refine pure_ (i := 22) (N := some 85) (v := ?_) (a' := ?_) (bm 37 8388607) rfl rfl (any_of HT_.out kr) qi (Or.inl ⟨by rfl, ?_⟩) ?_ ?_
  rotate_left
  ·intro w'
   go_simp
   with_reducible rfl
  rotate_left
  ·simp only [sx]
   rfl
  refine pure_ (i := 23) (N := some 86) (v := ?_) (a' := ?_) (bm 37 16777215) rfl rfl (any_of HT_.out kr) qi (Or.inl ⟨by rfl, ?_⟩) ?_ ?_
  rotate_left
  ·intro w'
   go_simp
   with_reducible rfl
  rotate_left
  ·simp only [sx]
   rfl
  refine pure_ (i := 24) (N := some 87) (v := ?_) (a' := ?_) (bm 37 33554431) rfl rfl (any_of HT_.out kr) qi (Or.inl ⟨by rfl, ?_⟩) ?_ ?_
  rotate_left
  ·intro w'
   go_simp
   with_reducible rfl
  rotate_left
  ·simp only [sx]
   rfl
  refine pure_ (i := 25) (N := some 88) (v := ?_) (a' := ?_) (bm 37 67108863) rfl rfl (any_of HT_.out kr) qi (Or.inl ⟨by rfl, ?_⟩) ?_ ?_
  rotate_left
  ·intro w'
   go_simp
   with_reducible rfl
  rotate_left
  ·simp only [sx]
   rfl
  refine pure_ (i := 26) (N := some 89) (v := ?_) (a' := ?_) (bm 37 134217727) rfl rfl (any_of HT_.out kr) qi (Or.inl ⟨by rfl, ?_⟩) ?_ ?_
  rotate_left
  ·intro w'
   go_simp
   with_reducible rfl
  rotate_left
  ·simp only [sx]
   rfl
  refine pure_ (i := 27) (N := some 90) (v := ?_) (a' := ?_) (bm 37 268435455) rfl rfl (any_of HT_.out kr) qi (Or.inl ⟨by rfl, ?_⟩) ?_ ?_
  rotate_left
  ·intro w'
   go_simp
   with_reducible rfl
  rotate_left
  ·simp only [sx]
   rfl
  refine take_ (i := 28) (N := some 91) (v := ?_) (a' := ?_) (bm 37 536870911) rfl rfl (take_ofW HT_.out HW_.out kr) qi (Or.inl ⟨by rfl, ?_⟩) hHeld ?_ ?_
  rotate_left
  ·rintro w' ⟨s0, s1, s2, s3, s4, s5, s6, s7⟩
   go_simp
   with_reducible rfl
  rotate_left
  ·simp only [sx]
   rfl
  refine pure_ (i := 29) (N := some 92) (v := ?_) (a' := ?_) (bm 37 1073741823) rfl rfl (any_of HT_.out kr) qi (Or.inl ⟨by rfl, ?_⟩) ?_ ?_
  rotate_left
  ·intro w'
   go_simp
   with_reducible rfl
  rotate_left
  ·simp only [sx]
   rfl
  refine take_ (i := 30) (N := some 93) (v := ?_) (a' := ?_) (bm 37 2147483647) rfl rfl (take_ofW HT_.out HW_.out kr) qi (Or.inl ⟨by rfl, ?_⟩) hHeld ?_ ?_
  rotate_left
  ·rintro w' ⟨s0, s1, s2, s3, s4, s5, s6, s7⟩
   go_simp
   with_reducible rfl
  rotate_left
  ·simp only [sx]
   rfl
  refine pure_ (i := 31) (N := some 94) (v := ?_) (a' := ?_) (bm 37 4294967295) rfl rfl (any_of HT_.out kr) qi (Or.inl ⟨by rfl, ?_⟩) ?_ ?_
  rotate_left
  ·intro w'
   go_simp
   with_reducible rfl
  rotate_left
  ·simp only [sx]
   rfl
  refine pure_ (i := 32) (N := some 95) (v := ?_) (a' := ?_) (bm 37 8589934591) rfl rfl (any_of HT_.out kr) qi (Or.inl ⟨by rfl, ?_⟩) ?_ ?_
  rotate_left
  ·intro w'
   go_simp
   with_reducible rfl
  rotate_left
  ·simp only [sx]
   rfl
  refine take_ (i := 33) (N := some 96) (v := ?_) (a' := ?_) (bm 37 17179869183) rfl rfl (take_ofW HT_.out HW_.out kr) qi (Or.inl ⟨by rfl, ?_⟩) hHeld ?_ ?_
  rotate_left
  ·rintro w' ⟨s0, s1, s2, s3, s4, s5, s6, s7⟩
   go_simp
   with_reducible rfl
  rotate_left
  ·simp only [sx]
   rfl
  refine pure_ (i := 34) (N := some 97) (v := ?_) (a' := ?_) (bm 37 34359738367) rfl rfl (any_of HT_.out kr) qi (Or.inl ⟨by rfl, ?_⟩) ?_ ?_
  rotate_left
  ·intro w'
   go_simp
   with_reducible rfl
  rotate_left
  ·simp only [sx]
   rfl
  refine pure_ (i := 35) (N := some 98) (v := ?_) (a' := ?_) (bm 37 68719476735) rfl rfl (any_of HT_.out kr) qi (Or.inl ⟨by rfl, ?_⟩) ?_ ?_
  rotate_left
  ·intro w'
   go_simp
   with_reducible rfl
  rotate_left
  ·simp only [sx]
   rfl
  refine pure_ (i := 36) (N := some 99) (v := ?_) (a' := ?_) (bm 37 137438953471) rfl rfl (any_of HT_.out kr) qi (Or.inl ⟨by rfl, ?_⟩) ?_ ?_
  rotate_left
  ·intro w'
   go_simp
   with_reducible rfl
  rotate_left
  ·simp only [sx]
   rfl
  refine done_ (done_of HT_.out kr) ?_
  try go_wp2
  go_meet
  case rel => exact ⟨_, (((l0_3.length : Int) != (l1_2.length : Int))), rfs, H', ⟨by first | omega | exact Nat.le_refl _⟩, ⟨bkw⟩, ⟨blw⟩⟩
 case rest =>
  clear HC47
  (try clear c1); (try clear p2); (try clear c5); (try clear c6); (try clear c51); (try clear c51b0); (try clear c51b1); (try clear c52); (try clear c52b0); (try clear c52b1)
  obtain ⟨kq, x99_46, rfl, HA, HJ46, BK346, HB⟩ := hcut
  cases kq with
  | zero => exact absurd HA.out (by simp [impl_fits.j0])
  | succ kj46 =>
   have H := HA.out
   clear HA
   simp only [impl_fits.j0] at H
   by_cases c59 : x99_46 = true
   ·subst c59
    have H1 : (some false) = some r := by rw [if_pos rfl] at H; exact H
    clear H
    have H := H1
    clear H1
    obtain rfl := Option.some.inj H
    go_wp2
    go_ret
    exact ⟨rfw, blw⟩
   replace c59 := Bool.eq_false_iff.mpr c59
   subst c59
   have H1 : (impl_fits.l0 kj46 (l0_3.length : Int) 0 l0_3 l1_2) = some r := by rw [if_neg (show ¬ (false = true) by decide)] at H; exact H
   clear H
   have H := H1
   clear H1
   have H' := Aside0.mk H
   clear H
   have hxr60_0 : wc.cell? ad0 = some (.int .i64 a0_0) := pw_cell_below HB.out (HP0.out.1)
   have hxr60_1 : wc.cell? ⟨ad0.block, ad0.off + 1, none⟩ = some (.int .i64 a0_1) := pw_cell_below HB.out (HP0.out.2.1)
   have hxr60_2 : wc.cell? ⟨ad0.block, ad0.off + 2, none⟩ = some (.slice A0_2 l0_2.length c0_2) := pw_cell_below HB.out (HP0.out.2.2.1)
   have hxr60_3 : wc.cell? ⟨ad0.block, ad0.off + 3, none⟩ = some (.slice A0_3 l0_3.length c0_3) := pw_cell_below HB.out (HP0.out.2.2.2.1)
   go_wp2
   go_loopg [105] kj46 (fun kq v105 w' => ∃ (x105_2 : Int), v105 = .int .i64 x105_2 ∧ Aside0 (impl_fits.l0 kq (l0_3.length : Int) x105_2 l0_3 l1_2 = some r) ∧ Aside0 (kq ≤ kj46) ∧ Aside0 (w'.heap[gb346]? = some (.cells #[.pointer (some ad1)] 84 (0, 0))) ∧ Aside0 (Below w.heap.size w w'))
   case atStart => exact ⟨(0), rfs, H', ⟨Nat.le_refl _⟩, ⟨bkw⟩, ⟨blw⟩⟩
   case round =>
    clear H'
    (try clear c1); (try clear p2); (try clear c5); (try clear c6); (try clear c51); (try clear c51b0); (try clear c51b1); (try clear c52); (try clear c52b0); (try clear c52b1); (try clear c59); (try clear p2)
    obtain ⟨x105_2, rfl, HA, HK2, BK346, HB⟩ := hrel
    cases gk with
    | zero => exact absurd HA.out (by simp [impl_fits.l0])
    | succ k2 =>
     have H := HA.out
     clear HA
     simp only [impl_fits.l0] at H
     by_cases c61 : x105_2 < (l0_3.length : Int)
     case neg =>
      rw [if_neg c61] at H
      have c61b0 : decide (x105_2 < (l0_3.length : Int)) = false := decide_eq_false c61
      clear c61
      obtain rfl := Option.some.inj H
      go_wp2
      go_ret
      exact ⟨rfw, blw⟩
     rw [if_pos c61] at H
     have c61b0 : decide (x105_2 < (l0_3.length : Int)) = true := decide_eq_true c61
     clear c61
     by_cases c62 : 0 ≤ x105_2
     case neg =>
      rw [if_neg c62] at H
      exact absurd H (by simp)
     rw [if_pos c62] at H
     have c62b0 : decide (0 ≤ x105_2) = true := decide_eq_true c62
     clear c62
     by_cases c63 : x105_2 < (l0_3.length : Int)
     case neg =>
      rw [if_neg c63] at H
      exact absurd H (by simp)
     rw [if_pos c63] at H
     have c63b0 : decide (x105_2 < (l0_3.length : Int)) = true := decide_eq_true c63
     clear c63
     by_cases c64 : x105_2 < (l1_2.length : Int)
     case neg =>
      rw [if_neg c64] at H
      exact absurd H (by simp)
     rw [if_pos c64] at H
     have c64b0 : decide (x105_2 < (l1_2.length : Int)) = true := decide_eq_true c64
     clear c64
     replace H := Option.bind_eq_some_iff.mp H
     obtain ⟨t353, A650, H⟩ := H
     replace H : (if t353 = true then (impl_fits.l0 k2 (l0_3.length : Int) (wrap64 (x105_2 + 1)) l0_3 l1_2) else (some false)) = some r := H
     have A65 := Aside0.mk A650
     clear A650
     have HC66 := Aside0.mk H
     clear H
     try go_wp2
     have n0_ := Aside0.mk (blk_drew BK346.out)
     have n1_ := Aside0.mk (below_drew1 HB.out)
     clear BK346
     clear HB
     revert n0_ n1_
     intro BK346 HB
     have p351 : 0 ≤ (x105_2 : Int) := of_decide_eq_true asw
     have q351 : x105_2 < (l0_3.length : Int) := of_decide_eq_true asw
     obtain ⟨ad351, A351_2, c351_2, A351_3, c351_3, e351, hx351_0, hx351_1, hx351_2, hx351_3, hl351_2, hi351_2, hl351_3, hi351_3⟩ := at_T56 HR0_3.out x105_2 p351 q351
     have hw351_3 := hx351_3
     have hw351_2 := hx351_2
     have hw351_1 := hx351_1
     have hw351_0 := hx351_0
     cases e351
     have HP351 := Aside0.mk (show Cells w (ad351.add (x105_2.toNat * 4)) [.int .i64 ((rd_T56 l0_3 x105_2).f0), .int .i64 ((rd_T56 l0_3 x105_2).f1), .slice A351_2 ((rd_T56 l0_3 x105_2).f2).length c351_2, .slice A351_3 ((rd_T56 l0_3 x105_2).f3).length c351_3] from ⟨hx351_0, hx351_1, hx351_2, hx351_3, trivial⟩)
     replace hx351_0 := upw HB.out hx351_0
     replace hx351_1 := upw HB.out hx351_1
     replace hx351_2 := upw HB.out hx351_2
     replace hx351_3 := upw HB.out hx351_3
     have HR351_2 := Aside0.mk hi351_2
     have HC351_2 := Aside0.mk hl351_2
     clear hi351_2 hl351_2
     have HR351_3 := Aside0.mk hi351_3
     have HC351_3 := Aside0.mk hl351_3
     clear hi351_3 hl351_3
     replace p351 := eq_true p351
     replace q351 := eq_true q351
     have p352 : 0 ≤ (x105_2 : Int) := of_decide_eq_true asw
     have q352 : x105_2 < (l1_2.length : Int) := of_decide_eq_true asw
     obtain ⟨ad352, A352_1, c352_1, A352_2, c352_2, e352, hx352_0, hx352_1, hx352_2, hl352_1, hi352_1, hl352_2, hi352_2⟩ := at_T51 HR1_2.out x105_2 p352 q352
     have hw352_2 := hx352_2
     have hw352_1 := hx352_1
     have hw352_0 := hx352_0
     cases e352
     have HP352 := Aside0.mk (show Cells w (ad352.add (x105_2.toNat * 3)) [.int .i64 ((rd_T51 l1_2 x105_2).f0), .slice A352_1 ((rd_T51 l1_2 x105_2).f1).length c352_1, .slice A352_2 ((rd_T51 l1_2 x105_2).f2).length c352_2] from ⟨hx352_0, hx352_1, hx352_2, trivial⟩)
     replace hx352_0 := upw HB.out hx352_0
     replace hx352_1 := upw HB.out hx352_1
     replace hx352_2 := upw HB.out hx352_2
     have HR352_1 := Aside0.mk hi352_1
     have HC352_1 := Aside0.mk hl352_1
     clear hi352_1 hl352_1
     have HR352_2 := Aside0.mk hi352_2
     have HC352_2 := Aside0.mk hl352_2
     clear hi352_2 hl352_2
     replace p352 := eq_true p352
     replace q352 := eq_true q352
     refine start_ (n := 14) (S := fun w' => w'.cell? ad0 = some (.int .i64 a0_0) ∧ w'.cell? ⟨ad0.block, ad0.off + 1, none⟩ = some (.int .i64 a0_1) ∧ w'.cell? ⟨ad0.block, ad0.off + 2, none⟩ = some (.slice A0_2 l0_2.length c0_2) ∧ w'.cell? ⟨ad0.block, ad0.off + 3, none⟩ = some (.slice (some ad351) l0_3.length c0_3) ∧ w'.cell? ⟨gb346, 0, none⟩ = some (.pointer (some ad1)) ∧ w'.cell? ad1 = some (.int .i64 a1_0) ∧ w'.cell? ⟨ad1.block, ad1.off + 1, none⟩ = some (.slice A1_1 l1_1.length c1_1) ∧ w'.cell? ⟨ad1.block, ad1.off + 2, none⟩ = some (.slice (some ad352) l1_2.length c1_2) ∧ w'.cell? (ad351.add ((x105_2).toNat * 4)) = some (.int .i64 ((rd_T56 l0_3 x105_2).f0)) ∧ w'.cell? ⟨(ad351.add ((x105_2).toNat * 4)).block, (ad351.add ((x105_2).toNat * 4)).off + 1, none⟩ = some (.int .i64 ((rd_T56 l0_3 x105_2).f1)) ∧ w'.cell? ⟨(ad351.add ((x105_2).toNat * 4)).block, (ad351.add ((x105_2).toNat * 4)).off + 2, none⟩ = some (.slice A351_2 ((rd_T56 l0_3 x105_2).f2).length c351_2) ∧ w'.cell? ⟨(ad351.add ((x105_2).toNat * 4)).block, (ad351.add ((x105_2).toNat * 4)).off + 3, none⟩ = some (.slice A351_3 ((rd_T56 l0_3 x105_2).f3).length c351_3) ∧ w'.cell? (ad352.add ((x105_2).toNat * 3)) = some (.int .i64 ((rd_T51 l1_2 x105_2).f0)) ∧ w'.cell? ⟨(ad352.add ((x105_2).toNat * 3)).block, (ad352.add ((x105_2).toNat * 3)).off + 1, none⟩ = some (.slice A352_1 ((rd_T51 l1_2 x105_2).f1).length c352_1) ∧ w'.cell? ⟨(ad352.add ((x105_2).toNat * 3)).block, (ad352.add ((x105_2).toNat * 3)).off + 2, none⟩ = some (.slice A352_2 ((rd_T51 l1_2 x105_2).f2).length c352_2)) (ds := []) #[false,false,false,false,false,false,false,false,false,false,false,false,false,false] kr rfl rfl ⟨(by first | exact pw_cell_below HB.out (HP0.out.1) | exact HP0.out.1), (by first | exact pw_cell_below HB.out (HP0.out.2.1) | exact HP0.out.2.1), (by first | exact pw_cell_below HB.out (HP0.out.2.2.1) | exact HP0.out.2.2.1), (by first | exact pw_cell_below HB.out (HP0.out.2.2.2.1) | exact HP0.out.2.2.2.1), (blk_cell BK346.out 0).trans rfl, (by first | exact pw_cell_below HB.out (HP1.out.1) | exact HP1.out.1), (by first | exact pw_cell_below HB.out (HP1.out.2.1) | exact HP1.out.2.1), (by first | exact pw_cell_below HB.out (HP1.out.2.2.1) | exact HP1.out.2.2.1), ((HB.out.cell (World.block_lt_of_cell? w _ hw351_0)).trans hw351_0), ((HB.out.cell (World.block_lt_of_cell? w _ hw351_1)).trans hw351_1), ((HB.out.cell (World.block_lt_of_cell? w _ hw351_2)).trans hw351_2), ((HB.out.cell (World.block_lt_of_cell? w _ hw351_3)).trans hw351_3), ((HB.out.cell (World.block_lt_of_cell? w _ hw352_0)).trans hw352_0), ((HB.out.cell (World.block_lt_of_cell? w _ hw352_1)).trans hw352_1), ((HB.out.cell (World.block_lt_of_cell? w _ hw352_2)).trans hw352_2)⟩ (fun hHeld => ?_); refine with_tabW impl_fits.tab13 impl_fits.bits13 (fun HT_ HW_ => ?_)
     generalize wr.drew = w67 at BK346 HB HR351_2 HR351_3 HR352_1 HR352_2 hx351_0 hx351_1 hx351_2 hx351_3 hx352_0 hx352_1 hx352_2 hHeld ⊢
     refine pure_ (i := 0) (N := some 108) (v := ?_) (a' := ?_) (bm 14 1) rfl rfl (any_of HT_.out kr) qi (Or.inl ⟨by rfl, ?_⟩) ?_ ?_
     rotate_left
     ·intro w'
      go_simp
      with_reducible rfl
     rotate_left
     ·simp only [sx]
      rfl
     refine pure_ (i := 1) (N := some 109) (v := ?_) (a' := ?_) (bm 14 3) rfl rfl (any_of HT_.out kr) qi (Or.inl ⟨by rfl, ?_⟩) ?_ ?_
     rotate_left
     ·intro w'
      go_simp
      with_reducible rfl
     rotate_left
     ·simp only [sx]
      rfl
     refine pure_ (i := 2) (N := some 110) (v := ?_) (a' := ?_) (bm 14 7) rfl rfl (any_of HT_.out kr) qi (Or.inl ⟨by rfl, ?_⟩) ?_ ?_
     rotate_left
     ·intro w'
      go_simp
      with_reducible rfl
     rotate_left
     ·simp only [sx]
      rfl
     refine pure_ (i := 4) (N := some 112) (v := ?_) (a' := ?_) (bm 14 23) rfl rfl (any_of HT_.out kr) qi (Or.inl ⟨by rfl, ?_⟩) ?_ ?_
     rotate_left
     ·intro w'
      go_simp
      with_reducible rfl
     rotate_left
     ·simp only [sx]
      rfl
     refine pure_ (i := 10) (N := some 118) (v := ?_) (a' := ?_) (bm 14 1047) rfl rfl (any_of HT_.out kr) qi (Or.inl ⟨by rfl, ?_⟩) ?_ ?_
     rotate_left
     ·intro w'
      go_simp
      with_reducible rfl
     rotate_left
     ·simp only [sx]
      rfl
     refine take_ (i := 3) (N := some 111) (v := ?_) (a' := ?_) (bm 14 1055) rfl rfl (take_ofW HT_.out HW_.out kr) qi (Or.inl ⟨by rfl, ?_⟩) hHeld ?_ ?_
     rotate_left
     ·rintro w' ⟨s0, s1, s2, s3, s4, s5, s6, s7, s8, s9, s10, s11, s12, s13, s14⟩
      go_simp
      with_reducible rfl
     rotate_left
     ·simp only [sx]
      rfl
     refine pure_ (i := 5) (N := some 113) (v := ?_) (a' := ?_) (bm 14 1087) rfl rfl (any_of HT_.out kr) qi (Or.inl ⟨by rfl, ?_⟩) ?_ ?_
     rotate_left
     ·intro w'
      go_simp
      with_reducible rfl
     rotate_left
     ·simp only [sx]
      rfl
     refine take_ (i := 6) (N := some 114) (v := ?_) (a' := ?_) (bm 14 1151) rfl rfl (take_ofW HT_.out HW_.out kr) qi (Or.inl ⟨by rfl, ?_⟩) hHeld ?_ ?_
     rotate_left
     ·rintro w' ⟨s0, s1, s2, s3, s4, s5, s6, s7, s8, s9, s10, s11, s12, s13, s14⟩
      go_simp
      with_reducible rfl
     rotate_left
     ·simp only [sx]
      rfl
     refine pure_ (i := 7) (N := some 115) (v := ?_) (a' := ?_) (bm 14 1279) rfl rfl (any_of HT_.out kr) qi (Or.inl ⟨by rfl, ?_⟩) ?_ ?_
     rotate_left
     ·intro w'
      go_simp
      with_reducible rfl
     rotate_left
     ·simp only [sx]
      rfl
     refine pure_ (i := 8) (N := some 116) (v := ?_) (a' := ?_) (bm 14 1535) rfl rfl (any_of HT_.out kr) qi (Or.inl ⟨by rfl, ?_⟩) ?_ ?_
     rotate_left
     ·intro w'
      go_simp
      with_reducible rfl
     rotate_left
     ·simp only [sx]
      rfl
     refine take_ (i := 9) (N := some 117) (v := ?_) (a' := ?_) (bm 14 2047) rfl rfl (take_ofW HT_.out HW_.out kr) qi (Or.inl ⟨by rfl, ?_⟩) hHeld ?_ ?_
     rotate_left
     ·rintro w' ⟨s0, s1, s2, s3, s4, s5, s6, s7, s8, s9, s10, s11, s12, s13, s14⟩
      go_simp
      with_reducible rfl
     rotate_left
     ·simp only [sx]
      rfl
     refine pure_ (i := 11) (N := some 119) (v := ?_) (a' := ?_) (bm 14 4095) rfl rfl (any_of HT_.out kr) qi (Or.inl ⟨by rfl, ?_⟩) ?_ ?_
     rotate_left
     ·intro w'
      go_simp
      with_reducible rfl
     rotate_left
     ·simp only [sx]
      rfl
     refine one_ (i := 12) (N := some 120) (bm 14 8191) rfl rfl (one_of HT_.out kr) (by decide) (fun K hK => ?_)
     refine goes_ Try.func39 kr rfl #[.pointer (some (ad351.add (x105_2.toNat * 4))), .pointer (some (ad352.add (x105_2.toNat * 3)))] (by rfl) rfl rfl mpw ?_
     with_reducible refine (ih k2 (by have := HJ46.out; have := HK2.out; omega) (ad351.add (x105_2.toNat * 4)) ((rd_T56 l0_3 x105_2).f0) ((rd_T56 l0_3 x105_2).f1) A351_2 c351_2 ((rd_T56 l0_3 x105_2).f2) A351_3 c351_3 ((rd_T56 l0_3 x105_2).f3) (ad352.add (x105_2.toNat * 3)) ((rd_T51 l1_2 x105_2).f0) A352_1 c352_1 ((rd_T51 l1_2 x105_2).f1) A352_2 c352_2 ((rd_T51 l1_2 x105_2).f2) t353 _ ?side1 ?side2 ?side3 ?side4 ?side5 ?side6 ?side7 ?side8 ?side9 ?side10 A65.out).mono ?_
     (case side1 => repeat (first | exact (Cells_below HP351.out HB.out) | (with_reducible refine Cells_alloc ?_ _) | (with_reducible refine Cells_drewN ?_ _) | (with_reducible refine Cells_drew ?_)))
     (case side2 => have X_ := HR351_2; exact cbl)
     (case side3 => exact HC351_2.out)
     (case side4 => have X_ := HR351_3; exact cbl)
     (case side5 => exact HC351_3.out)
     (case side6 => repeat (first | exact (Cells_below HP352.out HB.out) | (with_reducible refine Cells_alloc ?_ _) | (with_reducible refine Cells_drewN ?_ _) | (with_reducible refine Cells_drew ?_)))
     (case side7 => have X_ := HR352_1; exact cbl)
     (case side8 => exact HC352_1.out)
     (case side9 => have X_ := HR352_2; exact cbl)
     (case side10 => exact HC352_2.out)
     rintro e w68 ⟨rfl, hb⟩
     refine ⟨_, rfl, ?_⟩
     have n0_ := Aside0.mk (blk_below (g := gb346) (o := .cells #[.pointer (some ad1)] 84 (0, 0)) bkw hb)
     have n1_ := Aside0.mk (below_step blw hb)
     clear BK346
     clear HB
     revert n0_ n1_
     intro BK346 HB
     (try clear hb)
     (try clear hb2)
     (try clear hk)
     (try clear hi)
     refine hK.out _ _ ⟨(by first | exact pw_cell_below HB.out (HP0.out.1) | exact HP0.out.1), (by first | exact pw_cell_below HB.out (HP0.out.2.1) | exact HP0.out.2.1), (by first | exact pw_cell_below HB.out (HP0.out.2.2.1) | exact HP0.out.2.2.1), (by first | exact pw_cell_below HB.out (HP0.out.2.2.2.1) | exact HP0.out.2.2.2.1), (blk_cell BK346.out 0).trans rfl, (by first | exact pw_cell_below HB.out (HP1.out.1) | exact HP1.out.1), (by first | exact pw_cell_below HB.out (HP1.out.2.1) | exact HP1.out.2.1), (by first | exact pw_cell_below HB.out (HP1.out.2.2.1) | exact HP1.out.2.2.1), ((HB.out.cell (World.block_lt_of_cell? w _ hw351_0)).trans hw351_0), ((HB.out.cell (World.block_lt_of_cell? w _ hw351_1)).trans hw351_1), ((HB.out.cell (World.block_lt_of_cell? w _ hw351_2)).trans hw351_2), ((HB.out.cell (World.block_lt_of_cell? w _ hw351_3)).trans hw351_3), ((HB.out.cell (World.block_lt_of_cell? w _ hw352_0)).trans hw352_0), ((HB.out.cell (World.block_lt_of_cell? w _ hw352_1)).trans hw352_1), ((HB.out.cell (World.block_lt_of_cell? w _ hw352_2)).trans hw352_2)⟩ (fun hHeld => ?_)
     clear hK K
     refine norm_ (a' := ?_) ?_ ?_
     rotate_left
     ·show Act.put _ (some 120) _ = _
      simp only [sx]
      rfl
     refine pure_ (i := 13) (N := some 121) (v := ?_) (a' := ?_) (bm 14 16383) rfl rfl (any_of HT_.out kr) qi (Or.inl ⟨by rfl, ?_⟩) ?_ ?_
     rotate_left
     ·intro w'
      go_simp
      with_reducible rfl
     rotate_left
     ·simp only [sx]
      rfl
     refine done_ (done_of HT_.out kr) ?_
     go_upto_if 121 with (fail)
     have H := HC66.out
     clear HC66
     by_cases c69 : t353 = true
     case neg =>
      replace c69 := Bool.eq_false_iff.mpr c69
      subst c69
      have H1 : (some false) = some r := by rw [if_neg (show ¬ (false = true) by decide)] at H; exact H
      clear H
      have H := H1
      clear H1
      obtain rfl := Option.some.inj H
      go_wp2
      go_ret
      exact ⟨rfw, blw⟩
     subst c69
     have H1 : (impl_fits.l0 k2 (l0_3.length : Int) (wrap64 (x105_2 + 1)) l0_3 l1_2) = some r := by rw [if_pos rfl] at H; exact H
     clear H
     have H := H1
     clear H1
     have H' := Aside0.mk H
     clear H
     go_wp2
     go_roundg k2
     case measure => have := HJ46.out; have := HK2.out; omega
     case rel => exact ⟨(wrap64 (x105_2 + 1)), rfs, H', ⟨by have := HJ46.out; have := HK2.out; omega⟩, ⟨bkw⟩, ⟨blw⟩⟩

/-! ### impl_fits_1: function 60 -/
theorem impl_fits_1.step (k : Nat) (ih : ∀ m, m < k → ∀ (a0_0 : Int) (a0_1 : Int) (A0_2 : Option Addr) (c0_2 : Nat) (l0_2 : List ByteArray) (A0_3 : Option Addr) (c0_3 : Nat) (l0_3 : List (S56)) (av1 : Addr) (ad1 : Addr) (a1_0 : Int) (A1_1 : Option Addr) (c1_1 : Nat) (l1_1 : List ByteArray) (A1_2 : Option Addr) (c1_2 : Nat) (l1_2 : List (S51)) (r : Bool) (w : World) (hr0_2 : Kd.C Kd.string w A0_2 l0_2.length l0_2) (hc0_2 : l0_2.length ≤ c0_2) (hr0_3 : Kd.C k56 w A0_3 l0_3.length l0_3) (hc0_3 : l0_3.length ≤ c0_3) (hp1 : Cells w ad1 [.int .i64 a1_0, .slice A1_1 l1_1.length c1_1, .slice A1_2 l1_2.length c1_2]) (hq1 : Cells w av1 [.pointer (some ad1)]) (hr1_1 : Kd.C Kd.string w A1_1 l1_1.length l1_1) (hc1_1 : l1_1.length ≤ c1_1) (hr1_2 : Kd.C k51 w A1_2 l1_2.length l1_2) (hc1_2 : l1_2.length ≤ c1_2) (h : impl_fits_1.f m a0_0 a0_1 l0_2 l0_3 a1_0 l1_1 l1_2 = some r),
  Calls Try.prog 60 #[.agg #[.int .i64 a0_0, .int .i64 a0_1, .slice A0_2 l0_2.length c0_2, .slice A0_3 l0_3.length c0_3], .pointer (some av1)] w fun e w' => e = .returned (.bool r) ∧ Below w.heap.size w w') (ih_39 : ∀ m, m < k → ∀ (ad0 : Addr) (a0_0 : Int) (a0_1 : Int) (A0_2 : Option Addr) (c0_2 : Nat) (l0_2 : List ByteArray) (A0_3 : Option Addr) (c0_3 : Nat) (l0_3 : List (S56)) (ad1 : Addr) (a1_0 : Int) (A1_1 : Option Addr) (c1_1 : Nat) (l1_1 : List ByteArray) (A1_2 : Option Addr) (c1_2 : Nat) (l1_2 : List (S51)) (r : Bool) (w : World) (hp0 : Cells w ad0 [.int .i64 a0_0, .int .i64 a0_1, .slice A0_2 l0_2.length c0_2, .slice A0_3 l0_3.length c0_3]) (hr0_2 : Kd.C Kd.string w A0_2 l0_2.length l0_2) (hc0_2 : l0_2.length ≤ c0_2) (hr0_3 : Kd.C k56 w A0_3 l0_3.length l0_3) (hc0_3 : l0_3.length ≤ c0_3) (hp1 : Cells w ad1 [.int .i64 a1_0, .slice A1_1 l1_1.length c1_1, .slice A1_2 l1_2.length c1_2]) (hr1_1 : Kd.C Kd.string w A1_1 l1_1.length l1_1) (hc1_1 : l1_1.length ≤ c1_1) (hr1_2 : Kd.C k51 w A1_2 l1_2.length l1_2) (hc1_2 : l1_2.length ≤ c1_2) (h : impl_fits.f m a0_0 a0_1 l0_2 l0_3 a1_0 l1_1 l1_2 = some r),
  Calls Try.prog 39 #[.pointer (some ad0), .pointer (some ad1)] w fun e w' => e = .returned (.bool r) ∧ Below w.heap.size w w') (ih_105 : ∀ m, m < k → ∀ (A0 : Option Addr) (c0 : Nat) (l0 : List (S56)) (av1 : Addr) (ad1 : Addr) (a1_0 : Int) (A1_1 : Option Addr) (c1_1 : Nat) (l1_1 : List ByteArray) (A1_2 : Option Addr) (c1_2 : Nat) (l1_2 : List (S51)) (r : Bool) (w : World) (hr0 : Kd.C k56 w A0 l0.length l0) (hc0 : l0.length ≤ c0) (hp1 : Cells w ad1 [.int .i64 a1_0, .slice A1_1 l1_1.length c1_1, .slice A1_2 l1_2.length c1_2]) (hq1 : Cells w av1 [.pointer (some ad1)]) (hr1_1 : Kd.C Kd.string w A1_1 l1_1.length l1_1) (hc1_1 : l1_1.length ≤ c1_1) (hr1_2 : Kd.C k51 w A1_2 l1_2.length l1_2) (hc1_2 : l1_2.length ≤ c1_2) (h : slices_ContainsFunc_Value_of_fits_1.f m l0 a1_0 l1_1 l1_2 = some r),
  Calls Try.prog 19 #[.slice A0 l0.length c0, .func (.func 60) #[] #[.pointer (some av1)]] w fun e w' => e = .returned (.bool r) ∧ Below w.heap.size w w') (ih_106 : ∀ m, m < k → ∀ (A0 : Option Addr) (c0 : Nat) (l0 : List (S56)) (av1 : Addr) (ad1 : Addr) (a1_0 : Int) (A1_1 : Option Addr) (c1_1 : Nat) (l1_1 : List ByteArray) (A1_2 : Option Addr) (c1_2 : Nat) (l1_2 : List (S51)) (r : Int) (w : World) (hr0 : Kd.C k56 w A0 l0.length l0) (hc0 : l0.length ≤ c0) (hp1 : Cells w ad1 [.int .i64 a1_0, .slice A1_1 l1_1.length c1_1, .slice A1_2 l1_2.length c1_2]) (hq1 : Cells w av1 [.pointer (some ad1)]) (hr1_1 : Kd.C Kd.string w A1_1 l1_1.length l1_1) (hc1_1 : l1_1.length ≤ c1_1) (hr1_2 : Kd.C k51 w A1_2 l1_2.length l1_2) (hc1_2 : l1_2.length ≤ c1_2) (h : slices_IndexFunc_Value_of_fits_1.f m l0 a1_0 l1_1 l1_2 = some r),
  Calls Try.prog 36 #[.slice A0 l0.length c0, .func (.func 60) #[] #[.pointer (some av1)]] w fun e w' => e = .returned (.int .i64 r) ∧ Below w.heap.size w w') : ∀ (a0_0 : Int) (a0_1 : Int) (A0_2 : Option Addr) (c0_2 : Nat) (l0_2 : List ByteArray) (A0_3 : Option Addr) (c0_3 : Nat) (l0_3 : List (S56)) (av1 : Addr) (ad1 : Addr) (a1_0 : Int) (A1_1 : Option Addr) (c1_1 : Nat) (l1_1 : List ByteArray) (A1_2 : Option Addr) (c1_2 : Nat) (l1_2 : List (S51)) (r : Bool) (w : World) (hr0_2 : Kd.C Kd.string w A0_2 l0_2.length l0_2) (hc0_2 : l0_2.length ≤ c0_2) (hr0_3 : Kd.C k56 w A0_3 l0_3.length l0_3) (hc0_3 : l0_3.length ≤ c0_3) (hp1 : Cells w ad1 [.int .i64 a1_0, .slice A1_1 l1_1.length c1_1, .slice A1_2 l1_2.length c1_2]) (hq1 : Cells w av1 [.pointer (some ad1)]) (hr1_1 : Kd.C Kd.string w A1_1 l1_1.length l1_1) (hc1_1 : l1_1.length ≤ c1_1) (hr1_2 : Kd.C k51 w A1_2 l1_2.length l1_2) (hc1_2 : l1_2.length ≤ c1_2) (h : impl_fits_1.f k a0_0 a0_1 l0_2 l0_3 a1_0 l1_1 l1_2 = some r),
  Calls Try.prog 60 #[.agg #[.int .i64 a0_0, .int .i64 a0_1, .slice A0_2 l0_2.length c0_2, .slice A0_3 l0_3.length c0_3], .pointer (some av1)] w fun e w' => e = .returned (.bool r) ∧ Below w.heap.size w w' := by
 intro a0_0 a0_1 A0_2 c0_2 l0_2 A0_3 c0_3 l0_3 av1 ad1 a1_0 A1_1 c1_1 l1_1 A1_2 c1_2 l1_2 r w hr0_2 hc0_2 hr0_3 hc0_3 hp1 hq1 hr1_1 hc1_1 hr1_2 hc1_2 h
 cases k with
 | zero => exact absurd h (by simp [impl_fits_1.f])
 | succ k =>
 simp only [impl_fits_1.f] at h
 have hu56 := Try.underlying56
 have hu84 := Try.underlying84
 have HR0_2 := Aside0.mk hr0_2
 have HC0_2 := Aside0.mk hc0_2
 clear hr0_2 hc0_2
 have HR0_3 := Aside0.mk hr0_3
 have HC0_3 := Aside0.mk hc0_3
 clear hr0_3 hc0_3
 have HP1 := Aside0.mk hp1
 clear hp1
 have HQ1 := Aside0.mk hq1
 clear hq1
 have HR1_1 := Aside0.mk hr1_1
 have HC1_1 := Aside0.mk hc1_1
 clear hr1_1 hc1_1
 have HR1_2 := Aside0.mk hr1_2
 have HC1_2 := Aside0.mk hc1_2
 clear hr1_2 hc1_2
 have HB := Aside0.mk (Below.refl w.heap.size w)
 have H : (if 0 < (l1_2.length : Int) then ((impl_fits.f k a0_0 a0_1 l0_2 l0_3 ((rd_T51 l1_2 0).f0) ((rd_T51 l1_2 0).f1) ((rd_T51 l1_2 0).f2)).bind fun t356 => (some (!t356))) else (none)) = some r := h
 clear h
 by_cases c3 : 0 < (l1_2.length : Int)
 case neg =>
  rw [if_neg c3] at H
  exact absurd H (by simp)
 rw [if_pos c3] at H
 have c3b0 : decide (0 < (l1_2.length : Int)) = true := decide_eq_true c3
 have c3b1 : decide (0 < l1_2.length) = true := decide_eq_true (by omega)
 clear c3
 replace H := Option.bind_eq_some_iff.mp H
 obtain ⟨t356, A40, H⟩ := H
 replace H : (some (!t356)) = some r := H
 have A4 := Aside0.mk A40
 clear A40
 obtain rfl := Option.some.inj H
 go_enter Try.func60, Try.ntmps60
 go_wp2_with (first | ((with_reducible refine gate_dst (N := 2) rfl ?_); refine box_event ?hg (N := 2) ?hd (cs := #[.int .i64 a0_0, .int .i64 a0_1, .slice A0_2 l0_2.length c0_2, .slice A0_3 l0_3.length c0_3]) (t := 56) ?hr ?_; (case hd => rfl); (case hg => rfl); (case hr => exact hrw); intro gb354 hg w5 hbox hb; have n0_ := Aside0.mk (below_step blw hb); have n1_ := Aside0.mk (hbox); have n2_ := Aside0.mk ((by rw [hg]; exact (below_size blw) : w.heap.size ≤ gb354)); have n3_ := n2_; clear HB; revert n0_ n1_ n2_ n3_; intro HB BK354 GW354 GE354; clear hb hbox hg; have hxr6_0 : w5.cell? av1 = some (.pointer (some ad1)) := pw_cell_below HB.out (HQ1.out.1); have hxr7_0 : w5.cell? ad1 = some (.int .i64 a1_0) := pw_cell_below HB.out (HP1.out.1); have hxr7_1 : w5.cell? ⟨ad1.block, ad1.off + 1, none⟩ = some (.slice A1_1 l1_1.length c1_1) := pw_cell_below HB.out (HP1.out.2.1); have hxr7_2 : w5.cell? ⟨ad1.block, ad1.off + 2, none⟩ = some (.slice A1_2 l1_2.length c1_2) := pw_cell_below HB.out (HP1.out.2.2.1); have p355 : 0 ≤ (0 : Int) := (by omega); have q355 : 0 < (l1_2.length : Int) := of_decide_eq_true asw; obtain ⟨ad355, A355_1, c355_1, A355_2, c355_2, e355, hx355_0, hx355_1, hx355_2, hl355_1, hi355_1, hl355_2, hi355_2⟩ := at_T51 HR1_2.out 0 p355 q355; cases e355; have HP355 := Aside0.mk (show Cells w ad355 [.int .i64 ((rd_T51 l1_2 0).f0), .slice A355_1 ((rd_T51 l1_2 0).f1).length c355_1, .slice A355_2 ((rd_T51 l1_2 0).f2).length c355_2] from ⟨hx355_0, hx355_1, hx355_2, trivial⟩); have qi355 : (0 < l1_2.length) = True := eq_true (by omega); (try rw [show ((0 : Int)).toNat = 0 from rfl] at hx355_0); (try rw [show 0 * 3 = 0 from rfl] at hx355_0); (try rw [Addr.add_zero'] at hx355_0); (try rw [show ((0 : Int)).toNat = 0 from rfl] at hx355_1); (try rw [show 0 * 3 = 0 from rfl] at hx355_1); (try rw [Addr.add_zero'] at hx355_1); (try rw [show ((0 : Int)).toNat = 0 from rfl] at hx355_2); (try rw [show 0 * 3 = 0 from rfl] at hx355_2); (try rw [Addr.add_zero'] at hx355_2); replace hx355_0 := upw HB.out hx355_0; replace hx355_1 := upw HB.out hx355_1; replace hx355_2 := upw HB.out hx355_2; have HR355_1 := Aside0.mk hi355_1; have HC355_1 := Aside0.mk hl355_1; clear hi355_1 hl355_1; have HR355_2 := Aside0.mk hi355_2; have HC355_2 := Aside0.mk hl355_2; clear hi355_2 hl355_2; replace p355 := eq_true p355; replace q355 := eq_true q355) | ((with_reducible refine gate_callee (f := 39) rfl ?_); refine goesL_ (some 9) rfl rfl Try.func39 kr rfl #[.pointer (some ⟨gb354, 0, none⟩), .pointer (some ad355)] rfl mpw ?_; (with_reducible refine (ih_39 k (by omega) ⟨gb354, 0, none⟩ a0_0 a0_1 A0_2 c0_2 l0_2 A0_3 c0_3 l0_3 ad355 ((rd_T51 l1_2 0).f0) A355_1 c355_1 ((rd_T51 l1_2 0).f1) A355_2 c355_2 ((rd_T51 l1_2 0).f2) t356 _ ?side1 ?side2 ?side3 ?side4 ?side5 ?side6 ?side7 ?side8 ?side9 ?side10 A4.out).mono ?_); (case side1 => exact Cells_blk bkw); (case side2 => have X_ := HR0_2; exact cbl); (case side3 => exact HC0_2.out); (case side4 => have X_ := HR0_3; exact cbl); (case side5 => exact HC0_3.out); (case side6 => repeat (first | exact (Cells_below HP355.out HB.out) | (with_reducible refine Cells_alloc ?_ _) | (with_reducible refine Cells_drewN ?_ _) | (with_reducible refine Cells_drew ?_))); (case side7 => have X_ := HR355_1; exact cbl); (case side8 => exact HC355_1.out); (case side9 => have X_ := HR355_2; exact cbl); (case side10 => exact HC355_2.out); rintro e w8 ⟨rfl, hb⟩; refine ⟨_, rfl, ?_⟩; have n0_ := Aside0.mk (blk_below (g := gb354) (o := .cells #[.int .i64 a0_0, .int .i64 a0_1, .slice A0_2 l0_2.length c0_2, .slice A0_3 l0_3.length c0_3] 56 (0, 0)) bkw hb); have n1_ := Aside0.mk (below_step blw hb); clear BK354; clear HB; revert n0_ n1_; intro BK354 HB; (try clear hb); (try clear hb2); (try clear hk); (try clear hi)))
 go_ret
 exact ⟨rfw, blw⟩

/-! ### slices_ContainsFunc_Value_of_fits_1: function 105 -/
theorem slices_ContainsFunc_Value_of_fits_1.step (k : Nat) (ih : ∀ m, m < k → ∀ (A0 : Option Addr) (c0 : Nat) (l0 : List (S56)) (av1 : Addr) (ad1 : Addr) (a1_0 : Int) (A1_1 : Option Addr) (c1_1 : Nat) (l1_1 : List ByteArray) (A1_2 : Option Addr) (c1_2 : Nat) (l1_2 : List (S51)) (r : Bool) (w : World) (hr0 : Kd.C k56 w A0 l0.length l0) (hc0 : l0.length ≤ c0) (hp1 : Cells w ad1 [.int .i64 a1_0, .slice A1_1 l1_1.length c1_1, .slice A1_2 l1_2.length c1_2]) (hq1 : Cells w av1 [.pointer (some ad1)]) (hr1_1 : Kd.C Kd.string w A1_1 l1_1.length l1_1) (hc1_1 : l1_1.length ≤ c1_1) (hr1_2 : Kd.C k51 w A1_2 l1_2.length l1_2) (hc1_2 : l1_2.length ≤ c1_2) (h : slices_ContainsFunc_Value_of_fits_1.f m l0 a1_0 l1_1 l1_2 = some r),
  Calls Try.prog 19 #[.slice A0 l0.length c0, .func (.func 60) #[] #[.pointer (some av1)]] w fun e w' => e = .returned (.bool r) ∧ Below w.heap.size w w') (ih_39 : ∀ m, m < k → ∀ (ad0 : Addr) (a0_0 : Int) (a0_1 : Int) (A0_2 : Option Addr) (c0_2 : Nat) (l0_2 : List ByteArray) (A0_3 : Option Addr) (c0_3 : Nat) (l0_3 : List (S56)) (ad1 : Addr) (a1_0 : Int) (A1_1 : Option Addr) (c1_1 : Nat) (l1_1 : List ByteArray) (A1_2 : Option Addr) (c1_2 : Nat) (l1_2 : List (S51)) (r : Bool) (w : World) (hp0 : Cells w ad0 [.int .i64 a0_0, .int .i64 a0_1, .slice A0_2 l0_2.length c0_2, .slice A0_3 l0_3.length c0_3]) (hr0_2 : Kd.C Kd.string w A0_2 l0_2.length l0_2) (hc0_2 : l0_2.length ≤ c0_2) (hr0_3 : Kd.C k56 w A0_3 l0_3.length l0_3) (hc0_3 : l0_3.length ≤ c0_3) (hp1 : Cells w ad1 [.int .i64 a1_0, .slice A1_1 l1_1.length c1_1, .slice A1_2 l1_2.length c1_2]) (hr1_1 : Kd.C Kd.string w A1_1 l1_1.length l1_1) (hc1_1 : l1_1.length ≤ c1_1) (hr1_2 : Kd.C k51 w A1_2 l1_2.length l1_2) (hc1_2 : l1_2.length ≤ c1_2) (h : impl_fits.f m a0_0 a0_1 l0_2 l0_3 a1_0 l1_1 l1_2 = some r),
  Calls Try.prog 39 #[.pointer (some ad0), .pointer (some ad1)] w fun e w' => e = .returned (.bool r) ∧ Below w.heap.size w w') (ih_60 : ∀ m, m < k → ∀ (a0_0 : Int) (a0_1 : Int) (A0_2 : Option Addr) (c0_2 : Nat) (l0_2 : List ByteArray) (A0_3 : Option Addr) (c0_3 : Nat) (l0_3 : List (S56)) (av1 : Addr) (ad1 : Addr) (a1_0 : Int) (A1_1 : Option Addr) (c1_1 : Nat) (l1_1 : List ByteArray) (A1_2 : Option Addr) (c1_2 : Nat) (l1_2 : List (S51)) (r : Bool) (w : World) (hr0_2 : Kd.C Kd.string w A0_2 l0_2.length l0_2) (hc0_2 : l0_2.length ≤ c0_2) (hr0_3 : Kd.C k56 w A0_3 l0_3.length l0_3) (hc0_3 : l0_3.length ≤ c0_3) (hp1 : Cells w ad1 [.int .i64 a1_0, .slice A1_1 l1_1.length c1_1, .slice A1_2 l1_2.length c1_2]) (hq1 : Cells w av1 [.pointer (some ad1)]) (hr1_1 : Kd.C Kd.string w A1_1 l1_1.length l1_1) (hc1_1 : l1_1.length ≤ c1_1) (hr1_2 : Kd.C k51 w A1_2 l1_2.length l1_2) (hc1_2 : l1_2.length ≤ c1_2) (h : impl_fits_1.f m a0_0 a0_1 l0_2 l0_3 a1_0 l1_1 l1_2 = some r),
  Calls Try.prog 60 #[.agg #[.int .i64 a0_0, .int .i64 a0_1, .slice A0_2 l0_2.length c0_2, .slice A0_3 l0_3.length c0_3], .pointer (some av1)] w fun e w' => e = .returned (.bool r) ∧ Below w.heap.size w w') (ih_106 : ∀ m, m < k → ∀ (A0 : Option Addr) (c0 : Nat) (l0 : List (S56)) (av1 : Addr) (ad1 : Addr) (a1_0 : Int) (A1_1 : Option Addr) (c1_1 : Nat) (l1_1 : List ByteArray) (A1_2 : Option Addr) (c1_2 : Nat) (l1_2 : List (S51)) (r : Int) (w : World) (hr0 : Kd.C k56 w A0 l0.length l0) (hc0 : l0.length ≤ c0) (hp1 : Cells w ad1 [.int .i64 a1_0, .slice A1_1 l1_1.length c1_1, .slice A1_2 l1_2.length c1_2]) (hq1 : Cells w av1 [.pointer (some ad1)]) (hr1_1 : Kd.C Kd.string w A1_1 l1_1.length l1_1) (hc1_1 : l1_1.length ≤ c1_1) (hr1_2 : Kd.C k51 w A1_2 l1_2.length l1_2) (hc1_2 : l1_2.length ≤ c1_2) (h : slices_IndexFunc_Value_of_fits_1.f m l0 a1_0 l1_1 l1_2 = some r),
  Calls Try.prog 36 #[.slice A0 l0.length c0, .func (.func 60) #[] #[.pointer (some av1)]] w fun e w' => e = .returned (.int .i64 r) ∧ Below w.heap.size w w') : ∀ (A0 : Option Addr) (c0 : Nat) (l0 : List (S56)) (av1 : Addr) (ad1 : Addr) (a1_0 : Int) (A1_1 : Option Addr) (c1_1 : Nat) (l1_1 : List ByteArray) (A1_2 : Option Addr) (c1_2 : Nat) (l1_2 : List (S51)) (r : Bool) (w : World) (hr0 : Kd.C k56 w A0 l0.length l0) (hc0 : l0.length ≤ c0) (hp1 : Cells w ad1 [.int .i64 a1_0, .slice A1_1 l1_1.length c1_1, .slice A1_2 l1_2.length c1_2]) (hq1 : Cells w av1 [.pointer (some ad1)]) (hr1_1 : Kd.C Kd.string w A1_1 l1_1.length l1_1) (hc1_1 : l1_1.length ≤ c1_1) (hr1_2 : Kd.C k51 w A1_2 l1_2.length l1_2) (hc1_2 : l1_2.length ≤ c1_2) (h : slices_ContainsFunc_Value_of_fits_1.f k l0 a1_0 l1_1 l1_2 = some r),
  Calls Try.prog 19 #[.slice A0 l0.length c0, .func (.func 60) #[] #[.pointer (some av1)]] w fun e w' => e = .returned (.bool r) ∧ Below w.heap.size w w' := by
 intro A0 c0 l0 av1 ad1 a1_0 A1_1 c1_1 l1_1 A1_2 c1_2 l1_2 r w hr0 hc0 hp1 hq1 hr1_1 hc1_1 hr1_2 hc1_2 h
 cases k with
 | zero => exact absurd h (by simp [slices_ContainsFunc_Value_of_fits_1.f])
 | succ k =>
 simp only [slices_ContainsFunc_Value_of_fits_1.f] at h
 have HR0 := Aside0.mk hr0
 have HC0 := Aside0.mk hc0
 clear hr0 hc0
 have HP1 := Aside0.mk hp1
 clear hp1
 have HQ1 := Aside0.mk hq1
 clear hq1
 have HR1_1 := Aside0.mk hr1_1
 have HC1_1 := Aside0.mk hc1_1
 clear hr1_1 hc1_1
 have HR1_2 := Aside0.mk hr1_2
 have HC1_2 := Aside0.mk hc1_2
 clear hr1_2 hc1_2
 have HB := Aside0.mk (Below.refl w.heap.size w)
 have H : ((slices_IndexFunc_Value_of_fits_1.f k l0 a1_0 l1_1 l1_2).bind fun t357 => (some (decide (t357 ≥ 0)))) = some r := h
 clear h
 replace H := Option.bind_eq_some_iff.mp H
 obtain ⟨t357, A30, H⟩ := H
 replace H : (some (decide (t357 ≥ 0))) = some r := H
 have A3 := Aside0.mk A30
 clear A30
 obtain rfl := Option.some.inj H
 go_enter Try.func19, Try.ntmps19
 go_wp2_with (first | ((with_reducible refine gate_callee (f := 36) rfl ?_); refine goesL_ (some 7) rfl rfl Try.func36 kr rfl #[.slice A0 l0.length c0, .func (.func 60) #[] #[.pointer (some av1)]] rfl mpw ?_; (with_reducible refine (ih_106 k (by omega) _ _ l0 av1 ad1 a1_0 A1_1 c1_1 l1_1 A1_2 c1_2 l1_2 t357 _ ?side1 ?side2 ?side3 ?side4 ?side5 ?side6 ?side7 ?side8 A3.out).mono ?_); (case side1 => have X_ := HR0; exact cbx); (case side2 => exact HC0.out); (case side3 => have X_ := HP1; exact clx); (case side4 => have X_ := HQ1; exact clx); (case side5 => have X_ := HR1_1; exact cbx); (case side6 => exact HC1_1.out); (case side7 => have X_ := HR1_2; exact cbx); (case side8 => exact HC1_2.out); rintro e w4 ⟨rfl, hb⟩; refine ⟨_, rfl, ?_⟩; have n0_ := Aside0.mk (below_step blw hb); clear HB; revert n0_; intro HB; (try clear hb); (try clear hb2); (try clear hk); (try clear hi)))
 go_ret
 exact ⟨rfw, blw⟩

/-! ### slices_IndexFunc_Value_of_fits_1: function 106 -/
theorem slices_IndexFunc_Value_of_fits_1.step (k : Nat) (ih : ∀ m, m < k → ∀ (A0 : Option Addr) (c0 : Nat) (l0 : List (S56)) (av1 : Addr) (ad1 : Addr) (a1_0 : Int) (A1_1 : Option Addr) (c1_1 : Nat) (l1_1 : List ByteArray) (A1_2 : Option Addr) (c1_2 : Nat) (l1_2 : List (S51)) (r : Int) (w : World) (hr0 : Kd.C k56 w A0 l0.length l0) (hc0 : l0.length ≤ c0) (hp1 : Cells w ad1 [.int .i64 a1_0, .slice A1_1 l1_1.length c1_1, .slice A1_2 l1_2.length c1_2]) (hq1 : Cells w av1 [.pointer (some ad1)]) (hr1_1 : Kd.C Kd.string w A1_1 l1_1.length l1_1) (hc1_1 : l1_1.length ≤ c1_1) (hr1_2 : Kd.C k51 w A1_2 l1_2.length l1_2) (hc1_2 : l1_2.length ≤ c1_2) (h : slices_IndexFunc_Value_of_fits_1.f m l0 a1_0 l1_1 l1_2 = some r),
  Calls Try.prog 36 #[.slice A0 l0.length c0, .func (.func 60) #[] #[.pointer (some av1)]] w fun e w' => e = .returned (.int .i64 r) ∧ Below w.heap.size w w') (ih_39 : ∀ m, m < k → ∀ (ad0 : Addr) (a0_0 : Int) (a0_1 : Int) (A0_2 : Option Addr) (c0_2 : Nat) (l0_2 : List ByteArray) (A0_3 : Option Addr) (c0_3 : Nat) (l0_3 : List (S56)) (ad1 : Addr) (a1_0 : Int) (A1_1 : Option Addr) (c1_1 : Nat) (l1_1 : List ByteArray) (A1_2 : Option Addr) (c1_2 : Nat) (l1_2 : List (S51)) (r : Bool) (w : World) (hp0 : Cells w ad0 [.int .i64 a0_0, .int .i64 a0_1, .slice A0_2 l0_2.length c0_2, .slice A0_3 l0_3.length c0_3]) (hr0_2 : Kd.C Kd.string w A0_2 l0_2.length l0_2) (hc0_2 : l0_2.length ≤ c0_2) (hr0_3 : Kd.C k56 w A0_3 l0_3.length l0_3) (hc0_3 : l0_3.length ≤ c0_3) (hp1 : Cells w ad1 [.int .i64 a1_0, .slice A1_1 l1_1.length c1_1, .slice A1_2 l1_2.length c1_2]) (hr1_1 : Kd.C Kd.string w A1_1 l1_1.length l1_1) (hc1_1 : l1_1.length ≤ c1_1) (hr1_2 : Kd.C k51 w A1_2 l1_2.length l1_2) (hc1_2 : l1_2.length ≤ c1_2) (h : impl_fits.f m a0_0 a0_1 l0_2 l0_3 a1_0 l1_1 l1_2 = some r),
  Calls Try.prog 39 #[.pointer (some ad0), .pointer (some ad1)] w fun e w' => e = .returned (.bool r) ∧ Below w.heap.size w w') (ih_60 : ∀ m, m < k → ∀ (a0_0 : Int) (a0_1 : Int) (A0_2 : Option Addr) (c0_2 : Nat) (l0_2 : List ByteArray) (A0_3 : Option Addr) (c0_3 : Nat) (l0_3 : List (S56)) (av1 : Addr) (ad1 : Addr) (a1_0 : Int) (A1_1 : Option Addr) (c1_1 : Nat) (l1_1 : List ByteArray) (A1_2 : Option Addr) (c1_2 : Nat) (l1_2 : List (S51)) (r : Bool) (w : World) (hr0_2 : Kd.C Kd.string w A0_2 l0_2.length l0_2) (hc0_2 : l0_2.length ≤ c0_2) (hr0_3 : Kd.C k56 w A0_3 l0_3.length l0_3) (hc0_3 : l0_3.length ≤ c0_3) (hp1 : Cells w ad1 [.int .i64 a1_0, .slice A1_1 l1_1.length c1_1, .slice A1_2 l1_2.length c1_2]) (hq1 : Cells w av1 [.pointer (some ad1)]) (hr1_1 : Kd.C Kd.string w A1_1 l1_1.length l1_1) (hc1_1 : l1_1.length ≤ c1_1) (hr1_2 : Kd.C k51 w A1_2 l1_2.length l1_2) (hc1_2 : l1_2.length ≤ c1_2) (h : impl_fits_1.f m a0_0 a0_1 l0_2 l0_3 a1_0 l1_1 l1_2 = some r),
  Calls Try.prog 60 #[.agg #[.int .i64 a0_0, .int .i64 a0_1, .slice A0_2 l0_2.length c0_2, .slice A0_3 l0_3.length c0_3], .pointer (some av1)] w fun e w' => e = .returned (.bool r) ∧ Below w.heap.size w w') (ih_105 : ∀ m, m < k → ∀ (A0 : Option Addr) (c0 : Nat) (l0 : List (S56)) (av1 : Addr) (ad1 : Addr) (a1_0 : Int) (A1_1 : Option Addr) (c1_1 : Nat) (l1_1 : List ByteArray) (A1_2 : Option Addr) (c1_2 : Nat) (l1_2 : List (S51)) (r : Bool) (w : World) (hr0 : Kd.C k56 w A0 l0.length l0) (hc0 : l0.length ≤ c0) (hp1 : Cells w ad1 [.int .i64 a1_0, .slice A1_1 l1_1.length c1_1, .slice A1_2 l1_2.length c1_2]) (hq1 : Cells w av1 [.pointer (some ad1)]) (hr1_1 : Kd.C Kd.string w A1_1 l1_1.length l1_1) (hc1_1 : l1_1.length ≤ c1_1) (hr1_2 : Kd.C k51 w A1_2 l1_2.length l1_2) (hc1_2 : l1_2.length ≤ c1_2) (h : slices_ContainsFunc_Value_of_fits_1.f m l0 a1_0 l1_1 l1_2 = some r),
  Calls Try.prog 19 #[.slice A0 l0.length c0, .func (.func 60) #[] #[.pointer (some av1)]] w fun e w' => e = .returned (.bool r) ∧ Below w.heap.size w w') : ∀ (A0 : Option Addr) (c0 : Nat) (l0 : List (S56)) (av1 : Addr) (ad1 : Addr) (a1_0 : Int) (A1_1 : Option Addr) (c1_1 : Nat) (l1_1 : List ByteArray) (A1_2 : Option Addr) (c1_2 : Nat) (l1_2 : List (S51)) (r : Int) (w : World) (hr0 : Kd.C k56 w A0 l0.length l0) (hc0 : l0.length ≤ c0) (hp1 : Cells w ad1 [.int .i64 a1_0, .slice A1_1 l1_1.length c1_1, .slice A1_2 l1_2.length c1_2]) (hq1 : Cells w av1 [.pointer (some ad1)]) (hr1_1 : Kd.C Kd.string w A1_1 l1_1.length l1_1) (hc1_1 : l1_1.length ≤ c1_1) (hr1_2 : Kd.C k51 w A1_2 l1_2.length l1_2) (hc1_2 : l1_2.length ≤ c1_2) (h : slices_IndexFunc_Value_of_fits_1.f k l0 a1_0 l1_1 l1_2 = some r),
  Calls Try.prog 36 #[.slice A0 l0.length c0, .func (.func 60) #[] #[.pointer (some av1)]] w fun e w' => e = .returned (.int .i64 r) ∧ Below w.heap.size w w' := by
 intro A0 c0 l0 av1 ad1 a1_0 A1_1 c1_1 l1_1 A1_2 c1_2 l1_2 r w hr0 hc0 hp1 hq1 hr1_1 hc1_1 hr1_2 hc1_2 h
 cases k with
 | zero => exact absurd h (by simp [slices_IndexFunc_Value_of_fits_1.f])
 | succ k =>
 simp only [slices_IndexFunc_Value_of_fits_1.f] at h
 have hu56 := Try.underlying56
 have HR0 := Aside0.mk hr0
 have HC0 := Aside0.mk hc0
 clear hr0 hc0
 have HP1 := Aside0.mk hp1
 clear hp1
 have HQ1 := Aside0.mk hq1
 clear hq1
 have HR1_1 := Aside0.mk hr1_1
 have HC1_1 := Aside0.mk hc1_1
 clear hr1_1 hc1_1
 have HR1_2 := Aside0.mk hr1_2
 have HC1_2 := Aside0.mk hc1_2
 clear hr1_2 hc1_2
 have HB := Aside0.mk (Below.refl w.heap.size w)
 have H : (slices_IndexFunc_Value_of_fits_1.l0 k l0 (l0.length : Int) 0 a1_0 l1_1 l1_2) = some r := h
 clear h
 have H' := Aside0.mk H
 clear H
 go_enter Try.func36, Try.ntmps36
 go_wp2
 go_loopg [8] k (fun kq v8 w' => ∃ (x8_1 : Int), v8 = .int .i64 x8_1 ∧ Aside0 (slices_IndexFunc_Value_of_fits_1.l0 kq l0 (l0.length : Int) x8_1 a1_0 l1_1 l1_2 = some r) ∧ Aside0 (kq ≤ k) ∧ Aside0 (Below w.heap.size w w'))
 case atStart => exact ⟨(0), rfs, H', ⟨Nat.le_refl _⟩, ⟨blw⟩⟩
 case round =>
  clear H'
  (try clear c1); (try clear p1); (try clear q1); (try clear p2)
  obtain ⟨x8_1, rfl, HA, HK1, HB⟩ := hrel
  cases gk with
  | zero => exact absurd HA.out (by simp [slices_IndexFunc_Value_of_fits_1.l0])
  | succ k1 =>
   have H := HA.out
   clear HA
   simp only [slices_IndexFunc_Value_of_fits_1.l0] at H
   by_cases c3 : x8_1 < (l0.length : Int)
   case neg =>
    rw [if_neg c3] at H
    have c3b0 : decide (x8_1 < (l0.length : Int)) = false := decide_eq_false c3
    clear c3
    obtain rfl := Option.some.inj H
    go_wp2
    go_ret
    exact ⟨rfw, blw⟩
   rw [if_pos c3] at H
   have c3b0 : decide (x8_1 < (l0.length : Int)) = true := decide_eq_true c3
   clear c3
   by_cases c4 : 0 ≤ x8_1
   case neg =>
    rw [if_neg c4] at H
    exact absurd H (by simp)
   rw [if_pos c4] at H
   have c4b0 : decide (0 ≤ x8_1) = true := decide_eq_true c4
   clear c4
   by_cases c5 : x8_1 < (l0.length : Int)
   case neg =>
    rw [if_neg c5] at H
    exact absurd H (by simp)
   rw [if_pos c5] at H
   have c5b0 : decide (x8_1 < (l0.length : Int)) = true := decide_eq_true c5
   clear c5
   replace H := Option.bind_eq_some_iff.mp H
   obtain ⟨t359, A60, H⟩ := H
   replace H : (if t359 = true then (some x8_1) else (slices_IndexFunc_Value_of_fits_1.l0 k1 l0 (l0.length : Int) (wrap64 (x8_1 + 1)) a1_0 l1_1 l1_2)) = some r := H
   have A6 := Aside0.mk A60
   clear A60
   have HC7 := Aside0.mk H
   clear H
   have p358 : 0 ≤ (x8_1 : Int) := of_decide_eq_true asw
   have q358 : x8_1 < (l0.length : Int) := of_decide_eq_true asw
   obtain ⟨ad358, A358_2, c358_2, A358_3, c358_3, e358, hx358_0, hx358_1, hx358_2, hx358_3, hl358_2, hi358_2, hl358_3, hi358_3⟩ := at_T56 HR0.out x8_1 p358 q358
   cases e358
   replace hx358_0 := upw HB.out hx358_0
   replace hx358_1 := upw HB.out hx358_1
   replace hx358_2 := upw HB.out hx358_2
   replace hx358_3 := upw HB.out hx358_3
   have HR358_2 := Aside0.mk hi358_2
   have HC358_2 := Aside0.mk hl358_2
   clear hi358_2 hl358_2
   have HR358_3 := Aside0.mk hi358_3
   have HC358_3 := Aside0.mk hl358_3
   clear hi358_3 hl358_3
   replace p358 := eq_true p358
   replace q358 := eq_true q358
   go_upto_if 16 with (first | ((with_reducible refine gate_calleev (t := 11) rfl ?_); refine goesV1_ 11 (some 16) rfl rfl rfl Try.func60 kr rfl #[.agg #[.int .i64 ((rd_T56 l0 x8_1).f0), .int .i64 ((rd_T56 l0 x8_1).f1), .slice A358_2 ((rd_T56 l0 x8_1).f2).length c358_2, .slice A358_3 ((rd_T56 l0 x8_1).f3).length c358_3], .pointer (some av1)] rfl mpw ?_; (with_reducible refine (ih_60 k1 (by have := HK1.out; omega) ((rd_T56 l0 x8_1).f0) ((rd_T56 l0 x8_1).f1) _ _ ((rd_T56 l0 x8_1).f2) _ _ ((rd_T56 l0 x8_1).f3) av1 ad1 a1_0 A1_1 c1_1 l1_1 A1_2 c1_2 l1_2 t359 _ ?side1 ?side2 ?side3 ?side4 ?side5 ?side6 ?side7 ?side8 ?side9 ?side10 A6.out).mono ?_); (case side1 => have X_ := HR358_2; exact cbl); (case side2 => exact HC358_2.out); (case side3 => have X_ := HR358_3; exact cbl); (case side4 => exact HC358_3.out); (case side5 => repeat (first | exact (Cells_below HP1.out HB.out) | (with_reducible refine Cells_alloc ?_ _) | (with_reducible refine Cells_drewN ?_ _) | (with_reducible refine Cells_drew ?_))); (case side6 => repeat (first | exact (Cells_below HQ1.out HB.out) | (with_reducible refine Cells_alloc ?_ _) | (with_reducible refine Cells_drewN ?_ _) | (with_reducible refine Cells_drew ?_))); (case side7 => have X_ := HR1_1; exact cbl); (case side8 => exact HC1_1.out); (case side9 => have X_ := HR1_2; exact cbl); (case side10 => exact HC1_2.out); rintro e w8 ⟨rfl, hb⟩; refine ⟨_, rfl, ?_⟩; have n0_ := Aside0.mk (below_step blw hb); clear HB; revert n0_; intro HB; (try clear hb); (try clear hb2); (try clear hk); (try clear hi)))
   have H := HC7.out
   clear HC7
   by_cases c9 : t359 = true
   ·subst c9
    have H1 : (some x8_1) = some r := by rw [if_pos rfl] at H; exact H
    clear H
    have H := H1
    clear H1
    obtain rfl := Option.some.inj H
    go_wp2
    go_ret
    exact ⟨rfw, blw⟩
   replace c9 := Bool.eq_false_iff.mpr c9
   subst c9
   have H1 : (slices_IndexFunc_Value_of_fits_1.l0 k1 l0 (l0.length : Int) (wrap64 (x8_1 + 1)) a1_0 l1_1 l1_2) = some r := by rw [if_neg (show ¬ (false = true) by decide)] at H; exact H
   clear H
   have H := H1
   clear H1
   have H' := Aside0.mk H
   clear H
   go_wp2
   go_roundg k1
   case measure => have := HK1.out; omega
   case rel => exact ⟨(wrap64 (x8_1 + 1)), rfs, H', ⟨by have := HK1.out; omega⟩, ⟨blw⟩⟩

theorem impl_fits.all (k : Nat) : (∀ (ad0 : Addr) (a0_0 : Int) (a0_1 : Int) (A0_2 : Option Addr) (c0_2 : Nat) (l0_2 : List ByteArray) (A0_3 : Option Addr) (c0_3 : Nat) (l0_3 : List (S56)) (ad1 : Addr) (a1_0 : Int) (A1_1 : Option Addr) (c1_1 : Nat) (l1_1 : List ByteArray) (A1_2 : Option Addr) (c1_2 : Nat) (l1_2 : List (S51)) (r : Bool) (w : World) (hp0 : Cells w ad0 [.int .i64 a0_0, .int .i64 a0_1, .slice A0_2 l0_2.length c0_2, .slice A0_3 l0_3.length c0_3]) (hr0_2 : Kd.C Kd.string w A0_2 l0_2.length l0_2) (hc0_2 : l0_2.length ≤ c0_2) (hr0_3 : Kd.C k56 w A0_3 l0_3.length l0_3) (hc0_3 : l0_3.length ≤ c0_3) (hp1 : Cells w ad1 [.int .i64 a1_0, .slice A1_1 l1_1.length c1_1, .slice A1_2 l1_2.length c1_2]) (hr1_1 : Kd.C Kd.string w A1_1 l1_1.length l1_1) (hc1_1 : l1_1.length ≤ c1_1) (hr1_2 : Kd.C k51 w A1_2 l1_2.length l1_2) (hc1_2 : l1_2.length ≤ c1_2) (h : impl_fits.f k a0_0 a0_1 l0_2 l0_3 a1_0 l1_1 l1_2 = some r),
  Calls Try.prog 39 #[.pointer (some ad0), .pointer (some ad1)] w fun e w' => e = .returned (.bool r) ∧ Below w.heap.size w w') ∧ (∀ (a0_0 : Int) (a0_1 : Int) (A0_2 : Option Addr) (c0_2 : Nat) (l0_2 : List ByteArray) (A0_3 : Option Addr) (c0_3 : Nat) (l0_3 : List (S56)) (av1 : Addr) (ad1 : Addr) (a1_0 : Int) (A1_1 : Option Addr) (c1_1 : Nat) (l1_1 : List ByteArray) (A1_2 : Option Addr) (c1_2 : Nat) (l1_2 : List (S51)) (r : Bool) (w : World) (hr0_2 : Kd.C Kd.string w A0_2 l0_2.length l0_2) (hc0_2 : l0_2.length ≤ c0_2) (hr0_3 : Kd.C k56 w A0_3 l0_3.length l0_3) (hc0_3 : l0_3.length ≤ c0_3) (hp1 : Cells w ad1 [.int .i64 a1_0, .slice A1_1 l1_1.length c1_1, .slice A1_2 l1_2.length c1_2]) (hq1 : Cells w av1 [.pointer (some ad1)]) (hr1_1 : Kd.C Kd.string w A1_1 l1_1.length l1_1) (hc1_1 : l1_1.length ≤ c1_1) (hr1_2 : Kd.C k51 w A1_2 l1_2.length l1_2) (hc1_2 : l1_2.length ≤ c1_2) (h : impl_fits_1.f k a0_0 a0_1 l0_2 l0_3 a1_0 l1_1 l1_2 = some r),
  Calls Try.prog 60 #[.agg #[.int .i64 a0_0, .int .i64 a0_1, .slice A0_2 l0_2.length c0_2, .slice A0_3 l0_3.length c0_3], .pointer (some av1)] w fun e w' => e = .returned (.bool r) ∧ Below w.heap.size w w') ∧ (∀ (A0 : Option Addr) (c0 : Nat) (l0 : List (S56)) (av1 : Addr) (ad1 : Addr) (a1_0 : Int) (A1_1 : Option Addr) (c1_1 : Nat) (l1_1 : List ByteArray) (A1_2 : Option Addr) (c1_2 : Nat) (l1_2 : List (S51)) (r : Bool) (w : World) (hr0 : Kd.C k56 w A0 l0.length l0) (hc0 : l0.length ≤ c0) (hp1 : Cells w ad1 [.int .i64 a1_0, .slice A1_1 l1_1.length c1_1, .slice A1_2 l1_2.length c1_2]) (hq1 : Cells w av1 [.pointer (some ad1)]) (hr1_1 : Kd.C Kd.string w A1_1 l1_1.length l1_1) (hc1_1 : l1_1.length ≤ c1_1) (hr1_2 : Kd.C k51 w A1_2 l1_2.length l1_2) (hc1_2 : l1_2.length ≤ c1_2) (h : slices_ContainsFunc_Value_of_fits_1.f k l0 a1_0 l1_1 l1_2 = some r),
  Calls Try.prog 19 #[.slice A0 l0.length c0, .func (.func 60) #[] #[.pointer (some av1)]] w fun e w' => e = .returned (.bool r) ∧ Below w.heap.size w w') ∧ (∀ (A0 : Option Addr) (c0 : Nat) (l0 : List (S56)) (av1 : Addr) (ad1 : Addr) (a1_0 : Int) (A1_1 : Option Addr) (c1_1 : Nat) (l1_1 : List ByteArray) (A1_2 : Option Addr) (c1_2 : Nat) (l1_2 : List (S51)) (r : Int) (w : World) (hr0 : Kd.C k56 w A0 l0.length l0) (hc0 : l0.length ≤ c0) (hp1 : Cells w ad1 [.int .i64 a1_0, .slice A1_1 l1_1.length c1_1, .slice A1_2 l1_2.length c1_2]) (hq1 : Cells w av1 [.pointer (some ad1)]) (hr1_1 : Kd.C Kd.string w A1_1 l1_1.length l1_1) (hc1_1 : l1_1.length ≤ c1_1) (hr1_2 : Kd.C k51 w A1_2 l1_2.length l1_2) (hc1_2 : l1_2.length ≤ c1_2) (h : slices_IndexFunc_Value_of_fits_1.f k l0 a1_0 l1_1 l1_2 = some r),
  Calls Try.prog 36 #[.slice A0 l0.length c0, .func (.func 60) #[] #[.pointer (some av1)]] w fun e w' => e = .returned (.int .i64 r) ∧ Below w.heap.size w w') := by
 induction k using Nat.strongRecOn with
 | _ k ih =>
 exact ⟨impl_fits.step k (fun m hm_ => (ih m hm_).1) (fun m hm_ => (ih m hm_).2.1) (fun m hm_ => (ih m hm_).2.2.1) (fun m hm_ => (ih m hm_).2.2.2), impl_fits_1.step k (fun m hm_ => (ih m hm_).2.1) (fun m hm_ => (ih m hm_).1) (fun m hm_ => (ih m hm_).2.2.1) (fun m hm_ => (ih m hm_).2.2.2), slices_ContainsFunc_Value_of_fits_1.step k (fun m hm_ => (ih m hm_).2.2.1) (fun m hm_ => (ih m hm_).1) (fun m hm_ => (ih m hm_).2.1) (fun m hm_ => (ih m hm_).2.2.2), slices_IndexFunc_Value_of_fits_1.step k (fun m hm_ => (ih m hm_).2.2.2) (fun m hm_ => (ih m hm_).1) (fun m hm_ => (ih m hm_).2.1) (fun m hm_ => (ih m hm_).2.2.1)⟩

theorem impl_fits.calls (k : Nat) : ∀ (ad0 : Addr) (a0_0 : Int) (a0_1 : Int) (A0_2 : Option Addr) (c0_2 : Nat) (l0_2 : List ByteArray) (A0_3 : Option Addr) (c0_3 : Nat) (l0_3 : List (S56)) (ad1 : Addr) (a1_0 : Int) (A1_1 : Option Addr) (c1_1 : Nat) (l1_1 : List ByteArray) (A1_2 : Option Addr) (c1_2 : Nat) (l1_2 : List (S51)) (r : Bool) (w : World) (hp0 : Cells w ad0 [.int .i64 a0_0, .int .i64 a0_1, .slice A0_2 l0_2.length c0_2, .slice A0_3 l0_3.length c0_3]) (hr0_2 : Kd.C Kd.string w A0_2 l0_2.length l0_2) (hc0_2 : l0_2.length ≤ c0_2) (hr0_3 : Kd.C k56 w A0_3 l0_3.length l0_3) (hc0_3 : l0_3.length ≤ c0_3) (hp1 : Cells w ad1 [.int .i64 a1_0, .slice A1_1 l1_1.length c1_1, .slice A1_2 l1_2.length c1_2]) (hr1_1 : Kd.C Kd.string w A1_1 l1_1.length l1_1) (hc1_1 : l1_1.length ≤ c1_1) (hr1_2 : Kd.C k51 w A1_2 l1_2.length l1_2) (hc1_2 : l1_2.length ≤ c1_2) (h : impl_fits.f k a0_0 a0_1 l0_2 l0_3 a1_0 l1_1 l1_2 = some r),
  Calls Try.prog 39 #[.pointer (some ad0), .pointer (some ad1)] w fun e w' => e = .returned (.bool r) ∧ Below w.heap.size w w' := (impl_fits.all k).1

end Go.Proofs.Ytfbecaplnigmaaa.Px
