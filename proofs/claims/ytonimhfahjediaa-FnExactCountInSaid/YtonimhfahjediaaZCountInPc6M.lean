/- Printed by a program of this session: what functions of the translation come to, each contract as it stands. No condition. -/
import Derived.Test.YtonimhfahjediaaZCountInSh
import Derived.Test.YtonimhfahjediaaZCountInWLastM
import Derived.Test.YtonimhfahjediaaZCountInPc4M
import Derived.Test.YtonimhfahjediaaZCountInWWords
import Derived.Test.YtonimhfahjediaaZCountInPc1M
section
namespace Go.Proofs.Ytonimhfahjediaa.Pc
open Go.RowKit Go.Proofs.Ytonimhfahjediaa.Ext Go.Proofs.YtonimhfahjediaaW.PrintWords Go.Proofs.YtonimhfahjediaaW.PrintLast Go.Proofs.YtonimhfahjediaaW.PrintMore
attribute [local go_sem] max2_int min2_int max_two min_two max_three min_three max_four min_four   -- for this text's walks alone
set_option linter.unusedVariables false
set_option linter.unusedSimpArgs false

/-! ### impl_CompareValues: function 22 -/
mutual
def impl_CompareValues.l0 : Nat → Int → Int → Int → Int → List ByteArray → List (S30) → Int → Int → List ByteArray → List (S30) → Option (Int)
 | 0, _, _, _, _, _, _, _, _, _, _ => none
 | k + 1, x5, x6, x238000, x238001, x238002, x238003, x239000, x239001, x239002, x239003 => if x5 = 0 then (if x6 < (x238003.length : Int) then (if 0 ≤ x6 then (if x6 < (x239003.length : Int) then ((impl_CompareValues.f k ((rd_T30 x238003 x6).f0) ((rd_T30 x238003 x6).f1) ((rd_T30 x238003 x6).f2) ((rd_T30 x238003 x6).f3) ((rd_T30 x239003 x6).f0) ((rd_T30 x239003 x6).f1) ((rd_T30 x239003 x6).f2) ((rd_T30 x239003 x6).f3)).bind fun t249 => (impl_CompareValues.l0 k t249 (wrap64 (x6 + 1)) x238000 x238001 x238002 x238003 x239000 x239001 x239002 x239003)) else (none)) else (none)) else (some x5)) else (some x5)
def impl_CompareValues.f : Nat → Int → Int → List ByteArray → List (S30) → Int → Int → List ByteArray → List (S30) → Option (Int)
 | 0, _, _, _, _, _, _, _, _ => none
 | k + 1, a0_0, a0_1, l0_2, l0_3, a1_0, a1_1, l1_2, l1_3 => (cmp_Compare_int.f a0_0 a1_0).bind fun t239 => ((cmp_Compare_int.f a0_1 a1_1).bind fun t240 => ((cmp_Compare_int.f (l0_3.length : Int) (l1_3.length : Int)).bind fun t241 => ((slices_Compare_string_string.f k l0_2 l1_2).bind fun t242 => ((cmp_Or_int.f k (([t239, t240, t241, t242] : List Int))).bind fun t246 => (impl_CompareValues.l0 k t246 0 a0_0 a0_1 l0_2 l0_3 a1_0 a1_1 l1_2 l1_3)))))
end
def impl_CompareValues.T1 : Bool × List (List Nat × List Nat) := (true, [([], []), ([0], [0]), ([], []), ([2], [2]), ([1, 3], [1, 3]), ([], []), ([5], [5]), ([], []), ([7], [7]), ([6, 8, 4], [6, 8]), ([], []), ([10], [10]), ([11], [11]), ([], []), ([13], [13]), ([14], [14]), ([12, 15, 9], [12, 15]), ([], []), ([17], [17]), ([], []), ([19], [19]), ([18, 20, 16], [18, 20]), ([4, 9, 16, 21], [4, 9, 16, 21]), ([22, 21], [22]), ([23, 23, 0, 1, 2, 3, 4, 5, 6, 7, 8, 9, 10, 11, 12, 13, 14, 15, 16, 17, 18, 19, 20, 21, 22, 23], [23])])
def impl_CompareValues.B1 : List Nat := [0, 1, 0, 4, 15, 0, 32, 0, 128, 511, 0, 1024, 3072, 0, 8192, 24576, 65535, 0, 131072, 0, 524288, 2097151, 4194303, 8388607, 16777215]
theorem impl_CompareValues.tab1 : rtab .any (opsOf Try.f22 1) = impl_CompareValues.T1 := by kernel_rfl
theorem impl_CompareValues.bits1 : waitsOk impl_CompareValues.T1.2 impl_CompareValues.B1 = true := by kernel_rfl
def impl_CompareValues.T5 : Bool × List (List Nat × List Nat) := (true, [([], []), ([0], [0]), ([], []), ([1, 2], [1, 2]), ([3], [3]), ([], []), ([5], [5]), ([], []), ([6, 7], [6, 7]), ([8], [8]), ([4, 9], [4, 9]), ([10, 10, 0, 1, 2, 3, 4, 5, 6, 7, 8, 9, 10], [10])])
def impl_CompareValues.B5 : List Nat := [0, 1, 0, 7, 15, 0, 32, 0, 224, 480, 1023, 2047]
theorem impl_CompareValues.tab5 : rtab .any (opsOf Try.f22 5) = impl_CompareValues.T5 := by kernel_rfl
theorem impl_CompareValues.bits5 : waitsOk impl_CompareValues.T5.2 impl_CompareValues.B5 = true := by kernel_rfl
set_option maxHeartbeats 8000000 in
set_option maxRecDepth 100000 in
theorem impl_CompareValues.calls (k : Nat) : ∀ (a0_0 : Int) (a0_1 : Int) (A0_2 : Option Addr) (c0_2 : Nat) (l0_2 : List ByteArray) (A0_3 : Option Addr) (c0_3 : Nat) (l0_3 : List (S30)) (a1_0 : Int) (a1_1 : Int) (A1_2 : Option Addr) (c1_2 : Nat) (l1_2 : List ByteArray) (A1_3 : Option Addr) (c1_3 : Nat) (l1_3 : List (S30)) (r : Int) (w : World) (hr0_2 : Kd.C Kd.string w A0_2 l0_2.length l0_2) (hc0_2 : l0_2.length ≤ c0_2) (hr0_3 : Kd.C k30 w A0_3 l0_3.length l0_3) (hc0_3 : l0_3.length ≤ c0_3) (hr1_2 : Kd.C Kd.string w A1_2 l1_2.length l1_2) (hc1_2 : l1_2.length ≤ c1_2) (hr1_3 : Kd.C k30 w A1_3 l1_3.length l1_3) (hc1_3 : l1_3.length ≤ c1_3) (h : impl_CompareValues.f k a0_0 a0_1 l0_2 l0_3 a1_0 a1_1 l1_2 l1_3 = some r),
  Calls Try.prog 22 #[.agg #[.int .i64 a0_0, .int .i64 a0_1, .slice A0_2 l0_2.length c0_2, .slice A0_3 l0_3.length c0_3], .agg #[.int .i64 a1_0, .int .i64 a1_1, .slice A1_2 l1_2.length c1_2, .slice A1_3 l1_3.length c1_3]] w fun e w' => e = .returned (.int .i64 r) ∧ Below w.heap.size w w' := by
 induction k using Nat.strongRecOn with
 | _ k ih =>
 intro a0_0 a0_1 A0_2 c0_2 l0_2 A0_3 c0_3 l0_3 a1_0 a1_1 A1_2 c1_2 l1_2 A1_3 c1_3 l1_3 r w hr0_2 hc0_2 hr0_3 hc0_3 hr1_2 hc1_2 hr1_3 hc1_3 h
 cases k with
 | zero => exact absurd h (by simp [impl_CompareValues.f])
 | succ k =>
 simp only [impl_CompareValues.f] at h
 have hu30 := Try.underlying30
 have HR0_2 := am hr0_2
 have HC0_2 := am hc0_2
 clear hr0_2 hc0_2
 have HR0_3 := am hr0_3
 have HC0_3 := am hc0_3
 clear hr0_3 hc0_3
 have HR1_2 := am hr1_2
 have HC1_2 := am hc1_2
 clear hr1_2 hc1_2
 have HR1_3 := am hr1_3
 have HC1_3 := am hc1_3
 clear hr1_3 hc1_3
 have HB := am (Below.refl w.heap.size w)
 have H : ((cmp_Compare_int.f a0_0 a1_0).bind fun t239 => ((cmp_Compare_int.f a0_1 a1_1).bind fun t240 => ((cmp_Compare_int.f (l0_3.length : Int) (l1_3.length : Int)).bind fun t241 => ((slices_Compare_string_string.f k l0_2 l1_2).bind fun t242 => ((cmp_Or_int.f k (([t239, t240, t241, t242] : List Int))).bind fun t246 => (impl_CompareValues.l0 k t246 0 a0_0 a0_1 l0_2 l0_3 a1_0 a1_1 l1_2 l1_3)))))) = some r := h
 clear h
 replace H := Option.bind_eq_some_iff.mp H
 obtain ⟨t239, A30, H⟩ := H
 replace H : ((cmp_Compare_int.f a0_1 a1_1).bind fun t240 => ((cmp_Compare_int.f (l0_3.length : Int) (l1_3.length : Int)).bind fun t241 => ((slices_Compare_string_string.f k l0_2 l1_2).bind fun t242 => ((cmp_Or_int.f k (([t239, t240, t241, t242] : List Int))).bind fun t246 => (impl_CompareValues.l0 k t246 0 a0_0 a0_1 l0_2 l0_3 a1_0 a1_1 l1_2 l1_3))))) = some r := H
 have A3 := am A30
 clear A30
 replace H := Option.bind_eq_some_iff.mp H
 obtain ⟨t240, A40, H⟩ := H
 replace H : ((cmp_Compare_int.f (l0_3.length : Int) (l1_3.length : Int)).bind fun t241 => ((slices_Compare_string_string.f k l0_2 l1_2).bind fun t242 => ((cmp_Or_int.f k (([t239, t240, t241, t242] : List Int))).bind fun t246 => (impl_CompareValues.l0 k t246 0 a0_0 a0_1 l0_2 l0_3 a1_0 a1_1 l1_2 l1_3)))) = some r := H
 have A4 := am A40
 clear A40
 replace H := Option.bind_eq_some_iff.mp H
 obtain ⟨t241, A50, H⟩ := H
 replace H : ((slices_Compare_string_string.f k l0_2 l1_2).bind fun t242 => ((cmp_Or_int.f k (([t239, t240, t241, t242] : List Int))).bind fun t246 => (impl_CompareValues.l0 k t246 0 a0_0 a0_1 l0_2 l0_3 a1_0 a1_1 l1_2 l1_3))) = some r := H
 have A5 := am A50
 clear A50
 replace H := Option.bind_eq_some_iff.mp H
 obtain ⟨t242, A60, H⟩ := H
 replace H : ((cmp_Or_int.f k (([t239, t240, t241, t242] : List Int))).bind fun t246 => (impl_CompareValues.l0 k t246 0 a0_0 a0_1 l0_2 l0_3 a1_0 a1_1 l1_2 l1_3)) = some r := H
 have A6 := am A60
 clear A60
 obtain ⟨y243, hy243⟩ : ∃ y_ : List Int, y_ = (([t239, t240, t241, t242] : List Int)) := ⟨_, rfl⟩
 replace H : ((cmp_Or_int.f k y243).bind fun t246 => (impl_CompareValues.l0 k t246 0 a0_0 a0_1 l0_2 l0_3 a1_0 a1_1 l1_2 l1_3)) = some r := by first | (rw [hy243]; with_reducible exact H) | (have H2_ := (Option.bind_some _ _).symm.trans H; rw [hy243]; with_reducible exact H2_) | (have H2_ := (Option.bind_some _ _).symm.trans H; with_reducible exact H2_) | with_reducible exact H | (rw [hy243]; exact H) | exact H
 have Ny243 := am hy243
 clear hy243
 replace H := Option.bind_eq_some_iff.mp H
 obtain ⟨t246, A70, H⟩ := H
 replace H : (impl_CompareValues.l0 k t246 0 a0_0 a0_1 l0_2 l0_3 a1_0 a1_1 l1_2 l1_3) = some r := H
 have A7 := am A70
 clear A70
 have H' := am H
 clear H
 go_enter Try.func22, Try.ntmps22
 try go_wp2_with (first | ((with_reducible refine gate_dst (N := 2) rfl ?_); (try (refine gate_guard (by rfl) ?_; dsimp only)); refine box_event ?hg (N := 2) ?hd (cs := #[.int .i64 a0_0, .int .i64 a0_1, .slice A0_2 l0_2.length c0_2, .slice A0_3 l0_3.length c0_3]) (t := 30) ?hr ?_; (case hd => rfl); (case hg => rfl); (case hr => exact hrw); intro gb237 hg w8 hbox hb; have n0_ := am (below_step blw hb); have n1_ := am (hbox); have n2_ := am ((by rw [hg]; exact (below_size blw) : w.heap.size ≤ gb237)); have n3_ := n2_; clear HB; revert n0_ n1_ n2_ n3_; intro HB BK237 GW237 GE237; clear hb hbox hg) | ((with_reducible refine gate_dst (N := 3) rfl ?_); (try (refine gate_guard (by rfl) ?_; dsimp only)); refine box_event ?hg (N := 3) ?hd (cs := #[.int .i64 a1_0, .int .i64 a1_1, .slice A1_2 l1_2.length c1_2, .slice A1_3 l1_3.length c1_3]) (t := 30) ?hr ?_; (case hd => rfl); (case hg => rfl); (case hr => exact hrw); intro gb238 hg w9 hbox hb; have n0_ := am (blk_below (g := gb237) bkw hb); have n1_ := am (below_step blw hb); have n2_ := am (hbox); have n3_ := am ((by rw [hg]; exact (below_size blw) : w.heap.size ≤ gb238)); have n4_ := n3_; have n5_ := am ((by rw [hg]; exact Nat.ne_of_lt (blk_lt (g := gb237) bkw) : gb237 ≠ gb238)); have n6_ := am ((by rw [hg]; exact Nat.ne_of_gt (blk_lt (g := gb237) bkw) : gb238 ≠ gb237)); clear BK237; clear HB; revert n0_ n1_ n2_ n3_ n4_ n5_ n6_; intro BK237 HB BK238 GW238 GE238 NB237_238 NB238_237; clear hb hbox hg))
 have n0_ := am (blk_drew BK237.out)
 have n1_ := am (blk_drew BK238.out)
 have n2_ := am (below_drew1 HB.out)
 clear BK237
 clear BK238
 clear HB
 revert n0_ n1_ n2_
 intro BK237 BK238 HB
 refine start_ (n := 25) (S := fun w' => w'.cell? ⟨gb237, 0, none⟩ = some (.int .i64 a0_0) ∧ w'.cell? ⟨gb237, 1, none⟩ = some (.int .i64 a0_1) ∧ w'.cell? ⟨gb237, 2, none⟩ = some (.slice A0_2 l0_2.length c0_2) ∧ w'.cell? ⟨gb237, 3, none⟩ = some (.slice A0_3 l0_3.length c0_3) ∧ w'.cell? ⟨gb238, 0, none⟩ = some (.int .i64 a1_0) ∧ w'.cell? ⟨gb238, 1, none⟩ = some (.int .i64 a1_1) ∧ w'.cell? ⟨gb238, 2, none⟩ = some (.slice A1_2 l1_2.length c1_2) ∧ w'.cell? ⟨gb238, 3, none⟩ = some (.slice A1_3 l1_3.length c1_3)) (ds := []) #[false,false,false,false,false,false,false,false,false,false,false,false,false,false,false,false,false,false,false,false,false,false,false,false,false] kr rfl rfl ⟨(blk_cell BK237.out 0).trans rfl, (blk_cell BK237.out 1).trans rfl, (blk_cell BK237.out 2).trans rfl, (blk_cell BK237.out 3).trans rfl, (blk_cell BK238.out 0).trans rfl, (blk_cell BK238.out 1).trans rfl, (blk_cell BK238.out 2).trans rfl, (blk_cell BK238.out 3).trans rfl⟩ (fun hHeld => ?_); refine with_tabW impl_CompareValues.tab1 impl_CompareValues.bits1 (fun HT_ HW_ => ?_)
 generalize w9.drew = w10 at BK237 BK238 HB hHeld ⊢
 refine pure_ (i := 0) (N := some 7) (v := ?_) (a' := ?_) (bm 25 1) rfl rfl (any_of HT_.out kr) qi (Or.inl ⟨by rfl, ?_⟩) ?_ ?_
 rotate_left
 ·intro w'
  go_simp
  with_reducible rfl
 rotate_left
 ·simp only [sx]
  rfl
 refine pure_ (i := 2) (N := some 9) (v := ?_) (a' := ?_) (bm 25 5) rfl rfl (any_of HT_.out kr) qi (Or.inl ⟨by rfl, ?_⟩) ?_ ?_
 rotate_left
 ·intro w'
  go_simp
  with_reducible rfl
 rotate_left
 ·simp only [sx]
  rfl
 refine pure_ (i := 5) (N := some 12) (v := ?_) (a' := ?_) (bm 25 37) rfl rfl (any_of HT_.out kr) qi (Or.inl ⟨by rfl, ?_⟩) ?_ ?_
 rotate_left
 ·intro w'
  go_simp
  with_reducible rfl
 rotate_left
 ·simp only [sx]
  rfl
 refine pure_ (i := 7) (N := some 14) (v := ?_) (a' := ?_) (bm 25 165) rfl rfl (any_of HT_.out kr) qi (Or.inl ⟨by rfl, ?_⟩) ?_ ?_
 rotate_left
 ·intro w'
  go_simp
  with_reducible rfl
 rotate_left
 ·simp only [sx]
  rfl
 refine pure_ (i := 10) (N := some 17) (v := ?_) (a' := ?_) (bm 25 1189) rfl rfl (any_of HT_.out kr) qi (Or.inl ⟨by rfl, ?_⟩) ?_ ?_
 rotate_left
 ·intro w'
  go_simp
  with_reducible rfl
 rotate_left
 ·simp only [sx]
  rfl
 refine pure_ (i := 13) (N := some 20) (v := ?_) (a' := ?_) (bm 25 9381) rfl rfl (any_of HT_.out kr) qi (Or.inl ⟨by rfl, ?_⟩) ?_ ?_
 rotate_left
 ·intro w'
  go_simp
  with_reducible rfl
 rotate_left
 ·simp only [sx]
  rfl
 refine pure_ (i := 17) (N := some 24) (v := ?_) (a' := ?_) (bm 25 140453) rfl rfl (any_of HT_.out kr) qi (Or.inl ⟨by rfl, ?_⟩) ?_ ?_
 rotate_left
 ·intro w'
  go_simp
  with_reducible rfl
 rotate_left
 ·simp only [sx]
  rfl
 refine pure_ (i := 19) (N := some 26) (v := ?_) (a' := ?_) (bm 25 664741) rfl rfl (any_of HT_.out kr) qi (Or.inl ⟨by rfl, ?_⟩) ?_ ?_
 rotate_left
 ·intro w'
  go_simp
  with_reducible rfl
 rotate_left
 ·simp only [sx]
  rfl
 refine take_ (i := 1) (N := some 8) (v := ?_) (a' := ?_) (bm 25 664743) rfl rfl (take_ofW HT_.out HW_.out kr) qi (Or.inl ⟨by rfl, ?_⟩) hHeld ?_ ?_
 rotate_left
 ·rintro w' ⟨s0, s1, s2, s3, s4, s5, s6, s7⟩
  go_simp
  with_reducible rfl
 rotate_left
 ·simp only [sx]
  rfl
 refine take_ (i := 3) (N := some 10) (v := ?_) (a' := ?_) (bm 25 664751) rfl rfl (take_ofW HT_.out HW_.out kr) qi (Or.inl ⟨by rfl, ?_⟩) hHeld ?_ ?_
 rotate_left
 ·rintro w' ⟨s0, s1, s2, s3, s4, s5, s6, s7⟩
  go_simp
  with_reducible rfl
 rotate_left
 ·simp only [sx]
  rfl
 refine take_ (i := 6) (N := some 13) (v := ?_) (a' := ?_) (bm 25 664815) rfl rfl (take_ofW HT_.out HW_.out kr) qi (Or.inl ⟨by rfl, ?_⟩) hHeld ?_ ?_
 rotate_left
 ·rintro w' ⟨s0, s1, s2, s3, s4, s5, s6, s7⟩
  go_simp
  with_reducible rfl
 rotate_left
 ·simp only [sx]
  rfl
 refine take_ (i := 8) (N := some 15) (v := ?_) (a' := ?_) (bm 25 665071) rfl rfl (take_ofW HT_.out HW_.out kr) qi (Or.inl ⟨by rfl, ?_⟩) hHeld ?_ ?_
 rotate_left
 ·rintro w' ⟨s0, s1, s2, s3, s4, s5, s6, s7⟩
  go_simp
  with_reducible rfl
 rotate_left
 ·simp only [sx]
  rfl
 refine take_ (i := 11) (N := some 18) (v := ?_) (a' := ?_) (bm 25 667119) rfl rfl (take_ofW HT_.out HW_.out kr) qi (Or.inl ⟨by rfl, ?_⟩) hHeld ?_ ?_
 rotate_left
 ·rintro w' ⟨s0, s1, s2, s3, s4, s5, s6, s7⟩
  go_simp
  with_reducible rfl
 rotate_left
 ·simp only [sx]
  rfl
 refine pure_ (i := 12) (N := some 19) (v := ?_) (a' := ?_) (bm 25 671215) rfl rfl (any_of HT_.out kr) qi (Or.inl ⟨by rfl, ?_⟩) ?_ ?_
 rotate_left
 ·intro w'
  go_simp
  with_reducible rfl
 rotate_left
 ·simp only [sx]
  rfl
 refine take_ (i := 14) (N := some 21) (v := ?_) (a' := ?_) (bm 25 687599) rfl rfl (take_ofW HT_.out HW_.out kr) qi (Or.inl ⟨by rfl, ?_⟩) hHeld ?_ ?_
 rotate_left
 ·rintro w' ⟨s0, s1, s2, s3, s4, s5, s6, s7⟩
  go_simp
  with_reducible rfl
 rotate_left
 ·simp only [sx]
  rfl
 refine pure_ (i := 15) (N := some 22) (v := ?_) (a' := ?_) (bm 25 720367) rfl rfl (any_of HT_.out kr) qi (Or.inl ⟨by rfl, ?_⟩) ?_ ?_
 rotate_left
 ·intro w'
  go_simp
  with_reducible rfl
 rotate_left
 ·simp only [sx]
  rfl
 refine take_ (i := 18) (N := some 25) (v := ?_) (a' := ?_) (bm 25 982511) rfl rfl (take_ofW HT_.out HW_.out kr) qi (Or.inl ⟨by rfl, ?_⟩) hHeld ?_ ?_
 rotate_left
 ·rintro w' ⟨s0, s1, s2, s3, s4, s5, s6, s7⟩
  go_simp
  with_reducible rfl
 rotate_left
 ·simp only [sx]
  rfl
 refine take_ (i := 20) (N := some 27) (v := ?_) (a' := ?_) (bm 25 2031087) rfl rfl (take_ofW HT_.out HW_.out kr) qi (Or.inl ⟨by rfl, ?_⟩) hHeld ?_ ?_
 rotate_left
 ·rintro w' ⟨s0, s1, s2, s3, s4, s5, s6, s7⟩
  go_simp
  with_reducible rfl
 rotate_left
 ·simp only [sx]
  rfl
 refine one_ (i := 4) (N := some 11) (bm 25 2031103) rfl rfl (one_of HT_.out kr) (by decide) (fun K hK => ?_)
 refine goes_ Try.func36 kr rfl #[.int .i64 a0_0, .int .i64 a1_0] (by rfl) rfl rfl mpw ?_
 with_reducible refine (cmp_Compare_int.calls a0_0 a1_0 t239 _ A3.out).mono ?_
 rintro e w' ⟨rfl, ⟨nd, rfl⟩⟩
 refine ⟨_, rfl, ?_⟩
 refine hK.out _ _ ⟨(blk_cell BK237.out 0).trans rfl, (blk_cell BK237.out 1).trans rfl, (blk_cell BK237.out 2).trans rfl, (blk_cell BK237.out 3).trans rfl, (blk_cell BK238.out 0).trans rfl, (blk_cell BK238.out 1).trans rfl, (blk_cell BK238.out 2).trans rfl, (blk_cell BK238.out 3).trans rfl⟩ (fun hHeld => ?_)
 clear hK K
 refine norm_ (a' := ?_) ?_ ?_
 rotate_left
 ·show Act.put _ (some 11) _ = _
  simp only [sx]
  rfl
 refine one_ (i := 9) (N := some 16) (bm 25 2031615) rfl rfl (one_of HT_.out kr) (by decide) (fun K hK => ?_)
 refine goes_ Try.func36 kr rfl #[.int .i64 a0_1, .int .i64 a1_1] (by rfl) rfl rfl mpw ?_
 with_reducible refine (cmp_Compare_int.calls a0_1 a1_1 t240 _ A4.out).mono ?_
 rintro e w' ⟨rfl, ⟨nd, rfl⟩⟩
 refine ⟨_, rfl, ?_⟩
 refine hK.out _ _ ⟨(blk_cell BK237.out 0).trans rfl, (blk_cell BK237.out 1).trans rfl, (blk_cell BK237.out 2).trans rfl, (blk_cell BK237.out 3).trans rfl, (blk_cell BK238.out 0).trans rfl, (blk_cell BK238.out 1).trans rfl, (blk_cell BK238.out 2).trans rfl, (blk_cell BK238.out 3).trans rfl⟩ (fun hHeld => ?_)
 clear hK K
 refine norm_ (a' := ?_) ?_ ?_
 rotate_left
 ·show Act.put _ (some 16) _ = _
  simp only [sx]
  rfl
 refine one_ (i := 16) (N := some 23) (bm 25 2097151) rfl rfl (one_of HT_.out kr) (by decide) (fun K hK => ?_)
 refine goes_ Try.func36 kr rfl #[.int .i64 (l0_3.length : Int), .int .i64 (l1_3.length : Int)] (by rfl) rfl rfl mpw ?_
 with_reducible refine (cmp_Compare_int.calls (l0_3.length : Int) (l1_3.length : Int) t241 _ A5.out).mono ?_
 rintro e w' ⟨rfl, ⟨nd, rfl⟩⟩
 refine ⟨_, rfl, ?_⟩
 refine hK.out _ _ ⟨(blk_cell BK237.out 0).trans rfl, (blk_cell BK237.out 1).trans rfl, (blk_cell BK237.out 2).trans rfl, (blk_cell BK237.out 3).trans rfl, (blk_cell BK238.out 0).trans rfl, (blk_cell BK238.out 1).trans rfl, (blk_cell BK238.out 2).trans rfl, (blk_cell BK238.out 3).trans rfl⟩ (fun hHeld => ?_)
 clear hK K
 refine norm_ (a' := ?_) ?_ ?_
 rotate_left
 ·show Act.put _ (some 23) _ = _
  simp only [sx]
  rfl
 refine one_ (i := 21) (N := some 28) (bm 25 4194303) rfl rfl (one_of HT_.out kr) (by decide) (fun K hK => ?_)
 refine goes_ Try.func37 kr rfl #[.slice A0_2 l0_2.length c0_2, .slice A1_2 l1_2.length c1_2] (by rfl) rfl rfl mpw ?_
 with_reducible refine (slices_Compare_string_string.calls k _ _ l0_2 _ _ l1_2 t242 _ ?side1 ?side2 ?side3 ?side4 A6.out).mono ?_
 (case side1 => repeat (first | exact (Kd.C_below HR0_2.out blw) | (with_reducible refine Kd.C_alloc ?_ _) | (with_reducible refine Kd.C_drewN ?_ _) | (with_reducible refine Kd.C_drew ?_)))
 (case side2 => exact HC0_2.out)
 (case side3 => repeat (first | exact (Kd.C_below HR1_2.out blw) | (with_reducible refine Kd.C_alloc ?_ _) | (with_reducible refine Kd.C_drewN ?_ _) | (with_reducible refine Kd.C_drew ?_)))
 (case side4 => exact HC1_2.out)
 rintro e w' ⟨rfl, ⟨nd, rfl⟩⟩
 refine ⟨_, rfl, ?_⟩
 refine hK.out _ _ ⟨(blk_cell BK237.out 0).trans rfl, (blk_cell BK237.out 1).trans rfl, (blk_cell BK237.out 2).trans rfl, (blk_cell BK237.out 3).trans rfl, (blk_cell BK238.out 0).trans rfl, (blk_cell BK238.out 1).trans rfl, (blk_cell BK238.out 2).trans rfl, (blk_cell BK238.out 3).trans rfl⟩ (fun hHeld => ?_)
 clear hK K
 refine norm_ (a' := ?_) ?_ ?_
 rotate_left
 ·show Act.put _ (some 28) _ = _
  simp only [sx]
  rfl
 refine one_ (i := 22) (N := some 29) (bm 25 8388607) rfl rfl (one_of HT_.out kr) (by decide) (fun K hK => ?_)
 refine Kd.R_lit_step (Kd.int .i64) _ 3 ?hg (N := 29) ?hd (xs := ([t239, t240, t241, t242] : List Int)) (inner := [.int .i64 t239, .int .i64 t240, .int .i64 t241, .int .i64 t242]) (ok := fun _ => True) (okp := fun _ => True) ?hr ?hp (fun _ hk => hk) trivial (Below.refl _ _) (Nat.le_refl _) (by simp) ?_; (case hd => rfl); (case hg => rfl); (case hr => exact hrw); (case hp => exact (Reps.one (show Kd.M (Kd.int .i64) _ _ _ t239 [.int .i64 t239] from rfl) (Reps.one (show Kd.M (Kd.int .i64) _ _ _ t240 [.int .i64 t240] from rfl) (Reps.one (show Kd.M (Kd.int .i64) _ _ _ t241 [.int .i64 t241] from rfl) (Reps.one (show Kd.M (Kd.int .i64) _ _ _ t242 [.int .i64 t242] from rfl) (Reps.none _ _))))))
 intro v244 w11 ho12 hb hg_ hnew_
 clear hg_ hnew_
 (first | rw [← Ny243.out] at ho12 | (simp only [Int.reduceToNat] at ho12; rw [← Ny243.out] at ho12))
 have n0_ := am (Kd.R_lower ho12 (below_size blw))
 have n1_ := am (blk_below (g := gb237) bkw hb)
 have n2_ := am (blk_below (g := gb238) bkw hb)
 have n3_ := am (below_step blw hb)
 clear BK237
 clear BK238
 clear HB
 revert n0_ n1_ n2_ n3_
 intro HO245 BK237 BK238 HB
 clear hb ho12
 obtain ⟨Ao13, co13, eo13⟩ := Kd.R_slice HO245.out
 (first | subst eo13 | (injection eo13 with f1_ f2_ f3_; have f4_ := f1_.symm; have f5_ := f3_.symm; clear f1_ f2_ f3_; subst f4_; subst f5_))
 refine hK.out _ _ ⟨(blk_cell BK237.out 0).trans rfl, (blk_cell BK237.out 1).trans rfl, (blk_cell BK237.out 2).trans rfl, (blk_cell BK237.out 3).trans rfl, (blk_cell BK238.out 0).trans rfl, (blk_cell BK238.out 1).trans rfl, (blk_cell BK238.out 2).trans rfl, (blk_cell BK238.out 3).trans rfl⟩ (fun hHeld => ?_)
 clear hK K
 refine norm_ (a' := ?_) ?_ ?_
 rotate_left
 ·show Act.put _ (some 29) _ = _
  simp only [sx]
  rfl
 refine one_ (i := 23) (N := some 30) (bm 25 16777215) rfl rfl (one_of HT_.out kr) (by decide) (fun K hK => ?_)
 refine goes_ Try.func35 kr rfl #[.slice Ao13 y243.length co13] (by rfl) rfl rfl mpw ?_
 with_reducible refine (cmp_Or_int.calls k _ _ y243 t246 _ ?side1 ?side2 A7.out).mono ?_
 (case side1 => repeat (first | exact (Kd.R_reads' HO245.out).2.2 | (with_reducible refine Kd.C_alloc ?_ _) | (with_reducible refine Kd.C_drewN ?_ _) | (with_reducible refine Kd.C_drew ?_)))
 (case side2 => exact (Kd.R_reads' HO245.out).2.1)
 rintro e w' ⟨rfl, ⟨nd, rfl⟩⟩
 refine ⟨_, rfl, ?_⟩
 refine hK.out _ _ ⟨(blk_cell BK237.out 0).trans rfl, (blk_cell BK237.out 1).trans rfl, (blk_cell BK237.out 2).trans rfl, (blk_cell BK237.out 3).trans rfl, (blk_cell BK238.out 0).trans rfl, (blk_cell BK238.out 1).trans rfl, (blk_cell BK238.out 2).trans rfl, (blk_cell BK238.out 3).trans rfl⟩ (fun hHeld => ?_)
 clear hK K
 refine norm_ (a' := ?_) ?_ ?_
 rotate_left
 ·show Act.put _ (some 30) _ = _
  simp only [sx]
  rfl
 refine pure_ (i := 24) (N := some 5) (v := ?_) (a' := ?_) (bm 25 33554431) rfl rfl (any_of HT_.out kr) qi (Or.inl ⟨by rfl, ?_⟩) ?_ ?_
 rotate_left
 ·intro w'
  go_simp
  with_reducible rfl
 rotate_left
 ·simp only [sx]
  rfl
 refine done_ (done_of HT_.out kr) ?_
 try go_wp2
 go_loopg [5, 6] k (fun kq v5 v6 w' => ∃ (x5_1 : Int) (x6_1 : Int), v5 = .int .i64 x5_1 ∧ v6 = .int .i64 x6_1 ∧ Aside0 (impl_CompareValues.l0 kq x5_1 x6_1 a0_0 a0_1 l0_2 l0_3 a1_0 a1_1 l1_2 l1_3 = some r) ∧ Aside0 (kq ≤ k) ∧ Aside0 (w'.heap[gb237]? = some (.cells #[.int .i64 a0_0, .int .i64 a0_1, (.slice A0_2 l0_2.length c0_2), (.slice A0_3 l0_3.length c0_3)] 30 (0, 0))) ∧ Aside0 (w'.heap[gb238]? = some (.cells #[.int .i64 a1_0, .int .i64 a1_1, (.slice A1_2 l1_2.length c1_2), (.slice A1_3 l1_3.length c1_3)] 30 (0, 0))) ∧ Aside0 (Below w.heap.size w w'))
 case atStart => exact ⟨(t246), (0), rfs, rfs, H', ⟨Nat.le_refl _⟩, ⟨bkw⟩, ⟨bkw⟩, ⟨blw⟩⟩
 case round =>
  clear H'
  (try clear c1); (try clear c2); (try clear p2); (try clear c3)
  obtain ⟨x5_1, x6_1, rfl, rfl, HA, HK1, BK237, BK238, HB⟩ := hrel
  cases gk with
  | zero => exact absurd HA.out (by simp [impl_CompareValues.l0])
  | succ k1 =>
   have H := HA.out
   clear HA
   simp only [impl_CompareValues.l0] at H
   by_cases c14 : x5_1 = 0
   case neg =>
    rw [if_neg c14] at H
    have c14b0 : (x5_1 == 0) = false := beq_eq_false_iff_ne.mpr c14
    have c14b1 : (x5_1 != 0) = true := bne_iff_ne.mpr c14
    obtain rfl := Option.some.inj H
    go_wp2
    go_ret
    exact ⟨rfw, blw⟩
   rw [if_pos c14] at H
   have c14b0 : (x5_1 == 0) = true := beq_iff_eq.mpr c14
   have c14b1 : (x5_1 != 0) = false := bne_eq_false_iff_eq.mpr c14
   clear c14
   by_cases c15 : x6_1 < (l0_3.length : Int)
   case neg =>
    rw [if_neg c15] at H
    have c15b0 : decide (x6_1 < (l0_3.length : Int)) = false := decide_eq_false c15
    clear c15
    obtain rfl := Option.some.inj H
    have hnb23 := NB237_238.out
    have hnc23 := NB238_237.out
    obtain ⟨hcz24_0, hcz24_1, hcz24_2, hcz24_3⟩ := cls4 BK237.out
    obtain ⟨hfz24_0, hfz24_1, hfz24_2, hfz24_3⟩ := frz4 BK237.out
    go_wp2
    go_ret
    exact ⟨rfw, blw⟩
   rw [if_pos c15] at H
   have c15b0 : decide (x6_1 < (l0_3.length : Int)) = true := decide_eq_true c15
   clear c15
   by_cases c16 : 0 ≤ x6_1
   case neg =>
    rw [if_neg c16] at H
    exact absurd H (by simp)
   rw [if_pos c16] at H
   have c16b0 : decide (0 ≤ x6_1) = true := decide_eq_true c16
   clear c16
   by_cases c17 : x6_1 < (l1_3.length : Int)
   case neg =>
    rw [if_neg c17] at H
    exact absurd H (by simp)
   rw [if_pos c17] at H
   have c17b0 : decide (x6_1 < (l1_3.length : Int)) = true := decide_eq_true c17
   clear c17
   replace H := Option.bind_eq_some_iff.mp H
   obtain ⟨t249, A180, H⟩ := H
   replace H : (impl_CompareValues.l0 k1 t249 (wrap64 (x6_1 + 1)) a0_0 a0_1 l0_2 l0_3 a1_0 a1_1 l1_2 l1_3) = some r := H
   have A18 := am A180
   clear A180
   have H' := am H
   clear H
   have hnb19 := NB237_238.out
   have hnc19 := NB238_237.out
   obtain ⟨hcz20_0, hcz20_1, hcz20_2, hcz20_3⟩ := cls4 BK237.out
   obtain ⟨hfz20_0, hfz20_1, hfz20_2, hfz20_3⟩ := frz4 BK237.out
   try go_wp2
   have n0_ := am (blk_drew BK237.out)
   have n1_ := am (blk_drew BK238.out)
   have n2_ := am (below_drew1 HB.out)
   clear BK237
   clear BK238
   clear HB
   revert n0_ n1_ n2_
   intro BK237 BK238 HB
   have p247 : 0 ≤ (x6_1 : Int) := of_decide_eq_true asw
   have q247 : x6_1 < (l0_3.length : Int) := of_decide_eq_true asw
   obtain ⟨ad247, A247_2, c247_2, A247_3, c247_3, e247, hx247_0, hx247_1, hx247_2, hx247_3, hl247_2, hi247_2, hl247_3, hi247_3⟩ := at_T30 HR0_3.out x6_1 p247 q247
   have hw247_3 := hx247_3
   have hw247_2 := hx247_2
   have hw247_1 := hx247_1
   have hw247_0 := hx247_0
   cases e247
   replace hx247_0 := upw HB.out hx247_0
   replace hx247_1 := upw HB.out hx247_1
   replace hx247_2 := upw HB.out hx247_2
   replace hx247_3 := upw HB.out hx247_3
   have HR247_2 := am hi247_2
   have HC247_2 := am hl247_2
   clear hi247_2 hl247_2
   have HR247_3 := am hi247_3
   have HC247_3 := am hl247_3
   clear hi247_3 hl247_3
   replace p247 := eq_true p247
   replace q247 := eq_true q247
   have p248 : 0 ≤ (x6_1 : Int) := of_decide_eq_true asw
   have q248 : x6_1 < (l1_3.length : Int) := of_decide_eq_true asw
   obtain ⟨ad248, A248_2, c248_2, A248_3, c248_3, e248, hx248_0, hx248_1, hx248_2, hx248_3, hl248_2, hi248_2, hl248_3, hi248_3⟩ := at_T30 HR1_3.out x6_1 p248 q248
   have hw248_3 := hx248_3
   have hw248_2 := hx248_2
   have hw248_1 := hx248_1
   have hw248_0 := hx248_0
   cases e248
   replace hx248_0 := upw HB.out hx248_0
   replace hx248_1 := upw HB.out hx248_1
   replace hx248_2 := upw HB.out hx248_2
   replace hx248_3 := upw HB.out hx248_3
   have HR248_2 := am hi248_2
   have HC248_2 := am hl248_2
   clear hi248_2 hl248_2
   have HR248_3 := am hi248_3
   have HC248_3 := am hl248_3
   clear hi248_3 hl248_3
   replace p248 := eq_true p248
   replace q248 := eq_true q248
   refine start_ (n := 12) (S := fun w' => w'.cell? ⟨gb237, 0, none⟩ = some (.int .i64 a0_0) ∧ w'.cell? ⟨gb237, 1, none⟩ = some (.int .i64 a0_1) ∧ w'.cell? ⟨gb237, 2, none⟩ = some (.slice A0_2 l0_2.length c0_2) ∧ w'.cell? ⟨gb237, 3, none⟩ = some (.slice (some ad247) l0_3.length c0_3) ∧ w'.cell? ⟨gb238, 0, none⟩ = some (.int .i64 a1_0) ∧ w'.cell? ⟨gb238, 1, none⟩ = some (.int .i64 a1_1) ∧ w'.cell? ⟨gb238, 2, none⟩ = some (.slice A1_2 l1_2.length c1_2) ∧ w'.cell? ⟨gb238, 3, none⟩ = some (.slice (some ad248) l1_3.length c1_3) ∧ w'.cell? (ad247.add ((x6_1).toNat * 4)) = some (.int .i64 ((rd_T30 l0_3 x6_1).f0)) ∧ w'.cell? ⟨(ad247.add ((x6_1).toNat * 4)).block, (ad247.add ((x6_1).toNat * 4)).off + 1, none⟩ = some (.int .i64 ((rd_T30 l0_3 x6_1).f1)) ∧ w'.cell? ⟨(ad247.add ((x6_1).toNat * 4)).block, (ad247.add ((x6_1).toNat * 4)).off + 2, none⟩ = some (.slice A247_2 ((rd_T30 l0_3 x6_1).f2).length c247_2) ∧ w'.cell? ⟨(ad247.add ((x6_1).toNat * 4)).block, (ad247.add ((x6_1).toNat * 4)).off + 3, none⟩ = some (.slice A247_3 ((rd_T30 l0_3 x6_1).f3).length c247_3) ∧ w'.cell? (ad248.add ((x6_1).toNat * 4)) = some (.int .i64 ((rd_T30 l1_3 x6_1).f0)) ∧ w'.cell? ⟨(ad248.add ((x6_1).toNat * 4)).block, (ad248.add ((x6_1).toNat * 4)).off + 1, none⟩ = some (.int .i64 ((rd_T30 l1_3 x6_1).f1)) ∧ w'.cell? ⟨(ad248.add ((x6_1).toNat * 4)).block, (ad248.add ((x6_1).toNat * 4)).off + 2, none⟩ = some (.slice A248_2 ((rd_T30 l1_3 x6_1).f2).length c248_2) ∧ w'.cell? ⟨(ad248.add ((x6_1).toNat * 4)).block, (ad248.add ((x6_1).toNat * 4)).off + 3, none⟩ = some (.slice A248_3 ((rd_T30 l1_3 x6_1).f3).length c248_3)) (ds := []) #[false,false,false,false,false,false,false,false,false,false,false,false] kr rfl rfl ⟨(blk_cell BK237.out 0).trans rfl, (blk_cell BK237.out 1).trans rfl, (blk_cell BK237.out 2).trans rfl, (blk_cell BK237.out 3).trans rfl, (blk_cell BK238.out 0).trans rfl, (blk_cell BK238.out 1).trans rfl, (blk_cell BK238.out 2).trans rfl, (blk_cell BK238.out 3).trans rfl, ((upw HB.out hw247_0 : _)), ((upw HB.out hw247_1 : _)), ((upw HB.out hw247_2 : _)), ((upw HB.out hw247_3 : _)), ((upw HB.out hw248_0 : _)), ((upw HB.out hw248_1 : _)), ((upw HB.out hw248_2 : _)), ((upw HB.out hw248_3 : _))⟩ (fun hHeld => ?_); refine with_tabW impl_CompareValues.tab5 impl_CompareValues.bits5 (fun HT_ HW_ => ?_)
   generalize wr.drew = w21 at BK237 BK238 HB HR247_2 HR247_3 HR248_2 HR248_3 hx247_0 hx247_1 hx247_2 hx247_3 hx248_0 hx248_1 hx248_2 hx248_3 hHeld ⊢
   refine pure_ (i := 0) (N := some 42) (v := ?_) (a' := ?_) (bm 12 1) rfl rfl (any_of HT_.out kr) qi (Or.inl ⟨by rfl, ?_⟩) ?_ ?_
   rotate_left
   ·intro w'
    go_simp
    with_reducible rfl
   rotate_left
   ·simp only [sx]
    rfl
   refine pure_ (i := 2) (N := some 44) (v := ?_) (a' := ?_) (bm 12 5) rfl rfl (any_of HT_.out kr) qi (Or.inl ⟨by rfl, ?_⟩) ?_ ?_
   rotate_left
   ·intro w'
    go_simp
    with_reducible rfl
   rotate_left
   ·simp only [sx]
    rfl
   refine pure_ (i := 5) (N := some 47) (v := ?_) (a' := ?_) (bm 12 37) rfl rfl (any_of HT_.out kr) qi (Or.inl ⟨by rfl, ?_⟩) ?_ ?_
   rotate_left
   ·intro w'
    go_simp
    with_reducible rfl
   rotate_left
   ·simp only [sx]
    rfl
   refine pure_ (i := 7) (N := some 49) (v := ?_) (a' := ?_) (bm 12 165) rfl rfl (any_of HT_.out kr) qi (Or.inl ⟨by rfl, ?_⟩) ?_ ?_
   rotate_left
   ·intro w'
    go_simp
    with_reducible rfl
   rotate_left
   ·simp only [sx]
    rfl
   refine take_ (i := 1) (N := some 43) (v := ?_) (a' := ?_) (bm 12 167) rfl rfl (take_ofW HT_.out HW_.out kr) qi (Or.inl ⟨by rfl, ?_⟩) hHeld ?_ ?_
   rotate_left
   ·rintro w' ⟨s0, s1, s2, s3, s4, s5, s6, s7, s8, s9, s10, s11, s12, s13, s14, s15⟩
    go_simp
    with_reducible rfl
   rotate_left
   ·simp only [sx]
    rfl
   refine pure_ (i := 3) (N := some 45) (v := ?_) (a' := ?_) (bm 12 175) rfl rfl (any_of HT_.out kr) qi (Or.inl ⟨by rfl, ?_⟩) ?_ ?_
   rotate_left
   ·intro w'
    go_simp
    with_reducible rfl
   rotate_left
   ·simp only [sx]
    rfl
   refine take_ (i := 4) (N := some 46) (v := ?_) (a' := ?_) (bm 12 191) rfl rfl (take_ofW HT_.out HW_.out kr) qi (Or.inl ⟨by rfl, ?_⟩) hHeld ?_ ?_
   rotate_left
   ·rintro w' ⟨s0, s1, s2, s3, s4, s5, s6, s7, s8, s9, s10, s11, s12, s13, s14, s15⟩
    go_simp
    with_reducible rfl
   rotate_left
   ·simp only [sx]
    rfl
   refine take_ (i := 6) (N := some 48) (v := ?_) (a' := ?_) (bm 12 255) rfl rfl (take_ofW HT_.out HW_.out kr) qi (Or.inl ⟨by rfl, ?_⟩) hHeld ?_ ?_
   rotate_left
   ·rintro w' ⟨s0, s1, s2, s3, s4, s5, s6, s7, s8, s9, s10, s11, s12, s13, s14, s15⟩
    go_simp
    with_reducible rfl
   rotate_left
   ·simp only [sx]
    rfl
   refine pure_ (i := 8) (N := some 50) (v := ?_) (a' := ?_) (bm 12 511) rfl rfl (any_of HT_.out kr) qi (Or.inl ⟨by rfl, ?_⟩) ?_ ?_
   rotate_left
   ·intro w'
    go_simp
    with_reducible rfl
   rotate_left
   ·simp only [sx]
    rfl
   refine take_ (i := 9) (N := some 51) (v := ?_) (a' := ?_) (bm 12 1023) rfl rfl (take_ofW HT_.out HW_.out kr) qi (Or.inl ⟨by rfl, ?_⟩) hHeld ?_ ?_
   rotate_left
   ·rintro w' ⟨s0, s1, s2, s3, s4, s5, s6, s7, s8, s9, s10, s11, s12, s13, s14, s15⟩
    go_simp
    with_reducible rfl
   rotate_left
   ·simp only [sx]
    rfl
   refine one_ (i := 10) (N := some 52) (bm 12 2047) rfl rfl (one_of HT_.out kr) (by decide) (fun K hK => ?_)
   refine goes_ Try.func22 kr rfl #[.agg #[.int .i64 ((rd_T30 l0_3 x6_1).f0), .int .i64 ((rd_T30 l0_3 x6_1).f1), .slice A247_2 ((rd_T30 l0_3 x6_1).f2).length c247_2, .slice A247_3 ((rd_T30 l0_3 x6_1).f3).length c247_3], .agg #[.int .i64 ((rd_T30 l1_3 x6_1).f0), .int .i64 ((rd_T30 l1_3 x6_1).f1), .slice A248_2 ((rd_T30 l1_3 x6_1).f2).length c248_2, .slice A248_3 ((rd_T30 l1_3 x6_1).f3).length c248_3]] (by rfl) rfl rfl mpw ?_
   with_reducible refine (ih k1 (by have := HK1.out; omega) ((rd_T30 l0_3 x6_1).f0) ((rd_T30 l0_3 x6_1).f1) _ _ ((rd_T30 l0_3 x6_1).f2) _ _ ((rd_T30 l0_3 x6_1).f3) ((rd_T30 l1_3 x6_1).f0) ((rd_T30 l1_3 x6_1).f1) _ _ ((rd_T30 l1_3 x6_1).f2) _ _ ((rd_T30 l1_3 x6_1).f3) t249 _ ?side1 ?side2 ?side3 ?side4 ?side5 ?side6 ?side7 ?side8 A18.out).mono ?_
   (case side1 => have X_ := HR247_2; exact cbl)
   (case side2 => exact HC247_2.out)
   (case side3 => have X_ := HR247_3; exact cbl)
   (case side4 => exact HC247_3.out)
   (case side5 => have X_ := HR248_2; exact cbl)
   (case side6 => exact HC248_2.out)
   (case side7 => have X_ := HR248_3; exact cbl)
   (case side8 => exact HC248_3.out)
   rintro e w22 ⟨rfl, hb⟩
   refine ⟨_, rfl, ?_⟩
   have n0_ := am (blk_below (g := gb237) bkw hb)
   have n1_ := am (blk_below (g := gb238) bkw hb)
   have n2_ := am (below_step blw hb)
   clear BK237
   clear BK238
   clear HB
   revert n0_ n1_ n2_
   intro BK237 BK238 HB
   (try clear hb)
   (try clear hb2)
   (try clear hk)
   (try clear hi)
   refine hK.out _ _ ⟨(blk_cell BK237.out 0).trans rfl, (blk_cell BK237.out 1).trans rfl, (blk_cell BK237.out 2).trans rfl, (blk_cell BK237.out 3).trans rfl, (blk_cell BK238.out 0).trans rfl, (blk_cell BK238.out 1).trans rfl, (blk_cell BK238.out 2).trans rfl, (blk_cell BK238.out 3).trans rfl, ((upw HB.out hw247_0 : _)), ((upw HB.out hw247_1 : _)), ((upw HB.out hw247_2 : _)), ((upw HB.out hw247_3 : _)), ((upw HB.out hw248_0 : _)), ((upw HB.out hw248_1 : _)), ((upw HB.out hw248_2 : _)), ((upw HB.out hw248_3 : _))⟩ (fun hHeld => ?_)
   clear hK K
   refine norm_ (a' := ?_) ?_ ?_
   rotate_left
   ·show Act.put _ (some 52) _ = _
    simp only [sx]
    rfl
   refine pure_ (i := 11) (N := some 5) (v := ?_) (a' := ?_) (bm 12 4095) rfl rfl (any_of HT_.out kr) qi (Or.inl ⟨by rfl, ?_⟩) ?_ ?_
   rotate_left
   ·intro w'
    go_simp
    with_reducible rfl
   rotate_left
   ·simp only [sx]
    rfl
   refine done_ (done_of HT_.out kr) ?_
   try go_wp2
   go_roundg k1
   case measure => have := HK1.out; omega
   case rel => exact ⟨(t249), (wrap64 (x6_1 + 1)), rfs, rfs, H', ⟨by have := HK1.out; omega⟩, ⟨bkw⟩, ⟨bkw⟩, ⟨blw⟩⟩

/-! ### slices_Clone_string_string: function 27 -/
/-- slices.Clone at texts: the same texts, in a row of their own. -/
def slices_Clone_string_string.f (l0 : List ByteArray) : Option (List ByteArray) := if l0.length < 8796093022208 then some l0 else none
set_option maxHeartbeats 1000000 in
set_option maxRecDepth 100000 in
theorem slices_Clone_string_string.calls (A0 : Option Addr) (c0 : Nat) (l0 : List ByteArray) (r : List ByteArray) (w : World) (hr0 : Kd.C Kd.string w A0 l0.length l0) (hc0 : l0.length ≤ c0) (h : slices_Clone_string_string.f l0 = some r) :
  Calls Try.prog 27 #[.slice A0 l0.length c0] w fun e w' => ∃ v0_ : Value, e = .returned (v0_) ∧ Kd.R Kd.string 9 w' w.heap.size (fun _ => True) v0_ r ∧ Below w.heap.size w w' := by
 unfold slices_Clone_string_string.f at h
 by_cases hl : l0.length < 8796093022208
 case neg =>
  rw [if_neg hl] at h
  cases h
 rw [if_pos hl] at h
 obtain rfl := Option.some.inj h
 have HL := am hl
 have HR0 := am hr0
 have HC0 := am hc0
 clear h hl hr0 hc0
 cases A0 with
 | none =>
  have hz : l0 = [] := by
   rcases Nat.eq_zero_or_pos l0.length with h0 | h0
   ·exact List.eq_nil_of_length_eq_zero h0
   ·obtain ⟨ad, h, _⟩ := HR0.out.2.2 h0
    cases h
  subst hz
  have he : ∀ n c w', (binOp .eql 22 (.slice none n c) (.slice none 0 0)).run Try.prog w' = .ok (.bool true) w' := fun n c w' => Go.Proofs.Ytonimhfahjediaa.Ext.eql_slice_nil Try.underlying22 none n c w'
  go_enter Try.func27, Try.ntmps27
  go_wp2
  go_ret
  exact ⟨_, rfl, Kd.R_nil _ _ _ _ _, Below.refl _ _⟩
 | some ad =>
  have he : ∀ n c w', (binOp .eql 22 (.slice (some ad) n c) (.slice none 0 0)).run Try.prog w' = .ok (.bool false) w' := fun n c w' => Go.Proofs.Ytonimhfahjediaa.Ext.eql_slice_nil Try.underlying22 (some ad) n c w'
  go_enter Try.func27, Try.ntmps27
  go_wp2_with (first
   | ((with_reducible refine gate_dst (N := 5) rfl ?_); refine Kd.R_lit Kd.string _ 9 ?hg (N := 5) ?hd (xs := ([] : List ByteArray)) (inner := []) (ok := fun _ => True) (okp := fun _ => True) ?hr ?hp (fun _ hk => hk) trivial (Below.refl _ _) (Nat.le_refl _) (by simp) ?_; (case hd => rfl); (case hg => rfl); (case hr => exact hrw); (case hp => exact (Reps.none _ _)); intro v5 w5 ho5 hb5 hg_ hnew_; clear hg_ hnew_; have HO5 := am ho5; have HB5 := am hb5; clear ho5 hb5)
   | ((with_reducible refine gate_builtin (b := .append) (xs := #[.tmp 5, .tmp 6]) rfl ?_); at_builtin; refine Kd.R_append_rows Kd.string (w0 := w) w.heap.size rfl (.tmp 5) (.tmp 6) 22 9 (.string ⟨#[]⟩) 16 rfl Try.underlying22 info9 rfl (by decide) (by omega) v5 ([] : List ByteArray) l0 _ _ _ (fun _ => True) (fun _ => False) rfl rfl ?aO ?aR (fun _ _ h => h) (fun _ h => h.elim) ?aF ?aB ?aS ?aL ?_; (case aR => exact (Kd.C_below HR0.out HB5.out)); (case aB => exact HB5.out); (case aF => exact (fun _ _ => trivial)); (case aO => exact HO5.out); (case aS => exact below_size HB5.out); (case aL => have := HL.out; simp; omega); intro v7 w7 ho hb hg hat; have HO7 := am ho; have HB7 := am hb; clear ho hb hg hat; obtain ⟨A7, c7, e7⟩ := Kd.R_slice HO7.out; subst e7))
  go_ret
  exact ⟨_, rfw, HO7.out, HB7.out⟩

-- NOT PRINTED: function 42 (impl_Value_42)

-- NOT PRINTED: function 46 (impl_Value_46)

-- NOT PRINTED: function 45 (impl_Value_45)

-- NOT PRINTED: function 43 (impl_Value_43)

-- NOT PRINTED: function 38 (impl_Value_38)

-- NOT PRINTED: function 28 (impl_Value_28)

end Go.Proofs.Ytonimhfahjediaa.Pc
end
section
namespace Go.Proofs.Ytonimhfahjediaa.Pc
open Go.RowKit Go.Proofs.Ytonimhfahjediaa.Ext Go.Proofs.YtonimhfahjediaaW.PrintWords Go.Proofs.YtonimhfahjediaaW.PrintLast Go.Proofs.YtonimhfahjediaaW.PrintMore
attribute [local go_sem] max2_int min2_int max_two min_two max_three min_three max_four min_four   -- for this text's walks alone
set_option linter.unusedVariables false
set_option linter.unusedSimpArgs false

/-! ### laws_eqStringS: function 23 -/
def laws_eqStringS.l0 : Nat → List ByteArray → List ByteArray → Int → Option (Bool)
 | 0, _, _, _ => none
 | k + 1, x0, x1, x5 => if x5 < (x0.length : Int) then (if 0 ≤ x5 then (if x5 < (x1.length : Int) then (if (rdOf ByteArray.empty x0 x5).toList = (rdOf ByteArray.empty x1 x5).toList then (laws_eqStringS.l0 k x0 x1 (wrap64 (x5 + 1))) else (some false)) else (none)) else (none)) else (some true)
def laws_eqStringS.f (k : Nat) (l0 : List ByteArray) (l1 : List ByteArray) : Option (Bool) := if (l0.length : Int) = (l1.length : Int) then (laws_eqStringS.l0 k l0 l1 0) else (some false)
set_option maxHeartbeats 8000000 in
set_option maxRecDepth 100000 in
theorem laws_eqStringS.calls (k : Nat) (A0 : Option Addr) (c0 : Nat) (l0 : List ByteArray) (A1 : Option Addr) (c1 : Nat) (l1 : List ByteArray) (r : Bool) (w : World) (hr0 : Kd.C Kd.string w A0 l0.length l0) (hc0 : l0.length ≤ c0) (hr1 : Kd.C Kd.string w A1 l1.length l1) (hc1 : l1.length ≤ c1) (h : laws_eqStringS.f k l0 l1 = some r) :
  Calls Try.prog 23 #[.slice A0 l0.length c0, .slice A1 l1.length c1] w fun e w' => e = .returned (.bool r) ∧ Drawn0 w w' := by
 have HR0 := am hr0
 have HC0 := am hc0
 clear hr0 hc0
 have HR1 := am hr1
 have HC1 := am hc1
 clear hr1 hc1
 have H : (if (l0.length : Int) = (l1.length : Int) then (laws_eqStringS.l0 k l0 l1 0) else (some false)) = some r := h
 clear h
 by_cases c3 : (l0.length : Int) = (l1.length : Int)
 case neg =>
  rw [if_neg c3] at H
  have c3b0 : ((l0.length : Int) == (l1.length : Int)) = false := beq_eq_false_iff_ne.mpr c3
  have c3b1 : ((l0.length : Int) != (l1.length : Int)) = true := bne_iff_ne.mpr c3
  have c3b2 : (l0.length == l1.length) = false := by first | simpa using c3 | (simp at c3 ⊢; omega)
  obtain rfl := Option.some.inj H
  go_enter Try.func23, Try.ntmps23
  go_wp2
  repeat (go_quiet (fail); try go_wp2)
  go_ret
  exact ⟨rfs, by repeat (first | exact Drawn0.refl _ | apply Drawn0.step)⟩
 rw [if_pos c3] at H
 have c3b0 : ((l0.length : Int) == (l1.length : Int)) = true := beq_iff_eq.mpr c3
 have c3b1 : ((l0.length : Int) != (l1.length : Int)) = false := bne_eq_false_iff_eq.mpr c3
 have c3b2 : (l0.length == l1.length) = true := by first | simpa using c3 | (simp at c3 ⊢; omega)
 clear c3
 have H' := am H
 clear H
 go_enter Try.func23, Try.ntmps23
 go_wp2
 repeat (go_quiet (fail); try go_wp2)
 go_loopg [5] k (fun kq v5 w' => ∃ (x5_1 : Int), v5 = .int .i64 x5_1 ∧ Aside0 (laws_eqStringS.l0 kq l0 l1 x5_1 = some r) ∧ Aside0 (kq ≤ k) ∧ Drawn0 w w')
 case atStart => exact ⟨(0), rfs, H', ⟨Nat.le_refl _⟩, by repeat (first | exact Drawn0.refl _ | apply Drawn0.step)⟩
 case round =>
  clear H'
  (try clear c1); (try clear c2); (try clear p2); (try clear c3); (try clear c3b0); (try clear c3b1); (try clear c3b2)
  obtain ⟨x5_1, rfl, HA, HK1, ⟨m1, rfl⟩⟩ := hrel
  cases gk with
  | zero => exact absurd HA.out (by simp [laws_eqStringS.l0])
  | succ k1 =>
   have H := HA.out
   clear HA
   simp only [laws_eqStringS.l0] at H
   by_cases c4 : x5_1 < (l0.length : Int)
   case neg =>
    rw [if_neg c4] at H
    have c4b0 : decide (x5_1 < (l0.length : Int)) = false := decide_eq_false c4
    clear c4
    obtain rfl := Option.some.inj H
    go_wp2
    repeat (go_quiet (fail); try go_wp2)
    go_ret
    exact ⟨rfs, by repeat (first | exact Drawn0.refl _ | apply Drawn0.step)⟩
   rw [if_pos c4] at H
   have c4b0 : decide (x5_1 < (l0.length : Int)) = true := decide_eq_true c4
   clear c4
   by_cases c5 : 0 ≤ x5_1
   case neg =>
    rw [if_neg c5] at H
    exact absurd H (by simp)
   rw [if_pos c5] at H
   have c5b0 : decide (0 ≤ x5_1) = true := decide_eq_true c5
   clear c5
   by_cases c6 : x5_1 < (l1.length : Int)
   case neg =>
    rw [if_neg c6] at H
    exact absurd H (by simp)
   rw [if_pos c6] at H
   have c6b0 : decide (x5_1 < (l1.length : Int)) = true := decide_eq_true c6
   clear c6
   by_cases c7 : (rdOf ByteArray.empty l0 x5_1).toList = (rdOf ByteArray.empty l1 x5_1).toList
   case neg =>
    rw [if_neg c7] at H
    have c7b0 : ((rdOf ByteArray.empty l0 x5_1).toList == (rdOf ByteArray.empty l1 x5_1).toList) = false := beq_eq_false_iff_ne.mpr c7
    have c7b1 : ((rdOf ByteArray.empty l0 x5_1).toList != (rdOf ByteArray.empty l1 x5_1).toList) = true := bne_iff_ne.mpr c7
    obtain rfl := Option.some.inj H
    have p288 : 0 ≤ (x5_1 : Int) := of_decide_eq_true asw
    have q288 : x5_1 < (l0.length : Int) := of_decide_eq_true asw
    obtain ⟨ad288, e288, hx288_0⟩ := Kd.at_string HR0.out x5_1 p288 q288
    cases e288
    replace p288 := eq_true p288
    replace q288 := eq_true q288
    have p289 : 0 ≤ (x5_1 : Int) := of_decide_eq_true asw
    have q289 : x5_1 < (l1.length : Int) := of_decide_eq_true asw
    obtain ⟨ad289, e289, hx289_0⟩ := Kd.at_string HR1.out x5_1 p289 q289
    cases e289
    replace p289 := eq_true p289
    replace q289 := eq_true q289
    go_wp2
    repeat (go_quiet (fail); try go_wp2)
    go_ret
    exact ⟨rfs, by repeat (first | exact Drawn0.refl _ | apply Drawn0.step)⟩
   rw [if_pos c7] at H
   have c7b0 : ((rdOf ByteArray.empty l0 x5_1).toList == (rdOf ByteArray.empty l1 x5_1).toList) = true := beq_iff_eq.mpr c7
   have c7b1 : ((rdOf ByteArray.empty l0 x5_1).toList != (rdOf ByteArray.empty l1 x5_1).toList) = false := bne_eq_false_iff_eq.mpr c7
   clear c7
   have H' := am H
   clear H
   have p288 : 0 ≤ (x5_1 : Int) := of_decide_eq_true asw
   have q288 : x5_1 < (l0.length : Int) := of_decide_eq_true asw
   obtain ⟨ad288, e288, hx288_0⟩ := Kd.at_string HR0.out x5_1 p288 q288
   cases e288
   replace p288 := eq_true p288
   replace q288 := eq_true q288
   have p289 : 0 ≤ (x5_1 : Int) := of_decide_eq_true asw
   have q289 : x5_1 < (l1.length : Int) := of_decide_eq_true asw
   obtain ⟨ad289, e289, hx289_0⟩ := Kd.at_string HR1.out x5_1 p289 q289
   cases e289
   replace p289 := eq_true p289
   replace q289 := eq_true q289
   go_wp2
   repeat (go_quiet (fail); try go_wp2)
   go_roundg k1
   case measure => have := HK1.out; omega
   case rel => exact ⟨(wrap64 (x5_1 + 1)), rfs, H', ⟨by have := HK1.out; omega⟩, by repeat (first | exact Drawn0.refl _ | apply Drawn0.step)⟩

end Go.Proofs.Ytonimhfahjediaa.Pc
end
section
namespace Go.Proofs.Ytonimhfahjediaa.Pc
set_option maxHeartbeats 8000000
set_option maxRecDepth 100000
open Go.RowKit Go.Proofs.Ytonimhfahjediaa.Ext Go.Proofs.YtonimhfahjediaaW.PrintWords Go.Proofs.YtonimhfahjediaaW.PrintLast Go.Proofs.YtonimhfahjediaaW.PrintMore
attribute [local go_sem] max2_int min2_int max_two min_two max_three min_three max_four min_four   -- for this text's walks alone
set_option linter.unusedVariables false
set_option linter.unusedSimpArgs false

mutual
def laws_eqValue.f : Nat → Int → Int → List ByteArray → List (S30) → Int → Int → List ByteArray → List (S30) → Option (Bool)
 | 0, _, _, _, _, _, _, _, _ => none
 | k + 1, a0_0, a0_1, l0_2, l0_3, a1_0, a1_1, l1_2, l1_3 => if a0_0 = a1_0 then (if a0_1 = a1_1 then ((laws_eqStringS.f k l0_2 l1_2).bind fun t292 => (if t292 = true then ((laws_eqValueS.f k l0_3 l1_3).bind fun t293 => (if t293 = true then (some true) else (some false))) else (some false))) else (some false)) else (some false)
def laws_eqValueS.l0 : Nat → List (S30) → List (S30) → Int → Option (Bool)
 | 0, _, _, _ => none
 | k + 1, x0, x1, x5 => if x5 < (x0.length : Int) then (if 0 ≤ x5 then (if x5 < (x1.length : Int) then ((laws_eqValue.f k ((rd_T30 x0 x5).f0) ((rd_T30 x0 x5).f1) ((rd_T30 x0 x5).f2) ((rd_T30 x0 x5).f3) ((rd_T30 x1 x5).f0) ((rd_T30 x1 x5).f1) ((rd_T30 x1 x5).f2) ((rd_T30 x1 x5).f3)).bind fun t296 => (if t296 = true then (laws_eqValueS.l0 k x0 x1 (wrap64 (x5 + 1))) else (some false))) else (none)) else (none)) else (some true)
def laws_eqValueS.f : Nat → List (S30) → List (S30) → Option (Bool)
 | 0, _, _ => none
 | k + 1, l0, l1 => if (l0.length : Int) = (l1.length : Int) then (laws_eqValueS.l0 k l0 l1 0) else (some false)
end
abbrev laws_eqValue.T (k : Nat) : Prop := ∀ (a0_0 : Int) (a0_1 : Int) (A0_2 : Option Addr) (c0_2 : Nat) (l0_2 : List ByteArray) (A0_3 : Option Addr) (c0_3 : Nat) (l0_3 : List (S30)) (a1_0 : Int) (a1_1 : Int) (A1_2 : Option Addr) (c1_2 : Nat) (l1_2 : List ByteArray) (A1_3 : Option Addr) (c1_3 : Nat) (l1_3 : List (S30)) (r : Bool) (w : World) (hr0_2 : Kd.C Kd.string w A0_2 l0_2.length l0_2) (hc0_2 : l0_2.length ≤ c0_2) (hr0_3 : Kd.C k30 w A0_3 l0_3.length l0_3) (hc0_3 : l0_3.length ≤ c0_3) (hr1_2 : Kd.C Kd.string w A1_2 l1_2.length l1_2) (hc1_2 : l1_2.length ≤ c1_2) (hr1_3 : Kd.C k30 w A1_3 l1_3.length l1_3) (hc1_3 : l1_3.length ≤ c1_3) (h : laws_eqValue.f k a0_0 a0_1 l0_2 l0_3 a1_0 a1_1 l1_2 l1_3 = some r),
  Calls Try.prog 10 #[.agg #[.int .i64 a0_0, .int .i64 a0_1, .slice A0_2 l0_2.length c0_2, .slice A0_3 l0_3.length c0_3], .agg #[.int .i64 a1_0, .int .i64 a1_1, .slice A1_2 l1_2.length c1_2, .slice A1_3 l1_3.length c1_3]] w fun e w' => e = .returned (.bool r) ∧ Below w.heap.size w w'
abbrev laws_eqValueS.T (k : Nat) : Prop := ∀ (A0 : Option Addr) (c0 : Nat) (l0 : List (S30)) (A1 : Option Addr) (c1 : Nat) (l1 : List (S30)) (r : Bool) (w : World) (hr0 : Kd.C k30 w A0 l0.length l0) (hc0 : l0.length ≤ c0) (hr1 : Kd.C k30 w A1 l1.length l1) (hc1 : l1.length ≤ c1) (h : laws_eqValueS.f k l0 l1 = some r),
  Calls Try.prog 24 #[.slice A0 l0.length c0, .slice A1 l1.length c1] w fun e w' => e = .returned (.bool r) ∧ Below w.heap.size w w'
/-! ### laws_eqValue: function 10 -/
theorem laws_eqValue.step (k : Nat) (ih : ∀ m, m < k → laws_eqValue.T m) (ih_24 : ∀ m, m < k → laws_eqValueS.T m) : laws_eqValue.T k := by
 intro a0_0 a0_1 A0_2 c0_2 l0_2 A0_3 c0_3 l0_3 a1_0 a1_1 A1_2 c1_2 l1_2 A1_3 c1_3 l1_3 r w hr0_2 hc0_2 hr0_3 hc0_3 hr1_2 hc1_2 hr1_3 hc1_3 h
 cases k with
 | zero => exact absurd h (by simp [laws_eqValue.f])
 | succ k =>
 simp only [laws_eqValue.f] at h
 have hu30 := Try.underlying30
 have HR0_2 := am hr0_2
 have HC0_2 := am hc0_2
 clear hr0_2 hc0_2
 have HR0_3 := am hr0_3
 have HC0_3 := am hc0_3
 clear hr0_3 hc0_3
 have HR1_2 := am hr1_2
 have HC1_2 := am hc1_2
 clear hr1_2 hc1_2
 have HR1_3 := am hr1_3
 have HC1_3 := am hc1_3
 clear hr1_3 hc1_3
 have HB := am (Below.refl w.heap.size w)
 have H : (if a0_0 = a1_0 then (if a0_1 = a1_1 then ((laws_eqStringS.f k l0_2 l1_2).bind fun t292 => (if t292 = true then ((laws_eqValueS.f k l0_3 l1_3).bind fun t293 => (if t293 = true then (some true) else (some false))) else (some false))) else (some false)) else (some false)) = some r := h
 clear h
 have HC3 := am H
 clear H
 go_enter Try.func10, Try.ntmps10
 go_upto_if 9 with (first | ((with_reducible refine gate_dst (N := 2) rfl ?_); refine box_event ?hg (N := 2) ?hd (cs := #[.int .i64 a0_0, .int .i64 a0_1, .slice A0_2 l0_2.length c0_2, .slice A0_3 l0_3.length c0_3]) (t := 30) ?hr ?_; (case hd => rfl); (case hg => rfl); (case hr => exact hrw); intro gb290 hg w4 hbox hb; have n0_ := am (below_step blw hb); have n1_ := am (hbox); have n2_ := am ((by rw [hg]; exact (below_size blw) : w.heap.size ≤ gb290)); have n3_ := n2_; clear HB; revert n0_ n1_ n2_ n3_; intro HB BK290 GW290 GE290; clear hb hbox hg) | ((with_reducible refine gate_dst (N := 3) rfl ?_); refine box_event ?hg (N := 3) ?hd (cs := #[.int .i64 a1_0, .int .i64 a1_1, .slice A1_2 l1_2.length c1_2, .slice A1_3 l1_3.length c1_3]) (t := 30) ?hr ?_; (case hd => rfl); (case hg => rfl); (case hr => exact hrw); intro gb291 hg w5 hbox hb; have n0_ := am (blk_below (g := gb290) bkw hb); have n1_ := am (below_step blw hb); have n2_ := am (hbox); have n3_ := am ((by rw [hg]; exact (below_size blw) : w.heap.size ≤ gb291)); have n4_ := n3_; have n5_ := am ((by rw [hg]; exact Nat.ne_of_lt (blk_lt (g := gb290) bkw) : gb290 ≠ gb291)); have n6_ := am ((by rw [hg]; exact Nat.ne_of_gt (blk_lt (g := gb290) bkw) : gb291 ≠ gb290)); clear BK290; clear HB; revert n0_ n1_ n2_ n3_ n4_ n5_ n6_; intro BK290 HB BK291 GW291 GE291 NB290_291 NB291_290; clear hb hbox hg; have hnb6 := NB290_291.out; have hnc6 := NB291_290.out; obtain ⟨hcz7_0, hcz7_1, hcz7_2, hcz7_3⟩ := cls4 BK290.out; obtain ⟨hfz7_0, hfz7_1, hfz7_2, hfz7_3⟩ := frz4 BK290.out; obtain ⟨hcz8_0, hcz8_1, hcz8_2, hcz8_3⟩ := cls4 BK291.out; obtain ⟨hfz8_0, hfz8_1, hfz8_2, hfz8_3⟩ := frz4 BK291.out))
 have H := HC3.out
 clear HC3
 by_cases c9 : a0_0 = a1_0
 case neg =>
  rw [if_neg c9] at H
  have c9b0 : (a0_0 == a1_0) = false := beq_eq_false_iff_ne.mpr c9
  have c9b1 : (a0_0 != a1_0) = true := bne_iff_ne.mpr c9
  (first | rw [c9b0] | (simp only [i64_w, i32_w]; rw [c9b0]) | (rw [c9b1]; (try simp only [Bool.not_true, Bool.not_false])) | skip)
  obtain rfl := Option.some.inj H
  go_wp2
  go_ret
  exact ⟨rfw, blw⟩
 rw [if_pos c9] at H
 have c9b0 : (a0_0 == a1_0) = true := beq_iff_eq.mpr c9
 have c9b1 : (a0_0 != a1_0) = false := bne_eq_false_iff_eq.mpr c9
 clear c9
 (first | rw [c9b0] | (simp only [i64_w, i32_w]; rw [c9b0]) | (rw [c9b1]; (try simp only [Bool.not_true, Bool.not_false])) | skip)
 by_cases c10 : a0_1 = a1_1
 case neg =>
  rw [if_neg c10] at H
  have c10b0 : (a0_1 == a1_1) = false := beq_eq_false_iff_ne.mpr c10
  have c10b1 : (a0_1 != a1_1) = true := bne_iff_ne.mpr c10
  obtain rfl := Option.some.inj H
  have hnb24 := NB290_291.out
  have hnc24 := NB291_290.out
  obtain ⟨hcz25_0, hcz25_1, hcz25_2, hcz25_3⟩ := cls4 BK290.out
  obtain ⟨hfz25_0, hfz25_1, hfz25_2, hfz25_3⟩ := frz4 BK290.out
  obtain ⟨hcz26_0, hcz26_1, hcz26_2, hcz26_3⟩ := cls4 BK291.out
  obtain ⟨hfz26_0, hfz26_1, hfz26_2, hfz26_3⟩ := frz4 BK291.out
  go_wp2
  go_ret
  exact ⟨rfw, blw⟩
 rw [if_pos c10] at H
 have c10b0 : (a0_1 == a1_1) = true := beq_iff_eq.mpr c10
 have c10b1 : (a0_1 != a1_1) = false := bne_eq_false_iff_eq.mpr c10
 clear c10
 replace H := Option.bind_eq_some_iff.mp H
 obtain ⟨t292, A110, H⟩ := H
 replace H : (if t292 = true then ((laws_eqValueS.f k l0_3 l1_3).bind fun t293 => (if t293 = true then (some true) else (some false))) else (some false)) = some r := H
 have A11 := am A110
 clear A110
 have HC12 := am H
 clear H
 have hnb13 := NB290_291.out
 have hnc13 := NB291_290.out
 obtain ⟨hcz14_0, hcz14_1, hcz14_2, hcz14_3⟩ := cls4 BK290.out
 obtain ⟨hfz14_0, hfz14_1, hfz14_2, hfz14_3⟩ := frz4 BK290.out
 obtain ⟨hcz15_0, hcz15_1, hcz15_2, hcz15_3⟩ := cls4 BK291.out
 obtain ⟨hfz15_0, hfz15_1, hfz15_2, hfz15_3⟩ := frz4 BK291.out
 go_upto_if 20 with (first | ((with_reducible refine gate_callee (f := 23) rfl ?_); refine goesL_ (some 19) rfl rfl Try.func23 kr rfl #[.slice A0_2 l0_2.length c0_2, .slice A1_2 l1_2.length c1_2] rfl mpw ?_; (with_reducible refine (laws_eqStringS.calls k _ _ l0_2 _ _ l1_2 t292 _ ?side1 ?side2 ?side3 ?side4 A11.out).mono ?_); (case side1 => have X_ := HR0_2; exact cbl); (case side2 => exact HC0_2.out); (case side3 => have X_ := HR1_2; exact cbl); (case side4 => exact HC1_2.out); rintro e w' ⟨rfl, ⟨nd, rfl⟩⟩; refine ⟨_, rfl, ?_⟩))
 have H := HC12.out
 clear HC12
 by_cases c16 : t292 = true
 case neg =>
  replace c16 := Bool.eq_false_iff.mpr c16
  subst c16
  have H1 : (some false) = some r := by rw [if_neg (show ¬ (false = true) by decide)] at H; exact H
  clear H
  have H := H1
  clear H1
  obtain rfl := Option.some.inj H
  go_wp2
  go_ret
  exact ⟨rfw, blw⟩
 subst c16
 have H1 : ((laws_eqValueS.f k l0_3 l1_3).bind fun t293 => (if t293 = true then (some true) else (some false))) = some r := by rw [if_pos rfl] at H; exact H
 clear H
 have H := H1
 clear H1
 replace H := Option.bind_eq_some_iff.mp H
 obtain ⟨t293, A170, H⟩ := H
 replace H : (if t293 = true then (some true) else (some false)) = some r := H
 have A17 := am A170
 clear A170
 have HC18 := am H
 clear H
 have hnb19 := NB290_291.out
 have hnc19 := NB291_290.out
 obtain ⟨hcz20_0, hcz20_1, hcz20_2, hcz20_3⟩ := cls4 BK290.out
 obtain ⟨hfz20_0, hfz20_1, hfz20_2, hfz20_3⟩ := frz4 BK290.out
 obtain ⟨hcz21_0, hcz21_1, hcz21_2, hcz21_3⟩ := cls4 BK291.out
 obtain ⟨hfz21_0, hfz21_1, hfz21_2, hfz21_3⟩ := frz4 BK291.out
 go_upto_if 26 with (first | ((with_reducible refine gate_callee (f := 24) rfl ?_); refine goesL_ (some 25) rfl rfl Try.func24 kr rfl #[.slice A0_3 l0_3.length c0_3, .slice A1_3 l1_3.length c1_3] rfl mpw ?_; (with_reducible refine (ih_24 k (by omega) _ _ l0_3 _ _ l1_3 t293 _ ?side1 ?side2 ?side3 ?side4 A17.out).mono ?_); (case side1 => have X_ := HR0_3; exact cbl); (case side2 => exact HC0_3.out); (case side3 => have X_ := HR1_3; exact cbl); (case side4 => exact HC1_3.out); rintro e w22 ⟨rfl, hb⟩; refine ⟨_, rfl, ?_⟩; have n0_ := am (blk_below (g := gb290) bkw hb); have n1_ := am (blk_below (g := gb291) bkw hb); have n2_ := am (below_step blw hb); clear BK290; clear BK291; clear HB; revert n0_ n1_ n2_; intro BK290 BK291 HB; (try clear hb); (try clear hb2); (try clear hk); (try clear hi)))
 have H := HC18.out
 clear HC18
 by_cases c23 : t293 = true
 ·subst c23
  have H1 : (some true) = some r := by rw [if_pos rfl] at H; exact H
  clear H
  have H := H1
  clear H1
  obtain rfl := Option.some.inj H
  go_wp2
  go_ret
  exact ⟨rfw, blw⟩
 replace c23 := Bool.eq_false_iff.mpr c23
 subst c23
 have H1 : (some false) = some r := by rw [if_neg (show ¬ (false = true) by decide)] at H; exact H
 clear H
 have H := H1
 clear H1
 obtain rfl := Option.some.inj H
 go_wp2
 go_ret
 exact ⟨rfw, blw⟩

/-! ### laws_eqValueS: function 24 -/
def laws_eqValueS.T6 : Bool × List (List Nat × List Nat) := (true, [([], []), ([], []), ([0, 1], [0, 1]), ([2], [2]), ([], []), ([], []), ([4, 5], [4, 5]), ([6], [6]), ([3, 7], [3, 7]), ([8], [8])])
def laws_eqValueS.B6 : List Nat := [0, 0, 3, 7, 0, 0, 48, 112, 255, 511]
theorem laws_eqValueS.tab6 : rtab .any (opsOf Try.f24 6) = laws_eqValueS.T6 := by kernel_rfl
theorem laws_eqValueS.bits6 : waitsOk laws_eqValueS.T6.2 laws_eqValueS.B6 = true := by kernel_rfl
theorem laws_eqValueS.step (k : Nat) (ih : ∀ m, m < k → laws_eqValueS.T m) (ih_10 : ∀ m, m < k → laws_eqValue.T m) : laws_eqValueS.T k := by
 intro A0 c0 l0 A1 c1 l1 r w hr0 hc0 hr1 hc1 h
 cases k with
 | zero => exact absurd h (by simp [laws_eqValueS.f])
 | succ k =>
 simp only [laws_eqValueS.f] at h
 have hu30 := Try.underlying30
 have HR0 := am hr0
 have HC0 := am hc0
 clear hr0 hc0
 have HR1 := am hr1
 have HC1 := am hc1
 clear hr1 hc1
 have HB := am (Below.refl w.heap.size w)
 have H : (if (l0.length : Int) = (l1.length : Int) then (laws_eqValueS.l0 k l0 l1 0) else (some false)) = some r := h
 clear h
 by_cases c3 : (l0.length : Int) = (l1.length : Int)
 case neg =>
  rw [if_neg c3] at H
  have c3b0 : ((l0.length : Int) == (l1.length : Int)) = false := beq_eq_false_iff_ne.mpr c3
  have c3b1 : ((l0.length : Int) != (l1.length : Int)) = true := bne_iff_ne.mpr c3
  have c3b2 : (l0.length == l1.length) = false := by first | simpa using c3 | (simp at c3 ⊢; omega)
  obtain rfl := Option.some.inj H
  go_enter Try.func24, Try.ntmps24
  go_wp2
  go_ret
  exact ⟨rfw, blw⟩
 rw [if_pos c3] at H
 have c3b0 : ((l0.length : Int) == (l1.length : Int)) = true := beq_iff_eq.mpr c3
 have c3b1 : ((l0.length : Int) != (l1.length : Int)) = false := bne_eq_false_iff_eq.mpr c3
 have c3b2 : (l0.length == l1.length) = true := by first | simpa using c3 | (simp at c3 ⊢; omega)
 clear c3
 have H' := am H
 clear H
 go_enter Try.func24, Try.ntmps24
 go_wp2
 go_loopg [5] k (fun kq v5 w' => ∃ (x5_1 : Int), v5 = .int .i64 x5_1 ∧ Aside0 (laws_eqValueS.l0 kq l0 l1 x5_1 = some r) ∧ Aside0 (kq ≤ k) ∧ Aside0 (Below w.heap.size w w'))
 case atStart => exact ⟨(0), rfs, H', ⟨Nat.le_refl _⟩, ⟨blw⟩⟩
 case round =>
  clear H'
  (try clear c1); (try clear c2); (try clear p2); (try clear c3); (try clear c3b0); (try clear c3b1); (try clear c3b2)
  obtain ⟨x5_1, rfl, HA, HK1, HB⟩ := hrel
  cases gk with
  | zero => exact absurd HA.out (by simp [laws_eqValueS.l0])
  | succ k1 =>
   have H := HA.out
   clear HA
   simp only [laws_eqValueS.l0] at H
   by_cases c4 : x5_1 < (l0.length : Int)
   case neg =>
    rw [if_neg c4] at H
    have c4b0 : decide (x5_1 < (l0.length : Int)) = false := decide_eq_false c4
    clear c4
    obtain rfl := Option.some.inj H
    go_wp2
    go_ret
    exact ⟨rfw, blw⟩
   rw [if_pos c4] at H
   have c4b0 : decide (x5_1 < (l0.length : Int)) = true := decide_eq_true c4
   clear c4
   by_cases c5 : 0 ≤ x5_1
   case neg =>
    rw [if_neg c5] at H
    exact absurd H (by simp)
   rw [if_pos c5] at H
   have c5b0 : decide (0 ≤ x5_1) = true := decide_eq_true c5
   clear c5
   by_cases c6 : x5_1 < (l1.length : Int)
   case neg =>
    rw [if_neg c6] at H
    exact absurd H (by simp)
   rw [if_pos c6] at H
   have c6b0 : decide (x5_1 < (l1.length : Int)) = true := decide_eq_true c6
   clear c6
   replace H := Option.bind_eq_some_iff.mp H
   obtain ⟨t296, A70, H⟩ := H
   replace H : (if t296 = true then (laws_eqValueS.l0 k1 l0 l1 (wrap64 (x5_1 + 1))) else (some false)) = some r := H
   have A7 := am A70
   clear A70
   have HC8 := am H
   clear H
   try go_wp2
   have n0_ := am (below_drew1 HB.out)
   clear HB
   revert n0_
   intro HB
   have p294 : 0 ≤ (x5_1 : Int) := of_decide_eq_true asw
   have q294 : x5_1 < (l0.length : Int) := of_decide_eq_true asw
   obtain ⟨ad294, A294_2, c294_2, A294_3, c294_3, e294, hx294_0, hx294_1, hx294_2, hx294_3, hl294_2, hi294_2, hl294_3, hi294_3⟩ := at_T30 HR0.out x5_1 p294 q294
   have hw294_3 := hx294_3
   have hw294_2 := hx294_2
   have hw294_1 := hx294_1
   have hw294_0 := hx294_0
   cases e294
   replace hx294_0 := upw HB.out hx294_0
   replace hx294_1 := upw HB.out hx294_1
   replace hx294_2 := upw HB.out hx294_2
   replace hx294_3 := upw HB.out hx294_3
   have HR294_2 := am hi294_2
   have HC294_2 := am hl294_2
   clear hi294_2 hl294_2
   have HR294_3 := am hi294_3
   have HC294_3 := am hl294_3
   clear hi294_3 hl294_3
   replace p294 := eq_true p294
   replace q294 := eq_true q294
   have p295 : 0 ≤ (x5_1 : Int) := of_decide_eq_true asw
   have q295 : x5_1 < (l1.length : Int) := of_decide_eq_true asw
   obtain ⟨ad295, A295_2, c295_2, A295_3, c295_3, e295, hx295_0, hx295_1, hx295_2, hx295_3, hl295_2, hi295_2, hl295_3, hi295_3⟩ := at_T30 HR1.out x5_1 p295 q295
   have hw295_3 := hx295_3
   have hw295_2 := hx295_2
   have hw295_1 := hx295_1
   have hw295_0 := hx295_0
   cases e295
   replace hx295_0 := upw HB.out hx295_0
   replace hx295_1 := upw HB.out hx295_1
   replace hx295_2 := upw HB.out hx295_2
   replace hx295_3 := upw HB.out hx295_3
   have HR295_2 := am hi295_2
   have HC295_2 := am hl295_2
   clear hi295_2 hl295_2
   have HR295_3 := am hi295_3
   have HC295_3 := am hl295_3
   clear hi295_3 hl295_3
   replace p295 := eq_true p295
   replace q295 := eq_true q295
   refine start_ (n := 10) (S := fun w' => w'.cell? (ad294.add ((x5_1).toNat * 4)) = some (.int .i64 ((rd_T30 l0 x5_1).f0)) ∧ w'.cell? ⟨(ad294.add ((x5_1).toNat * 4)).block, (ad294.add ((x5_1).toNat * 4)).off + 1, none⟩ = some (.int .i64 ((rd_T30 l0 x5_1).f1)) ∧ w'.cell? ⟨(ad294.add ((x5_1).toNat * 4)).block, (ad294.add ((x5_1).toNat * 4)).off + 2, none⟩ = some (.slice A294_2 ((rd_T30 l0 x5_1).f2).length c294_2) ∧ w'.cell? ⟨(ad294.add ((x5_1).toNat * 4)).block, (ad294.add ((x5_1).toNat * 4)).off + 3, none⟩ = some (.slice A294_3 ((rd_T30 l0 x5_1).f3).length c294_3) ∧ w'.cell? (ad295.add ((x5_1).toNat * 4)) = some (.int .i64 ((rd_T30 l1 x5_1).f0)) ∧ w'.cell? ⟨(ad295.add ((x5_1).toNat * 4)).block, (ad295.add ((x5_1).toNat * 4)).off + 1, none⟩ = some (.int .i64 ((rd_T30 l1 x5_1).f1)) ∧ w'.cell? ⟨(ad295.add ((x5_1).toNat * 4)).block, (ad295.add ((x5_1).toNat * 4)).off + 2, none⟩ = some (.slice A295_2 ((rd_T30 l1 x5_1).f2).length c295_2) ∧ w'.cell? ⟨(ad295.add ((x5_1).toNat * 4)).block, (ad295.add ((x5_1).toNat * 4)).off + 3, none⟩ = some (.slice A295_3 ((rd_T30 l1 x5_1).f3).length c295_3)) (ds := []) #[false,false,false,false,false,false,false,false,false,false] kr rfl rfl ⟨((upw HB.out hw294_0 : _)), ((upw HB.out hw294_1 : _)), ((upw HB.out hw294_2 : _)), ((upw HB.out hw294_3 : _)), ((upw HB.out hw295_0 : _)), ((upw HB.out hw295_1 : _)), ((upw HB.out hw295_2 : _)), ((upw HB.out hw295_3 : _))⟩ (fun hHeld => ?_); refine with_tabW laws_eqValueS.tab6 laws_eqValueS.bits6 (fun HT_ HW_ => ?_)
   generalize wr.drew = w9 at HB HR294_2 HR294_3 HR295_2 HR295_3 hx294_0 hx294_1 hx294_2 hx294_3 hx295_0 hx295_1 hx295_2 hx295_3 hHeld ⊢
   refine pure_ (i := 0) (N := some 17) (v := ?_) (a' := ?_) (bm 10 1) rfl rfl (any_of HT_.out kr) qi (Or.inl ⟨by rfl, ?_⟩) ?_ ?_
   rotate_left
   ·intro w'
    go_simp
    with_reducible rfl
   rotate_left
   ·simp only [sx]
    rfl
   refine pure_ (i := 1) (N := some 18) (v := ?_) (a' := ?_) (bm 10 3) rfl rfl (any_of HT_.out kr) qi (Or.inl ⟨by rfl, ?_⟩) ?_ ?_
   rotate_left
   ·intro w'
    go_simp
    with_reducible rfl
   rotate_left
   ·simp only [sx]
    rfl
   refine pure_ (i := 2) (N := some 19) (v := ?_) (a' := ?_) (bm 10 7) rfl rfl (any_of HT_.out kr) qi (Or.inl ⟨by rfl, ?_⟩) ?_ ?_
   rotate_left
   ·intro w'
    go_simp
    with_reducible rfl
   rotate_left
   ·simp only [sx]
    rfl
   refine pure_ (i := 4) (N := some 21) (v := ?_) (a' := ?_) (bm 10 23) rfl rfl (any_of HT_.out kr) qi (Or.inl ⟨by rfl, ?_⟩) ?_ ?_
   rotate_left
   ·intro w'
    go_simp
    with_reducible rfl
   rotate_left
   ·simp only [sx]
    rfl
   refine pure_ (i := 5) (N := some 22) (v := ?_) (a' := ?_) (bm 10 55) rfl rfl (any_of HT_.out kr) qi (Or.inl ⟨by rfl, ?_⟩) ?_ ?_
   rotate_left
   ·intro w'
    go_simp
    with_reducible rfl
   rotate_left
   ·simp only [sx]
    rfl
   refine pure_ (i := 6) (N := some 23) (v := ?_) (a' := ?_) (bm 10 119) rfl rfl (any_of HT_.out kr) qi (Or.inl ⟨by rfl, ?_⟩) ?_ ?_
   rotate_left
   ·intro w'
    go_simp
    with_reducible rfl
   rotate_left
   ·simp only [sx]
    rfl
   refine take_ (i := 3) (N := some 20) (v := ?_) (a' := ?_) (bm 10 127) rfl rfl (take_ofW HT_.out HW_.out kr) qi (Or.inl ⟨by rfl, ?_⟩) hHeld ?_ ?_
   rotate_left
   ·rintro w' ⟨s0, s1, s2, s3, s4, s5, s6, s7⟩
    go_simp
    with_reducible rfl
   rotate_left
   ·simp only [sx]
    rfl
   refine take_ (i := 7) (N := some 24) (v := ?_) (a' := ?_) (bm 10 255) rfl rfl (take_ofW HT_.out HW_.out kr) qi (Or.inl ⟨by rfl, ?_⟩) hHeld ?_ ?_
   rotate_left
   ·rintro w' ⟨s0, s1, s2, s3, s4, s5, s6, s7⟩
    go_simp
    with_reducible rfl
   rotate_left
   ·simp only [sx]
    rfl
   refine one_ (i := 8) (N := some 25) (bm 10 511) rfl rfl (one_of HT_.out kr) (by decide) (fun K hK => ?_)
   refine goes_ Try.func10 kr rfl #[.agg #[.int .i64 ((rd_T30 l0 x5_1).f0), .int .i64 ((rd_T30 l0 x5_1).f1), .slice A294_2 ((rd_T30 l0 x5_1).f2).length c294_2, .slice A294_3 ((rd_T30 l0 x5_1).f3).length c294_3], .agg #[.int .i64 ((rd_T30 l1 x5_1).f0), .int .i64 ((rd_T30 l1 x5_1).f1), .slice A295_2 ((rd_T30 l1 x5_1).f2).length c295_2, .slice A295_3 ((rd_T30 l1 x5_1).f3).length c295_3]] (by rfl) rfl rfl mpw ?_
   with_reducible refine (ih_10 k1 (by have := HK1.out; omega) ((rd_T30 l0 x5_1).f0) ((rd_T30 l0 x5_1).f1) _ _ ((rd_T30 l0 x5_1).f2) _ _ ((rd_T30 l0 x5_1).f3) ((rd_T30 l1 x5_1).f0) ((rd_T30 l1 x5_1).f1) _ _ ((rd_T30 l1 x5_1).f2) _ _ ((rd_T30 l1 x5_1).f3) t296 _ ?side1 ?side2 ?side3 ?side4 ?side5 ?side6 ?side7 ?side8 A7.out).mono ?_
   (case side1 => have X_ := HR294_2; exact cbl)
   (case side2 => exact HC294_2.out)
   (case side3 => have X_ := HR294_3; exact cbl)
   (case side4 => exact HC294_3.out)
   (case side5 => have X_ := HR295_2; exact cbl)
   (case side6 => exact HC295_2.out)
   (case side7 => have X_ := HR295_3; exact cbl)
   (case side8 => exact HC295_3.out)
   rintro e w10 ⟨rfl, hb⟩
   refine ⟨_, rfl, ?_⟩
   have n0_ := am (below_step blw hb)
   clear HB
   revert n0_
   intro HB
   (try clear hb)
   (try clear hb2)
   (try clear hk)
   (try clear hi)
   refine hK.out _ _ ⟨((upw HB.out hw294_0 : _)), ((upw HB.out hw294_1 : _)), ((upw HB.out hw294_2 : _)), ((upw HB.out hw294_3 : _)), ((upw HB.out hw295_0 : _)), ((upw HB.out hw295_1 : _)), ((upw HB.out hw295_2 : _)), ((upw HB.out hw295_3 : _))⟩ (fun hHeld => ?_)
   clear hK K
   refine norm_ (a' := ?_) ?_ ?_
   rotate_left
   ·show Act.put _ (some 25) _ = _
    simp only [sx]
    rfl
   refine pure_ (i := 9) (N := some 26) (v := ?_) (a' := ?_) (bm 10 1023) rfl rfl (any_of HT_.out kr) qi (Or.inl ⟨by rfl, ?_⟩) ?_ ?_
   rotate_left
   ·intro w'
    go_simp
    with_reducible rfl
   rotate_left
   ·simp only [sx]
    rfl
   refine done_ (done_of HT_.out kr) ?_
   go_upto_if 26 with (fail)
   have H := HC8.out
   clear HC8
   by_cases c11 : t296 = true
   case neg =>
    replace c11 := Bool.eq_false_iff.mpr c11
    subst c11
    have H1 : (some false) = some r := by rw [if_neg (show ¬ (false = true) by decide)] at H; exact H
    clear H
    have H := H1
    clear H1
    obtain rfl := Option.some.inj H
    go_wp2
    go_ret
    exact ⟨rfw, blw⟩
   subst c11
   have H1 : (laws_eqValueS.l0 k1 l0 l1 (wrap64 (x5_1 + 1))) = some r := by rw [if_pos rfl] at H; exact H
   clear H
   have H := H1
   clear H1
   have H' := am H
   clear H
   go_wp2
   go_roundg k1
   case measure => have := HK1.out; omega
   case rel => exact ⟨(wrap64 (x5_1 + 1)), rfs, H', ⟨by have := HK1.out; omega⟩, ⟨blw⟩⟩

theorem laws_eqValue.all (k : Nat) : (laws_eqValue.T k) ∧ (laws_eqValueS.T k) := by
 induction k using Nat.strongRecOn with
 | _ k ih =>
 exact ⟨laws_eqValue.step k (fun m hm_ => (ih m hm_).1) (fun m hm_ => (ih m hm_).2), laws_eqValueS.step k (fun m hm_ => (ih m hm_).2) (fun m hm_ => (ih m hm_).1)⟩

theorem laws_eqValue.calls (k : Nat) : ∀ (a0_0 : Int) (a0_1 : Int) (A0_2 : Option Addr) (c0_2 : Nat) (l0_2 : List ByteArray) (A0_3 : Option Addr) (c0_3 : Nat) (l0_3 : List (S30)) (a1_0 : Int) (a1_1 : Int) (A1_2 : Option Addr) (c1_2 : Nat) (l1_2 : List ByteArray) (A1_3 : Option Addr) (c1_3 : Nat) (l1_3 : List (S30)) (r : Bool) (w : World) (hr0_2 : Kd.C Kd.string w A0_2 l0_2.length l0_2) (hc0_2 : l0_2.length ≤ c0_2) (hr0_3 : Kd.C k30 w A0_3 l0_3.length l0_3) (hc0_3 : l0_3.length ≤ c0_3) (hr1_2 : Kd.C Kd.string w A1_2 l1_2.length l1_2) (hc1_2 : l1_2.length ≤ c1_2) (hr1_3 : Kd.C k30 w A1_3 l1_3.length l1_3) (hc1_3 : l1_3.length ≤ c1_3) (h : laws_eqValue.f k a0_0 a0_1 l0_2 l0_3 a1_0 a1_1 l1_2 l1_3 = some r),
  Calls Try.prog 10 #[.agg #[.int .i64 a0_0, .int .i64 a0_1, .slice A0_2 l0_2.length c0_2, .slice A0_3 l0_3.length c0_3], .agg #[.int .i64 a1_0, .int .i64 a1_1, .slice A1_2 l1_2.length c1_2, .slice A1_3 l1_3.length c1_3]] w fun e w' => e = .returned (.bool r) ∧ Below w.heap.size w w' := (laws_eqValue.all k).1

end Go.Proofs.Ytonimhfahjediaa.Pc
end
section
namespace Go.Proofs.Ytonimhfahjediaa.Pl
open Go.RowKit Go.Proofs.YtonimhfahjediaaW.PrintWords
set_option linter.unusedVariables false
theorem Ev.up {α : Type} {g : Nat → Option α} {r : α} (h : Ev (fun k => g (k + 1)) r) : Ev g r := Ev.step (f := fun k => g (k + 1)) (fun _ => rfl) h
theorem Ev.pos {α : Type} {A B : Nat → Option α} {r : α} {c : Prop} [Decidable c] (hc : c) (h : Ev A r) : Ev (fun n => if c then A n else B n) r :=
  Ev.congr (f := A) (fun k => by rw [if_pos hc]) h
theorem Ev.neg {α : Type} {A B : Nat → Option α} {r : α} {c : Prop} [Decidable c] (hc : ¬ c) (h : Ev B r) : Ev (fun n => if c then A n else B n) r :=
  Ev.congr (f := B) (fun k => by rw [if_neg hc]) h
theorem Ev.cases {α : Type} {A B : Nat → Option α} {r : α} {c : Prop} [Decidable c] (h1 : c → Ev A r) (h2 : ¬ c → Ev B r) : Ev (fun n => if c then A n else B n) r := by
  by_cases hc : c
  · exact Ev.pos hc (h1 hc)
  · exact Ev.neg hc (h2 hc)
theorem Ev.eq {α : Type} {g : Nat → Option α} {r r' : α} (h : Ev g r) (e : r = r') : Ev g r' := e ▸ h
theorem Ev.const {α : Type} {a r : α} (e : a = r) : Ev (fun _ => some a) r := by subst e; exact Ev.now _
/-- A call without rounds. -/
theorem Ev.fix {α β : Type} {g : Option α} {a : α} {f : Nat → α → Option β} {r : β} (hg : g = some a) (h : Ev (fun n => f n a) r) : Ev (fun n => g.bind (f n)) r := by subst hg; exact h
theorem w1 {i n : Nat} (h : i < n) (hn : n ≤ maxLen) : wrap64 ((i : Int) + 1) = ((i + 1 : Nat) : Int) := by
  have : n ≤ 9223372036854775807 := hn
  unfold wrap64
  omega
theorem w1' {i n : Nat} (h : i < n) (hn : n ≤ 1048576) : wrap64 ((i : Int) + 1) = ((i + 1 : Nat) : Int) := w1 h (by unfold maxLen; omega)
theorem w64 {a : Int} (h : -9223372036854775808 ≤ a) (h2 : a ≤ 9223372036854775807) : wrap64 a = a := by unfold wrap64; omega
/-- What is left of a budget, or -1. -/
def cut (n : Nat) (left : Int) : Int := if (n : Int) ≤ left then left - n else -1
theorem cut_zero {left : Int} (h : 0 ≤ left) : cut 0 left = left := by unfold cut; rw [if_pos (by omega)]; omega
theorem cut_neg {n : Nat} {left : Int} : cut n left < 0 ↔ ¬ ((n : Int) ≤ left) := by
  unfold cut
  split <;> omega
theorem cut_le {n : Nat} {left : Int} (h : 0 ≤ left) : cut n left ≤ left := by unfold cut; split <;> omega
theorem cut_add {m n : Nat} {left : Int} (h : 0 ≤ cut m left) : cut n (cut m left) = cut (m + n) left := by
  unfold cut at *
  split at h
  · rename_i h1
    simp only [if_pos h1]
    by_cases h2 : (n : Int) ≤ left - m
    · rw [if_pos h2, if_pos (by omega)]; omega
    · rw [if_neg h2, if_neg (by omega)]
  · omega
theorem cut_add' {m n : Nat} {left : Int} (h : cut m left < 0) : cut (m + n) left = -1 := by
  have := cut_neg.1 h
  unfold cut
  rw [if_neg (by omega)]
/-- 'left -= n; if left < 0 { return -1 }' -/
theorem cut_sub {n : Nat} {left : Int} (h : 0 ≤ left) (hl : left ≤ 1048576) (hn : n ≤ maxLen) : (wrap64 (left - (n : Int)) < 0 ↔ cut n left < 0) ∧ (0 ≤ cut n left → wrap64 (left - (n : Int)) = cut n left) := by
  have hn' : n ≤ 9223372036854775807 := hn
  have e : wrap64 (left - (n : Int)) = left - n := w64 (by omega) (by omega)
  rw [e, cut_neg]
  unfold cut
  constructor
  · omega
  · intro h2
    split at h2
    · rename_i h3; rw [if_pos h3]
    · omega
def sumF (W : Nat → Nat) : Nat → Nat → Nat
  | _, 0 => 0
  | i, m + 1 => W i + sumF W (i + 1) m
theorem sz_loop (n : Nat) (X : Nat → Nat → Int → Option Int) (L : Nat → Int → Nat → Option Int) (W : Nat → Nat)
    (h1 : ∀ k left i, i < n → L (k + 1) left i = (X k i left).bind fun t => if t < 0 then some (-1) else L k t (i + 1))
    (h2 : ∀ k left, L (k + 1) left n = some left)
    (hX : ∀ i left, i < n → 0 ≤ left → left ≤ 1048576 → Ev (fun k => X k i left) (cut (W i) left)) :
    ∀ m i left, i + m = n → 0 ≤ left → left ≤ 1048576 → Ev (fun k => L k left i) (cut (sumF W i m) left) := by
  intro m
  induction m with
  | zero =>
    intro i left hi h0 hl
    obtain rfl : i = n := by omega
    refine Ev.step (h2 · left) ?_
    exact Ev.const (cut_zero h0).symm
  | succ m ih =>
    intro i left hi h0 hl
    refine Ev.step (fun k => h1 k left i (by omega)) (Ev.bind (hX i left (by omega) h0 hl) ?_)
    by_cases hc : cut (W i) left < 0
    · exact Ev.pos hc (Ev.const (cut_add' hc).symm)
    · refine Ev.neg hc (Ev.eq (ih (i + 1) _ (by omega) (by omega) ?_) (cut_add (by omega)))
      have := cut_le (n := W i) h0
      omega
theorem sz_loop' (n : Nat) (L : Nat → Int → Nat → Option Int) (W : Nat → Nat)
    (h1 : ∀ k left i, i < n → 0 ≤ left → left ≤ 1048576 → L (k + 1) left i = if cut (W i) left < 0 then some (-1) else L k (cut (W i) left) (i + 1))
    (h2 : ∀ k left, L (k + 1) left n = some left) :
    ∀ m i left, i + m = n → 0 ≤ left → left ≤ 1048576 → Ev (fun k => L k left i) (cut (sumF W i m) left) := by
  intro m
  induction m with
  | zero =>
    intro i left hi h0 hl
    obtain rfl : i = n := by omega
    refine Ev.step (h2 · left) ?_
    exact Ev.const (cut_zero h0).symm
  | succ m ih =>
    intro i left hi h0 hl
    refine Ev.step (fun k => h1 k left i (by omega) h0 hl) ?_
    by_cases hc : cut (W i) left < 0
    · exact Ev.pos hc (Ev.const (cut_add' hc).symm)
    · refine Ev.neg hc (Ev.eq (ih (i + 1) _ (by omega) (by omega) ?_) (cut_add (by omega)))
      have := cut_le (n := W i) h0
      omega
theorem Ev.map {α β : Type} {g : Nat → Option α} {a : α} (f : α → β) (h : Ev g a) : Ev (fun k => (g k).map f) (f a) := by
  obtain ⟨K, hK⟩ := h
  exact ⟨K, fun k hk => by show (g k).map f = _; rw [hK k hk]; rfl⟩
theorem to_loop {α : Type} (n : Nat) (X : Nat → Nat → Option α) (L : Nat → List α → Nat → Option (List α)) (v : Nat → α)
    (h1 : ∀ k out i, i < n → out.length = n → L (k + 1) out i = (X k i).bind fun t => L k (out.set i t) (i + 1))
    (h2 : ∀ k out, L (k + 1) out n = some out)
    (hX : ∀ i, i < n → Ev (fun k => X k i) (v i)) :
    ∀ m i out, i + m = n → out.length = n → Ev (fun k => L k out i) (out.take i ++ (List.range' i m).map v) := by
  intro m
  induction m with
  | zero =>
    intro i out hi hl
    obtain rfl : i = n := by omega
    refine Ev.step (h2 · out) (Ev.const ?_)
    simp [← hl]
  | succ m ih =>
    intro i out hi hl
    refine Ev.step (fun k => h1 k out i (by omega) hl) (Ev.bind (hX i (by omega)) ?_)
    refine Ev.eq (ih (i + 1) (out.set i (v i)) (by omega) (by simpa using hl)) ?_
    rw [List.range'_succ, List.map_cons, List.take_succ_eq_append_getElem (by simp; omega)]
    simp [List.take_set_of_le]
theorem eq_loop (n : Nat) (X : Nat → Nat → Option Bool) (L : Nat → Nat → Option Bool)
    (h1 : ∀ k i, i < n → L (k + 1) i = (X k i).bind fun t => if t = true then L k (i + 1) else some false)
    (h2 : ∀ k, L (k + 1) n = some true)
    (hX : ∀ i, i < n → Ev (fun k => X k i) true) :
    ∀ m i, i + m = n → Ev (fun k => L k i) true := by
  intro m
  induction m with
  | zero =>
    intro i hi
    obtain rfl : i = n := by omega
    exact Ev.step h2 (Ev.now _)
  | succ m ih =>
    intro i hi
    exact Ev.step (fun k => h1 k i (by omega)) (Ev.bind (hX i (by omega)) (Ev.pos rfl (ih (i + 1) (by omega))))
theorem range_map_getElem {α β : Type} (f : α → β) (d : α) (xs : List α) : (List.range' 0 xs.length).map (fun i => f (xs.getD i d)) = xs.map f := by
  apply List.ext_getElem
  · simp
  · intro i h1 h2
    simp at h1
    simp [h1]
theorem sumF_list {α : Type} (f : α → Nat) (d : α) (xs : List α) : ∀ m i, i + m = xs.length → sumF (fun i => f (xs.getD i d)) i m = ((xs.drop i).map f).sum := by
  intro m
  induction m with
  | zero => intro i hi; simp [sumF, List.drop_of_length_le (show xs.length ≤ i by omega)]
  | succ m ih =>
    intro i hi
    have hlt : i < xs.length := by omega
    rw [List.drop_eq_getElem_cons hlt, List.map_cons, List.sum_cons, sumF, ih (i + 1) (by omega)]
    simp [List.getD_eq_getElem?_getD, hlt]
def szs (xs : List ByteArray) : Nat := (xs.map ByteArray.size).sum
def wts (xs : List ByteArray) : Nat := xs.length + szs xs
theorem rdOf_str (xs : List ByteArray) (i : Nat) : rdOf ByteArray.empty xs (i : Int) = xs.getD i ByteArray.empty := by simp [rdOf]
theorem mem_getD {α : Type} (xs : List α) (d : α) (i : Nat) (h : i < xs.length) : xs.getD i d ∈ xs := by
  simp [List.getD_eq_getElem?_getD, h]
theorem sum_le_of_mem {α : Type} (f : α → Nat) {xs : List α} {x : α} (h : x ∈ xs) : f x ≤ (xs.map f).sum := by
  induction xs with
  | nil => cases h
  | cons y ys ih =>
    rcases List.mem_cons.1 h with rfl | h
    · simp
    · have := ih h
      simp
      omega
/-- Two texts with rounds come to the same. -/
def Same {α : Type} (f g : Nat → Option α) : Prop := ∃ r, Ev f r ∧ Ev g r
theorem Same.ret {α : Type} {a b : α} (h : a = b) : Same (fun _ => some a) (fun _ => some b) := ⟨a, Ev.now a, Ev.const h.symm⟩
theorem Same.symm {α : Type} {f g : Nat → Option α} (h : Same f g) : Same g f := let ⟨r, a, b⟩ := h; ⟨r, b, a⟩
theorem Same.bind {α β : Type} {f g : Nat → Option α} {F G : Nat → α → Option β} (h : Same f g) (k : ∀ r, Ev f r → Ev g r → Same (F · r) (G · r)) : Same (fun n => (f n).bind (F n)) (fun n => (g n).bind (G n)) := by
  obtain ⟨r, a, b⟩ := h
  obtain ⟨s, c, d⟩ := k r a b
  exact ⟨s, Ev.bind a c, Ev.bind b d⟩
theorem Same.bindL {α β : Type} {f : Nat → Option α} {F : Nat → α → Option β} {g : Nat → Option β} {a : α} (h : Ev f a) (k : Same (F · a) g) : Same (fun n => (f n).bind (F n)) g := by
  obtain ⟨s, c, d⟩ := k
  exact ⟨s, Ev.bind h c, d⟩
theorem Same.bindR {α β : Type} {f : Nat → Option α} {F : Nat → α → Option β} {g : Nat → Option β} {a : α} (h : Ev f a) (k : Same g (F · a)) : Same g (fun n => (f n).bind (F n)) := (Same.bindL h k.symm).symm
theorem Same.posL {α : Type} {A B g : Nat → Option α} {c : Prop} [Decidable c] (hc : c) (h : Same A g) : Same (fun n => if c then A n else B n) g := let ⟨r, a, b⟩ := h; ⟨r, Ev.pos hc a, b⟩
theorem Same.negL {α : Type} {A B g : Nat → Option α} {c : Prop} [Decidable c] (hc : ¬ c) (h : Same B g) : Same (fun n => if c then A n else B n) g := let ⟨r, a, b⟩ := h; ⟨r, Ev.neg hc a, b⟩
theorem Same.posR {α : Type} {A B g : Nat → Option α} {c : Prop} [Decidable c] (hc : c) (h : Same g A) : Same g (fun n => if c then A n else B n) := let ⟨r, a, b⟩ := h; ⟨r, a, Ev.pos hc b⟩
theorem Same.negR {α : Type} {A B g : Nat → Option α} {c : Prop} [Decidable c] (hc : ¬ c) (h : Same g B) : Same g (fun n => if c then A n else B n) := let ⟨r, a, b⟩ := h; ⟨r, a, Ev.neg hc b⟩
theorem Same.pos {α : Type} {A B C D : Nat → Option α} {c d : Prop} [Decidable c] [Decidable d] (hc : c) (hd : d) (h : Same A C) : Same (fun n => if c then A n else B n) (fun n => if d then C n else D n) := Same.posL hc (Same.posR hd h)
theorem Same.neg {α : Type} {A B C D : Nat → Option α} {c d : Prop} [Decidable c] [Decidable d] (hc : ¬ c) (hd : ¬ d) (h : Same B D) : Same (fun n => if c then A n else B n) (fun n => if d then C n else D n) := Same.negL hc (Same.negR hd h)
theorem Same.ite {α : Type} {A B C D : Nat → Option α} {c d : Prop} [Decidable c] [Decidable d] (e : c ↔ d) (h1 : c → Same A C) (h2 : ¬ c → Same B D) : Same (fun n => if c then A n else B n) (fun n => if d then C n else D n) := by
  by_cases hc : c
  · exact Same.pos hc (e.1 hc) (h1 hc)
  · exact Same.neg hc (fun h => hc (e.2 h)) (h2 hc)
theorem Same.casesL {α : Type} {A B g : Nat → Option α} {c : Prop} [Decidable c] (h1 : c → Same A g) (h2 : ¬ c → Same B g) : Same (fun n => if c then A n else B n) g := by
  by_cases hc : c
  · exact Same.posL hc (h1 hc)
  · exact Same.negL hc (h2 hc)
theorem Same.casesR {α : Type} {A B g : Nat → Option α} {c : Prop} [Decidable c] (h1 : c → Same g A) (h2 : ¬ c → Same g B) : Same g (fun n => if c then A n else B n) := by
  by_cases hc : c
  · exact Same.posR hc (h1 hc)
  · exact Same.negR hc (h2 hc)
theorem Same.up {α : Type} {f g : Nat → Option α} (h : Same (fun k => f (k + 1)) (fun k => g (k + 1))) : Same f g := let ⟨r, a, b⟩ := h; ⟨r, Ev.up a, Ev.up b⟩
theorem Same.upL {α : Type} {f g : Nat → Option α} (h : Same (fun k => f (k + 1)) g) : Same f g := let ⟨r, a, b⟩ := h; ⟨r, Ev.up a, b⟩
/-- A loop over an index, on both sides, with one state. -/
theorem Same.loop {σ ρ : Type} (n : Nat) (L M : Nat → σ → Nat → Option ρ) (hend : ∀ s, Same (fun k => L k s n) (fun k => M k s n))
    (hstep : ∀ i s, i < n → (∀ s', Same (fun k => L k s' (i + 1)) (fun k => M k s' (i + 1))) → Same (fun k => L k s i) (fun k => M k s i)) : ∀ s, Same (fun k => L k s 0) (fun k => M k s 0) := by
  suffices h : ∀ m i s, i + m = n → Same (fun k => L k s i) (fun k => M k s i) from fun s => h n 0 s (by omega)
  intro m
  induction m with
  | zero => intro i s hi; obtain rfl : i = n := by omega
            exact hend s
  | succ m ih => intro i s hi; exact hstep i s (by omega) (fun s' => ih (i + 1) s' (by omega))
/-- A loop over an index, on both sides, with one state, and what holds of it. -/
theorem Same.loopI {σ ρ : Type} (n : Nat) (I : Nat → σ → Prop) (L M : Nat → σ → Nat → Option ρ) (hend : ∀ s, I n s → Same (fun k => L k s n) (fun k => M k s n))
    (hstep : ∀ i s, i < n → I i s → (∀ s', I (i + 1) s' → Same (fun k => L k s' (i + 1)) (fun k => M k s' (i + 1))) → Same (fun k => L k s i) (fun k => M k s i)) : ∀ s, I 0 s → Same (fun k => L k s 0) (fun k => M k s 0) := by
  suffices h : ∀ m i s, i + m = n → I i s → Same (fun k => L k s i) (fun k => M k s i) from fun s => h n 0 s (by omega)
  intro m
  induction m with
  | zero => intro i s hi hI; obtain rfl : i = n := by omega
            exact hend s hI
  | succ m ih => intro i s hi hI; exact hstep i s (by omega) hI (fun s' => ih (i + 1) s' (by omega))
end Go.Proofs.Ytonimhfahjediaa.Pl
end
section
namespace Go.Proofs.Ytonimhfahjediaa.Pc
open Go.RowKit Go.Proofs.YtonimhfahjediaaW.PrintWords Go.Proofs.YtonimhfahjediaaW.PrintLast Go.Proofs.Ytonimhfahjediaa.Pl Go.Proofs.Ytonimhfahjediaa.Ext
set_option linter.unusedVariables false
set_option linter.unusedSimpArgs false
theorem spec_l1Bit_eq (b : Bool) : spec_l1Bit.f b = some (if b = true then 1 else 0) := by
  unfold spec_l1Bit.f; split <;> rfl

end Go.Proofs.Ytonimhfahjediaa.Pc
end
section
namespace Go.Proofs.Ytonimhfahjediaa.Pc
open Go.RowKit Go.Proofs.YtonimhfahjediaaW.PrintWords Go.Proofs.Ytonimhfahjediaa.Pl
set_option linter.unusedVariables false
set_option linter.unusedSimpArgs false
theorem szStringS_ev (xs : List ByteArray) (hx : xs.length ≤ maxLen ∧ ∀ y ∈ xs, y.size ≤ maxLen) (left : Int) (h0 : 0 ≤ left) (hl : left ≤ 1048576) : Ev (fun k => laws_szStringS.f k xs left) (cut (wts xs) left) := by
  simp only [laws_szStringS.f]
  have hs := cut_sub (n := xs.length) h0 hl hx.1
  by_cases hc : cut xs.length left < 0
  · exact Ev.pos (hs.1.2 hc) (Ev.const (cut_add' hc).symm)
  · refine Ev.neg (fun h => hc (hs.1.1 h)) ?_
    rw [hs.2 (by omega)]
    have hl2 := cut_le (n := xs.length) h0
    have hw := sz_loop' xs.length (fun k left i => laws_szStringS.l0 k xs left (i : Int)) (fun i => (xs.getD i ByteArray.empty).size) (fun k left i hi h0 hl => by
      have hz := cut_sub (n := (xs.getD i ByteArray.empty).size) h0 hl (hx.2 _ (mem_getD xs _ i hi))
      simp only [laws_szStringS.l0, rdOf_str]
      rw [if_pos (by omega), if_pos (by omega)]
      by_cases hc : cut (xs.getD i ByteArray.empty).size left < 0
      · rw [if_pos (hz.1.2 hc), if_pos hc]
      · rw [if_neg (fun h => hc (hz.1.1 h)), if_neg hc, hz.2 (by omega), w1 hi hx.1]) (fun k left => by simp only [laws_szStringS.l0]; rw [if_neg (by omega)]) xs.length 0 _ (by omega) (show 0 ≤ cut xs.length left by omega) (by omega)
    refine Ev.eq hw ?_
    rw [cut_add (by omega), sumF_list ByteArray.size ByteArray.empty xs xs.length 0 (by omega)]
    rfl
theorem toStringS_ev (xs : List ByteArray) (hx : xs.length ≤ 1048576) : Ev (fun k => laws_toStringS.f k xs) xs := by
  simp only [laws_toStringS.f]
  refine Ev.pos (by omega) (Ev.pos (by omega) ?_)
  have hw := to_loop xs.length (fun k i => some (xs.getD i ByteArray.empty)) (fun k out i => laws_toStringS.l0 k xs out (i : Int)) (fun i => xs.getD i ByteArray.empty) (fun k out i hi hl => by
    simp only [laws_toStringS.l0, rdOf_str]
    rw [if_pos (by omega), if_pos (by omega), if_pos (by omega), w1' hi hx]
    rfl) (fun k out => by simp only [laws_toStringS.l0]; rw [if_neg (by omega)]) (fun i hi => Ev.now _) xs.length 0 (List.replicate ((xs.length : Int)).toNat (⟨#[]⟩ : ByteArray)) (by omega) (by simp)
  refine Ev.eq hw ?_
  rw [List.take_zero, List.nil_append, range_map_getElem (fun x => x) ByteArray.empty xs, List.map_id']
theorem eqStringS_ev (xs : List ByteArray) (hx : xs.length ≤ 1048576) : Ev (fun k => laws_eqStringS.f k xs xs) true := by
  simp only [laws_eqStringS.f]
  refine Ev.pos (by simp) ?_
  exact eq_loop xs.length (fun k i => some true) (fun k i => laws_eqStringS.l0 k xs xs (i : Int)) (fun k i hi => by
    simp only [laws_eqStringS.l0]
    rw [if_pos (by omega), if_pos (by omega), if_pos (by omega), w1' hi hx]
    simp) (fun k => by simp only [laws_eqStringS.l0]; rw [if_neg (by omega)]) (fun i hi => Ev.now _) xs.length 0 (by omega)
end Go.Proofs.Ytonimhfahjediaa.Pc
end
