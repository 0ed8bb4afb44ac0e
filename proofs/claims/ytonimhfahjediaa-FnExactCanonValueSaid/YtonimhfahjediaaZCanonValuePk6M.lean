/- Printed by a program of this session: what functions of the translation come to, each contract as it stands. No condition. -/
import Derived.Test.YtonimhfahjediaaZCanonValueSh
import Derived.Test.YtonimhfahjediaaZCanonValueWTabM
import Derived.Test.YtonimhfahjediaaZCanonValuePkSortSM
import Derived.Test.YtonimhfahjediaaZCanonValuePk3M
import Derived.Test.YtonimhfahjediaaZCanonValuePk9M
import Derived.Test.YtonimhfahjediaaZCanonValuePk11M
import Derived.Test.YtonimhfahjediaaZCanonValuePlM
import Derived.Test.YtonimhfahjediaaZCanonValuePkMarkValueM
import Derived.Test.YtonimhfahjediaaZCanonValueWLastM
section
namespace Go.Proofs.Ytonimhfahjediaa.Pk
open Go.RowKit Go.Proofs.Ytonimhfahjediaa.Ext Go.Proofs.YtonimhfahjediaaW.PrintWords Go.Proofs.YtonimhfahjediaaW.PrintLast Go.Proofs.YtonimhfahjediaaW.PrintMore
attribute [local go_sem] max2_int min2_int max_two min_two max_three min_three max_four min_four   -- for this text's walks alone
set_option linter.unusedVariables false
set_option linter.unusedSimpArgs false

/-! ### spec_CanonValue: function 13 -/
mutual
noncomputable def spec_CanonValue.l0 : Nat → Int → Int → Int → List ByteArray → List (S30) → Int → Int → List ByteArray → List (S30) → Option (Int × Int × List ByteArray × (List (S30)))
 | 0, _, _, _, _, _, _, _, _, _ => none
 | k + 1, x4, x199000, x199001, x199002, x199003, x207000, x207001, x207002, x207003 => if x4 < (x199003.length : Int) then (if 0 ≤ x4 then ((spec_CanonValue.f k ((rd_T30 x199003 x4).f0) ((rd_T30 x199003 x4).f1) ((rd_T30 x199003 x4).f2) ((rd_T30 x199003 x4).f3)).bind fun bt208 => (if x207003.length < 2199023255552 then (spec_CanonValue.l0 k (wrap64 (x4 + 1)) x199000 x199001 x199002 x199003 x207000 x207001 x207002 (x207003 ++ [(⟨bt208.1, bt208.2.1, bt208.2.2.1, bt208.2.2.2⟩ : S30)])) else (none))) else (none)) else (if x199000 = 4 then ((srt x207003).bind fun s_ => (some (x207000, x207001, x207002, s_))) else (some (x207000, x207001, x207002, x207003)))
noncomputable def spec_CanonValue.f : Nat → Int → Int → List ByteArray → List (S30) → Option (Int × Int × List ByteArray × (List (S30)))
 | 0, _, _, _, _ => none
 | k + 1, a0_0, a0_1, l0_2, l0_3 => (some (([] : List ByteArray) : List ByteArray)).bind fun y200 => (if y200.length + l0_2.length < 8796093022208 then (spec_CanonValue.l0 k 0 a0_0 a0_1 l0_2 l0_3 a0_0 a0_1 (y200 ++ l0_2) ([] : List (S30))) else (none))
end
def spec_CanonValue.T1 : Bool × List (List Nat × List Nat) := (true, [([], []), ([0], [0]), ([], []), ([2], [2]), ([], []), ([], []), ([5], [5]), ([4, 6], [4, 6]), ([1, 3, 7], [1, 3, 7]), ([], []), ([9, 8, 7, 0, 1, 2, 3, 4, 5, 6, 7, 8, 9], [8, 9])])
def spec_CanonValue.B1 : List Nat := [0, 1, 0, 4, 0, 0, 32, 112, 255, 0, 1023]
theorem spec_CanonValue.tab1 : rtab .any (opsOf Try.f13 1) = spec_CanonValue.T1 := by kernel_rfl
theorem spec_CanonValue.bits1 : waitsOk spec_CanonValue.T1.2 spec_CanonValue.B1 = true := by kernel_rfl
def spec_CanonValue.T5 : Bool × List (List Nat × List Nat) := (true, [([], []), ([0], [0]), ([], []), ([2], [2]), ([], []), ([3, 4], [3, 4]), ([5], [5]), ([6], [6]), ([7], [7]), ([1, 8, 7], [1, 8]), ([0, 1, 2, 3, 4, 5, 6, 7, 8, 9], []), ([10, 9, 9, 0, 1, 2, 3, 4, 5, 6, 7, 8, 9], [9, 10])])
def spec_CanonValue.B5 : List Nat := [0, 1, 0, 4, 0, 28, 60, 124, 252, 511, 1023, 2047]
theorem spec_CanonValue.tab5 : rtab .any (opsOf Try.f13 5) = spec_CanonValue.T5 := by kernel_rfl
theorem spec_CanonValue.bits5 : waitsOk spec_CanonValue.T5.2 spec_CanonValue.B5 = true := by kernel_rfl
set_option maxHeartbeats 8000000 in
set_option maxRecDepth 100000 in
theorem spec_CanonValue.calls (k : Nat) : ∀ (a0_0 : Int) (a0_1 : Int) (A0_2 : Option Addr) (c0_2 : Nat) (l0_2 : List ByteArray) (A0_3 : Option Addr) (c0_3 : Nat) (l0_3 : List (S30)) (r1 : Int) (r2 : Int) (r3 : List ByteArray) (r4 : List (S30)) (w : World) (hr0_2 : Kd.C Kd.string w A0_2 l0_2.length l0_2) (hc0_2 : l0_2.length ≤ c0_2) (hr0_3 : Kd.C k30 w A0_3 l0_3.length l0_3) (hc0_3 : l0_3.length ≤ c0_3) (h : spec_CanonValue.f k a0_0 a0_1 l0_2 l0_3 = some (r1, r2, r3, r4)),
  Calls Try.prog 13 #[.agg #[.int .i64 a0_0, .int .i64 a0_1, .slice A0_2 l0_2.length c0_2, .slice A0_3 l0_3.length c0_3]] w fun e w' => ∃ v2_ v3_ : Value, e = .returned (.agg #[.int .i64 r1, .int .i64 r2, v2_, v3_]) ∧ Kd.R Kd.string 9 w' w.heap.size (fun _ => True) v2_ r3 ∧ Kd.S k30 30 w' w.heap.size (fun k_ => some k_ ≠ (v2_ : Value).ownBlock) v3_ r4 ∧ Below w.heap.size w w' := by
 induction k using Nat.strongRecOn with
 | _ k ih =>
 intro a0_0 a0_1 A0_2 c0_2 l0_2 A0_3 c0_3 l0_3 r1 r2 r3 r4 w hr0_2 hc0_2 hr0_3 hc0_3 h
 cases k with
 | zero => exact absurd h (by simp [spec_CanonValue.f])
 | succ k =>
 simp only [spec_CanonValue.f] at h
 have hu30 := Try.underlying30
 have HR0_2 := am hr0_2
 have HC0_2 := am hc0_2
 clear hr0_2 hc0_2
 have HR0_3 := am hr0_3
 have HC0_3 := am hc0_3
 clear hr0_3 hc0_3
 have HB := am (Below.refl w.heap.size w)
 have H : ((some (([] : List ByteArray) : List ByteArray)).bind fun y200 => (if y200.length + l0_2.length < 8796093022208 then (spec_CanonValue.l0 k 0 a0_0 a0_1 l0_2 l0_3 a0_0 a0_1 (y200 ++ l0_2) ([] : List (S30))) else (none))) = some (r1, r2, r3, r4) := h
 clear h
 obtain ⟨y200, hy200⟩ : ∃ y_ : List ByteArray, y_ = (([] : List ByteArray)) := ⟨_, rfl⟩
 replace H : (if y200.length + l0_2.length < 8796093022208 then (spec_CanonValue.l0 k 0 a0_0 a0_1 l0_2 l0_3 a0_0 a0_1 (y200 ++ l0_2) ([] : List (S30))) else (none)) = some (r1, r2, r3, r4) := by first | (rw [hy200]; with_reducible exact H) | (have H2_ := (Option.bind_some _ _).symm.trans H; rw [hy200]; with_reducible exact H2_) | (have H2_ := (Option.bind_some _ _).symm.trans H; with_reducible exact H2_) | with_reducible exact H | (rw [hy200]; exact H) | exact H
 have Ny200 := am hy200
 clear hy200
 by_cases c2 : y200.length + l0_2.length < 8796093022208
 case neg =>
  rw [if_neg c2] at H
  exact absurd H (by simp)
 rw [if_pos c2] at H
 have LMc2 := am c2
 clear c2
 obtain ⟨y203, hy203⟩ : ∃ y_ : List ByteArray, y_ = (y200 ++ l0_2) := ⟨_, rfl⟩
 replace H : (spec_CanonValue.l0 k 0 a0_0 a0_1 l0_2 l0_3 a0_0 a0_1 y203 ([] : List (S30))) = some (r1, r2, r3, r4) := by first | (rw [hy203]; with_reducible exact H) | (have H2_ := (Option.bind_some _ _).symm.trans H; rw [hy203]; with_reducible exact H2_) | (have H2_ := (Option.bind_some _ _).symm.trans H; with_reducible exact H2_) | with_reducible exact H | (rw [hy203]; exact H) | exact H
 have Ny203 := am hy203
 clear hy203
 have H' := am H
 clear H
 go_enter Try.func13, Try.ntmps13
 try go_wp2_with (first | ((with_reducible refine gate_dst (N := 1) rfl ?_); refine box_event ?hg (N := 1) ?hd (cs := #[.int .i64 a0_0, .int .i64 a0_1, .slice A0_2 l0_2.length c0_2, .slice A0_3 l0_3.length c0_3]) (t := 30) ?hr ?_; (case hd => rfl); (case hg => rfl); (case hr => exact hrw); intro gb198 hg w3 hbox hb; have n0_ := am (below_step blw hb); have n1_ := am (hbox); have n2_ := am ((by rw [hg]; exact (below_size blw) : w.heap.size ≤ gb198)); have n3_ := n2_; clear HB; revert n0_ n1_ n2_ n3_; intro HB BK198 GW198 GE198; clear hb hbox hg) | ((with_reducible refine gate_dst (N := 2) rfl ?_); refine box_event ?hg (N := 2) ?hd (cs := #[.int .i64 0, .int .i64 0, .slice none 0 0, .slice none 0 0]) (t := 30) ?hr ?_; (case hd => rfl); (case hg => rfl); (case hr => exact hrw); intro gb199 hg w4 hbox hb; have n0_ := am (blk_below (g := gb198) bkw hb); have n1_ := am (below_step blw hb); have n2_ := am (hbox); have n3_ := am ((by rw [hg]; exact (below_size blw) : w.heap.size ≤ gb199)); have n4_ := n3_; have n5_ := am ((by rw [hg]; exact Nat.ne_of_lt (blk_lt (g := gb198) bkw) : gb198 ≠ gb199)); have n6_ := am ((by rw [hg]; exact Nat.ne_of_gt (blk_lt (g := gb198) bkw) : gb199 ≠ gb198)); clear BK198; clear HB; revert n0_ n1_ n2_ n3_ n4_ n5_ n6_; intro BK198 HB BK199 GW199 GE199 NB198_199 NB199_198; clear hb hbox hg))
 have n0_ := am (blk_drew BK198.out)
 have n1_ := am (blk_drew BK199.out)
 have n2_ := am (below_drew1 HB.out)
 clear BK198
 clear BK199
 clear HB
 revert n0_ n1_ n2_
 intro BK198 BK199 HB
 refine start_ (n := 11) (S := fun w' => w'.cell? ⟨gb198, 0, none⟩ = some (.int .i64 a0_0) ∧ w'.cell? ⟨gb198, 1, none⟩ = some (.int .i64 a0_1) ∧ w'.cell? ⟨gb198, 2, none⟩ = some (.slice A0_2 l0_2.length c0_2) ∧ w'.cell? ⟨gb198, 3, none⟩ = some (.slice A0_3 l0_3.length c0_3)) (ds := []) #[false,false,false,false,false,false,false,false,false,false,false] kr rfl rfl ⟨(blk_cell BK198.out 0).trans rfl, (blk_cell BK198.out 1).trans rfl, (blk_cell BK198.out 2).trans rfl, (blk_cell BK198.out 3).trans rfl⟩ (fun hHeld => ?_); refine with_tabW spec_CanonValue.tab1 spec_CanonValue.bits1 (fun HT_ HW_ => ?_)
 generalize w4.drew = w5 at BK198 BK199 HB hHeld ⊢
 refine pure_ (i := 0) (N := some 5) (v := ?_) (a' := ?_) (bm 11 1) rfl rfl (any_of HT_.out kr) qi (Or.inl ⟨by rfl, ?_⟩) ?_ ?_
 rotate_left
 ·intro w'
  go_simp
  with_reducible rfl
 rotate_left
 ·simp only [sx]
  rfl
 refine pure_ (i := 2) (N := some 7) (v := ?_) (a' := ?_) (bm 11 5) rfl rfl (any_of HT_.out kr) qi (Or.inl ⟨by rfl, ?_⟩) ?_ ?_
 rotate_left
 ·intro w'
  go_simp
  with_reducible rfl
 rotate_left
 ·simp only [sx]
  rfl
 refine pure_ (i := 5) (N := some 10) (v := ?_) (a' := ?_) (bm 11 37) rfl rfl (any_of HT_.out kr) qi (Or.inl ⟨by rfl, ?_⟩) ?_ ?_
 rotate_left
 ·intro w'
  go_simp
  with_reducible rfl
 rotate_left
 ·simp only [sx]
  rfl
 refine take_ (i := 1) (N := some 6) (v := ?_) (a' := ?_) (bm 11 39) rfl rfl (take_ofW HT_.out HW_.out kr) qi (Or.inl ⟨by rfl, ?_⟩) hHeld ?_ ?_
 rotate_left
 ·rintro w' ⟨s0, s1, s2, s3⟩
  go_simp
  with_reducible rfl
 rotate_left
 ·simp only [sx]
  rfl
 refine take_ (i := 3) (N := some 8) (v := ?_) (a' := ?_) (bm 11 47) rfl rfl (take_ofW HT_.out HW_.out kr) qi (Or.inl ⟨by rfl, ?_⟩) hHeld ?_ ?_
 rotate_left
 ·rintro w' ⟨s0, s1, s2, s3⟩
  go_simp
  with_reducible rfl
 rotate_left
 ·simp only [sx]
  rfl
 refine take_ (i := 6) (N := some 11) (v := ?_) (a' := ?_) (bm 11 111) rfl rfl (take_ofW HT_.out HW_.out kr) qi (Or.inl ⟨by rfl, ?_⟩) hHeld ?_ ?_
 rotate_left
 ·rintro w' ⟨s0, s1, s2, s3⟩
  go_simp
  with_reducible rfl
 rotate_left
 ·simp only [sx]
  rfl
 refine join_ (σ := Value × Value × Nat) 1 #[true,true,true,true,true,true,true,true,true,true,false] (fun s_ => [(9, s_.1), (12, s_.2.1), (3, .pointer (some ⟨s_.2.2, 0, none⟩)), (13, .agg #[.int .i64 a0_0, .int .i64 a0_1, s_.2.1, .slice none 0 0])]) (fun s_ w' => (w'.cell? ⟨gb198, 0, none⟩ = some (.int .i64 a0_0) ∧ w'.cell? ⟨gb198, 1, none⟩ = some (.int .i64 a0_1) ∧ w'.cell? ⟨gb198, 2, none⟩ = some (.slice A0_2 l0_2.length c0_2) ∧ w'.cell? ⟨gb198, 3, none⟩ = some (.slice A0_3 l0_3.length c0_3)) ∧ (Kd.R Kd.string 9 w' w.heap.size (fun _ => True) s_.2.1 y203) ∧ (w'.heap[gb198]? = some (.cells #[.int .i64 a0_0, .int .i64 a0_1, .slice A0_2 l0_2.length c0_2, .slice A0_3 l0_3.length c0_3] 30 (0, 0))) ∧ (w'.heap[gb199]? = some (.cells #[.int .i64 0, .int .i64 0, .slice none 0 0, .slice none 0 0] 30 (0, 0))) ∧ (w'.heap[s_.2.2]? = some (.cells #[.int .i64 0, .int .i64 0, .slice none 0 0, .slice none 0 0] 30 (0, 0))) ∧ (w.heap.size ≤ s_.2.2) ∧ (w.heap.size ≤ s_.2.2) ∧ (gb198 ≠ s_.2.2) ∧ (s_.2.2 ≠ gb198) ∧ (gb199 ≠ s_.2.2) ∧ (s_.2.2 ≠ gb199) ∧ (Below w.heap.size w w')) ?_ ?_
 rotate_left
 ·intro hCont
  refine two_ (i := 4) (j := 9) (Ni := some 9) (Nj := some 3) #[true,true,true,true,true,true,true,false,false,false,false] #[true,true,true,true,false,true,true,false,false,true,false] rfl rfl rfl rfl (two_of HT_.out kr) (by decide) (by decide) (fun K hK => ?_) (fun K hK => ?_)
  ·skip
   refine Kd.R_lit_step Kd.string _ 9 ?hg (N := 9) ?hd (xs := ([] : List ByteArray)) (inner := []) (ok := fun _ => True) (okp := fun _ => True) ?hr ?hp (fun _ hk => hk) trivial (Below.refl _ _) (Nat.le_refl _) (by simp) ?_; (case hd => rfl); (case hg => rfl); (case hr => exact hrw); (case hp => exact (Reps.none _ _))
   intro v201 w6 ho7 hb hg_ hnew_
   clear hg_ hnew_
   (first | rw [← Ny200.out] at ho7 | (simp only [Int.reduceToNat] at ho7; rw [← Ny200.out] at ho7))
   have n0_ := am (Kd.R_lower ho7 (below_size blw))
   have n1_ := am (blk_below (g := gb198) bkw hb)
   have n2_ := am (blk_below (g := gb199) bkw hb)
   have n3_ := am (below_step blw hb)
   clear BK198
   clear BK199
   clear HB
   revert n0_ n1_ n2_ n3_
   intro HO202 BK198 BK199 HB
   clear hb ho7
   refine hK.out _ _ ⟨(blk_cell BK198.out 0).trans rfl, (blk_cell BK198.out 1).trans rfl, (blk_cell BK198.out 2).trans rfl, (blk_cell BK198.out 3).trans rfl⟩ (fun hHeld => ?_)
   clear hK K
   refine norm_ (a' := ?_) ?_ ?_
   rotate_left
   ·show Act.put _ (some 9) _ = _
    simp only [sx]
    rfl
   refine two_ (i := 7) (j := 9) (Ni := some 12) (Nj := some 3) #[true,true,true,true,true,true,true,true,false,false,false] #[true,true,true,true,true,true,true,false,false,true,false] rfl rfl rfl rfl (two_of HT_.out kr) (by decide) (by decide) (fun K hK => ?_) (fun K hK => ?_)
   ·skip
    refine Kd.R_append_rows_step Kd.string (w0 := w) w.heap.size (by rfl) (.tmp 9) (.tmp 11) 22 9 (.string ⟨#[]⟩) 16 rfl Try.underlying22 info9 rfl (by decide) (by omega) v201 y200 l0_2 _ _ _ (fun _ => True) (fun _ => False) rfl rfl ?aO ?aR (fun _ _ h => h) (fun _ h => h.elim) ?aF ?aB ?aS ?aL ?_
    (case aR => repeat (first | exact (Kd.C_below HR0_2.out HB.out) | (with_reducible refine Kd.C_alloc ?_ _) | (with_reducible refine Kd.C_drewN ?_ _) | (with_reducible refine Kd.C_drew ?_)))
    (case aB => exact blw)
    (case aF => exact (fun _ _ => trivial))
    (case aO => exact (by (with_reducible repeat (first | apply Kd.R_alloc | apply Kd.R_drewN | apply Kd.R_drew)); exact HO202.out))
    (case aS => exact (below_size blw))
    (case aL => have := LMc2.out; omega)
    intro v204 w8 ho hb hg hat
    rw [← Ny203.out] at ho
    have n0_ := am (blk_grown (g := gb198) (o := .cells #[.int .i64 a0_0, .int .i64 a0_1, .slice A0_2 l0_2.length c0_2, .slice A0_3 l0_3.length c0_3] 30 (0, 0)) bkw hg (Kd.R_ne HO202.out BK198.out (by decide)))
    have n1_ := am (blk_grown (g := gb199) (o := .cells #[.int .i64 0, .int .i64 0, .slice none 0 0, .slice none 0 0] 30 (0, 0)) bkw hg (Kd.R_ne HO202.out BK199.out (by decide)))
    have n2_ := am (hb)
    have n3_ := am (ho)
    clear BK198
    clear BK199
    clear HB
    clear HO202
    revert n0_ n1_ n2_ n3_
    intro BK198 BK199 HB HO205
    clear ho hb hg hat
    obtain ⟨Ao9, co9, eo9⟩ := Kd.R_slice HO205.out
    (first | subst eo9 | (injection eo9 with f1_ f2_ f3_; have f4_ := f1_.symm; have f5_ := f3_.symm; clear f1_ f2_ f3_; subst f4_; subst f5_))
    refine hK.out _ _ ⟨(blk_cell BK198.out 0).trans rfl, (blk_cell BK198.out 1).trans rfl, (blk_cell BK198.out 2).trans rfl, (blk_cell BK198.out 3).trans rfl⟩ (fun hHeld => ?_)
    clear hK K
    refine norm_ (a' := ?_) ?_ ?_
    rotate_left
    ·show Act.put _ (some 12) _ = _
     simp only [sx]
     rfl
    refine pure_ (i := 8) (N := some 13) (v := ?_) (a' := ?_) (bm 11 511) rfl rfl (any_of HT_.out kr) qi (Or.inl ⟨by rfl, ?_⟩) ?_ ?_
    rotate_left
    ·intro w'
     go_simp
     with_reducible rfl
    rotate_left
    ·simp only [sx]
     rfl
    refine one_ (i := 9) (N := some 3) (bm 11 1023) rfl rfl (one_of HT_.out kr) (by decide) (fun K hK => ?_)
    refine box_step ?hg (N := 3) ?hd (cs := #[.int .i64 0, .int .i64 0, .slice none 0 0, .slice none 0 0]) (t := 30) ?hr ?_; (case hd => rfl); (case hg => rfl); (case hr => exact hrw)
    intro gb206 hg w10 hbox hb
    have n0_ := am (Kd.R_below (by (with_reducible repeat (first | apply Kd.R_alloc | apply Kd.R_drewN | apply Kd.R_drew)); exact HO205.out) hb)
    have n1_ := am (blk_below (g := gb198) bkw hb)
    have n2_ := am (blk_below (g := gb199) bkw hb)
    have n3_ := am (below_step blw hb)
    have n4_ := am (hbox)
    have n5_ := am ((by rw [hg]; exact (below_size blw) : w.heap.size ≤ gb206))
    have n6_ := am ((by rw [hg]; exact (below_size blw) : w.heap.size ≤ gb206))
    have n7_ := am ((by rw [hg]; exact Nat.ne_of_lt (blk_lt (g := gb198) bkw) : gb198 ≠ gb206))
    have n8_ := am ((by rw [hg]; exact Nat.ne_of_gt (blk_lt (g := gb198) bkw) : gb206 ≠ gb198))
    have n9_ := am ((by rw [hg]; exact Nat.ne_of_lt (blk_lt (g := gb199) bkw) : gb199 ≠ gb206))
    have n10_ := am ((by rw [hg]; exact Nat.ne_of_gt (blk_lt (g := gb199) bkw) : gb206 ≠ gb199))
    clear HO205
    clear BK198
    clear BK199
    clear HB
    revert n0_ n1_ n2_ n3_ n4_ n5_ n6_ n7_ n8_ n9_ n10_
    intro HO205 BK198 BK199 HB BK206 GW206 GE206 NB198_206 NB206_198 NB199_206 NB206_199
    clear hb hbox hg
    refine hK.out _ _ ⟨(blk_cell BK198.out 0).trans rfl, (blk_cell BK198.out 1).trans rfl, (blk_cell BK198.out 2).trans rfl, (blk_cell BK198.out 3).trans rfl⟩ (fun hHeld => ?_)
    clear hK K
    refine norm_ (a' := ?_) ?_ ?_
    rotate_left
    ·show Act.put _ (some 3) _ = _
     simp only [sx]
     rfl
    exact norm_ (by simp only [putAll, Act.put, List.setIfInBounds_toArray, List.set_cons_zero, List.set_cons_succ]) (hCont (v201, .slice Ao9 y203.length co9, gb206) _ ⟨hHeld, (by (with_reducible repeat (first | apply Kd.R_alloc | apply Kd.R_drewN | apply Kd.R_drew)); exact HO205.out), bkw, bkw, bkw, GW206.out, GE206.out, NB198_206.out, NB206_198.out, NB199_206.out, NB206_199.out, blw⟩)
   ·skip
    refine box_step ?hg (N := 3) ?hd (cs := #[.int .i64 0, .int .i64 0, .slice none 0 0, .slice none 0 0]) (t := 30) ?hr ?_; (case hd => rfl); (case hg => rfl); (case hr => exact hrw)
    intro gb206 hg w8 hbox hb
    have n0_ := am (Kd.R_below (by (with_reducible repeat (first | apply Kd.R_alloc | apply Kd.R_drewN | apply Kd.R_drew)); exact HO202.out) hb)
    have n1_ := am (blk_below (g := gb198) bkw hb)
    have n2_ := am (blk_below (g := gb199) bkw hb)
    have n3_ := am (below_step blw hb)
    have n4_ := am (hbox)
    have n5_ := am ((by rw [hg]; exact (below_size blw) : w.heap.size ≤ gb206))
    have n6_ := am ((by rw [hg]; exact (below_size blw) : w.heap.size ≤ gb206))
    have n7_ := am ((by rw [hg]; exact Nat.ne_of_lt (blk_lt (g := gb198) bkw) : gb198 ≠ gb206))
    have n8_ := am ((by rw [hg]; exact Nat.ne_of_gt (blk_lt (g := gb198) bkw) : gb206 ≠ gb198))
    have n9_ := am ((by rw [hg]; exact Nat.ne_of_lt (blk_lt (g := gb199) bkw) : gb199 ≠ gb206))
    have n10_ := am ((by rw [hg]; exact Nat.ne_of_gt (blk_lt (g := gb199) bkw) : gb206 ≠ gb199))
    clear HO202
    clear BK198
    clear BK199
    clear HB
    revert n0_ n1_ n2_ n3_ n4_ n5_ n6_ n7_ n8_ n9_ n10_
    intro HO202 BK198 BK199 HB BK206 GW206 GE206 NB198_206 NB206_198 NB199_206 NB206_199
    clear hb hbox hg
    refine hK.out _ _ ⟨(blk_cell BK198.out 0).trans rfl, (blk_cell BK198.out 1).trans rfl, (blk_cell BK198.out 2).trans rfl, (blk_cell BK198.out 3).trans rfl⟩ (fun hHeld => ?_)
    clear hK K
    refine norm_ (a' := ?_) ?_ ?_
    rotate_left
    ·show Act.put _ (some 3) _ = _
     simp only [sx]
     rfl
    refine one_ (i := 7) (N := some 12) (bm 11 767) rfl rfl (one_of HT_.out kr) (by decide) (fun K hK => ?_)
    refine Kd.R_append_rows_step Kd.string (w0 := w) w.heap.size (by rfl) (.tmp 9) (.tmp 11) 22 9 (.string ⟨#[]⟩) 16 rfl Try.underlying22 info9 rfl (by decide) (by omega) v201 y200 l0_2 _ _ _ (fun _ => True) (fun _ => False) rfl rfl ?aO ?aR (fun _ _ h => h) (fun _ h => h.elim) ?aF ?aB ?aS ?aL ?_
    (case aR => repeat (first | exact (Kd.C_below HR0_2.out HB.out) | (with_reducible refine Kd.C_alloc ?_ _) | (with_reducible refine Kd.C_drewN ?_ _) | (with_reducible refine Kd.C_drew ?_)))
    (case aB => exact blw)
    (case aF => exact (fun _ _ => trivial))
    (case aO => exact (by (with_reducible repeat (first | apply Kd.R_alloc | apply Kd.R_drewN | apply Kd.R_drew)); exact HO202.out))
    (case aS => exact (below_size blw))
    (case aL => have := LMc2.out; omega)
    intro v204 w9 ho hb hg hat
    rw [← Ny203.out] at ho
    have n0_ := am (blk_grown (g := gb198) (o := .cells #[.int .i64 a0_0, .int .i64 a0_1, .slice A0_2 l0_2.length c0_2, .slice A0_3 l0_3.length c0_3] 30 (0, 0)) bkw hg (Kd.R_ne HO202.out BK198.out (by decide)))
    have n1_ := am (blk_grown (g := gb199) (o := .cells #[.int .i64 0, .int .i64 0, .slice none 0 0, .slice none 0 0] 30 (0, 0)) bkw hg (Kd.R_ne HO202.out BK199.out (by decide)))
    have n2_ := am (blk_grown (g := gb206) (o := .cells #[.int .i64 0, .int .i64 0, .slice none 0 0, .slice none 0 0] 30 (0, 0)) bkw hg (Kd.R_ne HO202.out BK206.out (by decide)))
    have n3_ := am (hb)
    have n4_ := am (ho)
    clear BK198
    clear BK199
    clear BK206
    clear HB
    clear HO202
    revert n0_ n1_ n2_ n3_ n4_
    intro BK198 BK199 BK206 HB HO205
    clear ho hb hg hat
    obtain ⟨Ao10, co10, eo10⟩ := Kd.R_slice HO205.out
    (first | subst eo10 | (injection eo10 with f1_ f2_ f3_; have f4_ := f1_.symm; have f5_ := f3_.symm; clear f1_ f2_ f3_; subst f4_; subst f5_))
    refine hK.out _ _ ⟨(blk_cell BK198.out 0).trans rfl, (blk_cell BK198.out 1).trans rfl, (blk_cell BK198.out 2).trans rfl, (blk_cell BK198.out 3).trans rfl⟩ (fun hHeld => ?_)
    clear hK K
    refine norm_ (a' := ?_) ?_ ?_
    rotate_left
    ·show Act.put _ (some 12) _ = _
     simp only [sx]
     rfl
    refine pure_ (i := 8) (N := some 13) (v := ?_) (a' := ?_) (bm 11 1023) rfl rfl (any_of HT_.out kr) qi (Or.inl ⟨by rfl, ?_⟩) ?_ ?_
    rotate_left
    ·intro w'
     go_simp
     with_reducible rfl
    rotate_left
    ·simp only [sx]
     rfl
    exact norm_ (by simp only [putAll, Act.put, List.setIfInBounds_toArray, List.set_cons_zero, List.set_cons_succ]) (hCont (v201, .slice Ao10 y203.length co10, gb206) _ ⟨hHeld, (by (with_reducible repeat (first | apply Kd.R_alloc | apply Kd.R_drewN | apply Kd.R_drew)); exact HO205.out), bkw, bkw, bkw, GW206.out, GE206.out, NB198_206.out, NB206_198.out, NB199_206.out, NB206_199.out, blw⟩)
  ·skip
   refine box_step ?hg (N := 3) ?hd (cs := #[.int .i64 0, .int .i64 0, .slice none 0 0, .slice none 0 0]) (t := 30) ?hr ?_; (case hd => rfl); (case hg => rfl); (case hr => exact hrw)
   intro gb206 hg w6 hbox hb
   have n0_ := am (blk_below (g := gb198) bkw hb)
   have n1_ := am (blk_below (g := gb199) bkw hb)
   have n2_ := am (below_step blw hb)
   have n3_ := am (hbox)
   have n4_ := am ((by rw [hg]; exact (below_size blw) : w.heap.size ≤ gb206))
   have n5_ := am ((by rw [hg]; exact (below_size blw) : w.heap.size ≤ gb206))
   have n6_ := am ((by rw [hg]; exact Nat.ne_of_lt (blk_lt (g := gb198) bkw) : gb198 ≠ gb206))
   have n7_ := am ((by rw [hg]; exact Nat.ne_of_gt (blk_lt (g := gb198) bkw) : gb206 ≠ gb198))
   have n8_ := am ((by rw [hg]; exact Nat.ne_of_lt (blk_lt (g := gb199) bkw) : gb199 ≠ gb206))
   have n9_ := am ((by rw [hg]; exact Nat.ne_of_gt (blk_lt (g := gb199) bkw) : gb206 ≠ gb199))
   clear BK198
   clear BK199
   clear HB
   revert n0_ n1_ n2_ n3_ n4_ n5_ n6_ n7_ n8_ n9_
   intro BK198 BK199 HB BK206 GW206 GE206 NB198_206 NB206_198 NB199_206 NB206_199
   clear hb hbox hg
   refine hK.out _ _ ⟨(blk_cell BK198.out 0).trans rfl, (blk_cell BK198.out 1).trans rfl, (blk_cell BK198.out 2).trans rfl, (blk_cell BK198.out 3).trans rfl⟩ (fun hHeld => ?_)
   clear hK K
   refine norm_ (a' := ?_) ?_ ?_
   rotate_left
   ·show Act.put _ (some 3) _ = _
    simp only [sx]
    rfl
   refine one_ (i := 4) (N := some 9) (bm 11 639) rfl rfl (one_of HT_.out kr) (by decide) (fun K hK => ?_)
   refine Kd.R_lit_step Kd.string _ 9 ?hg (N := 9) ?hd (xs := ([] : List ByteArray)) (inner := []) (ok := fun _ => True) (okp := fun _ => True) ?hr ?hp (fun _ hk => hk) trivial (Below.refl _ _) (Nat.le_refl _) (by simp) ?_; (case hd => rfl); (case hg => rfl); (case hr => exact hrw); (case hp => exact (Reps.none _ _))
   intro v201 w7 ho8 hb hg_ hnew_
   clear hg_ hnew_
   (first | rw [← Ny200.out] at ho8 | (simp only [Int.reduceToNat] at ho8; rw [← Ny200.out] at ho8))
   have n0_ := am (Kd.R_lower ho8 (below_size blw))
   have n1_ := am (blk_below (g := gb198) bkw hb)
   have n2_ := am (blk_below (g := gb199) bkw hb)
   have n3_ := am (blk_below (g := gb206) bkw hb)
   have n4_ := am (below_step blw hb)
   clear BK198
   clear BK199
   clear BK206
   clear HB
   revert n0_ n1_ n2_ n3_ n4_
   intro HO202 BK198 BK199 BK206 HB
   clear hb ho8
   refine hK.out _ _ ⟨(blk_cell BK198.out 0).trans rfl, (blk_cell BK198.out 1).trans rfl, (blk_cell BK198.out 2).trans rfl, (blk_cell BK198.out 3).trans rfl⟩ (fun hHeld => ?_)
   clear hK K
   refine norm_ (a' := ?_) ?_ ?_
   rotate_left
   ·show Act.put _ (some 9) _ = _
    simp only [sx]
    rfl
   refine one_ (i := 7) (N := some 12) (bm 11 767) rfl rfl (one_of HT_.out kr) (by decide) (fun K hK => ?_)
   refine Kd.R_append_rows_step Kd.string (w0 := w) w.heap.size (by rfl) (.tmp 9) (.tmp 11) 22 9 (.string ⟨#[]⟩) 16 rfl Try.underlying22 info9 rfl (by decide) (by omega) v201 y200 l0_2 _ _ _ (fun _ => True) (fun _ => False) rfl rfl ?aO ?aR (fun _ _ h => h) (fun _ h => h.elim) ?aF ?aB ?aS ?aL ?_
   (case aR => repeat (first | exact (Kd.C_below HR0_2.out HB.out) | (with_reducible refine Kd.C_alloc ?_ _) | (with_reducible refine Kd.C_drewN ?_ _) | (with_reducible refine Kd.C_drew ?_)))
   (case aB => exact blw)
   (case aF => exact (fun _ _ => trivial))
   (case aO => exact (by (with_reducible repeat (first | apply Kd.R_alloc | apply Kd.R_drewN | apply Kd.R_drew)); exact HO202.out))
   (case aS => exact (below_size blw))
   (case aL => have := LMc2.out; omega)
   intro v204 w9 ho hb hg hat
   rw [← Ny203.out] at ho
   have n0_ := am (blk_grown (g := gb198) (o := .cells #[.int .i64 a0_0, .int .i64 a0_1, .slice A0_2 l0_2.length c0_2, .slice A0_3 l0_3.length c0_3] 30 (0, 0)) bkw hg (Kd.R_ne HO202.out BK198.out (by decide)))
   have n1_ := am (blk_grown (g := gb199) (o := .cells #[.int .i64 0, .int .i64 0, .slice none 0 0, .slice none 0 0] 30 (0, 0)) bkw hg (Kd.R_ne HO202.out BK199.out (by decide)))
   have n2_ := am (blk_grown (g := gb206) (o := .cells #[.int .i64 0, .int .i64 0, .slice none 0 0, .slice none 0 0] 30 (0, 0)) bkw hg (Kd.R_ne HO202.out BK206.out (by decide)))
   have n3_ := am (hb)
   have n4_ := am (ho)
   clear BK198
   clear BK199
   clear BK206
   clear HB
   clear HO202
   revert n0_ n1_ n2_ n3_ n4_
   intro BK198 BK199 BK206 HB HO205
   clear ho hb hg hat
   obtain ⟨Ao10, co10, eo10⟩ := Kd.R_slice HO205.out
   (first | subst eo10 | (injection eo10 with f1_ f2_ f3_; have f4_ := f1_.symm; have f5_ := f3_.symm; clear f1_ f2_ f3_; subst f4_; subst f5_))
   refine hK.out _ _ ⟨(blk_cell BK198.out 0).trans rfl, (blk_cell BK198.out 1).trans rfl, (blk_cell BK198.out 2).trans rfl, (blk_cell BK198.out 3).trans rfl⟩ (fun hHeld => ?_)
   clear hK K
   refine norm_ (a' := ?_) ?_ ?_
   rotate_left
   ·show Act.put _ (some 12) _ = _
    simp only [sx]
    rfl
   refine pure_ (i := 8) (N := some 13) (v := ?_) (a' := ?_) (bm 11 1023) rfl rfl (any_of HT_.out kr) qi (Or.inl ⟨by rfl, ?_⟩) ?_ ?_
   rotate_left
   ·intro w'
    go_simp
    with_reducible rfl
   rotate_left
   ·simp only [sx]
    rfl
   exact norm_ (by simp only [putAll, Act.put, List.setIfInBounds_toArray, List.set_cons_zero, List.set_cons_succ]) (hCont (v201, .slice Ao10 y203.length co10, gb206) _ ⟨hHeld, (by (with_reducible repeat (first | apply Kd.R_alloc | apply Kd.R_drewN | apply Kd.R_drew)); exact HO205.out), bkw, bkw, bkw, GW206.out, GE206.out, NB198_206.out, NB206_198.out, NB199_206.out, NB206_199.out, blw⟩)
 rintro ⟨v201, v204, gb206⟩ w11 ⟨hS_, h0_, h1_, h2_, h3_, h4_, h5_, h6_, h7_, h8_, h9_, h10_⟩
 have n0_ : Aside0 (Kd.R Kd.string 9 w11 w.heap.size (fun _ => True) v204 y203) := ⟨h0_⟩
 have n1_ : Aside0 (w11.heap[gb198]? = some (.cells #[.int .i64 a0_0, .int .i64 a0_1, .slice A0_2 l0_2.length c0_2, .slice A0_3 l0_3.length c0_3] 30 (0, 0))) := ⟨h1_⟩
 have n2_ : Aside0 (w11.heap[gb199]? = some (.cells #[.int .i64 0, .int .i64 0, .slice none 0 0, .slice none 0 0] 30 (0, 0))) := ⟨h2_⟩
 have n3_ : Aside0 (w11.heap[gb206]? = some (.cells #[.int .i64 0, .int .i64 0, .slice none 0 0, .slice none 0 0] 30 (0, 0))) := ⟨h3_⟩
 have n4_ : Aside0 (w.heap.size ≤ gb206) := ⟨h4_⟩
 have n5_ : Aside0 (w.heap.size ≤ gb206) := ⟨h5_⟩
 have n6_ : Aside0 (gb198 ≠ gb206) := ⟨h6_⟩
 have n7_ : Aside0 (gb206 ≠ gb198) := ⟨h7_⟩
 have n8_ : Aside0 (gb199 ≠ gb206) := ⟨h8_⟩
 have n9_ : Aside0 (gb206 ≠ gb199) := ⟨h9_⟩
 have n10_ : Aside0 (Below w.heap.size w w11) := ⟨h10_⟩
 clear BK198
 clear BK199
 clear HB
 clear h0_ h1_ h2_ h3_ h4_ h5_ h6_ h7_ h8_ h9_ h10_
 revert n0_ n1_ n2_ n3_ n4_ n5_ n6_ n7_ n8_ n9_ n10_
 intro HO205 BK198 BK199 BK206 GW206 GE206 NB198_206 NB206_198 NB199_206 NB206_199 HB
 have hHeld : w11.cell? ⟨gb198, 0, none⟩ = some (.int .i64 a0_0) ∧ w11.cell? ⟨gb198, 1, none⟩ = some (.int .i64 a0_1) ∧ w11.cell? ⟨gb198, 2, none⟩ = some (.slice A0_2 l0_2.length c0_2) ∧ w11.cell? ⟨gb198, 3, none⟩ = some (.slice A0_3 l0_3.length c0_3) := hS_
 obtain ⟨Ao12, co12, eo12⟩ := Kd.R_slice HO205.out
 (first | subst eo12 | (injection eo12 with f1_ f2_ f3_; have f4_ := f1_.symm; have f5_ := f3_.symm; clear f1_ f2_ f3_; subst f4_; subst f5_))
 refine norm_ (a' := ?_) ?_ ?_
 rotate_left
 ·simp only [putAll, Act.put, List.setIfInBounds_toArray, List.set_cons_zero, List.set_cons_succ]
  rfl
 refine one_ (i := 10) (N := none) (bm 11 2047) rfl rfl (one_of HT_.out kr) (by decide) (fun K hK => ?_)
 have hs13 : w11.cell? ⟨gb206, 0, none⟩ = some (.int .i64 0) := (blk_cell BK206.out 0).trans rfl
 have hfs13 := blk_frozen BK206.out 0
 have hns13_0 := NB198_206.out
 have hns13_1 := NB199_206.out
 have hms13_0 := NB206_198.out
 have hms13_1 := NB206_199.out
 have hs14 : w11.cell? ⟨gb206, 1, none⟩ = some (.int .i64 0) := (blk_cell BK206.out 1).trans rfl
 have hfs14 := blk_frozen BK206.out 1
 have hns14_0 := NB198_206.out
 have hns14_1 := NB199_206.out
 have hms14_0 := NB206_198.out
 have hms14_1 := NB206_199.out
 have hs15 : w11.cell? ⟨gb206, 2, none⟩ = some (.slice none 0 0) := (blk_cell BK206.out 2).trans rfl
 have hfs15 := blk_frozen BK206.out 2
 have hns15_0 := NB198_206.out
 have hns15_1 := NB199_206.out
 have hms15_0 := NB206_198.out
 have hms15_1 := NB206_199.out
 have hs16 : w11.cell? ⟨gb206, 3, none⟩ = some (.slice none 0 0) := (blk_cell BK206.out 3).trans rfl
 have hfs16 := blk_frozen BK206.out 3
 have hns16_0 := NB198_206.out
 have hns16_1 := NB199_206.out
 have hms16_0 := NB206_198.out
 have hms16_1 := NB206_199.out
 refine skip_ (w1 := ?_) (by rfl) rfl ?_ ?_
 rotate_left
 ·go_simp
  rfl
 refine hK.out _ _ ⟨((cell_far (p := ⟨gb206, _, none⟩) NB198_206.out _).trans (((cell_far (p := ⟨gb206, _, none⟩) NB198_206.out _).trans (((cell_far (p := ⟨gb206, _, none⟩) NB198_206.out _).trans (((cell_far (p := ⟨gb206, _, none⟩) NB198_206.out _).trans (hHeld.1)))))))), ((cell_far (p := ⟨gb206, _, none⟩) NB198_206.out _).trans (((cell_far (p := ⟨gb206, _, none⟩) NB198_206.out _).trans (((cell_far (p := ⟨gb206, _, none⟩) NB198_206.out _).trans (((cell_far (p := ⟨gb206, _, none⟩) NB198_206.out _).trans (hHeld.2.1)))))))), ((cell_far (p := ⟨gb206, _, none⟩) NB198_206.out _).trans (((cell_far (p := ⟨gb206, _, none⟩) NB198_206.out _).trans (((cell_far (p := ⟨gb206, _, none⟩) NB198_206.out _).trans (((cell_far (p := ⟨gb206, _, none⟩) NB198_206.out _).trans (hHeld.2.2.1)))))))), ((cell_far (p := ⟨gb206, _, none⟩) NB198_206.out _).trans (((cell_far (p := ⟨gb206, _, none⟩) NB198_206.out _).trans (((cell_far (p := ⟨gb206, _, none⟩) NB198_206.out _).trans (((cell_far (p := ⟨gb206, _, none⟩) NB198_206.out _).trans (hHeld.2.2.2))))))))⟩ (fun hHeld => ?_)
 clear hK K
 refine done_ (done_of HT_.out kr) ?_
 try go_wp2
 go_loopg [4] k (fun kq v4 w' => ∃ (x4_1 : Int) (x207003_1 : List (S30)) (u207003 : Value), v4 = .int .i64 x4_1 ∧ Aside0 (spec_CanonValue.l0 kq x4_1 a0_0 a0_1 l0_2 l0_3 a0_0 a0_1 y203 x207003_1 = some (r1, r2, r3, r4)) ∧ Aside0 (kq ≤ k) ∧ Aside0 (Kd.R Kd.string 9 w' w.heap.size (fun _ => True) (.slice Ao12 y203.length co12) y203) ∧ Aside0 (Kd.S k30 30 w' w.heap.size (fun k_ => some k_ ≠ ((.slice Ao12 y203.length co12) : Value).ownBlock ∧ k_ ≠ gb198 ∧ k_ ≠ gb199 ∧ k_ ≠ gb206) u207003 x207003_1) ∧ Aside0 (w'.heap[gb198]? = some (.cells #[.int .i64 a0_0, .int .i64 a0_1, (.slice A0_2 l0_2.length c0_2), (.slice A0_3 l0_3.length c0_3)] 30 (0, 0))) ∧ Aside0 (w'.heap[gb199]? = some (.cells #[.int .i64 0, .int .i64 0, (.slice none 0 0), (.slice none 0 0)] 30 (0, 0))) ∧ Aside0 (w'.heap[gb206]? = some (.cells #[.int .i64 a0_0, .int .i64 a0_1, (.slice Ao12 y203.length co12), u207003] 30 (0, 0))) ∧ Aside0 (Below w.heap.size w w'))
 case atStart => exact ⟨(0), (([] : List (S30))), (.slice none 0 0), rfs, H', ⟨Nat.le_refl _⟩, ⟨by (with_reducible repeat (first | apply Kd.R_alloc | apply Kd.R_drewN | apply Kd.R_drew)); exact Kd.R_mono (fr4 (g := gb206) (Kd.R_types HO205.out BK206.out (by decide)) (fun _ hk => hk.2) 0) (fun _ hk => trivial)⟩, ⟨by first | exact Kd.S_nil _ _ _ _ _ | exact Kd.N_nil _ _ _ _ _ | exact Kd.V_nil _ _ _ _ _ | exact Kd.Q_nil _ _ _ _ _ | exact Kd.R_nil _ _ _ _ _⟩, ⟨by (with_reducible repeat (first | refine blk_drewN ?_ _ | refine blk_drew ?_ | refine blk_alloc ?_ _)); refine blk_far ?_ NB198_206.out _; (with_reducible repeat (first | refine blk_drewN ?_ _ | refine blk_drew ?_ | refine blk_alloc ?_ _)); refine blk_far ?_ NB198_206.out _; (with_reducible repeat (first | refine blk_drewN ?_ _ | refine blk_drew ?_ | refine blk_alloc ?_ _)); refine blk_far ?_ NB198_206.out _; (with_reducible repeat (first | refine blk_drewN ?_ _ | refine blk_drew ?_ | refine blk_alloc ?_ _)); refine blk_far ?_ NB198_206.out _; (with_reducible repeat (first | refine blk_drewN ?_ _ | refine blk_drew ?_ | refine blk_alloc ?_ _)); exact BK198.out⟩, ⟨by (with_reducible repeat (first | refine blk_drewN ?_ _ | refine blk_drew ?_ | refine blk_alloc ?_ _)); refine blk_far ?_ NB199_206.out _; (with_reducible repeat (first | refine blk_drewN ?_ _ | refine blk_drew ?_ | refine blk_alloc ?_ _)); refine blk_far ?_ NB199_206.out _; (with_reducible repeat (first | refine blk_drewN ?_ _ | refine blk_drew ?_ | refine blk_alloc ?_ _)); refine blk_far ?_ NB199_206.out _; (with_reducible repeat (first | refine blk_drewN ?_ _ | refine blk_drew ?_ | refine blk_alloc ?_ _)); refine blk_far ?_ NB199_206.out _; (with_reducible repeat (first | refine blk_drewN ?_ _ | refine blk_drew ?_ | refine blk_alloc ?_ _)); exact BK199.out⟩, ⟨by (with_reducible repeat (first | refine blk_drewN ?_ _ | refine blk_drew ?_ | refine blk_alloc ?_ _)); refine blk_put (cs := #[.int .i64 a0_0, .int .i64 a0_1, .slice Ao12 y203.length co12, .slice none 0 0]) ?_ 3 _ rfl; (with_reducible repeat (first | refine blk_drewN ?_ _ | refine blk_drew ?_ | refine blk_alloc ?_ _)); refine blk_put (cs := #[.int .i64 a0_0, .int .i64 a0_1, .slice none 0 0, .slice none 0 0]) ?_ 2 _ rfl; (with_reducible repeat (first | refine blk_drewN ?_ _ | refine blk_drew ?_ | refine blk_alloc ?_ _)); refine blk_put (cs := #[.int .i64 a0_0, .int .i64 0, .slice none 0 0, .slice none 0 0]) ?_ 1 _ rfl; (with_reducible repeat (first | refine blk_drewN ?_ _ | refine blk_drew ?_ | refine blk_alloc ?_ _)); refine blk_put (cs := #[.int .i64 0, .int .i64 0, .slice none 0 0, .slice none 0 0]) ?_ 0 _ rfl; (with_reducible repeat (first | refine blk_drewN ?_ _ | refine blk_drew ?_ | refine blk_alloc ?_ _)); exact BK206.out⟩, ⟨blw⟩⟩
 case round =>
  clear H'
  (try clear c1); (try clear c2); (try clear p2); (try clear c13)
  obtain ⟨x4_1, x207003_1, u207003, rfl, HA, HK1, HO_207002, HO_207003, BK198, BK199, BK206, HB⟩ := hrel
  cases gk with
  | zero => exact absurd HA.out (by simp [spec_CanonValue.l0])
  | succ k1 =>
   have H := HA.out
   clear HA
   simp only [spec_CanonValue.l0] at H
   by_cases c17 : x4_1 < (l0_3.length : Int)
   case neg =>
    rw [if_neg c17] at H
    have c17b0 : decide (x4_1 < (l0_3.length : Int)) = false := decide_eq_false c17
    clear c17
    by_cases c32 : a0_0 = 4
    case neg =>
     rw [if_neg c32] at H
     have c32b0 : (a0_0 == 4) = false := beq_eq_false_iff_ne.mpr c32
     have c32b1 : (a0_0 != 4) = true := bne_iff_ne.mpr c32
     simp only [Option.some.injEq, Prod.mk.injEq] at H
     obtain ⟨rfl, rfl, rfl, rfl⟩ := H
     have hnb40 := NB198_199.out
     have hnc40 := NB199_198.out
     have hnb41 := NB198_206.out
     have hnc41 := NB206_198.out
     obtain ⟨hcz42_0, hcz42_1, hcz42_2, hcz42_3⟩ := cls4 BK198.out
     obtain ⟨hfz42_0, hfz42_1, hfz42_2, hfz42_3⟩ := frz4 BK198.out
     have hnb43 := NB206_199.out
     have hnc43 := NB199_206.out
     obtain ⟨hcz44_0, hcz44_1, hcz44_2, hcz44_3⟩ := cls4 BK206.out
     obtain ⟨hfz44_0, hfz44_1, hfz44_2, hfz44_3⟩ := frz4 BK206.out
     obtain ⟨hcz45_0, hcz45_1, hcz45_2, hcz45_3⟩ := cls4 BK199.out
     obtain ⟨hfz45_0, hfz45_1, hfz45_2, hfz45_3⟩ := frz4 BK199.out
     obtain ⟨Ao46, co46, eo46⟩ := Kd.S_slice HO_207003.out
     subst eo46
     go_wp2
     refine bodyPost_ret (results_cell_row rfl _ _ gb199 30 #[.int .i64 a0_0, .int .i64 a0_1, .slice Ao12 y203.length co12, .slice Ao46 x207003_1.length co46] (0, 0) _ rfl (by (with_reducible repeat (first | refine blk_drewN ?_ _ | refine blk_drew ?_ | refine blk_alloc ?_ _)); refine blk_put (cs := #[.int .i64 a0_0, .int .i64 a0_1, .slice Ao12 y203.length co12, .slice none 0 0]) ?_ 3 _ rfl; (with_reducible repeat (first | refine blk_drewN ?_ _ | refine blk_drew ?_ | refine blk_alloc ?_ _)); refine blk_put (cs := #[.int .i64 a0_0, .int .i64 a0_1, .slice none 0 0, .slice none 0 0]) ?_ 2 _ rfl; (with_reducible repeat (first | refine blk_drewN ?_ _ | refine blk_drew ?_ | refine blk_alloc ?_ _)); refine blk_put (cs := #[.int .i64 a0_0, .int .i64 0, .slice none 0 0, .slice none 0 0]) ?_ 1 _ rfl; (with_reducible repeat (first | refine blk_drewN ?_ _ | refine blk_drew ?_ | refine blk_alloc ?_ _)); refine blk_put (cs := #[.int .i64 0, .int .i64 0, .slice none 0 0, .slice none 0 0]) ?_ 0 _ rfl; (with_reducible repeat (first | refine blk_drewN ?_ _ | refine blk_drew ?_ | refine blk_alloc ?_ _)); exact BK199.out) Try.underlying30 rfl kr) rfl ?_
     exact ⟨_, _, rfw, by (with_reducible repeat (first | apply Kd.R_alloc | apply Kd.R_drewN | apply Kd.R_drew)); exact Kd.R_mono (fr4 (g := gb199) (Kd.R_types HO_207002.out BK199.out (by decide)) (fun _ hk => hk.2) 0) (fun _ hk => trivial), by (with_reducible repeat (first | apply Kd.S_alloc | apply Kd.S_drewN | apply Kd.S_drew)); exact Kd.S_mono (Kd.S_far (p := ⟨gb199, 3, none⟩) (Kd.S_far (p := ⟨gb199, 2, none⟩) (Kd.S_far (p := ⟨gb199, 1, none⟩) (Kd.S_far (p := ⟨gb199, 0, none⟩) (Kd.S_mono HO_207003.out (fun k_ hk => (⟨hk, hk.2.2.1⟩ : _ ∧ k_ ≠ gb199))) (fun _ hk => hk.2) (.int .i64 a0_0)) (fun _ hk => hk.2) (.int .i64 a0_1)) (fun _ hk => hk.2) (.slice Ao12 y203.length co12)) (fun _ hk => hk.2) (.slice Ao46 x207003_1.length co46)) (fun _ hk => hk.1.1), blw⟩
    rw [if_pos c32] at H
    have c32b0 : (a0_0 == 4) = true := beq_iff_eq.mpr c32
    have c32b1 : (a0_0 != 4) = false := bne_eq_false_iff_eq.mpr c32
    clear c32
    obtain ⟨s_, hs_, H⟩ := Option.bind_eq_some_iff.mp H
    obtain ⟨hsm_, hln_, hst_⟩ := srt_some hs_
    clear hs_
    have HSM_ := am hsm_; have HLN_ := am hln_; have HST_ := am hst_
    clear hsm_ hln_ hst_
    simp only [Option.some.injEq, Prod.mk.injEq] at H
    obtain ⟨rfl, rfl, rfl, rfl⟩ := H
    have hnb33 := NB198_199.out
    have hnc33 := NB199_198.out
    have hnb34 := NB198_206.out
    have hnc34 := NB206_198.out
    obtain ⟨hcz35_0, hcz35_1, hcz35_2, hcz35_3⟩ := cls4 BK198.out
    obtain ⟨hfz35_0, hfz35_1, hfz35_2, hfz35_3⟩ := frz4 BK198.out
    have hnb36 := NB206_199.out
    have hnc36 := NB199_206.out
    obtain ⟨hcz37_0, hcz37_1, hcz37_2, hcz37_3⟩ := cls4 BK206.out
    obtain ⟨hfz37_0, hfz37_1, hfz37_2, hfz37_3⟩ := frz4 BK206.out
    obtain ⟨Ao38, co38, eo38⟩ := Kd.S_slice HO_207003.out
    subst eo38
    obtain ⟨hcz39_0, hcz39_1, hcz39_2, hcz39_3⟩ := cls4 BK199.out
    obtain ⟨hfz39_0, hfz39_1, hfz39_2, hfz39_3⟩ := frz4 BK199.out
    go_wp2_with (fail)
    refine (l5_S w _ x207003_1 HLN_.out HSM_.out _ _ HO_207003.out HB.out (fun k_ hk => ⟨Kd.fresh' (Kd.R_lt HO_207002.out) k_ hk, Kd.freshB (g := gb198) BK198.out k_ hk, Kd.freshB (g := gb199) BK199.out k_ hk, Kd.freshB (g := gb206) BK206.out k_ hk⟩)).mono ?_
    rintro e w2 ⟨v2_, rfl, ho2, hb2⟩
    (try refine ⟨_, rfl, ?_⟩)
    replace HO_207002 := am (Kd.R_below HO_207002.out hb2)
    replace BK198 := am (blk_below BK198.out hb2)
    replace BK206 := am (blk_below BK206.out hb2)
    replace BK199 := am (blk_below BK199.out hb2)
    replace HB := am (below_step HB.out hb2)
    clear HO_207003
    have HO_207003 := am ho2
    clear ho2 hb2
    rw [← HST_.out] at HO_207003
    obtain ⟨Ao_n, co_n, eo_n⟩ := Kd.S_slice HO_207003.out
    subst eo_n
    clear hcz35_0 hcz35_1 hcz35_2 hcz35_3 hfz35_0 hfz35_1 hfz35_2 hfz35_3 hcz37_0 hcz37_1 hcz37_2 hcz37_3 hfz37_0 hfz37_1 hfz37_2 hfz37_3 hcz39_0 hcz39_1 hcz39_2 hcz39_3 hfz39_0 hfz39_1 hfz39_2 hfz39_3
    obtain ⟨hcz35_0, hcz35_1, hcz35_2, hcz35_3⟩ := cls4 BK198.out
    obtain ⟨hfz35_0, hfz35_1, hfz35_2, hfz35_3⟩ := frz4 BK198.out
    obtain ⟨hcz37_0, hcz37_1, hcz37_2, hcz37_3⟩ := cls4 BK206.out
    obtain ⟨hfz37_0, hfz37_1, hfz37_2, hfz37_3⟩ := frz4 BK206.out
    obtain ⟨hcz39_0, hcz39_1, hcz39_2, hcz39_3⟩ := cls4 BK199.out
    obtain ⟨hfz39_0, hfz39_1, hfz39_2, hfz39_3⟩ := frz4 BK199.out
    go_wp2
    refine bodyPost_ret (results_cell_row rfl _ _ gb199 30 #[.int .i64 a0_0, .int .i64 a0_1, .slice Ao12 y203.length co12, .slice Ao_n s_.length co_n] (0, 0) _ rfl (by (with_reducible repeat (first | refine blk_drewN ?_ _ | refine blk_drew ?_ | refine blk_alloc ?_ _)); refine blk_put (cs := #[.int .i64 a0_0, .int .i64 a0_1, .slice Ao12 y203.length co12, .slice none 0 0]) ?_ 3 _ rfl; (with_reducible repeat (first | refine blk_drewN ?_ _ | refine blk_drew ?_ | refine blk_alloc ?_ _)); refine blk_put (cs := #[.int .i64 a0_0, .int .i64 a0_1, .slice none 0 0, .slice none 0 0]) ?_ 2 _ rfl; (with_reducible repeat (first | refine blk_drewN ?_ _ | refine blk_drew ?_ | refine blk_alloc ?_ _)); refine blk_put (cs := #[.int .i64 a0_0, .int .i64 0, .slice none 0 0, .slice none 0 0]) ?_ 1 _ rfl; (with_reducible repeat (first | refine blk_drewN ?_ _ | refine blk_drew ?_ | refine blk_alloc ?_ _)); refine blk_put (cs := #[.int .i64 0, .int .i64 0, .slice none 0 0, .slice none 0 0]) ?_ 0 _ rfl; (with_reducible repeat (first | refine blk_drewN ?_ _ | refine blk_drew ?_ | refine blk_alloc ?_ _)); refine blk_far ?_ NB199_206.out _; (with_reducible repeat (first | refine blk_drewN ?_ _ | refine blk_drew ?_ | refine blk_alloc ?_ _)); exact BK199.out) Try.underlying30 rfl kr) rfl ?_
    exact ⟨_, _, rfw, by (with_reducible repeat (first | apply Kd.R_alloc | apply Kd.R_drewN | apply Kd.R_drew)); exact Kd.R_mono (fr4 (g := gb199) (Kd.R_far (p := ⟨gb206, 3, none⟩) (Kd.R_types (Kd.R_types HO_207002.out BK206.out (by decide)) BK199.out (by decide)) (fun _ hk => hk.1.2) (.slice Ao_n s_.length co_n)) (fun _ hk => hk.2) 0) (fun _ hk => trivial), by (with_reducible repeat (first | apply Kd.S_alloc | apply Kd.S_drewN | apply Kd.S_drew)); exact Kd.S_mono (Kd.S_far (p := ⟨gb199, 3, none⟩) (Kd.S_far (p := ⟨gb199, 2, none⟩) (Kd.S_far (p := ⟨gb199, 1, none⟩) (Kd.S_far (p := ⟨gb199, 0, none⟩) (Kd.S_far (p := ⟨gb206, 3, none⟩) (Kd.S_mono (Kd.S_mono HO_207003.out (fun k_ hk => (⟨hk, hk.2.2.2⟩ : _ ∧ k_ ≠ gb206))) (fun k_ hk => (⟨hk, hk.1.2.2.1⟩ : _ ∧ k_ ≠ gb199))) (fun _ hk => hk.1.2) (.slice Ao_n s_.length co_n)) (fun _ hk => hk.2) (.int .i64 a0_0)) (fun _ hk => hk.2) (.int .i64 a0_1)) (fun _ hk => hk.2) (.slice Ao12 y203.length co12)) (fun _ hk => hk.2) (.slice Ao_n s_.length co_n)) (fun _ hk => hk.1.1.1), blw⟩
   rw [if_pos c17] at H
   have c17b0 : decide (x4_1 < (l0_3.length : Int)) = true := decide_eq_true c17
   clear c17
   by_cases c18 : 0 ≤ x4_1
   case neg =>
    rw [if_neg c18] at H
    exact absurd H (by simp)
   rw [if_pos c18] at H
   have c18b0 : decide (0 ≤ x4_1) = true := decide_eq_true c18
   clear c18
   replace H := Option.bind_eq_some_iff.mp H
   obtain ⟨⟨t208, t209, t210, t213⟩, A190, H⟩ := H
   replace H : (if x207003_1.length < 2199023255552 then (spec_CanonValue.l0 k1 (wrap64 (x4_1 + 1)) a0_0 a0_1 l0_2 l0_3 a0_0 a0_1 y203 (x207003_1 ++ [(⟨t208, t209, t210, t213⟩ : S30)])) else (none)) = some (r1, r2, r3, r4) := H
   have A19 := am A190
   clear A190
   by_cases c20 : x207003_1.length < 2199023255552
   case neg =>
    rw [if_neg c20] at H
    exact absurd H (by simp)
   rw [if_pos c20] at H
   have LMc20 := am c20
   clear c20
   obtain ⟨y216, hy216⟩ : ∃ y_ : List (S30), y_ = (x207003_1 ++ [(⟨t208, t209, t210, t213⟩ : S30)]) := ⟨_, rfl⟩
   replace H : (spec_CanonValue.l0 k1 (wrap64 (x4_1 + 1)) a0_0 a0_1 l0_2 l0_3 a0_0 a0_1 y203 y216) = some (r1, r2, r3, r4) := by first | (rw [hy216]; with_reducible exact H) | (have H2_ := (Option.bind_some _ _).symm.trans H; rw [hy216]; with_reducible exact H2_) | (have H2_ := (Option.bind_some _ _).symm.trans H; with_reducible exact H2_) | with_reducible exact H | (rw [hy216]; exact H) | exact H
   have Ny216 := am hy216
   clear hy216
   have H' := am H
   clear H
   have hnb21 := NB198_199.out
   have hnc21 := NB199_198.out
   have hnb22 := NB198_206.out
   have hnc22 := NB206_198.out
   obtain ⟨hcz23_0, hcz23_1, hcz23_2, hcz23_3⟩ := cls4 BK198.out
   obtain ⟨hfz23_0, hfz23_1, hfz23_2, hfz23_3⟩ := frz4 BK198.out
   try go_wp2
   have n0_ := am (Kd.R_drew HO_207002.out)
   have n1_ := am (Kd.S_drew HO_207003.out)
   have n2_ := am (blk_drew BK198.out)
   have n3_ := am (blk_drew BK199.out)
   have n4_ := am (blk_drew BK206.out)
   have n5_ := am (below_drew1 HB.out)
   clear HO_207002
   clear HO_207003
   clear BK198
   clear BK199
   clear BK206
   clear HB
   revert n0_ n1_ n2_ n3_ n4_ n5_
   intro HO_207002 HO_207003 BK198 BK199 BK206 HB
   have p207 : 0 ≤ (x4_1 : Int) := of_decide_eq_true asw
   have q207 : x4_1 < (l0_3.length : Int) := of_decide_eq_true asw
   obtain ⟨ad207, A207_2, c207_2, A207_3, c207_3, e207, hx207_0, hx207_1, hx207_2, hx207_3, hl207_2, hi207_2, hl207_3, hi207_3⟩ := at_T30 HR0_3.out x4_1 p207 q207
   have hw207_3 := hx207_3
   have hw207_2 := hx207_2
   have hw207_1 := hx207_1
   have hw207_0 := hx207_0
   cases e207
   replace hx207_0 := upw HB.out hx207_0
   replace hx207_1 := upw HB.out hx207_1
   replace hx207_2 := upw HB.out hx207_2
   replace hx207_3 := upw HB.out hx207_3
   have HR207_2 := am hi207_2
   have HC207_2 := am hl207_2
   clear hi207_2 hl207_2
   have HR207_3 := am hi207_3
   have HC207_3 := am hl207_3
   clear hi207_3 hl207_3
   replace p207 := eq_true p207
   replace q207 := eq_true q207
   refine start_ (n := 12) (S := fun w' => w'.cell? ⟨gb206, 0, none⟩ = some (.int .i64 a0_0) ∧ w'.cell? ⟨gb206, 1, none⟩ = some (.int .i64 a0_1) ∧ w'.cell? ⟨gb206, 2, none⟩ = some (.slice Ao12 y203.length co12) ∧ w'.cell? ⟨gb206, 3, none⟩ = some (u207003) ∧ w'.cell? ⟨gb198, 0, none⟩ = some (.int .i64 a0_0) ∧ w'.cell? ⟨gb198, 1, none⟩ = some (.int .i64 a0_1) ∧ w'.cell? ⟨gb198, 2, none⟩ = some (.slice A0_2 l0_2.length c0_2) ∧ w'.cell? ⟨gb198, 3, none⟩ = some (.slice (some ad207) l0_3.length c0_3) ∧ w'.cell? (ad207.add ((x4_1).toNat * 4)) = some (.int .i64 ((rd_T30 l0_3 x4_1).f0)) ∧ w'.cell? ⟨(ad207.add ((x4_1).toNat * 4)).block, (ad207.add ((x4_1).toNat * 4)).off + 1, none⟩ = some (.int .i64 ((rd_T30 l0_3 x4_1).f1)) ∧ w'.cell? ⟨(ad207.add ((x4_1).toNat * 4)).block, (ad207.add ((x4_1).toNat * 4)).off + 2, none⟩ = some (.slice A207_2 ((rd_T30 l0_3 x4_1).f2).length c207_2) ∧ w'.cell? ⟨(ad207.add ((x4_1).toNat * 4)).block, (ad207.add ((x4_1).toNat * 4)).off + 3, none⟩ = some (.slice A207_3 ((rd_T30 l0_3 x4_1).f3).length c207_3)) (ds := [11]) #[false,false,false,false,false,false,false,false,false,false,false,false] kr rfl rfl ⟨(blk_cell BK206.out 0).trans rfl, (blk_cell BK206.out 1).trans rfl, (blk_cell BK206.out 2).trans rfl, (blk_cell BK206.out 3).trans rfl, (blk_cell BK198.out 0).trans rfl, (blk_cell BK198.out 1).trans rfl, (blk_cell BK198.out 2).trans rfl, (blk_cell BK198.out 3).trans rfl, ((upw HB.out hw207_0 : _)), ((upw HB.out hw207_1 : _)), ((upw HB.out hw207_2 : _)), ((upw HB.out hw207_3 : _))⟩ (fun hHeld => ?_); refine with_tabW spec_CanonValue.tab5 spec_CanonValue.bits5 (fun HT_ HW_ => ?_)
   generalize wr.drew = w24 at HO_207002 HO_207003 BK198 BK199 BK206 HB HR207_2 HR207_3 hx207_0 hx207_1 hx207_2 hx207_3 hHeld ⊢
   refine pure_ (i := 0) (N := some 21) (v := ?_) (a' := ?_) (bm 12 1) rfl rfl (any_of HT_.out kr) qi (Or.inl ⟨by rfl, ?_⟩) ?_ ?_
   rotate_left
   ·intro w'
    go_simp
    with_reducible rfl
   rotate_left
   ·simp only [sx]
    rfl
   refine pure_ (i := 2) (N := some 23) (v := ?_) (a' := ?_) (bm 12 5) rfl rfl (any_of HT_.out kr) qi (Or.inl ⟨by rfl, ?_⟩) ?_ ?_
   rotate_left
   ·intro w'
    go_simp
    with_reducible rfl
   rotate_left
   ·simp only [sx]
    rfl
   refine pure_ (i := 4) (N := some 25) (v := ?_) (a' := ?_) (bm 12 21) rfl rfl (any_of HT_.out kr) qi (Or.inl ⟨by rfl, ?_⟩) ?_ ?_
   rotate_left
   ·intro w'
    go_simp
    with_reducible rfl
   rotate_left
   ·simp only [sx]
    rfl
   refine take_ (i := 1) (N := some 22) (v := ?_) (a' := ?_) (bm 12 23) rfl rfl (take_ofW HT_.out HW_.out kr) qi (Or.inl ⟨by rfl, ?_⟩) hHeld ?_ ?_
   rotate_left
   ·rintro w' ⟨s0, s1, s2, s3, s4, s5, s6, s7, s8, s9, s10, s11⟩
    go_simp
    with_reducible rfl
   rotate_left
   ·simp only [sx]
    rfl
   refine take_ (i := 3) (N := some 24) (v := ?_) (a' := ?_) (bm 12 31) rfl rfl (take_ofW HT_.out HW_.out kr) qi (Or.inl ⟨by rfl, ?_⟩) hHeld ?_ ?_
   rotate_left
   ·rintro w' ⟨s0, s1, s2, s3, s4, s5, s6, s7, s8, s9, s10, s11⟩
    go_simp
    with_reducible rfl
   rotate_left
   ·simp only [sx]
    rfl
   refine pure_ (i := 5) (N := some 26) (v := ?_) (a' := ?_) (bm 12 63) rfl rfl (any_of HT_.out kr) qi (Or.inl ⟨by rfl, ?_⟩) ?_ ?_
   rotate_left
   ·intro w'
    go_simp
    with_reducible rfl
   rotate_left
   ·simp only [sx]
    rfl
   refine take_ (i := 6) (N := some 27) (v := ?_) (a' := ?_) (bm 12 127) rfl rfl (take_ofW HT_.out HW_.out kr) qi (Or.inl ⟨by rfl, ?_⟩) hHeld ?_ ?_
   rotate_left
   ·rintro w' ⟨s0, s1, s2, s3, s4, s5, s6, s7, s8, s9, s10, s11⟩
    go_simp
    with_reducible rfl
   rotate_left
   ·simp only [sx]
    rfl
   refine one_ (i := 7) (N := some 28) (bm 12 255) rfl rfl (one_of HT_.out kr) (by decide) (fun K hK => ?_)
   refine goes_ Try.func13 kr rfl #[.agg #[.int .i64 ((rd_T30 l0_3 x4_1).f0), .int .i64 ((rd_T30 l0_3 x4_1).f1), .slice A207_2 ((rd_T30 l0_3 x4_1).f2).length c207_2, .slice A207_3 ((rd_T30 l0_3 x4_1).f3).length c207_3]] (by rfl) rfl rfl mpw ?_
   with_reducible refine (ih k1 (by have := HK1.out; omega) ((rd_T30 l0_3 x4_1).f0) ((rd_T30 l0_3 x4_1).f1) _ _ ((rd_T30 l0_3 x4_1).f2) _ _ ((rd_T30 l0_3 x4_1).f3) t208 t209 t210 t213 _ ?side1 ?side2 ?side3 ?side4 A19.out).mono ?_
   (case side1 => have X_ := HR207_2; exact cbl)
   (case side2 => exact HC207_2.out)
   (case side3 => have X_ := HR207_3; exact cbl)
   (case side4 => exact HC207_3.out)
   rintro e w25 ⟨v211, v214, rfl, ho0, ho1, hb⟩
   refine ⟨_, rfl, ?_⟩
   obtain ⟨N26, EN26⟩ := Ow.name_size hb
   have n0_ := am (Kd.R_elder' (by (with_reducible repeat (first | apply Kd.R_alloc | apply Kd.R_drewN | apply Kd.R_drew)); exact HO_207002.out) (Kd.R_base ho0) hb)
   have n1_ := am (Ow.S_ltN (Kd.S_told (Kd.S_told (Kd.S_old (by (with_reducible repeat (first | apply Kd.S_alloc | apply Kd.S_drewN | apply Kd.S_drew)); exact HO_207003.out) hb) (Kd.R_base ho0)) (Kd.S_base ho1)) EN26.out)
   have n2_ := am (Kd.R_lower (Ow.R_geN (Kd.R_new' ho0 (Kd.R_lt (by (with_reducible repeat (first | apply Kd.R_alloc | apply Kd.R_drewN | apply Kd.R_drew)); exact HO_207002.out))) EN26.out) (below_size blw))
   have n3_ := am (Kd.S_lower (Ow.S_geN (Kd.S_newB (Kd.S_newB (Kd.S_newB (Kd.S_new' (Kd.S_new' ho1 (Kd.R_lt (by (with_reducible repeat (first | apply Kd.R_alloc | apply Kd.R_drewN | apply Kd.R_drew)); exact HO_207002.out))) (Kd.S_lt (by (with_reducible repeat (first | apply Kd.S_alloc | apply Kd.S_drewN | apply Kd.S_drew)); exact HO_207003.out))) (g := gb198) (o := .cells #[.int .i64 a0_0, .int .i64 a0_1, .slice A0_2 l0_2.length c0_2, .slice (some ad207) l0_3.length c0_3] 30 (0, 0)) bkw) (g := gb199) (o := .cells #[.int .i64 0, .int .i64 0, .slice none 0 0, .slice none 0 0] 30 (0, 0)) bkw) (g := gb206) (o := .cells #[.int .i64 a0_0, .int .i64 a0_1, .slice Ao12 y203.length co12, u207003] 30 (0, 0)) bkw) EN26.out) (below_size blw))
   have n4_ := am (blk_below (g := gb198) bkw hb)
   have n5_ := am (blk_below (g := gb199) bkw hb)
   have n6_ := am (blk_below (g := gb206) bkw hb)
   have n7_ := am (below_step blw hb)
   clear HO_207002
   clear HO_207003
   clear BK198
   clear BK199
   clear BK206
   clear HB
   revert n0_ n1_ n2_ n3_ n4_ n5_ n6_ n7_
   intro HO_207002 HO_207003 HO212 HO215 BK198 BK199 BK206 HB
   (try clear hb)
   (try clear hb2)
   (try clear hk)
   (try clear hi)
   (try clear ho0)
   (try clear ho1)
   obtain ⟨Ao28, co28, eo28⟩ := Kd.R_slice HO212.out
   (first | subst eo28 | (injection eo28 with f1_ f2_ f3_; have f4_ := f1_.symm; have f5_ := f3_.symm; clear f1_ f2_ f3_; subst f4_; subst f5_))
   obtain ⟨Ao29, co29, eo29⟩ := Kd.S_slice HO215.out
   (first | subst eo29 | (injection eo29 with f1_ f2_ f3_; have f4_ := f1_.symm; have f5_ := f3_.symm; clear f1_ f2_ f3_; subst f4_; subst f5_))
   refine hK.out _ _ ⟨(blk_cell BK206.out 0).trans rfl, (blk_cell BK206.out 1).trans rfl, (blk_cell BK206.out 2).trans rfl, (blk_cell BK206.out 3).trans rfl, (blk_cell BK198.out 0).trans rfl, (blk_cell BK198.out 1).trans rfl, (blk_cell BK198.out 2).trans rfl, (blk_cell BK198.out 3).trans rfl, ((upw HB.out hw207_0 : _)), ((upw HB.out hw207_1 : _)), ((upw HB.out hw207_2 : _)), ((upw HB.out hw207_3 : _))⟩ (fun hHeld => ?_)
   clear hK K
   refine norm_ (a' := ?_) ?_ ?_
   rotate_left
   ·show Act.put _ (some 28) _ = _
    simp only [sx]
    rfl
   refine one_ (i := 8) (N := some 29) (bm 12 511) rfl rfl (one_of HT_.out kr) (by decide) (fun K hK => ?_)
   refine value_ (w1 := ?_) (v := ?_) (by rfl) rfl ?_ ?_
   rotate_left 2
   ·go_simp
    constructor
    ·rfl
    ·rfl
   refine hK.out _ _ ⟨(blk_cell (blk_alloc BK206.out _) 0).trans rfl, (blk_cell (blk_alloc BK206.out _) 1).trans rfl, (blk_cell (blk_alloc BK206.out _) 2).trans rfl, (blk_cell (blk_alloc BK206.out _) 3).trans rfl, (blk_cell (blk_alloc BK198.out _) 0).trans rfl, (blk_cell (blk_alloc BK198.out _) 1).trans rfl, (blk_cell (blk_alloc BK198.out _) 2).trans rfl, (blk_cell (blk_alloc BK198.out _) 3).trans rfl, (World.cell?_alloc_lt _ _ _ (World.block_lt_of_cell? _ _ (((upw HB.out hw207_0 : _))))).trans (((upw HB.out hw207_0 : _))), (World.cell?_alloc_lt _ _ _ (World.block_lt_of_cell? _ _ (((upw HB.out hw207_1 : _))))).trans (((upw HB.out hw207_1 : _))), (World.cell?_alloc_lt _ _ _ (World.block_lt_of_cell? _ _ (((upw HB.out hw207_2 : _))))).trans (((upw HB.out hw207_2 : _))), (World.cell?_alloc_lt _ _ _ (World.block_lt_of_cell? _ _ (((upw HB.out hw207_3 : _))))).trans (((upw HB.out hw207_3 : _)))⟩ (fun hHeld => ?_)
   clear hK K
   refine norm_ (a' := ?_) ?_ ?_
   rotate_left
   ·show Act.put _ (some 29) _ = _
    simp only [sx]
    rfl
   refine one_ (i := 9) (N := some 30) (bm 12 1023) rfl rfl (one_of HT_.out kr) (by decide) (fun K hK => ?_)
   refine Kd.S_append_step k30 (w0 := w) w.heap.size (by rfl) (.tmp 22) (.tmp 29) 28 30 (.agg #[(.int .i64 0), (.int .i64 0), (.slice none 0 0), (.slice none 0 0)]) 64 rfl Try.underlying28 info30 rfl (by decide) (by omega) u207003 x207003_1 (⟨t208, t209, t210, t213⟩ : S30) [.int .i64 t208, .int .i64 t209, .slice Ao28 t210.length co28, .slice Ao29 t213.length co29] (fun k_ => some k_ ≠ (.slice Ao12 y203.length co12 : Value).ownBlock ∧ k_ ≠ gb198 ∧ k_ ≠ gb199 ∧ k_ ≠ gb206) (fun k_ => N26 ≤ k_ ∧ ((fun k_ => some k_ ≠ (.slice Ao12 y203.length co12 : Value).ownBlock ∧ k_ ≠ gb198 ∧ k_ ≠ gb199 ∧ k_ ≠ gb206)) k_ ∧ some k_ ≠ (u207003 : Value).ownBlock) rfl rfl ?aP (fun _ hk => ⟨hk.2.1, hk.2.2⟩) ?aF ?aO ?aB ?aS ?aL ?_
   (case aP => exact k30_mkA _ _ _ (⟨t208, t209, t210, t213⟩ : S30) (Kd.R_mono (Kd.R_types (Kd.R_types (Kd.R_types (Kd.R_apart' (HO212.out) (Kd.S_typed HO_207003.out) (by decide)) BK198.out (by decide)) BK199.out (by decide)) BK206.out (by decide)) (fun k_ hk => ⟨hk.1.1.1.1.2, ⟨hk.1.1.1.1.1.2, ⟨hk.1.1.2, ⟨hk.1.2, hk.2⟩⟩⟩, hk.1.1.1.2⟩)) (Kd.S_mono (HO215.out) (fun k_ hk => ⟨⟨hk.2, ⟨hk.1.1.1.1.1.2, ⟨hk.1.1.1.2, ⟨hk.1.1.2, hk.1.2⟩⟩⟩, hk.1.1.1.1.2⟩, hk.1.1.1.1.1.1⟩)))
   (case aB => exact blw)
   (case aF => exact (fun k_ hk => ⟨Kd.fresh' (Kd.R_lt (by (with_reducible repeat (first | apply Kd.R_alloc | apply Kd.R_drewN | apply Kd.R_drew)); exact HO_207002.out)) k_ hk, Kd.freshB (g := gb198) (o := .cells #[.int .i64 a0_0, .int .i64 a0_1, .slice A0_2 l0_2.length c0_2, .slice (some ad207) l0_3.length c0_3] 30 (0, 0)) bkw k_ hk, Kd.freshB (g := gb199) (o := .cells #[.int .i64 0, .int .i64 0, .slice none 0 0, .slice none 0 0] 30 (0, 0)) bkw k_ hk, Kd.freshB (g := gb206) (o := .cells #[.int .i64 a0_0, .int .i64 a0_1, .slice Ao12 y203.length co12, u207003] 30 (0, 0)) bkw k_ hk⟩))
   (case aO => exact (by (with_reducible repeat (first | apply Kd.S_alloc | apply Kd.S_drewN | apply Kd.S_drew)); exact Kd.S_mono HO_207003.out (fun k_ hk => ⟨⟨hk.1.1.1.1, ⟨hk.1.1.1.2.1, ⟨hk.1.1.1.2.2.1, hk.1.1.1.2.2.2⟩⟩⟩, fun e_ => Nat.not_le_of_lt (hk.2) e_.1⟩)))
   (case aS => exact (below_size blw))
   (case aL => have := LMc20.out; omega)
   intro v217 w27 ho hb hg hat
   rw [← Ny216.out] at ho
   have n0_ := am (Kd.R_over' (by (with_reducible repeat (first | apply Kd.R_alloc | apply Kd.R_drewN | apply Kd.R_drew)); exact HO_207002.out) (Kd.S_typed (by (with_reducible repeat (first | apply Kd.S_alloc | apply Kd.S_drewN | apply Kd.S_drew)); exact HO_207003.out)) (by decide) hg)
   have n1_ := am (blk_grown (g := gb198) (o := .cells #[.int .i64 a0_0, .int .i64 a0_1, .slice A0_2 l0_2.length c0_2, .slice (some ad207) l0_3.length c0_3] 30 (0, 0)) bkw hg (Kd.S_away HO_207003.out (fun _ hk => hk.1.1.1.2.1)))
   have n2_ := am (blk_grown (g := gb199) (o := .cells #[.int .i64 0, .int .i64 0, .slice none 0 0, .slice none 0 0] 30 (0, 0)) bkw hg (Kd.S_away HO_207003.out (fun _ hk => hk.1.1.1.2.2.1)))
   have n3_ := am (blk_grown (g := gb206) (o := .cells #[.int .i64 a0_0, .int .i64 a0_1, .slice Ao12 y203.length co12, u207003] 30 (0, 0)) bkw hg (Kd.S_away HO_207003.out (fun _ hk => hk.1.1.1.2.2.2)))
   have n4_ := am (hb)
   have n5_ := am (ho)
   clear HO_207002
   clear BK198
   clear BK199
   clear BK206
   clear HB
   clear HO_207003
   clear HO212
   clear HO215
   revert n0_ n1_ n2_ n3_ n4_ n5_
   intro HO_207002 BK198 BK199 BK206 HB HO218
   clear ho hb hg hat
   obtain ⟨Ao30, co30, eo30⟩ := Kd.S_slice HO218.out
   (first | subst eo30 | (injection eo30 with f1_ f2_ f3_; have f4_ := f1_.symm; have f5_ := f3_.symm; clear f1_ f2_ f3_; subst f4_; subst f5_))
   refine hK.out _ _ ⟨(blk_cell BK206.out 0).trans rfl, (blk_cell BK206.out 1).trans rfl, (blk_cell BK206.out 2).trans rfl, (blk_cell BK206.out 3).trans rfl, (blk_cell BK198.out 0).trans rfl, (blk_cell BK198.out 1).trans rfl, (blk_cell BK198.out 2).trans rfl, (blk_cell BK198.out 3).trans rfl, ((upw HB.out hw207_0 : _)), ((upw HB.out hw207_1 : _)), ((upw HB.out hw207_2 : _)), ((upw HB.out hw207_3 : _))⟩ (fun hHeld => ?_)
   clear hK K
   refine norm_ (a' := ?_) ?_ ?_
   rotate_left
   ·show Act.put _ (some 30) _ = _
    simp only [sx]
    rfl
   refine pure_ (i := 10) (N := some 31) (v := ?_) (a' := ?_) (bm 12 2047) rfl rfl (any_of HT_.out kr) qi (Or.inl ⟨by rfl, ?_⟩) ?_ ?_
   rotate_left
   ·intro w'
    go_simp
    with_reducible rfl
   rotate_left
   ·simp only [sx]
    rfl
   refine last_ (i := 11) (N := none) (bm 12 4095) rfl rfl (one_of HT_.out kr) (by decide) (fun K hK => ?_)
   have hs31 : w27.cell? ⟨gb206, 3, none⟩ = some (u207003) := (blk_cell BK206.out 3).trans rfl
   have hfs31 := blk_frozen BK206.out 3
   have hns31_0 := NB198_206.out
   have hns31_1 := NB199_206.out
   have hms31_0 := NB206_198.out
   have hms31_1 := NB206_199.out
   refine skip_ (w1 := ?_) (by rfl) rfl ?_ ?_
   rotate_left
   ·go_simp
    rfl
   refine hK.out _ _ ?_
   clear hK K
   refine done_ (done_of HT_.out kr) ?_
   try go_wp2
   go_roundg k1
   case measure => have := HK1.out; omega
   case rel => exact ⟨(wrap64 (x4_1 + 1)), (y216), (.slice Ao30 y216.length co30), rfs, H', ⟨by have := HK1.out; omega⟩, ⟨by (with_reducible repeat (first | apply Kd.R_alloc | apply Kd.R_drewN | apply Kd.R_drew)); exact Kd.R_mono (Kd.R_far (p := ⟨gb206, 3, none⟩) (Kd.R_types HO_207002.out BK206.out (by decide)) (fun _ hk => hk.2) (.slice Ao30 y216.length co30)) (fun _ hk => trivial)⟩, ⟨by (with_reducible repeat (first | apply Kd.S_alloc | apply Kd.S_drewN | apply Kd.S_drew)); exact Kd.S_mono (Kd.S_far (p := ⟨gb206, 3, none⟩) (Kd.S_mono HO218.out (fun k_ hk => (⟨hk, hk.2.2.2⟩ : _ ∧ k_ ≠ gb206))) (fun _ hk => hk.2) (.slice Ao30 y216.length co30)) (fun _ hk => ⟨hk.1.1, ⟨hk.1.2.1, ⟨hk.1.2.2.1, hk.1.2.2.2⟩⟩⟩)⟩, ⟨by (with_reducible repeat (first | refine blk_drewN ?_ _ | refine blk_drew ?_ | refine blk_alloc ?_ _)); refine blk_far ?_ NB198_206.out _; (with_reducible repeat (first | refine blk_drewN ?_ _ | refine blk_drew ?_ | refine blk_alloc ?_ _)); exact BK198.out⟩, ⟨by (with_reducible repeat (first | refine blk_drewN ?_ _ | refine blk_drew ?_ | refine blk_alloc ?_ _)); refine blk_far ?_ NB199_206.out _; (with_reducible repeat (first | refine blk_drewN ?_ _ | refine blk_drew ?_ | refine blk_alloc ?_ _)); exact BK199.out⟩, ⟨by (with_reducible repeat (first | refine blk_drewN ?_ _ | refine blk_drew ?_ | refine blk_alloc ?_ _)); refine blk_put (cs := #[.int .i64 a0_0, .int .i64 a0_1, .slice Ao12 y203.length co12, u207003]) ?_ 3 _ rfl; (with_reducible repeat (first | refine blk_drewN ?_ _ | refine blk_drew ?_ | refine blk_alloc ?_ _)); exact BK206.out⟩, ⟨blw⟩⟩

end Go.Proofs.Ytonimhfahjediaa.Pk
end
section
namespace Go.Proofs.Ytonimhfahjediaa.Pk
open Go.RowKit Go.Proofs.Ytonimhfahjediaa.Ext Go.Proofs.YtonimhfahjediaaW.PrintWords Go.Proofs.YtonimhfahjediaaW.PrintLast Go.Proofs.YtonimhfahjediaaW.PrintMore
attribute [local go_sem] max2_int min2_int max_two min_two max_three min_three max_four min_four   -- for this text's walks alone
set_option linter.unusedVariables false
set_option linter.unusedSimpArgs false

end Go.Proofs.Ytonimhfahjediaa.Pk
end
section
namespace Go.Proofs.Ytonimhfahjediaa.Pk
open Go.RowKit Go.Proofs.YtonimhfahjediaaW.PrintWords Go.Proofs.YtonimhfahjediaaW.PrintLast Go.Proofs.Ytonimhfahjediaa.Pl Go.Proofs.Ytonimhfahjediaa.Ext
set_option linter.unusedVariables false
set_option linter.unusedSimpArgs false
theorem srt_can (xs : List S30) (hs : ∀ x ∈ xs, SmValue x) (hl : xs.length ≤ 1048576) : srt (xs.map canT) = some (St.stable ltT z30 (xs.map canT)) :=
  srt_eq (fun y hy => by obtain ⟨u, hu, rfl⟩ := List.mem_map.1 hy; exact sm_canT u (hs u hu)) (by rw [List.length_map]; exact hl)
theorem can_take {xs : List S30} {i : Nat} (h : i < xs.length) : (xs.take i).map canT ++ [(⟨(canT (xs.getD i z30)).f0, (canT (xs.getD i z30)).f1, (canT (xs.getD i z30)).f2, (canT (xs.getD i z30)).f3⟩ : S30)] = (xs.take (i + 1)).map canT := by
  rw [etaValue, List.take_succ_eq_append_getElem h, List.map_append]
  simp [List.getD_eq_getElem?_getD, h]
theorem can_bag {x : S30} (h : x.f0 = 4) : ((x.f0, x.f1, x.f2, St.stable ltT z30 (x.f3.map canT)) : Int × Int × List ByteArray × List S30) = ((canT x).f0, (canT x).f1, (canT x).f2, (canT x).f3) := by
  rw [canT_eq, if_pos h]
theorem can_else {x : S30} (h : ¬ x.f0 = 4) : ((x.f0, x.f1, x.f2, x.f3.map canT) : Int × Int × List ByteArray × List S30) = ((canT x).f0, (canT x).f1, (canT x).f2, (canT x).f3) := by
  rw [canT_eq, if_neg h]
theorem specCanon_ev : ∀ x : S30, SmValue x → Ev (fun k => spec_CanonValue.f k x.f0 x.f1 x.f2 x.f3) ((canT x).f0, (canT x).f1, (canT x).f2, (canT x).f3) := by
  refine indValueI fun x ih hs => ?_
  have lp : ∀ d i : Nat, d = x.f3.length - i → i ≤ x.f3.length → Ev (fun k => spec_CanonValue.l0 k (i : Int) x.f0 x.f1 x.f2 x.f3 x.f0 x.f1 x.f2 ((x.f3.take i).map canT)) ((canT x).f0, (canT x).f1, (canT x).f2, (canT x).f3) := by
    intro d
    induction d with
    | zero =>
      intro i hd hi
      rw [List.take_of_length_le (by omega : x.f3.length ≤ i)]
      refine Ev.up ?_
      simp only [spec_CanonValue.l0]
      refine Ev.neg (by omega) ?_
      by_cases h : x.f0 = 4
      · refine Ev.pos h (Ev.fix (srt_can x.f3 hs.p3.2 hs.p3.1) (Ev.const (can_bag h)))
      · exact Ev.neg h (Ev.const (can_else h))
    | succ d ihd =>
      intro i hd hi
      have hlt : i < x.f3.length := by omega
      refine Ev.up ?_
      simp only [spec_CanonValue.l0, w1' hlt hs.p3.1]
      refine Ev.pos (by omega) (Ev.pos (by omega) (Ev.bind (ih (x.f3.getD i z30) (mem_getD x.f3 z30 i hlt) (hs.p3.2 _ (mem_getD x.f3 z30 i hlt))) (Ev.pos (by have := hs.p3.1; rw [List.length_map, List.length_take]; omega) ?_)))
      have := ihd (i + 1) (by omega) (by omega)
      rw [← can_take hlt] at this
      exact this
  refine Ev.up ?_
  simp only [spec_CanonValue.f, Option.bind_some, List.nil_append, List.length_nil]
  refine Ev.pos (by have := hs.p2.1; omega) ?_
  exact lp (x.f3.length - 0) 0 rfl (by omega)
theorem implCanon_ev : ∀ x : S30, SmValue x → Ev (fun k => impl_CanonValue.f k x.f0 x.f1 x.f2 x.f3) ((canT x).f0, (canT x).f1, (canT x).f2, (canT x).f3) := by
  refine indValueI fun x ih hs => ?_
  have hcl : slices_Clone_string_string.f x.f2 = some x.f2 := by
    unfold slices_Clone_string_string.f
    rw [if_pos (by have := hs.p2.1; omega)]
  have lp : ∀ d i : Nat, d = x.f3.length - i → i ≤ x.f3.length → Ev (fun k => impl_CanonValue.l0 k x.f3 (x.f3.length : Int) (i : Int) x.f0 x.f1 x.f2 x.f3 x.f0 x.f1 x.f2 ((x.f3.take i).map canT)) ((canT x).f0, (canT x).f1, (canT x).f2, (canT x).f3) := by
    intro d
    induction d with
    | zero =>
      intro i hd hi
      rw [List.take_of_length_le (by omega : x.f3.length ≤ i)]
      refine Ev.up ?_
      simp only [impl_CanonValue.l0]
      refine Ev.neg (by omega) ?_
      by_cases h : x.f0 = 4
      · refine Ev.pos h (Ev.fix (srt_can x.f3 hs.p3.2 hs.p3.1) (Ev.const (can_bag h)))
      · exact Ev.neg h (Ev.const (can_else h))
    | succ d ihd =>
      intro i hd hi
      have hlt : i < x.f3.length := by omega
      refine Ev.up ?_
      simp only [impl_CanonValue.l0, w1' hlt hs.p3.1]
      refine Ev.pos (by omega) (Ev.pos (by omega) (Ev.pos (by omega) (Ev.bind (ih (x.f3.getD i z30) (mem_getD x.f3 z30 i hlt) (hs.p3.2 _ (mem_getD x.f3 z30 i hlt))) (Ev.pos (by have := hs.p3.1; rw [List.length_map, List.length_take]; omega) ?_))))
      have := ihd (i + 1) (by omega) (by omega)
      rw [← can_take hlt] at this
      exact this
  refine Ev.up ?_
  simp only [impl_CanonValue.f, hcl, Option.bind_some]
  exact lp (x.f3.length - 0) 0 rfl (by omega)
end Go.Proofs.Ytonimhfahjediaa.Pk
end
