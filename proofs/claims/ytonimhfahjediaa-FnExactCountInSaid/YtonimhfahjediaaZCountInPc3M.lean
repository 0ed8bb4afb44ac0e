/- Printed by a program of this session: what functions of the translation come to, each contract as it stands. No condition. -/
import Derived.Test.YtonimhfahjediaaZCountInSh
import Derived.Test.YtonimhfahjediaaZCountInWLastM
import Derived.Test.YtonimhfahjediaaZCountInPcSortSM
import Derived.Test.YtonimhfahjediaaZCountInPc1M
section
namespace Go.Proofs.Ytonimhfahjediaa.Pc
open Go.RowKit Go.Proofs.Ytonimhfahjediaa.Ext Go.Proofs.YtonimhfahjediaaW.PrintWords Go.Proofs.YtonimhfahjediaaW.PrintLast Go.Proofs.YtonimhfahjediaaW.PrintMore
attribute [local go_sem] max2_int min2_int max_two min_two max_three min_three max_four min_four   -- for this text's walks alone
set_option linter.unusedVariables false
set_option linter.unusedSimpArgs false

/-! ### spec_CanonValue: function 13 -/
mutual
noncomputable def spec_CanonValue.l0 : Nat → Int → Int → Int → List ByteArray → List (S30) → Int → Int → List ByteArray → List (S30) → Option (Int × Int × List ByteArray × (List (S30)))
 | 0, _, _, _, _, _, _, _, _, _ => none
 | k + 1, x4, x163000, x163001, x163002, x163003, x171000, x171001, x171002, x171003 => if x4 < (x163003.length : Int) then (if 0 ≤ x4 then ((spec_CanonValue.f k ((rd_T30 x163003 x4).f0) ((rd_T30 x163003 x4).f1) ((rd_T30 x163003 x4).f2) ((rd_T30 x163003 x4).f3)).bind fun bt172 => (if x171003.length < 2199023255552 then (spec_CanonValue.l0 k (wrap64 (x4 + 1)) x163000 x163001 x163002 x163003 x171000 x171001 x171002 (x171003 ++ [(⟨bt172.1, bt172.2.1, bt172.2.2.1, bt172.2.2.2⟩ : S30)])) else (none))) else (none)) else (if x163000 = 4 then ((srt x171003).bind fun s_ => (some (x171000, x171001, x171002, s_))) else (some (x171000, x171001, x171002, x171003)))
noncomputable def spec_CanonValue.f : Nat → Int → Int → List ByteArray → List (S30) → Option (Int × Int × List ByteArray × (List (S30)))
 | 0, _, _, _, _ => none
 | k + 1, a0_0, a0_1, l0_2, l0_3 => (some (([] : List ByteArray) : List ByteArray)).bind fun y164 => (if y164.length + l0_2.length < 8796093022208 then (spec_CanonValue.l0 k 0 a0_0 a0_1 l0_2 l0_3 a0_0 a0_1 (y164 ++ l0_2) ([] : List (S30))) else (none))
end
def spec_CanonValue.T1 : Bool × List (List Nat × List Nat) := (true, [([], []), ([0], [0]), ([], []), ([2], [2]), ([], []), ([], []), ([5], [5]), ([4, 6], [4, 6]), ([1, 3, 7], [1, 3, 7]), ([], []), ([9, 8, 7, 0, 1, 2, 3, 4, 5, 6, 7, 8, 9], [8, 9])])
def spec_CanonValue.B1 : List Nat := [0, 1, 0, 4, 0, 0, 32, 112, 255, 0, 1023]
theorem spec_CanonValue.tab1 : rtab .any (opsOf Try.f13 1) = spec_CanonValue.T1 := by kernel_rfl
theorem spec_CanonValue.bits1 : waitsOk spec_CanonValue.T1.2 spec_CanonValue.B1 = true := by kernel_rfl
def spec_CanonValue.T5 : Bool × List (List Nat × List Nat) := (true, [([], []), ([0], [0]), ([], []), ([2], [2]), ([], []), ([3, 4], [3, 4]), ([5], [5]), ([6], [6]), ([7], [7]), ([1, 8, 7], [1, 8]), ([0, 1, 2, 3, 4, 5, 6, 7, 8, 9], []), ([10, 9, 9, 0, 1, 2, 3, 4, 5, 6, 7, 8, 9], [9, 10])])
def spec_CanonValue.B5 : List Nat := [0, 1, 0, 4, 0, 28, 60, 124, 252, 511, 1023, 2047]
theorem spec_CanonValue.tab5 : rtab .any (opsOf Try.f13 5) = spec_CanonValue.T5 := by kernel_rfl
theorem spec_CanonValue.bits5 : waitsOk spec_CanonValue.T5.2 spec_CanonValue.B5 = true := by kernel_rfl
set_option maxHeartbeats 8000000 in
set_option maxRecDepth 100000 in
theorem spec_CanonValue.calls (k : Nat) : ∀ (a0_0 : Int) (a0_1 : Int) (A0_2 : Option Addr) (c0_2 : Nat) (l0_2 : List ByteArray) (A0_3 : Option Addr) (c0_3 : Nat) (l0_3 : List (S30)) (r1 : Int) (r2 : Int) (r3 : List ByteArray) (r4 : List (S30)) (w : World) (hr0_2 : Kd.C Kd.string w A0_2 l0_2.length l0_2) (hc0_2 : l0_2.length ≤ c0_2) (hr0_3 : Kd.C k30 w A0_3 l0_3.length l0_3) (hc0_3 : l0_3.length ≤ c0_3) (h : spec_CanonValue.f k a0_0 a0_1 l0_2 l0_3 = some (r1, r2, r3, r4)),
  Calls Try.prog 13 #[.agg #[.int .i64 a0_0, .int .i64 a0_1, .slice A0_2 l0_2.length c0_2, .slice A0_3 l0_3.length c0_3]] w fun e w' => ∃ v2_ v3_ : Value, e = .returned (.agg #[.int .i64 r1, .int .i64 r2, v2_, v3_]) ∧ Kd.R Kd.string 9 w' w.heap.size (fun _ => True) v2_ r3 ∧ Kd.R k30 30 w' w.heap.size (fun k_ => some k_ ≠ (v2_ : Value).ownBlock) v3_ r4 ∧ Below w.heap.size w w' := by
 induction k using Nat.strongRecOn with
 | _ k ih =>
 intro a0_0 a0_1 A0_2 c0_2 l0_2 A0_3 c0_3 l0_3 r1 r2 r3 r4 w hr0_2 hc0_2 hr0_3 hc0_3 h
 cases k with
 | zero => exact absurd h (by simp [spec_CanonValue.f])
 | succ k =>
 simp only [spec_CanonValue.f] at h
 have hu30 := Try.underlying30
 have HR0_2 := am hr0_2
 have HC0_2 := am hc0_2
 clear hr0_2 hc0_2
 have HR0_3 := am hr0_3
 have HC0_3 := am hc0_3
 clear hr0_3 hc0_3
 have HB := am (Below.refl w.heap.size w)
 have H : ((some (([] : List ByteArray) : List ByteArray)).bind fun y164 => (if y164.length + l0_2.length < 8796093022208 then (spec_CanonValue.l0 k 0 a0_0 a0_1 l0_2 l0_3 a0_0 a0_1 (y164 ++ l0_2) ([] : List (S30))) else (none))) = some (r1, r2, r3, r4) := h
 clear h
 obtain ⟨y164, hy164⟩ : ∃ y_ : List ByteArray, y_ = (([] : List ByteArray)) := ⟨_, rfl⟩
 replace H : (if y164.length + l0_2.length < 8796093022208 then (spec_CanonValue.l0 k 0 a0_0 a0_1 l0_2 l0_3 a0_0 a0_1 (y164 ++ l0_2) ([] : List (S30))) else (none)) = some (r1, r2, r3, r4) := by first | (rw [hy164]; with_reducible exact H) | (have H2_ := (Option.bind_some _ _).symm.trans H; rw [hy164]; with_reducible exact H2_) | (have H2_ := (Option.bind_some _ _).symm.trans H; with_reducible exact H2_) | with_reducible exact H | (rw [hy164]; exact H) | exact H
 have Ny164 := am hy164
 clear hy164
 by_cases c2 : y164.length + l0_2.length < 8796093022208
 case neg =>
  rw [if_neg c2] at H
  exact absurd H (by simp)
 rw [if_pos c2] at H
 have LMc2 := am c2
 clear c2
 obtain ⟨y167, hy167⟩ : ∃ y_ : List ByteArray, y_ = (y164 ++ l0_2) := ⟨_, rfl⟩
 replace H : (spec_CanonValue.l0 k 0 a0_0 a0_1 l0_2 l0_3 a0_0 a0_1 y167 ([] : List (S30))) = some (r1, r2, r3, r4) := by first | (rw [hy167]; with_reducible exact H) | (have H2_ := (Option.bind_some _ _).symm.trans H; rw [hy167]; with_reducible exact H2_) | (have H2_ := (Option.bind_some _ _).symm.trans H; with_reducible exact H2_) | with_reducible exact H | (rw [hy167]; exact H) | exact H
 have Ny167 := am hy167
 clear hy167
 have H' := am H
 clear H
 go_enter Try.func13, Try.ntmps13
 try go_wp2_with (first | ((with_reducible refine gate_dst (N := 1) rfl ?_); refine box_event ?hg (N := 1) ?hd (cs := #[.int .i64 a0_0, .int .i64 a0_1, .slice A0_2 l0_2.length c0_2, .slice A0_3 l0_3.length c0_3]) (t := 30) ?hr ?_; (case hd => rfl); (case hg => rfl); (case hr => exact hrw); intro gb162 hg w3 hbox hb; have n0_ := am (below_step blw hb); have n1_ := am (hbox); have n2_ := am ((by rw [hg]; exact (below_size blw) : w.heap.size ≤ gb162)); have n3_ := n2_; clear HB; revert n0_ n1_ n2_ n3_; intro HB BK162 GW162 GE162; clear hb hbox hg) | ((with_reducible refine gate_dst (N := 2) rfl ?_); refine box_event ?hg (N := 2) ?hd (cs := #[.int .i64 0, .int .i64 0, .slice none 0 0, .slice none 0 0]) (t := 30) ?hr ?_; (case hd => rfl); (case hg => rfl); (case hr => exact hrw); intro gb163 hg w4 hbox hb; have n0_ := am (blk_below (g := gb162) bkw hb); have n1_ := am (below_step blw hb); have n2_ := am (hbox); have n3_ := am ((by rw [hg]; exact (below_size blw) : w.heap.size ≤ gb163)); have n4_ := n3_; have n5_ := am ((by rw [hg]; exact Nat.ne_of_lt (blk_lt (g := gb162) bkw) : gb162 ≠ gb163)); have n6_ := am ((by rw [hg]; exact Nat.ne_of_gt (blk_lt (g := gb162) bkw) : gb163 ≠ gb162)); clear BK162; clear HB; revert n0_ n1_ n2_ n3_ n4_ n5_ n6_; intro BK162 HB BK163 GW163 GE163 NB162_163 NB163_162; clear hb hbox hg))
 have n0_ := am (blk_drew BK162.out)
 have n1_ := am (blk_drew BK163.out)
 have n2_ := am (below_drew1 HB.out)
 clear BK162
 clear BK163
 clear HB
 revert n0_ n1_ n2_
 intro BK162 BK163 HB
 refine start_ (n := 11) (S := fun w' => w'.cell? ⟨gb162, 0, none⟩ = some (.int .i64 a0_0) ∧ w'.cell? ⟨gb162, 1, none⟩ = some (.int .i64 a0_1) ∧ w'.cell? ⟨gb162, 2, none⟩ = some (.slice A0_2 l0_2.length c0_2) ∧ w'.cell? ⟨gb162, 3, none⟩ = some (.slice A0_3 l0_3.length c0_3)) (ds := []) #[false,false,false,false,false,false,false,false,false,false,false] kr rfl rfl ⟨(blk_cell BK162.out 0).trans rfl, (blk_cell BK162.out 1).trans rfl, (blk_cell BK162.out 2).trans rfl, (blk_cell BK162.out 3).trans rfl⟩ (fun hHeld => ?_); refine with_tabW spec_CanonValue.tab1 spec_CanonValue.bits1 (fun HT_ HW_ => ?_)
 generalize w4.drew = w5 at BK162 BK163 HB hHeld ⊢
 refine pure_ (i := 0) (N := some 5) (v := ?_) (a' := ?_) (bm 11 1) rfl rfl (any_of HT_.out kr) qi (Or.inl ⟨by rfl, ?_⟩) ?_ ?_
 rotate_left
 ·intro w'
  go_simp
  with_reducible rfl
 rotate_left
 ·simp only [sx]
  rfl
 refine pure_ (i := 2) (N := some 7) (v := ?_) (a' := ?_) (bm 11 5) rfl rfl (any_of HT_.out kr) qi (Or.inl ⟨by rfl, ?_⟩) ?_ ?_
 rotate_left
 ·intro w'
  go_simp
  with_reducible rfl
 rotate_left
 ·simp only [sx]
  rfl
 refine pure_ (i := 5) (N := some 10) (v := ?_) (a' := ?_) (bm 11 37) rfl rfl (any_of HT_.out kr) qi (Or.inl ⟨by rfl, ?_⟩) ?_ ?_
 rotate_left
 ·intro w'
  go_simp
  with_reducible rfl
 rotate_left
 ·simp only [sx]
  rfl
 refine take_ (i := 1) (N := some 6) (v := ?_) (a' := ?_) (bm 11 39) rfl rfl (take_ofW HT_.out HW_.out kr) qi (Or.inl ⟨by rfl, ?_⟩) hHeld ?_ ?_
 rotate_left
 ·rintro w' ⟨s0, s1, s2, s3⟩
  go_simp
  with_reducible rfl
 rotate_left
 ·simp only [sx]
  rfl
 refine take_ (i := 3) (N := some 8) (v := ?_) (a' := ?_) (bm 11 47) rfl rfl (take_ofW HT_.out HW_.out kr) qi (Or.inl ⟨by rfl, ?_⟩) hHeld ?_ ?_
 rotate_left
 ·rintro w' ⟨s0, s1, s2, s3⟩
  go_simp
  with_reducible rfl
 rotate_left
 ·simp only [sx]
  rfl
 refine take_ (i := 6) (N := some 11) (v := ?_) (a' := ?_) (bm 11 111) rfl rfl (take_ofW HT_.out HW_.out kr) qi (Or.inl ⟨by rfl, ?_⟩) hHeld ?_ ?_
 rotate_left
 ·rintro w' ⟨s0, s1, s2, s3⟩
  go_simp
  with_reducible rfl
 rotate_left
 ·simp only [sx]
  rfl
 refine join_ (σ := Value × Value × Nat) 1 #[true,true,true,true,true,true,true,true,true,true,false] (fun s_ => [(9, s_.1), (12, s_.2.1), (3, .pointer (some ⟨s_.2.2, 0, none⟩)), (13, .agg #[.int .i64 a0_0, .int .i64 a0_1, s_.2.1, .slice none 0 0])]) (fun s_ w' => (w'.cell? ⟨gb162, 0, none⟩ = some (.int .i64 a0_0) ∧ w'.cell? ⟨gb162, 1, none⟩ = some (.int .i64 a0_1) ∧ w'.cell? ⟨gb162, 2, none⟩ = some (.slice A0_2 l0_2.length c0_2) ∧ w'.cell? ⟨gb162, 3, none⟩ = some (.slice A0_3 l0_3.length c0_3)) ∧ (Kd.R Kd.string 9 w' w.heap.size (fun _ => True) s_.2.1 y167) ∧ (w'.heap[gb162]? = some (.cells #[.int .i64 a0_0, .int .i64 a0_1, .slice A0_2 l0_2.length c0_2, .slice A0_3 l0_3.length c0_3] 30 (0, 0))) ∧ (w'.heap[gb163]? = some (.cells #[.int .i64 0, .int .i64 0, .slice none 0 0, .slice none 0 0] 30 (0, 0))) ∧ (w'.heap[s_.2.2]? = some (.cells #[.int .i64 0, .int .i64 0, .slice none 0 0, .slice none 0 0] 30 (0, 0))) ∧ (w.heap.size ≤ s_.2.2) ∧ (w.heap.size ≤ s_.2.2) ∧ (gb162 ≠ s_.2.2) ∧ (s_.2.2 ≠ gb162) ∧ (gb163 ≠ s_.2.2) ∧ (s_.2.2 ≠ gb163) ∧ (Below w.heap.size w w')) ?_ ?_
 rotate_left
 ·intro hCont
  refine two_ (i := 4) (j := 9) (Ni := some 9) (Nj := some 3) #[true,true,true,true,true,true,true,false,false,false,false] #[true,true,true,true,false,true,true,false,false,true,false] rfl rfl rfl rfl (two_of HT_.out kr) (by decide) (by decide) (fun K hK => ?_) (fun K hK => ?_)
  ·skip
   refine Kd.R_lit_step Kd.string _ 9 ?hg (N := 9) ?hd (xs := ([] : List ByteArray)) (inner := []) (ok := fun _ => True) (okp := fun _ => True) ?hr ?hp (fun _ hk => hk) trivial (Below.refl _ _) (Nat.le_refl _) (by simp) ?_; (case hd => rfl); (case hg => rfl); (case hr => exact hrw); (case hp => exact (Reps.none _ _))
   intro v165 w6 ho7 hb hg_ hnew_
   clear hg_ hnew_
   (first | rw [← Ny164.out] at ho7 | (simp only [Int.reduceToNat] at ho7; rw [← Ny164.out] at ho7))
   have n0_ := am (Kd.R_lower ho7 (below_size blw))
   have n1_ := am (blk_below (g := gb162) bkw hb)
   have n2_ := am (blk_below (g := gb163) bkw hb)
   have n3_ := am (below_step blw hb)
   clear BK162
   clear BK163
   clear HB
   revert n0_ n1_ n2_ n3_
   intro HO166 BK162 BK163 HB
   clear hb ho7
   refine hK.out _ _ ⟨(blk_cell BK162.out 0).trans rfl, (blk_cell BK162.out 1).trans rfl, (blk_cell BK162.out 2).trans rfl, (blk_cell BK162.out 3).trans rfl⟩ (fun hHeld => ?_)
   clear hK K
   refine norm_ (a' := ?_) ?_ ?_
   rotate_left
   ·show Act.put _ (some 9) _ = _
    simp only [sx]
    rfl
   refine two_ (i := 7) (j := 9) (Ni := some 12) (Nj := some 3) #[true,true,true,true,true,true,true,true,false,false,false] #[true,true,true,true,true,true,true,false,false,true,false] rfl rfl rfl rfl (two_of HT_.out kr) (by decide) (by decide) (fun K hK => ?_) (fun K hK => ?_)
   ·skip
    refine Kd.R_append_rows_step Kd.string (w0 := w) w.heap.size (by rfl) (.tmp 9) (.tmp 11) 22 9 (.string ⟨#[]⟩) 16 rfl Try.underlying22 info9 rfl (by decide) (by omega) v165 y164 l0_2 _ _ _ (fun _ => True) (fun _ => False) rfl rfl ?aO ?aR (fun _ _ h => h) (fun _ h => h.elim) ?aF ?aB ?aS ?aL ?_
    (case aR => repeat (first | exact (Kd.C_below HR0_2.out HB.out) | (with_reducible refine Kd.C_alloc ?_ _) | (with_reducible refine Kd.C_drewN ?_ _) | (with_reducible refine Kd.C_drew ?_)))
    (case aB => exact blw)
    (case aF => exact (fun _ _ => trivial))
    (case aO => exact (by (with_reducible repeat (first | apply Kd.R_alloc | apply Kd.R_drewN | apply Kd.R_drew)); exact HO166.out))
    (case aS => exact (below_size blw))
    (case aL => have := LMc2.out; omega)
    intro v168 w8 ho hb hg hat
    rw [← Ny167.out] at ho
    have n0_ := am (blk_grown (g := gb162) (o := .cells #[.int .i64 a0_0, .int .i64 a0_1, .slice A0_2 l0_2.length c0_2, .slice A0_3 l0_3.length c0_3] 30 (0, 0)) bkw hg (Kd.R_ne HO166.out BK162.out (by decide)))
    have n1_ := am (blk_grown (g := gb163) (o := .cells #[.int .i64 0, .int .i64 0, .slice none 0 0, .slice none 0 0] 30 (0, 0)) bkw hg (Kd.R_ne HO166.out BK163.out (by decide)))
    have n2_ := am (hb)
    have n3_ := am (ho)
    clear BK162
    clear BK163
    clear HB
    clear HO166
    revert n0_ n1_ n2_ n3_
    intro BK162 BK163 HB HO169
    clear ho hb hg hat
    obtain ⟨Ao9, co9, eo9⟩ := Kd.R_slice HO169.out
    (first | subst eo9 | (injection eo9 with f1_ f2_ f3_; have f4_ := f1_.symm; have f5_ := f3_.symm; clear f1_ f2_ f3_; subst f4_; subst f5_))
    refine hK.out _ _ ⟨(blk_cell BK162.out 0).trans rfl, (blk_cell BK162.out 1).trans rfl, (blk_cell BK162.out 2).trans rfl, (blk_cell BK162.out 3).trans rfl⟩ (fun hHeld => ?_)
    clear hK K
    refine norm_ (a' := ?_) ?_ ?_
    rotate_left
    ·show Act.put _ (some 12) _ = _
     simp only [sx]
     rfl
    refine pure_ (i := 8) (N := some 13) (v := ?_) (a' := ?_) (bm 11 511) rfl rfl (any_of HT_.out kr) qi (Or.inl ⟨by rfl, ?_⟩) ?_ ?_
    rotate_left
    ·intro w'
     go_simp
     with_reducible rfl
    rotate_left
    ·simp only [sx]
     rfl
    refine one_ (i := 9) (N := some 3) (bm 11 1023) rfl rfl (one_of HT_.out kr) (by decide) (fun K hK => ?_)
    refine box_step ?hg (N := 3) ?hd (cs := #[.int .i64 0, .int .i64 0, .slice none 0 0, .slice none 0 0]) (t := 30) ?hr ?_; (case hd => rfl); (case hg => rfl); (case hr => exact hrw)
    intro gb170 hg w10 hbox hb
    have n0_ := am (Kd.R_below (by (with_reducible repeat (first | apply Kd.R_alloc | apply Kd.R_drewN | apply Kd.R_drew)); exact HO169.out) hb)
    have n1_ := am (blk_below (g := gb162) bkw hb)
    have n2_ := am (blk_below (g := gb163) bkw hb)
    have n3_ := am (below_step blw hb)
    have n4_ := am (hbox)
    have n5_ := am ((by rw [hg]; exact (below_size blw) : w.heap.size ≤ gb170))
    have n6_ := am ((by rw [hg]; exact (below_size blw) : w.heap.size ≤ gb170))
    have n7_ := am ((by rw [hg]; exact Nat.ne_of_lt (blk_lt (g := gb162) bkw) : gb162 ≠ gb170))
    have n8_ := am ((by rw [hg]; exact Nat.ne_of_gt (blk_lt (g := gb162) bkw) : gb170 ≠ gb162))
    have n9_ := am ((by rw [hg]; exact Nat.ne_of_lt (blk_lt (g := gb163) bkw) : gb163 ≠ gb170))
    have n10_ := am ((by rw [hg]; exact Nat.ne_of_gt (blk_lt (g := gb163) bkw) : gb170 ≠ gb163))
    clear HO169
    clear BK162
    clear BK163
    clear HB
    revert n0_ n1_ n2_ n3_ n4_ n5_ n6_ n7_ n8_ n9_ n10_
    intro HO169 BK162 BK163 HB BK170 GW170 GE170 NB162_170 NB170_162 NB163_170 NB170_163
    clear hb hbox hg
    refine hK.out _ _ ⟨(blk_cell BK162.out 0).trans rfl, (blk_cell BK162.out 1).trans rfl, (blk_cell BK162.out 2).trans rfl, (blk_cell BK162.out 3).trans rfl⟩ (fun hHeld => ?_)
    clear hK K
    refine norm_ (a' := ?_) ?_ ?_
    rotate_left
    ·show Act.put _ (some 3) _ = _
     simp only [sx]
     rfl
    exact norm_ (by simp only [putAll, Act.put, List.setIfInBounds_toArray, List.set_cons_zero, List.set_cons_succ]) (hCont (v165, .slice Ao9 y167.length co9, gb170) _ ⟨hHeld, (by (with_reducible repeat (first | apply Kd.R_alloc | apply Kd.R_drewN | apply Kd.R_drew)); exact HO169.out), bkw, bkw, bkw, GW170.out, GE170.out, NB162_170.out, NB170_162.out, NB163_170.out, NB170_163.out, blw⟩)
   ·skip
    refine box_step ?hg (N := 3) ?hd (cs := #[.int .i64 0, .int .i64 0, .slice none 0 0, .slice none 0 0]) (t := 30) ?hr ?_; (case hd => rfl); (case hg => rfl); (case hr => exact hrw)
    intro gb170 hg w8 hbox hb
    have n0_ := am (Kd.R_below (by (with_reducible repeat (first | apply Kd.R_alloc | apply Kd.R_drewN | apply Kd.R_drew)); exact HO166.out) hb)
    have n1_ := am (blk_below (g := gb162) bkw hb)
    have n2_ := am (blk_below (g := gb163) bkw hb)
    have n3_ := am (below_step blw hb)
    have n4_ := am (hbox)
    have n5_ := am ((by rw [hg]; exact (below_size blw) : w.heap.size ≤ gb170))
    have n6_ := am ((by rw [hg]; exact (below_size blw) : w.heap.size ≤ gb170))
    have n7_ := am ((by rw [hg]; exact Nat.ne_of_lt (blk_lt (g := gb162) bkw) : gb162 ≠ gb170))
    have n8_ := am ((by rw [hg]; exact Nat.ne_of_gt (blk_lt (g := gb162) bkw) : gb170 ≠ gb162))
    have n9_ := am ((by rw [hg]; exact Nat.ne_of_lt (blk_lt (g := gb163) bkw) : gb163 ≠ gb170))
    have n10_ := am ((by rw [hg]; exact Nat.ne_of_gt (blk_lt (g := gb163) bkw) : gb170 ≠ gb163))
    clear HO166
    clear BK162
    clear BK163
    clear HB
    revert n0_ n1_ n2_ n3_ n4_ n5_ n6_ n7_ n8_ n9_ n10_
    intro HO166 BK162 BK163 HB BK170 GW170 GE170 NB162_170 NB170_162 NB163_170 NB170_163
    clear hb hbox hg
    refine hK.out _ _ ⟨(blk_cell BK162.out 0).trans rfl, (blk_cell BK162.out 1).trans rfl, (blk_cell BK162.out 2).trans rfl, (blk_cell BK162.out 3).trans rfl⟩ (fun hHeld => ?_)
    clear hK K
    refine norm_ (a' := ?_) ?_ ?_
    rotate_left
    ·show Act.put _ (some 3) _ = _
     simp only [sx]
     rfl
    refine one_ (i := 7) (N := some 12) (bm 11 767) rfl rfl (one_of HT_.out kr) (by decide) (fun K hK => ?_)
    refine Kd.R_append_rows_step Kd.string (w0 := w) w.heap.size (by rfl) (.tmp 9) (.tmp 11) 22 9 (.string ⟨#[]⟩) 16 rfl Try.underlying22 info9 rfl (by decide) (by omega) v165 y164 l0_2 _ _ _ (fun _ => True) (fun _ => False) rfl rfl ?aO ?aR (fun _ _ h => h) (fun _ h => h.elim) ?aF ?aB ?aS ?aL ?_
    (case aR => repeat (first | exact (Kd.C_below HR0_2.out HB.out) | (with_reducible refine Kd.C_alloc ?_ _) | (with_reducible refine Kd.C_drewN ?_ _) | (with_reducible refine Kd.C_drew ?_)))
    (case aB => exact blw)
    (case aF => exact (fun _ _ => trivial))
    (case aO => exact (by (with_reducible repeat (first | apply Kd.R_alloc | apply Kd.R_drewN | apply Kd.R_drew)); exact HO166.out))
    (case aS => exact (below_size blw))
    (case aL => have := LMc2.out; omega)
    intro v168 w9 ho hb hg hat
    rw [← Ny167.out] at ho
    have n0_ := am (blk_grown (g := gb162) (o := .cells #[.int .i64 a0_0, .int .i64 a0_1, .slice A0_2 l0_2.length c0_2, .slice A0_3 l0_3.length c0_3] 30 (0, 0)) bkw hg (Kd.R_ne HO166.out BK162.out (by decide)))
    have n1_ := am (blk_grown (g := gb163) (o := .cells #[.int .i64 0, .int .i64 0, .slice none 0 0, .slice none 0 0] 30 (0, 0)) bkw hg (Kd.R_ne HO166.out BK163.out (by decide)))
    have n2_ := am (blk_grown (g := gb170) (o := .cells #[.int .i64 0, .int .i64 0, .slice none 0 0, .slice none 0 0] 30 (0, 0)) bkw hg (Kd.R_ne HO166.out BK170.out (by decide)))
    have n3_ := am (hb)
    have n4_ := am (ho)
    clear BK162
    clear BK163
    clear BK170
    clear HB
    clear HO166
    revert n0_ n1_ n2_ n3_ n4_
    intro BK162 BK163 BK170 HB HO169
    clear ho hb hg hat
    obtain ⟨Ao10, co10, eo10⟩ := Kd.R_slice HO169.out
    (first | subst eo10 | (injection eo10 with f1_ f2_ f3_; have f4_ := f1_.symm; have f5_ := f3_.symm; clear f1_ f2_ f3_; subst f4_; subst f5_))
    refine hK.out _ _ ⟨(blk_cell BK162.out 0).trans rfl, (blk_cell BK162.out 1).trans rfl, (blk_cell BK162.out 2).trans rfl, (blk_cell BK162.out 3).trans rfl⟩ (fun hHeld => ?_)
    clear hK K
    refine norm_ (a' := ?_) ?_ ?_
    rotate_left
    ·show Act.put _ (some 12) _ = _
     simp only [sx]
     rfl
    refine pure_ (i := 8) (N := some 13) (v := ?_) (a' := ?_) (bm 11 1023) rfl rfl (any_of HT_.out kr) qi (Or.inl ⟨by rfl, ?_⟩) ?_ ?_
    rotate_left
    ·intro w'
     go_simp
     with_reducible rfl
    rotate_left
    ·simp only [sx]
     rfl
    exact norm_ (by simp only [putAll, Act.put, List.setIfInBounds_toArray, List.set_cons_zero, List.set_cons_succ]) (hCont (v165, .slice Ao10 y167.length co10, gb170) _ ⟨hHeld, (by (with_reducible repeat (first | apply Kd.R_alloc | apply Kd.R_drewN | apply Kd.R_drew)); exact HO169.out), bkw, bkw, bkw, GW170.out, GE170.out, NB162_170.out, NB170_162.out, NB163_170.out, NB170_163.out, blw⟩)
  ·skip
   refine box_step ?hg (N := 3) ?hd (cs := #[.int .i64 0, .int .i64 0, .slice none 0 0, .slice none 0 0]) (t := 30) ?hr ?_; (case hd => rfl); (case hg => rfl); (case hr => exact hrw)
   intro gb170 hg w6 hbox hb
   have n0_ := am (blk_below (g := gb162) bkw hb)
   have n1_ := am (blk_below (g := gb163) bkw hb)
   have n2_ := am (below_step blw hb)
   have n3_ := am (hbox)
   have n4_ := am ((by rw [hg]; exact (below_size blw) : w.heap.size ≤ gb170))
   have n5_ := am ((by rw [hg]; exact (below_size blw) : w.heap.size ≤ gb170))
   have n6_ := am ((by rw [hg]; exact Nat.ne_of_lt (blk_lt (g := gb162) bkw) : gb162 ≠ gb170))
   have n7_ := am ((by rw [hg]; exact Nat.ne_of_gt (blk_lt (g := gb162) bkw) : gb170 ≠ gb162))
   have n8_ := am ((by rw [hg]; exact Nat.ne_of_lt (blk_lt (g := gb163) bkw) : gb163 ≠ gb170))
   have n9_ := am ((by rw [hg]; exact Nat.ne_of_gt (blk_lt (g := gb163) bkw) : gb170 ≠ gb163))
   clear BK162
   clear BK163
   clear HB
   revert n0_ n1_ n2_ n3_ n4_ n5_ n6_ n7_ n8_ n9_
   intro BK162 BK163 HB BK170 GW170 GE170 NB162_170 NB170_162 NB163_170 NB170_163
   clear hb hbox hg
   refine hK.out _ _ ⟨(blk_cell BK162.out 0).trans rfl, (blk_cell BK162.out 1).trans rfl, (blk_cell BK162.out 2).trans rfl, (blk_cell BK162.out 3).trans rfl⟩ (fun hHeld => ?_)
   clear hK K
   refine norm_ (a' := ?_) ?_ ?_
   rotate_left
   ·show Act.put _ (some 3) _ = _
    simp only [sx]
    rfl
   refine one_ (i := 4) (N := some 9) (bm 11 639) rfl rfl (one_of HT_.out kr) (by decide) (fun K hK => ?_)
   refine Kd.R_lit_step Kd.string _ 9 ?hg (N := 9) ?hd (xs := ([] : List ByteArray)) (inner := []) (ok := fun _ => True) (okp := fun _ => True) ?hr ?hp (fun _ hk => hk) trivial (Below.refl _ _) (Nat.le_refl _) (by simp) ?_; (case hd => rfl); (case hg => rfl); (case hr => exact hrw); (case hp => exact (Reps.none _ _))
   intro v165 w7 ho8 hb hg_ hnew_
   clear hg_ hnew_
   (first | rw [← Ny164.out] at ho8 | (simp only [Int.reduceToNat] at ho8; rw [← Ny164.out] at ho8))
   have n0_ := am (Kd.R_lower ho8 (below_size blw))
   have n1_ := am (blk_below (g := gb162) bkw hb)
   have n2_ := am (blk_below (g := gb163) bkw hb)
   have n3_ := am (blk_below (g := gb170) bkw hb)
   have n4_ := am (below_step blw hb)
   clear BK162
   clear BK163
   clear BK170
   clear HB
   revert n0_ n1_ n2_ n3_ n4_
   intro HO166 BK162 BK163 BK170 HB
   clear hb ho8
   refine hK.out _ _ ⟨(blk_cell BK162.out 0).trans rfl, (blk_cell BK162.out 1).trans rfl, (blk_cell BK162.out 2).trans rfl, (blk_cell BK162.out 3).trans rfl⟩ (fun hHeld => ?_)
   clear hK K
   refine norm_ (a' := ?_) ?_ ?_
   rotate_left
   ·show Act.put _ (some 9) _ = _
    simp only [sx]
    rfl
   refine one_ (i := 7) (N := some 12) (bm 11 767) rfl rfl (one_of HT_.out kr) (by decide) (fun K hK => ?_)
   refine Kd.R_append_rows_step Kd.string (w0 := w) w.heap.size (by rfl) (.tmp 9) (.tmp 11) 22 9 (.string ⟨#[]⟩) 16 rfl Try.underlying22 info9 rfl (by decide) (by omega) v165 y164 l0_2 _ _ _ (fun _ => True) (fun _ => False) rfl rfl ?aO ?aR (fun _ _ h => h) (fun _ h => h.elim) ?aF ?aB ?aS ?aL ?_
   (case aR => repeat (first | exact (Kd.C_below HR0_2.out HB.out) | (with_reducible refine Kd.C_alloc ?_ _) | (with_reducible refine Kd.C_drewN ?_ _) | (with_reducible refine Kd.C_drew ?_)))
   (case aB => exact blw)
   (case aF => exact (fun _ _ => trivial))
   (case aO => exact (by (with_reducible repeat (first | apply Kd.R_alloc | apply Kd.R_drewN | apply Kd.R_drew)); exact HO166.out))
   (case aS => exact (below_size blw))
   (case aL => have := LMc2.out; omega)
   intro v168 w9 ho hb hg hat
   rw [← Ny167.out] at ho
   have n0_ := am (blk_grown (g := gb162) (o := .cells #[.int .i64 a0_0, .int .i64 a0_1, .slice A0_2 l0_2.length c0_2, .slice A0_3 l0_3.length c0_3] 30 (0, 0)) bkw hg (Kd.R_ne HO166.out BK162.out (by decide)))
   have n1_ := am (blk_grown (g := gb163) (o := .cells #[.int .i64 0, .int .i64 0, .slice none 0 0, .slice none 0 0] 30 (0, 0)) bkw hg (Kd.R_ne HO166.out BK163.out (by decide)))
   have n2_ := am (blk_grown (g := gb170) (o := .cells #[.int .i64 0, .int .i64 0, .slice none 0 0, .slice none 0 0] 30 (0, 0)) bkw hg (Kd.R_ne HO166.out BK170.out (by decide)))
   have n3_ := am (hb)
   have n4_ := am (ho)
   clear BK162
   clear BK163
   clear BK170
   clear HB
   clear HO166
   revert n0_ n1_ n2_ n3_ n4_
   intro BK162 BK163 BK170 HB HO169
   clear ho hb hg hat
   obtain ⟨Ao10, co10, eo10⟩ := Kd.R_slice HO169.out
   (first | subst eo10 | (injection eo10 with f1_ f2_ f3_; have f4_ := f1_.symm; have f5_ := f3_.symm; clear f1_ f2_ f3_; subst f4_; subst f5_))
   refine hK.out _ _ ⟨(blk_cell BK162.out 0).trans rfl, (blk_cell BK162.out 1).trans rfl, (blk_cell BK162.out 2).trans rfl, (blk_cell BK162.out 3).trans rfl⟩ (fun hHeld => ?_)
   clear hK K
   refine norm_ (a' := ?_) ?_ ?_
   rotate_left
   ·show Act.put _ (some 12) _ = _
    simp only [sx]
    rfl
   refine pure_ (i := 8) (N := some 13) (v := ?_) (a' := ?_) (bm 11 1023) rfl rfl (any_of HT_.out kr) qi (Or.inl ⟨by rfl, ?_⟩) ?_ ?_
   rotate_left
   ·intro w'
    go_simp
    with_reducible rfl
   rotate_left
   ·simp only [sx]
    rfl
   exact norm_ (by simp only [putAll, Act.put, List.setIfInBounds_toArray, List.set_cons_zero, List.set_cons_succ]) (hCont (v165, .slice Ao10 y167.length co10, gb170) _ ⟨hHeld, (by (with_reducible repeat (first | apply Kd.R_alloc | apply Kd.R_drewN | apply Kd.R_drew)); exact HO169.out), bkw, bkw, bkw, GW170.out, GE170.out, NB162_170.out, NB170_162.out, NB163_170.out, NB170_163.out, blw⟩)
 rintro ⟨v165, v168, gb170⟩ w11 ⟨hS_, h0_, h1_, h2_, h3_, h4_, h5_, h6_, h7_, h8_, h9_, h10_⟩
 have n0_ : Aside0 (Kd.R Kd.string 9 w11 w.heap.size (fun _ => True) v168 y167) := ⟨h0_⟩
 have n1_ : Aside0 (w11.heap[gb162]? = some (.cells #[.int .i64 a0_0, .int .i64 a0_1, .slice A0_2 l0_2.length c0_2, .slice A0_3 l0_3.length c0_3] 30 (0, 0))) := ⟨h1_⟩
 have n2_ : Aside0 (w11.heap[gb163]? = some (.cells #[.int .i64 0, .int .i64 0, .slice none 0 0, .slice none 0 0] 30 (0, 0))) := ⟨h2_⟩
 have n3_ : Aside0 (w11.heap[gb170]? = some (.cells #[.int .i64 0, .int .i64 0, .slice none 0 0, .slice none 0 0] 30 (0, 0))) := ⟨h3_⟩
 have n4_ : Aside0 (w.heap.size ≤ gb170) := ⟨h4_⟩
 have n5_ : Aside0 (w.heap.size ≤ gb170) := ⟨h5_⟩
 have n6_ : Aside0 (gb162 ≠ gb170) := ⟨h6_⟩
 have n7_ : Aside0 (gb170 ≠ gb162) := ⟨h7_⟩
 have n8_ : Aside0 (gb163 ≠ gb170) := ⟨h8_⟩
 have n9_ : Aside0 (gb170 ≠ gb163) := ⟨h9_⟩
 have n10_ : Aside0 (Below w.heap.size w w11) := ⟨h10_⟩
 clear BK162
 clear BK163
 clear HB
 clear h0_ h1_ h2_ h3_ h4_ h5_ h6_ h7_ h8_ h9_ h10_
 revert n0_ n1_ n2_ n3_ n4_ n5_ n6_ n7_ n8_ n9_ n10_
 intro HO169 BK162 BK163 BK170 GW170 GE170 NB162_170 NB170_162 NB163_170 NB170_163 HB
 have hHeld : w11.cell? ⟨gb162, 0, none⟩ = some (.int .i64 a0_0) ∧ w11.cell? ⟨gb162, 1, none⟩ = some (.int .i64 a0_1) ∧ w11.cell? ⟨gb162, 2, none⟩ = some (.slice A0_2 l0_2.length c0_2) ∧ w11.cell? ⟨gb162, 3, none⟩ = some (.slice A0_3 l0_3.length c0_3) := hS_
 obtain ⟨Ao12, co12, eo12⟩ := Kd.R_slice HO169.out
 (first | subst eo12 | (injection eo12 with f1_ f2_ f3_; have f4_ := f1_.symm; have f5_ := f3_.symm; clear f1_ f2_ f3_; subst f4_; subst f5_))
 refine norm_ (a' := ?_) ?_ ?_
 rotate_left
 ·simp only [putAll, Act.put, List.setIfInBounds_toArray, List.set_cons_zero, List.set_cons_succ]
  rfl
 refine one_ (i := 10) (N := none) (bm 11 2047) rfl rfl (one_of HT_.out kr) (by decide) (fun K hK => ?_)
 have hs13 : w11.cell? ⟨gb170, 0, none⟩ = some (.int .i64 0) := (blk_cell BK170.out 0).trans rfl
 have hfs13 := blk_frozen BK170.out 0
 have hns13_0 := NB162_170.out
 have hns13_1 := NB163_170.out
 have hms13_0 := NB170_162.out
 have hms13_1 := NB170_163.out
 have hs14 : w11.cell? ⟨gb170, 1, none⟩ = some (.int .i64 0) := (blk_cell BK170.out 1).trans rfl
 have hfs14 := blk_frozen BK170.out 1
 have hns14_0 := NB162_170.out
 have hns14_1 := NB163_170.out
 have hms14_0 := NB170_162.out
 have hms14_1 := NB170_163.out
 have hs15 : w11.cell? ⟨gb170, 2, none⟩ = some (.slice none 0 0) := (blk_cell BK170.out 2).trans rfl
 have hfs15 := blk_frozen BK170.out 2
 have hns15_0 := NB162_170.out
 have hns15_1 := NB163_170.out
 have hms15_0 := NB170_162.out
 have hms15_1 := NB170_163.out
 have hs16 : w11.cell? ⟨gb170, 3, none⟩ = some (.slice none 0 0) := (blk_cell BK170.out 3).trans rfl
 have hfs16 := blk_frozen BK170.out 3
 have hns16_0 := NB162_170.out
 have hns16_1 := NB163_170.out
 have hms16_0 := NB170_162.out
 have hms16_1 := NB170_163.out
 refine skip_ (w1 := ?_) (by rfl) rfl ?_ ?_
 rotate_left
 ·go_simp
  rfl
 refine hK.out _ _ ⟨((cell_far (p := ⟨gb170, _, none⟩) NB162_170.out _).trans (((cell_far (p := ⟨gb170, _, none⟩) NB162_170.out _).trans (((cell_far (p := ⟨gb170, _, none⟩) NB162_170.out _).trans (((cell_far (p := ⟨gb170, _, none⟩) NB162_170.out _).trans (hHeld.1)))))))), ((cell_far (p := ⟨gb170, _, none⟩) NB162_170.out _).trans (((cell_far (p := ⟨gb170, _, none⟩) NB162_170.out _).trans (((cell_far (p := ⟨gb170, _, none⟩) NB162_170.out _).trans (((cell_far (p := ⟨gb170, _, none⟩) NB162_170.out _).trans (hHeld.2.1)))))))), ((cell_far (p := ⟨gb170, _, none⟩) NB162_170.out _).trans (((cell_far (p := ⟨gb170, _, none⟩) NB162_170.out _).trans (((cell_far (p := ⟨gb170, _, none⟩) NB162_170.out _).trans (((cell_far (p := ⟨gb170, _, none⟩) NB162_170.out _).trans (hHeld.2.2.1)))))))), ((cell_far (p := ⟨gb170, _, none⟩) NB162_170.out _).trans (((cell_far (p := ⟨gb170, _, none⟩) NB162_170.out _).trans (((cell_far (p := ⟨gb170, _, none⟩) NB162_170.out _).trans (((cell_far (p := ⟨gb170, _, none⟩) NB162_170.out _).trans (hHeld.2.2.2))))))))⟩ (fun hHeld => ?_)
 clear hK K
 refine done_ (done_of HT_.out kr) ?_
 try go_wp2
 go_loopg [4] k (fun kq v4 w' => ∃ (x4_1 : Int) (x171003_1 : List (S30)) (u171003 : Value), v4 = .int .i64 x4_1 ∧ Aside0 (spec_CanonValue.l0 kq x4_1 a0_0 a0_1 l0_2 l0_3 a0_0 a0_1 y167 x171003_1 = some (r1, r2, r3, r4)) ∧ Aside0 (kq ≤ k) ∧ Aside0 (Kd.R Kd.string 9 w' w.heap.size (fun _ => True) (.slice Ao12 y167.length co12) y167) ∧ Aside0 (Kd.R k30 30 w' w.heap.size (fun k_ => some k_ ≠ ((.slice Ao12 y167.length co12) : Value).ownBlock ∧ k_ ≠ gb162 ∧ k_ ≠ gb163 ∧ k_ ≠ gb170) u171003 x171003_1) ∧ Aside0 (w'.heap[gb162]? = some (.cells #[.int .i64 a0_0, .int .i64 a0_1, (.slice A0_2 l0_2.length c0_2), (.slice A0_3 l0_3.length c0_3)] 30 (0, 0))) ∧ Aside0 (w'.heap[gb163]? = some (.cells #[.int .i64 0, .int .i64 0, (.slice none 0 0), (.slice none 0 0)] 30 (0, 0))) ∧ Aside0 (w'.heap[gb170]? = some (.cells #[.int .i64 a0_0, .int .i64 a0_1, (.slice Ao12 y167.length co12), u171003] 30 (0, 0))) ∧ Aside0 (Below w.heap.size w w'))
 case atStart => exact ⟨(0), (([] : List (S30))), (.slice none 0 0), rfs, H', ⟨Nat.le_refl _⟩, ⟨by (with_reducible repeat (first | apply Kd.R_alloc | apply Kd.R_drewN | apply Kd.R_drew)); exact Kd.R_mono (fr4 (g := gb170) (Kd.R_types HO169.out BK170.out (by decide)) (fun _ hk => hk.2) 0) (fun _ hk => trivial)⟩, ⟨by first | exact Kd.R_nil _ _ _ _ _ | exact Kd.N_nil _ _ _ _ _ | exact Kd.V_nil _ _ _ _ _ | exact Kd.Q_nil _ _ _ _ _ | exact Kd.S_nil _ _ _ _ _⟩, ⟨by (with_reducible repeat (first | refine blk_drewN ?_ _ | refine blk_drew ?_ | refine blk_alloc ?_ _)); refine blk_far ?_ NB162_170.out _; (with_reducible repeat (first | refine blk_drewN ?_ _ | refine blk_drew ?_ | refine blk_alloc ?_ _)); refine blk_far ?_ NB162_170.out _; (with_reducible repeat (first | refine blk_drewN ?_ _ | refine blk_drew ?_ | refine blk_alloc ?_ _)); refine blk_far ?_ NB162_170.out _; (with_reducible repeat (first | refine blk_drewN ?_ _ | refine blk_drew ?_ | refine blk_alloc ?_ _)); refine blk_far ?_ NB162_170.out _; (with_reducible repeat (first | refine blk_drewN ?_ _ | refine blk_drew ?_ | refine blk_alloc ?_ _)); exact BK162.out⟩, ⟨by (with_reducible repeat (first | refine blk_drewN ?_ _ | refine blk_drew ?_ | refine blk_alloc ?_ _)); refine blk_far ?_ NB163_170.out _; (with_reducible repeat (first | refine blk_drewN ?_ _ | refine blk_drew ?_ | refine blk_alloc ?_ _)); refine blk_far ?_ NB163_170.out _; (with_reducible repeat (first | refine blk_drewN ?_ _ | refine blk_drew ?_ | refine blk_alloc ?_ _)); refine blk_far ?_ NB163_170.out _; (with_reducible repeat (first | refine blk_drewN ?_ _ | refine blk_drew ?_ | refine blk_alloc ?_ _)); refine blk_far ?_ NB163_170.out _; (with_reducible repeat (first | refine blk_drewN ?_ _ | refine blk_drew ?_ | refine blk_alloc ?_ _)); exact BK163.out⟩, ⟨by (with_reducible repeat (first | refine blk_drewN ?_ _ | refine blk_drew ?_ | refine blk_alloc ?_ _)); refine blk_put (cs := #[.int .i64 a0_0, .int .i64 a0_1, .slice Ao12 y167.length co12, .slice none 0 0]) ?_ 3 _ rfl; (with_reducible repeat (first | refine blk_drewN ?_ _ | refine blk_drew ?_ | refine blk_alloc ?_ _)); refine blk_put (cs := #[.int .i64 a0_0, .int .i64 a0_1, .slice none 0 0, .slice none 0 0]) ?_ 2 _ rfl; (with_reducible repeat (first | refine blk_drewN ?_ _ | refine blk_drew ?_ | refine blk_alloc ?_ _)); refine blk_put (cs := #[.int .i64 a0_0, .int .i64 0, .slice none 0 0, .slice none 0 0]) ?_ 1 _ rfl; (with_reducible repeat (first | refine blk_drewN ?_ _ | refine blk_drew ?_ | refine blk_alloc ?_ _)); refine blk_put (cs := #[.int .i64 0, .int .i64 0, .slice none 0 0, .slice none 0 0]) ?_ 0 _ rfl; (with_reducible repeat (first | refine blk_drewN ?_ _ | refine blk_drew ?_ | refine blk_alloc ?_ _)); exact BK170.out⟩, ⟨blw⟩⟩
 case round =>
  clear H'
  (try clear c1); (try clear c2); (try clear p2); (try clear c13)
  obtain ⟨x4_1, x171003_1, u171003, rfl, HA, HK1, HO_171002, HO_171003, BK162, BK163, BK170, HB⟩ := hrel
  cases gk with
  | zero => exact absurd HA.out (by simp [spec_CanonValue.l0])
  | succ k1 =>
   have H := HA.out
   clear HA
   simp only [spec_CanonValue.l0] at H
   by_cases c17 : x4_1 < (l0_3.length : Int)
   case neg =>
    rw [if_neg c17] at H
    have c17b0 : decide (x4_1 < (l0_3.length : Int)) = false := decide_eq_false c17
    clear c17
    by_cases c31 : a0_0 = 4
    case neg =>
     rw [if_neg c31] at H
     have c31b0 : (a0_0 == 4) = false := beq_eq_false_iff_ne.mpr c31
     have c31b1 : (a0_0 != 4) = true := bne_iff_ne.mpr c31
     simp only [Option.some.injEq, Prod.mk.injEq] at H
     obtain ⟨rfl, rfl, rfl, rfl⟩ := H
     have hnb39 := NB162_163.out
     have hnc39 := NB163_162.out
     have hnb40 := NB162_170.out
     have hnc40 := NB170_162.out
     obtain ⟨hcz41_0, hcz41_1, hcz41_2, hcz41_3⟩ := cls4 BK162.out
     obtain ⟨hfz41_0, hfz41_1, hfz41_2, hfz41_3⟩ := frz4 BK162.out
     have hnb42 := NB170_163.out
     have hnc42 := NB163_170.out
     obtain ⟨hcz43_0, hcz43_1, hcz43_2, hcz43_3⟩ := cls4 BK170.out
     obtain ⟨hfz43_0, hfz43_1, hfz43_2, hfz43_3⟩ := frz4 BK170.out
     obtain ⟨hcz44_0, hcz44_1, hcz44_2, hcz44_3⟩ := cls4 BK163.out
     obtain ⟨hfz44_0, hfz44_1, hfz44_2, hfz44_3⟩ := frz4 BK163.out
     obtain ⟨Ao45, co45, eo45⟩ := Kd.R_slice HO_171003.out
     subst eo45
     go_wp2
     refine bodyPost_ret (results_cell_row rfl _ _ gb163 30 #[.int .i64 a0_0, .int .i64 a0_1, .slice Ao12 y167.length co12, .slice Ao45 x171003_1.length co45] (0, 0) _ rfl (by (with_reducible repeat (first | refine blk_drewN ?_ _ | refine blk_drew ?_ | refine blk_alloc ?_ _)); refine blk_put (cs := #[.int .i64 a0_0, .int .i64 a0_1, .slice Ao12 y167.length co12, .slice none 0 0]) ?_ 3 _ rfl; (with_reducible repeat (first | refine blk_drewN ?_ _ | refine blk_drew ?_ | refine blk_alloc ?_ _)); refine blk_put (cs := #[.int .i64 a0_0, .int .i64 a0_1, .slice none 0 0, .slice none 0 0]) ?_ 2 _ rfl; (with_reducible repeat (first | refine blk_drewN ?_ _ | refine blk_drew ?_ | refine blk_alloc ?_ _)); refine blk_put (cs := #[.int .i64 a0_0, .int .i64 0, .slice none 0 0, .slice none 0 0]) ?_ 1 _ rfl; (with_reducible repeat (first | refine blk_drewN ?_ _ | refine blk_drew ?_ | refine blk_alloc ?_ _)); refine blk_put (cs := #[.int .i64 0, .int .i64 0, .slice none 0 0, .slice none 0 0]) ?_ 0 _ rfl; (with_reducible repeat (first | refine blk_drewN ?_ _ | refine blk_drew ?_ | refine blk_alloc ?_ _)); exact BK163.out) Try.underlying30 rfl kr) rfl ?_
     exact ⟨_, _, rfw, by (with_reducible repeat (first | apply Kd.R_alloc | apply Kd.R_drewN | apply Kd.R_drew)); exact Kd.R_mono (fr4 (g := gb163) (Kd.R_types HO_171002.out BK163.out (by decide)) (fun _ hk => hk.2) 0) (fun _ hk => trivial), by (with_reducible repeat (first | apply Kd.R_alloc | apply Kd.R_drewN | apply Kd.R_drew)); exact Kd.R_mono (fr4 (g := gb163) (Kd.R_mono HO_171003.out (fun k_ hk => (⟨hk, hk.2.2.1⟩ : _ ∧ k_ ≠ gb163))) (fun _ hk => hk.2) 0) (fun _ hk => hk.1.1), blw⟩
    rw [if_pos c31] at H
    have c31b0 : (a0_0 == 4) = true := beq_iff_eq.mpr c31
    have c31b1 : (a0_0 != 4) = false := bne_eq_false_iff_eq.mpr c31
    clear c31
    obtain ⟨s_, hs_, H⟩ := Option.bind_eq_some_iff.mp H
    obtain ⟨hsm_, hln_, hst_⟩ := srt_some hs_
    clear hs_
    have HSM_ := am hsm_; have HLN_ := am hln_; have HST_ := am hst_
    clear hsm_ hln_ hst_
    simp only [Option.some.injEq, Prod.mk.injEq] at H
    obtain ⟨rfl, rfl, rfl, rfl⟩ := H
    have hnb32 := NB162_163.out
    have hnc32 := NB163_162.out
    have hnb33 := NB162_170.out
    have hnc33 := NB170_162.out
    obtain ⟨hcz34_0, hcz34_1, hcz34_2, hcz34_3⟩ := cls4 BK162.out
    obtain ⟨hfz34_0, hfz34_1, hfz34_2, hfz34_3⟩ := frz4 BK162.out
    have hnb35 := NB170_163.out
    have hnc35 := NB163_170.out
    obtain ⟨hcz36_0, hcz36_1, hcz36_2, hcz36_3⟩ := cls4 BK170.out
    obtain ⟨hfz36_0, hfz36_1, hfz36_2, hfz36_3⟩ := frz4 BK170.out
    obtain ⟨Ao37, co37, eo37⟩ := Kd.R_slice HO_171003.out
    subst eo37
    obtain ⟨hcz38_0, hcz38_1, hcz38_2, hcz38_3⟩ := cls4 BK163.out
    obtain ⟨hfz38_0, hfz38_1, hfz38_2, hfz38_3⟩ := frz4 BK163.out
    go_wp2_with (fail)
    refine (l5_R w _ x171003_1 HLN_.out HSM_.out _ _ HO_171003.out HB.out (fun k_ hk => ⟨Kd.fresh' (Kd.R_lt HO_171002.out) k_ hk, Kd.freshB (g := gb162) BK162.out k_ hk, Kd.freshB (g := gb163) BK163.out k_ hk, Kd.freshB (g := gb170) BK170.out k_ hk⟩)).mono ?_
    rintro e w2 ⟨v2_, rfl, ho2, hb2⟩
    (try refine ⟨_, rfl, ?_⟩)
    replace HO_171002 := am (Kd.R_below HO_171002.out hb2)
    replace BK162 := am (blk_below BK162.out hb2)
    replace BK170 := am (blk_below BK170.out hb2)
    replace BK163 := am (blk_below BK163.out hb2)
    replace HB := am (below_step HB.out hb2)
    clear HO_171003
    have HO_171003 := am ho2
    clear ho2 hb2
    rw [← HST_.out] at HO_171003
    obtain ⟨Ao_n, co_n, eo_n⟩ := Kd.R_slice HO_171003.out
    subst eo_n
    clear hcz34_0 hcz34_1 hcz34_2 hcz34_3 hfz34_0 hfz34_1 hfz34_2 hfz34_3 hcz36_0 hcz36_1 hcz36_2 hcz36_3 hfz36_0 hfz36_1 hfz36_2 hfz36_3 hcz38_0 hcz38_1 hcz38_2 hcz38_3 hfz38_0 hfz38_1 hfz38_2 hfz38_3
    obtain ⟨hcz34_0, hcz34_1, hcz34_2, hcz34_3⟩ := cls4 BK162.out
    obtain ⟨hfz34_0, hfz34_1, hfz34_2, hfz34_3⟩ := frz4 BK162.out
    obtain ⟨hcz36_0, hcz36_1, hcz36_2, hcz36_3⟩ := cls4 BK170.out
    obtain ⟨hfz36_0, hfz36_1, hfz36_2, hfz36_3⟩ := frz4 BK170.out
    obtain ⟨hcz38_0, hcz38_1, hcz38_2, hcz38_3⟩ := cls4 BK163.out
    obtain ⟨hfz38_0, hfz38_1, hfz38_2, hfz38_3⟩ := frz4 BK163.out
    go_wp2
    refine bodyPost_ret (results_cell_row rfl _ _ gb163 30 #[.int .i64 a0_0, .int .i64 a0_1, .slice Ao12 y167.length co12, .slice Ao_n s_.length co_n] (0, 0) _ rfl (by (with_reducible repeat (first | refine blk_drewN ?_ _ | refine blk_drew ?_ | refine blk_alloc ?_ _)); refine blk_put (cs := #[.int .i64 a0_0, .int .i64 a0_1, .slice Ao12 y167.length co12, .slice none 0 0]) ?_ 3 _ rfl; (with_reducible repeat (first | refine blk_drewN ?_ _ | refine blk_drew ?_ | refine blk_alloc ?_ _)); refine blk_put (cs := #[.int .i64 a0_0, .int .i64 a0_1, .slice none 0 0, .slice none 0 0]) ?_ 2 _ rfl; (with_reducible repeat (first | refine blk_drewN ?_ _ | refine blk_drew ?_ | refine blk_alloc ?_ _)); refine blk_put (cs := #[.int .i64 a0_0, .int .i64 0, .slice none 0 0, .slice none 0 0]) ?_ 1 _ rfl; (with_reducible repeat (first | refine blk_drewN ?_ _ | refine blk_drew ?_ | refine blk_alloc ?_ _)); refine blk_put (cs := #[.int .i64 0, .int .i64 0, .slice none 0 0, .slice none 0 0]) ?_ 0 _ rfl; (with_reducible repeat (first | refine blk_drewN ?_ _ | refine blk_drew ?_ | refine blk_alloc ?_ _)); refine blk_far ?_ NB163_170.out _; (with_reducible repeat (first | refine blk_drewN ?_ _ | refine blk_drew ?_ | refine blk_alloc ?_ _)); exact BK163.out) Try.underlying30 rfl kr) rfl ?_
    exact ⟨_, _, rfw, by (with_reducible repeat (first | apply Kd.R_alloc | apply Kd.R_drewN | apply Kd.R_drew)); exact Kd.R_mono (fr4 (g := gb163) (Kd.R_far (p := ⟨gb170, 3, none⟩) (Kd.R_types (Kd.R_types HO_171002.out BK170.out (by decide)) BK163.out (by decide)) (fun _ hk => hk.1.2) (.slice Ao_n s_.length co_n)) (fun _ hk => hk.2) 0) (fun _ hk => trivial), by (with_reducible repeat (first | apply Kd.R_alloc | apply Kd.R_drewN | apply Kd.R_drew)); exact Kd.R_mono (fr4 (g := gb163) (Kd.R_far (p := ⟨gb170, 3, none⟩) (Kd.R_mono (Kd.R_mono HO_171003.out (fun k_ hk => (⟨hk, hk.2.2.2⟩ : _ ∧ k_ ≠ gb170))) (fun k_ hk => (⟨hk, hk.1.2.2.1⟩ : _ ∧ k_ ≠ gb163))) (fun _ hk => hk.1.2) (.slice Ao_n s_.length co_n)) (fun _ hk => hk.2) 0) (fun _ hk => hk.1.1.1), blw⟩
   rw [if_pos c17] at H
   have c17b0 : decide (x4_1 < (l0_3.length : Int)) = true := decide_eq_true c17
   clear c17
   by_cases c18 : 0 ≤ x4_1
   case neg =>
    rw [if_neg c18] at H
    exact absurd H (by simp)
   rw [if_pos c18] at H
   have c18b0 : decide (0 ≤ x4_1) = true := decide_eq_true c18
   clear c18
   replace H := Option.bind_eq_some_iff.mp H
   obtain ⟨⟨t172, t173, t174, t177⟩, A190, H⟩ := H
   replace H : (if x171003_1.length < 2199023255552 then (spec_CanonValue.l0 k1 (wrap64 (x4_1 + 1)) a0_0 a0_1 l0_2 l0_3 a0_0 a0_1 y167 (x171003_1 ++ [(⟨t172, t173, t174, t177⟩ : S30)])) else (none)) = some (r1, r2, r3, r4) := H
   have A19 := am A190
   clear A190
   by_cases c20 : x171003_1.length < 2199023255552
   case neg =>
    rw [if_neg c20] at H
    exact absurd H (by simp)
   rw [if_pos c20] at H
   have LMc20 := am c20
   clear c20
   obtain ⟨y180, hy180⟩ : ∃ y_ : List (S30), y_ = (x171003_1 ++ [(⟨t172, t173, t174, t177⟩ : S30)]) := ⟨_, rfl⟩
   replace H : (spec_CanonValue.l0 k1 (wrap64 (x4_1 + 1)) a0_0 a0_1 l0_2 l0_3 a0_0 a0_1 y167 y180) = some (r1, r2, r3, r4) := by first | (rw [hy180]; with_reducible exact H) | (have H2_ := (Option.bind_some _ _).symm.trans H; rw [hy180]; with_reducible exact H2_) | (have H2_ := (Option.bind_some _ _).symm.trans H; with_reducible exact H2_) | with_reducible exact H | (rw [hy180]; exact H) | exact H
   have Ny180 := am hy180
   clear hy180
   have H' := am H
   clear H
   have hnb21 := NB162_163.out
   have hnc21 := NB163_162.out
   have hnb22 := NB162_170.out
   have hnc22 := NB170_162.out
   obtain ⟨hcz23_0, hcz23_1, hcz23_2, hcz23_3⟩ := cls4 BK162.out
   obtain ⟨hfz23_0, hfz23_1, hfz23_2, hfz23_3⟩ := frz4 BK162.out
   try go_wp2
   have n0_ := am (Kd.R_drew HO_171002.out)
   have n1_ := am (Kd.R_drew HO_171003.out)
   have n2_ := am (blk_drew BK162.out)
   have n3_ := am (blk_drew BK163.out)
   have n4_ := am (blk_drew BK170.out)
   have n5_ := am (below_drew1 HB.out)
   clear HO_171002
   clear HO_171003
   clear BK162
   clear BK163
   clear BK170
   clear HB
   revert n0_ n1_ n2_ n3_ n4_ n5_
   intro HO_171002 HO_171003 BK162 BK163 BK170 HB
   have p171 : 0 ≤ (x4_1 : Int) := of_decide_eq_true asw
   have q171 : x4_1 < (l0_3.length : Int) := of_decide_eq_true asw
   obtain ⟨ad171, A171_2, c171_2, A171_3, c171_3, e171, hx171_0, hx171_1, hx171_2, hx171_3, hl171_2, hi171_2, hl171_3, hi171_3⟩ := at_T30 HR0_3.out x4_1 p171 q171
   have hw171_3 := hx171_3
   have hw171_2 := hx171_2
   have hw171_1 := hx171_1
   have hw171_0 := hx171_0
   cases e171
   replace hx171_0 := upw HB.out hx171_0
   replace hx171_1 := upw HB.out hx171_1
   replace hx171_2 := upw HB.out hx171_2
   replace hx171_3 := upw HB.out hx171_3
   have HR171_2 := am hi171_2
   have HC171_2 := am hl171_2
   clear hi171_2 hl171_2
   have HR171_3 := am hi171_3
   have HC171_3 := am hl171_3
   clear hi171_3 hl171_3
   replace p171 := eq_true p171
   replace q171 := eq_true q171
   refine start_ (n := 12) (S := fun w' => w'.cell? ⟨gb170, 0, none⟩ = some (.int .i64 a0_0) ∧ w'.cell? ⟨gb170, 1, none⟩ = some (.int .i64 a0_1) ∧ w'.cell? ⟨gb170, 2, none⟩ = some (.slice Ao12 y167.length co12) ∧ w'.cell? ⟨gb170, 3, none⟩ = some (u171003) ∧ w'.cell? ⟨gb162, 0, none⟩ = some (.int .i64 a0_0) ∧ w'.cell? ⟨gb162, 1, none⟩ = some (.int .i64 a0_1) ∧ w'.cell? ⟨gb162, 2, none⟩ = some (.slice A0_2 l0_2.length c0_2) ∧ w'.cell? ⟨gb162, 3, none⟩ = some (.slice (some ad171) l0_3.length c0_3) ∧ w'.cell? (ad171.add ((x4_1).toNat * 4)) = some (.int .i64 ((rd_T30 l0_3 x4_1).f0)) ∧ w'.cell? ⟨(ad171.add ((x4_1).toNat * 4)).block, (ad171.add ((x4_1).toNat * 4)).off + 1, none⟩ = some (.int .i64 ((rd_T30 l0_3 x4_1).f1)) ∧ w'.cell? ⟨(ad171.add ((x4_1).toNat * 4)).block, (ad171.add ((x4_1).toNat * 4)).off + 2, none⟩ = some (.slice A171_2 ((rd_T30 l0_3 x4_1).f2).length c171_2) ∧ w'.cell? ⟨(ad171.add ((x4_1).toNat * 4)).block, (ad171.add ((x4_1).toNat * 4)).off + 3, none⟩ = some (.slice A171_3 ((rd_T30 l0_3 x4_1).f3).length c171_3)) (ds := [11]) #[false,false,false,false,false,false,false,false,false,false,false,false] kr rfl rfl ⟨(blk_cell BK170.out 0).trans rfl, (blk_cell BK170.out 1).trans rfl, (blk_cell BK170.out 2).trans rfl, (blk_cell BK170.out 3).trans rfl, (blk_cell BK162.out 0).trans rfl, (blk_cell BK162.out 1).trans rfl, (blk_cell BK162.out 2).trans rfl, (blk_cell BK162.out 3).trans rfl, ((upw HB.out hw171_0 : _)), ((upw HB.out hw171_1 : _)), ((upw HB.out hw171_2 : _)), ((upw HB.out hw171_3 : _))⟩ (fun hHeld => ?_); refine with_tabW spec_CanonValue.tab5 spec_CanonValue.bits5 (fun HT_ HW_ => ?_)
   generalize wr.drew = w24 at HO_171002 HO_171003 BK162 BK163 BK170 HB HR171_2 HR171_3 hx171_0 hx171_1 hx171_2 hx171_3 hHeld ⊢
   refine pure_ (i := 0) (N := some 21) (v := ?_) (a' := ?_) (bm 12 1) rfl rfl (any_of HT_.out kr) qi (Or.inl ⟨by rfl, ?_⟩) ?_ ?_
   rotate_left
   ·intro w'
    go_simp
    with_reducible rfl
   rotate_left
   ·simp only [sx]
    rfl
   refine pure_ (i := 2) (N := some 23) (v := ?_) (a' := ?_) (bm 12 5) rfl rfl (any_of HT_.out kr) qi (Or.inl ⟨by rfl, ?_⟩) ?_ ?_
   rotate_left
   ·intro w'
    go_simp
    with_reducible rfl
   rotate_left
   ·simp only [sx]
    rfl
   refine pure_ (i := 4) (N := some 25) (v := ?_) (a' := ?_) (bm 12 21) rfl rfl (any_of HT_.out kr) qi (Or.inl ⟨by rfl, ?_⟩) ?_ ?_
   rotate_left
   ·intro w'
    go_simp
    with_reducible rfl
   rotate_left
   ·simp only [sx]
    rfl
   refine take_ (i := 1) (N := some 22) (v := ?_) (a' := ?_) (bm 12 23) rfl rfl (take_ofW HT_.out HW_.out kr) qi (Or.inl ⟨by rfl, ?_⟩) hHeld ?_ ?_
   rotate_left
   ·rintro w' ⟨s0, s1, s2, s3, s4, s5, s6, s7, s8, s9, s10, s11⟩
    go_simp
    with_reducible rfl
   rotate_left
   ·simp only [sx]
    rfl
   refine take_ (i := 3) (N := some 24) (v := ?_) (a' := ?_) (bm 12 31) rfl rfl (take_ofW HT_.out HW_.out kr) qi (Or.inl ⟨by rfl, ?_⟩) hHeld ?_ ?_
   rotate_left
   ·rintro w' ⟨s0, s1, s2, s3, s4, s5, s6, s7, s8, s9, s10, s11⟩
    go_simp
    with_reducible rfl
   rotate_left
   ·simp only [sx]
    rfl
   refine pure_ (i := 5) (N := some 26) (v := ?_) (a' := ?_) (bm 12 63) rfl rfl (any_of HT_.out kr) qi (Or.inl ⟨by rfl, ?_⟩) ?_ ?_
   rotate_left
   ·intro w'
    go_simp
    with_reducible rfl
   rotate_left
   ·simp only [sx]
    rfl
   refine take_ (i := 6) (N := some 27) (v := ?_) (a' := ?_) (bm 12 127) rfl rfl (take_ofW HT_.out HW_.out kr) qi (Or.inl ⟨by rfl, ?_⟩) hHeld ?_ ?_
   rotate_left
   ·rintro w' ⟨s0, s1, s2, s3, s4, s5, s6, s7, s8, s9, s10, s11⟩
    go_simp
    with_reducible rfl
   rotate_left
   ·simp only [sx]
    rfl
   refine one_ (i := 7) (N := some 28) (bm 12 255) rfl rfl (one_of HT_.out kr) (by decide) (fun K hK => ?_)
   refine goes_ Try.func13 kr rfl #[.agg #[.int .i64 ((rd_T30 l0_3 x4_1).f0), .int .i64 ((rd_T30 l0_3 x4_1).f1), .slice A171_2 ((rd_T30 l0_3 x4_1).f2).length c171_2, .slice A171_3 ((rd_T30 l0_3 x4_1).f3).length c171_3]] (by rfl) rfl rfl mpw ?_
   with_reducible refine (ih k1 (by have := HK1.out; omega) ((rd_T30 l0_3 x4_1).f0) ((rd_T30 l0_3 x4_1).f1) _ _ ((rd_T30 l0_3 x4_1).f2) _ _ ((rd_T30 l0_3 x4_1).f3) t172 t173 t174 t177 _ ?side1 ?side2 ?side3 ?side4 A19.out).mono ?_
   (case side1 => have X_ := HR171_2; exact cbl)
   (case side2 => exact HC171_2.out)
   (case side3 => have X_ := HR171_3; exact cbl)
   (case side4 => exact HC171_3.out)
   rintro e w25 ⟨v175, v178, rfl, ho0, ho1, hb⟩
   refine ⟨_, rfl, ?_⟩
   have n0_ := am (Kd.R_elder' (by (with_reducible repeat (first | apply Kd.R_alloc | apply Kd.R_drewN | apply Kd.R_drew)); exact HO_171002.out) (Kd.R_base ho0) hb)
   have n1_ := am (Kd.R_mono (Kd.R_told (Kd.R_told (Kd.R_old (by (with_reducible repeat (first | apply Kd.R_alloc | apply Kd.R_drewN | apply Kd.R_drew)); exact HO_171003.out) hb) (Kd.R_base ho0)) (Kd.R_base ho1)) (fun _ h_ => h_.1))
   have n2_ := am (Kd.R_lower (Kd.R_new' ho0 (Kd.R_lt (by (with_reducible repeat (first | apply Kd.R_alloc | apply Kd.R_drewN | apply Kd.R_drew)); exact HO_171002.out))) (below_size blw))
   have n3_ := am (Kd.R_lower (Kd.R_newB (Kd.R_newB (Kd.R_newB (Kd.R_new' (Kd.R_new' ho1 (Kd.R_lt (by (with_reducible repeat (first | apply Kd.R_alloc | apply Kd.R_drewN | apply Kd.R_drew)); exact HO_171002.out))) (Kd.R_lt (by (with_reducible repeat (first | apply Kd.R_alloc | apply Kd.R_drewN | apply Kd.R_drew)); exact HO_171003.out))) (g := gb162) (o := .cells #[.int .i64 a0_0, .int .i64 a0_1, .slice A0_2 l0_2.length c0_2, .slice (some ad171) l0_3.length c0_3] 30 (0, 0)) bkw) (g := gb163) (o := .cells #[.int .i64 0, .int .i64 0, .slice none 0 0, .slice none 0 0] 30 (0, 0)) bkw) (g := gb170) (o := .cells #[.int .i64 a0_0, .int .i64 a0_1, .slice Ao12 y167.length co12, u171003] 30 (0, 0)) bkw) (below_size blw))
   have n4_ := am (blk_below (g := gb162) bkw hb)
   have n5_ := am (blk_below (g := gb163) bkw hb)
   have n6_ := am (blk_below (g := gb170) bkw hb)
   have n7_ := am (below_step blw hb)
   clear HO_171002
   clear HO_171003
   clear BK162
   clear BK163
   clear BK170
   clear HB
   revert n0_ n1_ n2_ n3_ n4_ n5_ n6_ n7_
   intro HO_171002 HO_171003 HO176 HO179 BK162 BK163 BK170 HB
   (try clear hb)
   (try clear hb2)
   (try clear hk)
   (try clear hi)
   (try clear ho0)
   (try clear ho1)
   obtain ⟨Ao27, co27, eo27⟩ := Kd.R_slice HO176.out
   (first | subst eo27 | (injection eo27 with f1_ f2_ f3_; have f4_ := f1_.symm; have f5_ := f3_.symm; clear f1_ f2_ f3_; subst f4_; subst f5_))
   obtain ⟨Ao28, co28, eo28⟩ := Kd.R_slice HO179.out
   (first | subst eo28 | (injection eo28 with f1_ f2_ f3_; have f4_ := f1_.symm; have f5_ := f3_.symm; clear f1_ f2_ f3_; subst f4_; subst f5_))
   refine hK.out _ _ ⟨(blk_cell BK170.out 0).trans rfl, (blk_cell BK170.out 1).trans rfl, (blk_cell BK170.out 2).trans rfl, (blk_cell BK170.out 3).trans rfl, (blk_cell BK162.out 0).trans rfl, (blk_cell BK162.out 1).trans rfl, (blk_cell BK162.out 2).trans rfl, (blk_cell BK162.out 3).trans rfl, ((upw HB.out hw171_0 : _)), ((upw HB.out hw171_1 : _)), ((upw HB.out hw171_2 : _)), ((upw HB.out hw171_3 : _))⟩ (fun hHeld => ?_)
   clear hK K
   refine norm_ (a' := ?_) ?_ ?_
   rotate_left
   ·show Act.put _ (some 28) _ = _
    simp only [sx]
    rfl
   refine one_ (i := 8) (N := some 29) (bm 12 511) rfl rfl (one_of HT_.out kr) (by decide) (fun K hK => ?_)
   refine value_ (w1 := ?_) (v := ?_) (by rfl) rfl ?_ ?_
   rotate_left 2
   ·go_simp
    constructor
    ·rfl
    ·rfl
   refine hK.out _ _ ⟨(blk_cell (blk_alloc BK170.out _) 0).trans rfl, (blk_cell (blk_alloc BK170.out _) 1).trans rfl, (blk_cell (blk_alloc BK170.out _) 2).trans rfl, (blk_cell (blk_alloc BK170.out _) 3).trans rfl, (blk_cell (blk_alloc BK162.out _) 0).trans rfl, (blk_cell (blk_alloc BK162.out _) 1).trans rfl, (blk_cell (blk_alloc BK162.out _) 2).trans rfl, (blk_cell (blk_alloc BK162.out _) 3).trans rfl, (World.cell?_alloc_lt _ _ _ (World.block_lt_of_cell? _ _ (((upw HB.out hw171_0 : _))))).trans (((upw HB.out hw171_0 : _))), (World.cell?_alloc_lt _ _ _ (World.block_lt_of_cell? _ _ (((upw HB.out hw171_1 : _))))).trans (((upw HB.out hw171_1 : _))), (World.cell?_alloc_lt _ _ _ (World.block_lt_of_cell? _ _ (((upw HB.out hw171_2 : _))))).trans (((upw HB.out hw171_2 : _))), (World.cell?_alloc_lt _ _ _ (World.block_lt_of_cell? _ _ (((upw HB.out hw171_3 : _))))).trans (((upw HB.out hw171_3 : _)))⟩ (fun hHeld => ?_)
   clear hK K
   refine norm_ (a' := ?_) ?_ ?_
   rotate_left
   ·show Act.put _ (some 29) _ = _
    simp only [sx]
    rfl
   refine one_ (i := 9) (N := some 30) (bm 12 1023) rfl rfl (one_of HT_.out kr) (by decide) (fun K hK => ?_)
   refine Kd.R_append_step k30 (w0 := w) w.heap.size (by rfl) (.tmp 22) (.tmp 29) 28 30 (.agg #[(.int .i64 0), (.int .i64 0), (.slice none 0 0), (.slice none 0 0)]) 64 rfl Try.underlying28 info30 rfl (by decide) (by omega) u171003 x171003_1 (⟨t172, t173, t174, t177⟩ : S30) [.int .i64 t172, .int .i64 t173, .slice Ao27 t174.length co27, .slice Ao28 t177.length co28] (fun k_ => some k_ ≠ (.slice Ao12 y167.length co12 : Value).ownBlock ∧ k_ ≠ gb162 ∧ k_ ≠ gb163 ∧ k_ ≠ gb170) (fun k_ => ((fun k_ => some k_ ≠ (.slice Ao12 y167.length co12 : Value).ownBlock ∧ k_ ≠ gb162 ∧ k_ ≠ gb163 ∧ k_ ≠ gb170)) k_ ∧ some k_ ≠ (u171003 : Value).ownBlock) rfl rfl ?aP (fun _ hk => hk) ?aF ?aO ?aB ?aS ?aL ?_
   (case aP => exact k30_mkM _ _ _ (⟨t172, t173, t174, t177⟩ : S30) (Kd.R_mono (Kd.R_types (Kd.R_types (Kd.R_types (Kd.R_apart' (HO176.out) (Kd.R_typed HO_171003.out) (by decide)) BK162.out (by decide)) BK163.out (by decide)) BK170.out (by decide)) (fun k_ hk => ⟨⟨hk.1.1.1.1.2, ⟨hk.1.1.2, ⟨hk.1.2, hk.2⟩⟩⟩, hk.1.1.1.2⟩)) (Kd.R_mono (HO179.out) (fun k_ hk => ⟨⟨hk.1.1.1.1.2, ⟨hk.1.1.2, ⟨hk.1.2, hk.2⟩⟩⟩, hk.1.1.1.2⟩)))
   (case aB => exact blw)
   (case aF => exact (fun k_ hk => ⟨Kd.fresh' (Kd.R_lt (by (with_reducible repeat (first | apply Kd.R_alloc | apply Kd.R_drewN | apply Kd.R_drew)); exact HO_171002.out)) k_ hk, Kd.freshB (g := gb162) (o := .cells #[.int .i64 a0_0, .int .i64 a0_1, .slice A0_2 l0_2.length c0_2, .slice (some ad171) l0_3.length c0_3] 30 (0, 0)) bkw k_ hk, Kd.freshB (g := gb163) (o := .cells #[.int .i64 0, .int .i64 0, .slice none 0 0, .slice none 0 0] 30 (0, 0)) bkw k_ hk, Kd.freshB (g := gb170) (o := .cells #[.int .i64 a0_0, .int .i64 a0_1, .slice Ao12 y167.length co12, u171003] 30 (0, 0)) bkw k_ hk⟩))
   (case aO => exact (by (with_reducible repeat (first | apply Kd.R_alloc | apply Kd.R_drewN | apply Kd.R_drew)); exact Kd.R_mono HO_171003.out (fun _ hk => ⟨hk.1.1.1, ⟨hk.1.1.2.1, ⟨hk.1.1.2.2.1, hk.1.1.2.2.2⟩⟩⟩)))
   (case aS => exact (below_size blw))
   (case aL => have := LMc20.out; omega)
   intro v181 w26 ho hb hg hat
   rw [← Ny180.out] at ho
   have n0_ := am (Kd.R_over' (by (with_reducible repeat (first | apply Kd.R_alloc | apply Kd.R_drewN | apply Kd.R_drew)); exact HO_171002.out) (Kd.R_typed (by (with_reducible repeat (first | apply Kd.R_alloc | apply Kd.R_drewN | apply Kd.R_drew)); exact HO_171003.out)) (by decide) hg)
   have n1_ := am (blk_grown (g := gb162) (o := .cells #[.int .i64 a0_0, .int .i64 a0_1, .slice A0_2 l0_2.length c0_2, .slice (some ad171) l0_3.length c0_3] 30 (0, 0)) bkw hg (Kd.R_away HO_171003.out (fun _ hk => hk.1.1.2.1)))
   have n2_ := am (blk_grown (g := gb163) (o := .cells #[.int .i64 0, .int .i64 0, .slice none 0 0, .slice none 0 0] 30 (0, 0)) bkw hg (Kd.R_away HO_171003.out (fun _ hk => hk.1.1.2.2.1)))
   have n3_ := am (blk_grown (g := gb170) (o := .cells #[.int .i64 a0_0, .int .i64 a0_1, .slice Ao12 y167.length co12, u171003] 30 (0, 0)) bkw hg (Kd.R_away HO_171003.out (fun _ hk => hk.1.1.2.2.2)))
   have n4_ := am (hb)
   have n5_ := am (ho)
   clear HO_171002
   clear BK162
   clear BK163
   clear BK170
   clear HB
   clear HO_171003
   clear HO176
   clear HO179
   revert n0_ n1_ n2_ n3_ n4_ n5_
   intro HO_171002 BK162 BK163 BK170 HB HO182
   clear ho hb hg hat
   obtain ⟨Ao29, co29, eo29⟩ := Kd.R_slice HO182.out
   (first | subst eo29 | (injection eo29 with f1_ f2_ f3_; have f4_ := f1_.symm; have f5_ := f3_.symm; clear f1_ f2_ f3_; subst f4_; subst f5_))
   refine hK.out _ _ ⟨(blk_cell BK170.out 0).trans rfl, (blk_cell BK170.out 1).trans rfl, (blk_cell BK170.out 2).trans rfl, (blk_cell BK170.out 3).trans rfl, (blk_cell BK162.out 0).trans rfl, (blk_cell BK162.out 1).trans rfl, (blk_cell BK162.out 2).trans rfl, (blk_cell BK162.out 3).trans rfl, ((upw HB.out hw171_0 : _)), ((upw HB.out hw171_1 : _)), ((upw HB.out hw171_2 : _)), ((upw HB.out hw171_3 : _))⟩ (fun hHeld => ?_)
   clear hK K
   refine norm_ (a' := ?_) ?_ ?_
   rotate_left
   ·show Act.put _ (some 30) _ = _
    simp only [sx]
    rfl
   refine pure_ (i := 10) (N := some 31) (v := ?_) (a' := ?_) (bm 12 2047) rfl rfl (any_of HT_.out kr) qi (Or.inl ⟨by rfl, ?_⟩) ?_ ?_
   rotate_left
   ·intro w'
    go_simp
    with_reducible rfl
   rotate_left
   ·simp only [sx]
    rfl
   refine last_ (i := 11) (N := none) (bm 12 4095) rfl rfl (one_of HT_.out kr) (by decide) (fun K hK => ?_)
   have hs30 : w26.cell? ⟨gb170, 3, none⟩ = some (u171003) := (blk_cell BK170.out 3).trans rfl
   have hfs30 := blk_frozen BK170.out 3
   have hns30_0 := NB162_170.out
   have hns30_1 := NB163_170.out
   have hms30_0 := NB170_162.out
   have hms30_1 := NB170_163.out
   refine skip_ (w1 := ?_) (by rfl) rfl ?_ ?_
   rotate_left
   ·go_simp
    rfl
   refine hK.out _ _ ?_
   clear hK K
   refine done_ (done_of HT_.out kr) ?_
   try go_wp2
   go_roundg k1
   case measure => have := HK1.out; omega
   case rel => exact ⟨(wrap64 (x4_1 + 1)), (y180), (.slice Ao29 y180.length co29), rfs, H', ⟨by have := HK1.out; omega⟩, ⟨by (with_reducible repeat (first | apply Kd.R_alloc | apply Kd.R_drewN | apply Kd.R_drew)); exact Kd.R_mono (Kd.R_far (p := ⟨gb170, 3, none⟩) (Kd.R_types HO_171002.out BK170.out (by decide)) (fun _ hk => hk.2) (.slice Ao29 y180.length co29)) (fun _ hk => trivial)⟩, ⟨by (with_reducible repeat (first | apply Kd.R_alloc | apply Kd.R_drewN | apply Kd.R_drew)); exact Kd.R_mono (Kd.R_far (p := ⟨gb170, 3, none⟩) (Kd.R_mono HO182.out (fun k_ hk => (⟨hk, hk.2.2.2⟩ : _ ∧ k_ ≠ gb170))) (fun _ hk => hk.2) (.slice Ao29 y180.length co29)) (fun _ hk => ⟨hk.1.1, ⟨hk.1.2.1, ⟨hk.1.2.2.1, hk.1.2.2.2⟩⟩⟩)⟩, ⟨by (with_reducible repeat (first | refine blk_drewN ?_ _ | refine blk_drew ?_ | refine blk_alloc ?_ _)); refine blk_far ?_ NB162_170.out _; (with_reducible repeat (first | refine blk_drewN ?_ _ | refine blk_drew ?_ | refine blk_alloc ?_ _)); exact BK162.out⟩, ⟨by (with_reducible repeat (first | refine blk_drewN ?_ _ | refine blk_drew ?_ | refine blk_alloc ?_ _)); refine blk_far ?_ NB163_170.out _; (with_reducible repeat (first | refine blk_drewN ?_ _ | refine blk_drew ?_ | refine blk_alloc ?_ _)); exact BK163.out⟩, ⟨by (with_reducible repeat (first | refine blk_drewN ?_ _ | refine blk_drew ?_ | refine blk_alloc ?_ _)); refine blk_put (cs := #[.int .i64 a0_0, .int .i64 a0_1, .slice Ao12 y167.length co12, u171003]) ?_ 3 _ rfl; (with_reducible repeat (first | refine blk_drewN ?_ _ | refine blk_drew ?_ | refine blk_alloc ?_ _)); exact BK170.out⟩, ⟨blw⟩⟩

end Go.Proofs.Ytonimhfahjediaa.Pc
end
section
namespace Go.Proofs.Ytonimhfahjediaa.Pc
open Go.RowKit Go.Proofs.Ytonimhfahjediaa.Ext Go.Proofs.YtonimhfahjediaaW.PrintWords Go.Proofs.YtonimhfahjediaaW.PrintLast Go.Proofs.YtonimhfahjediaaW.PrintMore
attribute [local go_sem] max2_int min2_int max_two min_two max_three min_three max_four min_four   -- for this text's walks alone
set_option linter.unusedVariables false
set_option linter.unusedSimpArgs false

/-! ### spec_SameBag: function 7 -/
noncomputable def spec_SameBag.f (k : Nat) (a0_0 : Int) (a0_1 : Int) (l0_2 : List ByteArray) (l0_3 : List (S30)) (a1_0 : Int) (a1_1 : Int) (l1_2 : List ByteArray) (l1_3 : List (S30)) : Option (Bool) := (spec_CanonValue.f k a0_0 a0_1 l0_2 l0_3).bind fun bt185 => ((spec_CanonValue.f k a1_0 a1_1 l1_2 l1_3).bind fun bt193 => ((spec_CompareValues.f k bt185.1 bt185.2.1 bt185.2.2.1 bt185.2.2.2 bt193.1 bt193.2.1 bt193.2.2.1 bt193.2.2.2).bind fun t201 => (some (t201 == 0))))
set_option maxHeartbeats 8000000 in
set_option maxRecDepth 100000 in
theorem spec_SameBag.calls (k : Nat) (a0_0 : Int) (a0_1 : Int) (A0_2 : Option Addr) (c0_2 : Nat) (l0_2 : List ByteArray) (A0_3 : Option Addr) (c0_3 : Nat) (l0_3 : List (S30)) (a1_0 : Int) (a1_1 : Int) (A1_2 : Option Addr) (c1_2 : Nat) (l1_2 : List ByteArray) (A1_3 : Option Addr) (c1_3 : Nat) (l1_3 : List (S30)) (r : Bool) (w : World) (hr0_2 : Kd.C Kd.string w A0_2 l0_2.length l0_2) (hc0_2 : l0_2.length ≤ c0_2) (hr0_3 : Kd.C k30 w A0_3 l0_3.length l0_3) (hc0_3 : l0_3.length ≤ c0_3) (hr1_2 : Kd.C Kd.string w A1_2 l1_2.length l1_2) (hc1_2 : l1_2.length ≤ c1_2) (hr1_3 : Kd.C k30 w A1_3 l1_3.length l1_3) (hc1_3 : l1_3.length ≤ c1_3) (h : spec_SameBag.f k a0_0 a0_1 l0_2 l0_3 a1_0 a1_1 l1_2 l1_3 = some r) :
  Calls Try.prog 7 #[.agg #[.int .i64 a0_0, .int .i64 a0_1, .slice A0_2 l0_2.length c0_2, .slice A0_3 l0_3.length c0_3], .agg #[.int .i64 a1_0, .int .i64 a1_1, .slice A1_2 l1_2.length c1_2, .slice A1_3 l1_3.length c1_3]] w fun e w' => e = .returned (.bool r) ∧ Below w.heap.size w w' := by
 have hu30 := Try.underlying30
 have HR0_2 := am hr0_2
 have HC0_2 := am hc0_2
 clear hr0_2 hc0_2
 have HR0_3 := am hr0_3
 have HC0_3 := am hc0_3
 clear hr0_3 hc0_3
 have HR1_2 := am hr1_2
 have HC1_2 := am hc1_2
 clear hr1_2 hc1_2
 have HR1_3 := am hr1_3
 have HC1_3 := am hc1_3
 clear hr1_3 hc1_3
 have HB := am (Below.refl w.heap.size w)
 have H : ((spec_CanonValue.f k a0_0 a0_1 l0_2 l0_3).bind fun bt185 => ((spec_CanonValue.f k a1_0 a1_1 l1_2 l1_3).bind fun bt193 => ((spec_CompareValues.f k bt185.1 bt185.2.1 bt185.2.2.1 bt185.2.2.2 bt193.1 bt193.2.1 bt193.2.2.1 bt193.2.2.2).bind fun t201 => (some (t201 == 0))))) = some r := h
 clear h
 replace H := Option.bind_eq_some_iff.mp H
 obtain ⟨⟨t185, t186, t187, t190⟩, A30, H⟩ := H
 replace H : ((spec_CanonValue.f k a1_0 a1_1 l1_2 l1_3).bind fun bt193 => ((spec_CompareValues.f k t185 t186 t187 t190 bt193.1 bt193.2.1 bt193.2.2.1 bt193.2.2.2).bind fun t201 => (some (t201 == 0)))) = some r := H
 have A3 := am A30
 clear A30
 replace H := Option.bind_eq_some_iff.mp H
 obtain ⟨⟨t193, t194, t195, t198⟩, A40, H⟩ := H
 replace H : ((spec_CompareValues.f k t185 t186 t187 t190 t193 t194 t195 t198).bind fun t201 => (some (t201 == 0))) = some r := H
 have A4 := am A40
 clear A40
 replace H := Option.bind_eq_some_iff.mp H
 obtain ⟨t201, A50, H⟩ := H
 replace H : (some (t201 == 0)) = some r := H
 have A5 := am A50
 clear A50
 obtain rfl := Option.some.inj H
 go_enter Try.func7, Try.ntmps7
 try go_wp2_with (first | ((with_reducible refine gate_dst (N := 2) rfl ?_); refine box_event ?hg (N := 2) ?hd (cs := #[.int .i64 a0_0, .int .i64 a0_1, .slice A0_2 l0_2.length c0_2, .slice A0_3 l0_3.length c0_3]) (t := 30) ?hr ?_; (case hd => rfl); (case hg => rfl); (case hr => exact hrw); intro gb183 hg w6 hbox hb; have n0_ := am (below_step blw hb); have n1_ := am (hbox); have n2_ := am ((by rw [hg]; exact (below_size blw) : w.heap.size ≤ gb183)); have n3_ := n2_; clear HB; revert n0_ n1_ n2_ n3_; intro HB BK183 GW183 GE183; clear hb hbox hg) | ((with_reducible refine gate_dst (N := 3) rfl ?_); refine box_event ?hg (N := 3) ?hd (cs := #[.int .i64 a1_0, .int .i64 a1_1, .slice A1_2 l1_2.length c1_2, .slice A1_3 l1_3.length c1_3]) (t := 30) ?hr ?_; (case hd => rfl); (case hg => rfl); (case hr => exact hrw); intro gb184 hg w7 hbox hb; have n0_ := am (blk_below (g := gb183) bkw hb); have n1_ := am (below_step blw hb); have n2_ := am (hbox); have n3_ := am ((by rw [hg]; exact (below_size blw) : w.heap.size ≤ gb184)); have n4_ := n3_; have n5_ := am ((by rw [hg]; exact Nat.ne_of_lt (blk_lt (g := gb183) bkw) : gb183 ≠ gb184)); have n6_ := am ((by rw [hg]; exact Nat.ne_of_gt (blk_lt (g := gb183) bkw) : gb184 ≠ gb183)); clear BK183; clear HB; revert n0_ n1_ n2_ n3_ n4_ n5_ n6_; intro BK183 HB BK184 GW184 GE184 NB183_184 NB184_183; clear hb hbox hg))
 have n0_ := am (blk_drew BK183.out)
 have n1_ := am (blk_drew BK184.out)
 have n2_ := am (below_drew1 HB.out)
 clear BK183
 clear BK184
 clear HB
 revert n0_ n1_ n2_
 intro BK183 BK184 HB
 refine start_ (n := 7) (S := fun w' => w'.cell? ⟨gb183, 0, none⟩ = some (.int .i64 a0_0) ∧ w'.cell? ⟨gb183, 1, none⟩ = some (.int .i64 a0_1) ∧ w'.cell? ⟨gb183, 2, none⟩ = some (.slice A0_2 l0_2.length c0_2) ∧ w'.cell? ⟨gb183, 3, none⟩ = some (.slice A0_3 l0_3.length c0_3) ∧ w'.cell? ⟨gb184, 0, none⟩ = some (.int .i64 a1_0) ∧ w'.cell? ⟨gb184, 1, none⟩ = some (.int .i64 a1_1) ∧ w'.cell? ⟨gb184, 2, none⟩ = some (.slice A1_2 l1_2.length c1_2) ∧ w'.cell? ⟨gb184, 3, none⟩ = some (.slice A1_3 l1_3.length c1_3)) (ds := []) #[false,false,false,false,false,false,false] kr rfl rfl ⟨(blk_cell BK183.out 0).trans rfl, (blk_cell BK183.out 1).trans rfl, (blk_cell BK183.out 2).trans rfl, (blk_cell BK183.out 3).trans rfl, (blk_cell BK184.out 0).trans rfl, (blk_cell BK184.out 1).trans rfl, (blk_cell BK184.out 2).trans rfl, (blk_cell BK184.out 3).trans rfl⟩ (fun hHeld => ?_)
 generalize w7.drew = w8 at BK183 BK184 HB hHeld ⊢
 refine take_ (i := 0) (N := some 5) (v := ?_) (a' := ?_) (bm 7 1) rfl rfl kr qi (Or.inl ⟨by rfl, ?_⟩) hHeld ?_ ?_
 rotate_left
 ·rintro w' ⟨s0, s1, s2, s3, s4, s5, s6, s7⟩
  go_simp
  with_reducible rfl
 rotate_left
 ·simp only [sx]
  rfl
 refine take_ (i := 2) (N := some 7) (v := ?_) (a' := ?_) (bm 7 5) rfl rfl kr qi (Or.inl ⟨by rfl, ?_⟩) hHeld ?_ ?_
 rotate_left
 ·rintro w' ⟨s0, s1, s2, s3, s4, s5, s6, s7⟩
  go_simp
  with_reducible rfl
 rotate_left
 ·simp only [sx]
  rfl
 refine one_ (i := 1) (N := some 6) (bm 7 7) rfl rfl kr (by decide) (fun K hK => ?_)
 refine goes_ Try.func13 kr rfl #[.agg #[.int .i64 a0_0, .int .i64 a0_1, .slice A0_2 l0_2.length c0_2, .slice A0_3 l0_3.length c0_3]] (by rfl) rfl rfl mpw ?_
 with_reducible refine (spec_CanonValue.calls k a0_0 a0_1 _ _ l0_2 _ _ l0_3 t185 t186 t187 t190 _ ?side1 ?side2 ?side3 ?side4 A3.out).mono ?_
 (case side1 => have X_ := HR0_2; exact cbl)
 (case side2 => exact HC0_2.out)
 (case side3 => have X_ := HR0_3; exact cbl)
 (case side4 => exact HC0_3.out)
 rintro e w9 ⟨v188, v191, rfl, ho0, ho1, hb⟩
 refine ⟨_, rfl, ?_⟩
 have n0_ := am (Kd.R_lower ho0 (below_size blw))
 have n1_ := am (Kd.R_lower (Kd.R_newB (Kd.R_newB ho1 (g := gb183) (o := .cells #[.int .i64 a0_0, .int .i64 a0_1, .slice A0_2 l0_2.length c0_2, .slice A0_3 l0_3.length c0_3] 30 (0, 0)) bkw) (g := gb184) (o := .cells #[.int .i64 a1_0, .int .i64 a1_1, .slice A1_2 l1_2.length c1_2, .slice A1_3 l1_3.length c1_3] 30 (0, 0)) bkw) (below_size blw))
 have n2_ := am (blk_below (g := gb183) bkw hb)
 have n3_ := am (blk_below (g := gb184) bkw hb)
 have n4_ := am (below_step blw hb)
 clear BK183
 clear BK184
 clear HB
 revert n0_ n1_ n2_ n3_ n4_
 intro HO189 HO192 BK183 BK184 HB
 (try clear hb)
 (try clear hb2)
 (try clear hk)
 (try clear hi)
 (try clear ho0)
 (try clear ho1)
 refine hK.out _ _ ⟨(blk_cell BK183.out 0).trans rfl, (blk_cell BK183.out 1).trans rfl, (blk_cell BK183.out 2).trans rfl, (blk_cell BK183.out 3).trans rfl, (blk_cell BK184.out 0).trans rfl, (blk_cell BK184.out 1).trans rfl, (blk_cell BK184.out 2).trans rfl, (blk_cell BK184.out 3).trans rfl⟩ (fun hHeld => ?_)
 clear hK K
 refine norm_ (a' := ?_) ?_ ?_
 rotate_left
 ·show Act.put _ (some 6) _ = _
  simp only [sx]
  rfl
 refine one_ (i := 3) (N := some 8) (bm 7 15) rfl rfl kr (by decide) (fun K hK => ?_)
 refine goes_ Try.func13 kr rfl #[.agg #[.int .i64 a1_0, .int .i64 a1_1, .slice A1_2 l1_2.length c1_2, .slice A1_3 l1_3.length c1_3]] (by rfl) rfl rfl mpw ?_
 with_reducible refine (spec_CanonValue.calls k a1_0 a1_1 _ _ l1_2 _ _ l1_3 t193 t194 t195 t198 _ ?side1 ?side2 ?side3 ?side4 A4.out).mono ?_
 (case side1 => have X_ := HR1_2; exact cbl)
 (case side2 => exact HC1_2.out)
 (case side3 => have X_ := HR1_3; exact cbl)
 (case side4 => exact HC1_3.out)
 rintro e w10 ⟨v196, v199, rfl, ho0, ho1, hb⟩
 refine ⟨_, rfl, ?_⟩
 have n0_ := am (Kd.R_elder' (by (with_reducible repeat (first | apply Kd.R_alloc | apply Kd.R_drewN | apply Kd.R_drew)); exact HO189.out) (Kd.R_base ho0) hb)
 have n1_ := am (Kd.R_mono (Kd.R_told (Kd.R_told (Kd.R_old (by (with_reducible repeat (first | apply Kd.R_alloc | apply Kd.R_drewN | apply Kd.R_drew)); exact HO192.out) hb) (Kd.R_base ho0)) (Kd.R_base ho1)) (fun _ h_ => h_.1))
 have n2_ := am (Kd.R_lower (Kd.R_new' ho0 (Kd.R_lt (by (with_reducible repeat (first | apply Kd.R_alloc | apply Kd.R_drewN | apply Kd.R_drew)); exact HO189.out))) (below_size blw))
 have n3_ := am (Kd.R_lower (Kd.R_newB (Kd.R_newB (Kd.R_new' (Kd.R_new' ho1 (Kd.R_lt (by (with_reducible repeat (first | apply Kd.R_alloc | apply Kd.R_drewN | apply Kd.R_drew)); exact HO189.out))) (Kd.R_lt (by (with_reducible repeat (first | apply Kd.R_alloc | apply Kd.R_drewN | apply Kd.R_drew)); exact HO192.out))) (g := gb183) (o := .cells #[.int .i64 a0_0, .int .i64 a0_1, .slice A0_2 l0_2.length c0_2, .slice A0_3 l0_3.length c0_3] 30 (0, 0)) bkw) (g := gb184) (o := .cells #[.int .i64 a1_0, .int .i64 a1_1, .slice A1_2 l1_2.length c1_2, .slice A1_3 l1_3.length c1_3] 30 (0, 0)) bkw) (below_size blw))
 have n4_ := am (blk_below (g := gb183) bkw hb)
 have n5_ := am (blk_below (g := gb184) bkw hb)
 have n6_ := am (below_step blw hb)
 clear HO189
 clear HO192
 clear BK183
 clear BK184
 clear HB
 revert n0_ n1_ n2_ n3_ n4_ n5_ n6_
 intro HO189 HO192 HO197 HO200 BK183 BK184 HB
 (try clear hb)
 (try clear hb2)
 (try clear hk)
 (try clear hi)
 (try clear ho0)
 (try clear ho1)
 obtain ⟨Ao11, co11, eo11⟩ := Kd.R_slice HO189.out
 (first | subst eo11 | (injection eo11 with f1_ f2_ f3_; have f4_ := f1_.symm; have f5_ := f3_.symm; clear f1_ f2_ f3_; subst f4_; subst f5_))
 obtain ⟨Ao12, co12, eo12⟩ := Kd.R_slice HO192.out
 (first | subst eo12 | (injection eo12 with f1_ f2_ f3_; have f4_ := f1_.symm; have f5_ := f3_.symm; clear f1_ f2_ f3_; subst f4_; subst f5_))
 obtain ⟨Ao13, co13, eo13⟩ := Kd.R_slice HO197.out
 (first | subst eo13 | (injection eo13 with f1_ f2_ f3_; have f4_ := f1_.symm; have f5_ := f3_.symm; clear f1_ f2_ f3_; subst f4_; subst f5_))
 obtain ⟨Ao14, co14, eo14⟩ := Kd.R_slice HO200.out
 (first | subst eo14 | (injection eo14 with f1_ f2_ f3_; have f4_ := f1_.symm; have f5_ := f3_.symm; clear f1_ f2_ f3_; subst f4_; subst f5_))
 refine hK.out _ _ ⟨(blk_cell BK183.out 0).trans rfl, (blk_cell BK183.out 1).trans rfl, (blk_cell BK183.out 2).trans rfl, (blk_cell BK183.out 3).trans rfl, (blk_cell BK184.out 0).trans rfl, (blk_cell BK184.out 1).trans rfl, (blk_cell BK184.out 2).trans rfl, (blk_cell BK184.out 3).trans rfl⟩ (fun hHeld => ?_)
 clear hK K
 refine norm_ (a' := ?_) ?_ ?_
 rotate_left
 ·show Act.put _ (some 8) _ = _
  simp only [sx]
  rfl
 refine one_ (i := 4) (N := some 9) (bm 7 31) rfl rfl kr (by decide) (fun K hK => ?_)
 refine goes_ Try.func19 kr rfl #[.agg #[.int .i64 t185, .int .i64 t186, .slice Ao11 t187.length co11, .slice Ao12 t190.length co12], .agg #[.int .i64 t193, .int .i64 t194, .slice Ao13 t195.length co13, .slice Ao14 t198.length co14]] (by rfl) rfl rfl mpw ?_
 with_reducible refine (spec_CompareValues.calls k t185 t186 _ _ t187 _ _ t190 t193 t194 _ _ t195 _ _ t198 t201 _ ?side1 ?side2 ?side3 ?side4 ?side5 ?side6 ?side7 ?side8 A5.out).mono ?_
 (case side1 => repeat (first | exact (Kd.R_reads' HO189.out).2.2 | (with_reducible refine Kd.C_alloc ?_ _) | (with_reducible refine Kd.C_drewN ?_ _) | (with_reducible refine Kd.C_drew ?_)))
 (case side2 => exact (Kd.R_reads' HO189.out).2.1)
 (case side3 => repeat (first | exact (Kd.R_reads' HO192.out).2.2 | (with_reducible refine Kd.C_alloc ?_ _) | (with_reducible refine Kd.C_drewN ?_ _) | (with_reducible refine Kd.C_drew ?_)))
 (case side4 => exact (Kd.R_reads' HO192.out).2.1)
 (case side5 => repeat (first | exact (Kd.R_reads' HO197.out).2.2 | (with_reducible refine Kd.C_alloc ?_ _) | (with_reducible refine Kd.C_drewN ?_ _) | (with_reducible refine Kd.C_drew ?_)))
 (case side6 => exact (Kd.R_reads' HO197.out).2.1)
 (case side7 => repeat (first | exact (Kd.R_reads' HO200.out).2.2 | (with_reducible refine Kd.C_alloc ?_ _) | (with_reducible refine Kd.C_drewN ?_ _) | (with_reducible refine Kd.C_drew ?_)))
 (case side8 => exact (Kd.R_reads' HO200.out).2.1)
 rintro e w15 ⟨rfl, hb⟩
 refine ⟨_, rfl, ?_⟩
 have n0_ := am (Kd.R_below (by (with_reducible repeat (first | apply Kd.R_alloc | apply Kd.R_drewN | apply Kd.R_drew)); exact HO189.out) hb)
 have n1_ := am (Kd.R_below (by (with_reducible repeat (first | apply Kd.R_alloc | apply Kd.R_drewN | apply Kd.R_drew)); exact HO192.out) hb)
 have n2_ := am (Kd.R_below (by (with_reducible repeat (first | apply Kd.R_alloc | apply Kd.R_drewN | apply Kd.R_drew)); exact HO197.out) hb)
 have n3_ := am (Kd.R_below (by (with_reducible repeat (first | apply Kd.R_alloc | apply Kd.R_drewN | apply Kd.R_drew)); exact HO200.out) hb)
 have n4_ := am (blk_below (g := gb183) bkw hb)
 have n5_ := am (blk_below (g := gb184) bkw hb)
 have n6_ := am (below_step blw hb)
 clear HO189
 clear HO192
 clear HO197
 clear HO200
 clear BK183
 clear BK184
 clear HB
 revert n0_ n1_ n2_ n3_ n4_ n5_ n6_
 intro HO189 HO192 HO197 HO200 BK183 BK184 HB
 (try clear hb)
 (try clear hb2)
 (try clear hk)
 (try clear hi)
 refine hK.out _ _ ⟨(blk_cell BK183.out 0).trans rfl, (blk_cell BK183.out 1).trans rfl, (blk_cell BK183.out 2).trans rfl, (blk_cell BK183.out 3).trans rfl, (blk_cell BK184.out 0).trans rfl, (blk_cell BK184.out 1).trans rfl, (blk_cell BK184.out 2).trans rfl, (blk_cell BK184.out 3).trans rfl⟩ (fun hHeld => ?_)
 clear hK K
 refine norm_ (a' := ?_) ?_ ?_
 rotate_left
 ·show Act.put _ (some 9) _ = _
  simp only [sx]
  rfl
 refine pure_ (i := 5) (N := some 10) (v := ?_) (a' := ?_) (bm 7 63) rfl rfl kr qi (Or.inl ⟨by rfl, ?_⟩) ?_ ?_
 rotate_left
 ·intro w'
  go_simp
  with_reducible rfl
 rotate_left
 ·simp only [sx]
  rfl
 refine pure_ (i := 6) (N := some 4) (v := ?_) (a' := ?_) (bm 7 127) rfl rfl kr qi (Or.inl ⟨by rfl, ?_⟩) ?_ ?_
 rotate_left
 ·intro w'
  go_simp
  with_reducible rfl
 rotate_left
 ·simp only [sx]
  rfl
 refine done_ kr ?_
 try go_wp2
 go_ret
 exact ⟨rfw, blw⟩
end Go.Proofs.Ytonimhfahjediaa.Pc
end
