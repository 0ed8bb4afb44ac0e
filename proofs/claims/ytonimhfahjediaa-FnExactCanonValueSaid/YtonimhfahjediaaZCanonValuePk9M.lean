/- Printed by a program of this session: what functions of the translation come to, each contract as it stands. No condition. -/
import Derived.Test.YtonimhfahjediaaZCanonValueSh
import Derived.Test.YtonimhfahjediaaZCanonValueWTabM
import Derived.Test.YtonimhfahjediaaZCanonValuePkSortSM
import Derived.Test.YtonimhfahjediaaZCanonValuePk11M
section
namespace Go.Proofs.Ytonimhfahjediaa.Pk
open Go.RowKit Go.Proofs.Ytonimhfahjediaa.Ext Go.Proofs.YtonimhfahjediaaW.PrintWords Go.Proofs.YtonimhfahjediaaW.PrintLast Go.Proofs.YtonimhfahjediaaW.PrintMore
attribute [local go_sem] max2_int min2_int max_two min_two max_three min_three max_four min_four   -- for this text's walks alone
set_option linter.unusedVariables false
set_option linter.unusedSimpArgs false

/-! ### impl_CanonValue: function 14 -/
mutual
noncomputable def impl_CanonValue.l0 : Nat → List (S30) → Int → Int → Int → Int → List ByteArray → List (S30) → Int → Int → List ByteArray → List (S30) → Option (Int × Int × List ByteArray × (List (S30)))
 | 0, _, _, _, _, _, _, _, _, _, _, _ => none
 | k + 1, x15, x16, x17, x241000, x241001, x241002, x241003, x246000, x246001, x246002, x246003 => if x17 < x16 then (if 0 ≤ x17 then (if x17 < (x15.length : Int) then ((impl_CanonValue.f k ((rd_T30 x15 x17).f0) ((rd_T30 x15 x17).f1) ((rd_T30 x15 x17).f2) ((rd_T30 x15 x17).f3)).bind fun bt248 => (if x246003.length < 2199023255552 then (impl_CanonValue.l0 k x15 x16 (wrap64 (x17 + 1)) x241000 x241001 x241002 x241003 x246000 x246001 x246002 (x246003 ++ [(⟨bt248.1, bt248.2.1, bt248.2.2.1, bt248.2.2.2⟩ : S30)])) else (none))) else (none)) else (none)) else (if x241000 = 4 then ((srt x246003).bind fun s_ => (some (x246000, x246001, x246002, s_))) else (some (x246000, x246001, x246002, x246003)))
noncomputable def impl_CanonValue.f : Nat → Int → Int → List ByteArray → List (S30) → Option (Int × Int × List ByteArray × (List (S30)))
 | 0, _, _, _, _ => none
 | k + 1, a0_0, a0_1, l0_2, l0_3 => (slices_Clone_string_string.f l0_2).bind fun t242 => (impl_CanonValue.l0 k l0_3 (l0_3.length : Int) 0 a0_0 a0_1 l0_2 l0_3 a0_0 a0_1 t242 ([] : List (S30)))
end
def impl_CanonValue.T1 : Bool × List (List Nat × List Nat) := (true, [([], []), ([0], [0]), ([], []), ([2], [2]), ([], []), ([4], [4]), ([5], [5]), ([1, 3, 6], [1, 3, 6]), ([], []), ([8, 7, 6, 0, 1, 2, 3, 4, 5, 6, 7, 8], [7, 8])])
def impl_CanonValue.B1 : List Nat := [0, 1, 0, 4, 0, 16, 48, 127, 0, 511]
theorem impl_CanonValue.tab1 : rtab .any (opsOf Try.f14 1) = impl_CanonValue.T1 := by kernel_rfl
theorem impl_CanonValue.bits1 : waitsOk impl_CanonValue.T1.2 impl_CanonValue.B1 = true := by kernel_rfl
def impl_CanonValue.T5 : Bool × List (List Nat × List Nat) := (true, [([], []), ([0], [0]), ([], []), ([2], [2]), ([3], [3]), ([1, 4, 3], [1, 4]), ([0, 1, 2, 3, 4, 5], []), ([6, 5, 5, 0, 1, 2, 3, 4, 5], [5, 6])])
def impl_CanonValue.B5 : List Nat := [0, 1, 0, 4, 12, 31, 63, 127]
theorem impl_CanonValue.tab5 : rtab .any (opsOf Try.f14 5) = impl_CanonValue.T5 := by kernel_rfl
theorem impl_CanonValue.bits5 : waitsOk impl_CanonValue.T5.2 impl_CanonValue.B5 = true := by kernel_rfl
set_option maxHeartbeats 8000000 in
set_option maxRecDepth 100000 in
theorem impl_CanonValue.calls (k : Nat) : ∀ (a0_0 : Int) (a0_1 : Int) (A0_2 : Option Addr) (c0_2 : Nat) (l0_2 : List ByteArray) (A0_3 : Option Addr) (c0_3 : Nat) (l0_3 : List (S30)) (r1 : Int) (r2 : Int) (r3 : List ByteArray) (r4 : List (S30)) (w : World) (hr0_2 : Kd.C Kd.string w A0_2 l0_2.length l0_2) (hc0_2 : l0_2.length ≤ c0_2) (hr0_3 : Kd.C k30 w A0_3 l0_3.length l0_3) (hc0_3 : l0_3.length ≤ c0_3) (h : impl_CanonValue.f k a0_0 a0_1 l0_2 l0_3 = some (r1, r2, r3, r4)),
  Calls Try.prog 14 #[.agg #[.int .i64 a0_0, .int .i64 a0_1, .slice A0_2 l0_2.length c0_2, .slice A0_3 l0_3.length c0_3]] w fun e w' => ∃ v2_ v3_ : Value, e = .returned (.agg #[.int .i64 r1, .int .i64 r2, v2_, v3_]) ∧ Kd.R Kd.string 9 w' w.heap.size (fun _ => True) v2_ r3 ∧ Kd.S k30 30 w' w.heap.size (fun k_ => some k_ ≠ (v2_ : Value).ownBlock) v3_ r4 ∧ Below w.heap.size w w' := by
 induction k using Nat.strongRecOn with
 | _ k ih =>
 intro a0_0 a0_1 A0_2 c0_2 l0_2 A0_3 c0_3 l0_3 r1 r2 r3 r4 w hr0_2 hc0_2 hr0_3 hc0_3 h
 cases k with
 | zero => exact absurd h (by simp [impl_CanonValue.f])
 | succ k =>
 simp only [impl_CanonValue.f] at h
 have hu30 := Try.underlying30
 have HR0_2 := am hr0_2
 have HC0_2 := am hc0_2
 clear hr0_2 hc0_2
 have HR0_3 := am hr0_3
 have HC0_3 := am hc0_3
 clear hr0_3 hc0_3
 have HB := am (Below.refl w.heap.size w)
 have H : ((slices_Clone_string_string.f l0_2).bind fun t242 => (impl_CanonValue.l0 k l0_3 (l0_3.length : Int) 0 a0_0 a0_1 l0_2 l0_3 a0_0 a0_1 t242 ([] : List (S30)))) = some (r1, r2, r3, r4) := h
 clear h
 replace H := Option.bind_eq_some_iff.mp H
 obtain ⟨t242, A20, H⟩ := H
 replace H : (impl_CanonValue.l0 k l0_3 (l0_3.length : Int) 0 a0_0 a0_1 l0_2 l0_3 a0_0 a0_1 t242 ([] : List (S30))) = some (r1, r2, r3, r4) := H
 have A2 := am A20
 clear A20
 have H' := am H
 clear H
 go_enter Try.func14, Try.ntmps14
 try go_wp2_with (first | ((with_reducible refine gate_dst (N := 1) rfl ?_); refine box_event ?hg (N := 1) ?hd (cs := #[.int .i64 a0_0, .int .i64 a0_1, .slice A0_2 l0_2.length c0_2, .slice A0_3 l0_3.length c0_3]) (t := 30) ?hr ?_; (case hd => rfl); (case hg => rfl); (case hr => exact hrw); intro gb240 hg w3 hbox hb; have n0_ := am (below_step blw hb); have n1_ := am (hbox); have n2_ := am ((by rw [hg]; exact (below_size blw) : w.heap.size ≤ gb240)); have n3_ := n2_; clear HB; revert n0_ n1_ n2_ n3_; intro HB BK240 GW240 GE240; clear hb hbox hg) | ((with_reducible refine gate_dst (N := 2) rfl ?_); refine box_event ?hg (N := 2) ?hd (cs := #[.int .i64 0, .int .i64 0, .slice none 0 0, .slice none 0 0]) (t := 30) ?hr ?_; (case hd => rfl); (case hg => rfl); (case hr => exact hrw); intro gb241 hg w4 hbox hb; have n0_ := am (blk_below (g := gb240) bkw hb); have n1_ := am (below_step blw hb); have n2_ := am (hbox); have n3_ := am ((by rw [hg]; exact (below_size blw) : w.heap.size ≤ gb241)); have n4_ := n3_; have n5_ := am ((by rw [hg]; exact Nat.ne_of_lt (blk_lt (g := gb240) bkw) : gb240 ≠ gb241)); have n6_ := am ((by rw [hg]; exact Nat.ne_of_gt (blk_lt (g := gb240) bkw) : gb241 ≠ gb240)); clear BK240; clear HB; revert n0_ n1_ n2_ n3_ n4_ n5_ n6_; intro BK240 HB BK241 GW241 GE241 NB240_241 NB241_240; clear hb hbox hg))
 have n0_ := am (blk_drew BK240.out)
 have n1_ := am (blk_drew BK241.out)
 have n2_ := am (below_drew1 HB.out)
 clear BK240
 clear BK241
 clear HB
 revert n0_ n1_ n2_
 intro BK240 BK241 HB
 refine start_ (n := 10) (S := fun w' => w'.cell? ⟨gb240, 0, none⟩ = some (.int .i64 a0_0) ∧ w'.cell? ⟨gb240, 1, none⟩ = some (.int .i64 a0_1) ∧ w'.cell? ⟨gb240, 2, none⟩ = some (.slice A0_2 l0_2.length c0_2) ∧ w'.cell? ⟨gb240, 3, none⟩ = some (.slice A0_3 l0_3.length c0_3)) (ds := []) #[false,false,false,false,false,false,false,false,false,false] kr rfl rfl ⟨(blk_cell BK240.out 0).trans rfl, (blk_cell BK240.out 1).trans rfl, (blk_cell BK240.out 2).trans rfl, (blk_cell BK240.out 3).trans rfl⟩ (fun hHeld => ?_); refine with_tabW impl_CanonValue.tab1 impl_CanonValue.bits1 (fun HT_ HW_ => ?_)
 generalize w4.drew = w5 at BK240 BK241 HB hHeld ⊢
 refine pure_ (i := 0) (N := some 6) (v := ?_) (a' := ?_) (bm 10 1) rfl rfl (any_of HT_.out kr) qi (Or.inl ⟨by rfl, ?_⟩) ?_ ?_
 rotate_left
 ·intro w'
  go_simp
  with_reducible rfl
 rotate_left
 ·simp only [sx]
  rfl
 refine pure_ (i := 2) (N := some 8) (v := ?_) (a' := ?_) (bm 10 5) rfl rfl (any_of HT_.out kr) qi (Or.inl ⟨by rfl, ?_⟩) ?_ ?_
 rotate_left
 ·intro w'
  go_simp
  with_reducible rfl
 rotate_left
 ·simp only [sx]
  rfl
 refine pure_ (i := 4) (N := some 10) (v := ?_) (a' := ?_) (bm 10 21) rfl rfl (any_of HT_.out kr) qi (Or.inl ⟨by rfl, ?_⟩) ?_ ?_
 rotate_left
 ·intro w'
  go_simp
  with_reducible rfl
 rotate_left
 ·simp only [sx]
  rfl
 refine take_ (i := 1) (N := some 7) (v := ?_) (a' := ?_) (bm 10 23) rfl rfl (take_ofW HT_.out HW_.out kr) qi (Or.inl ⟨by rfl, ?_⟩) hHeld ?_ ?_
 rotate_left
 ·rintro w' ⟨s0, s1, s2, s3⟩
  go_simp
  with_reducible rfl
 rotate_left
 ·simp only [sx]
  rfl
 refine take_ (i := 3) (N := some 9) (v := ?_) (a' := ?_) (bm 10 31) rfl rfl (take_ofW HT_.out HW_.out kr) qi (Or.inl ⟨by rfl, ?_⟩) hHeld ?_ ?_
 rotate_left
 ·rintro w' ⟨s0, s1, s2, s3⟩
  go_simp
  with_reducible rfl
 rotate_left
 ·simp only [sx]
  rfl
 refine take_ (i := 5) (N := some 11) (v := ?_) (a' := ?_) (bm 10 63) rfl rfl (take_ofW HT_.out HW_.out kr) qi (Or.inl ⟨by rfl, ?_⟩) hHeld ?_ ?_
 rotate_left
 ·rintro w' ⟨s0, s1, s2, s3⟩
  go_simp
  with_reducible rfl
 rotate_left
 ·simp only [sx]
  rfl
 refine join_ (σ := Value × Nat) 1 #[true,true,true,true,true,true,true,true,true,false] (fun s_ => [(12, s_.1), (3, .pointer (some ⟨s_.2, 0, none⟩)), (13, .agg #[.int .i64 a0_0, .int .i64 a0_1, s_.1, .slice none 0 0])]) (fun s_ w' => (w'.cell? ⟨gb240, 0, none⟩ = some (.int .i64 a0_0) ∧ w'.cell? ⟨gb240, 1, none⟩ = some (.int .i64 a0_1) ∧ w'.cell? ⟨gb240, 2, none⟩ = some (.slice A0_2 l0_2.length c0_2) ∧ w'.cell? ⟨gb240, 3, none⟩ = some (.slice A0_3 l0_3.length c0_3)) ∧ (Kd.R Kd.string 9 w' w.heap.size (fun _ => True) s_.1 t242) ∧ (w'.heap[gb240]? = some (.cells #[.int .i64 a0_0, .int .i64 a0_1, .slice A0_2 l0_2.length c0_2, .slice A0_3 l0_3.length c0_3] 30 (0, 0))) ∧ (w'.heap[gb241]? = some (.cells #[.int .i64 0, .int .i64 0, .slice none 0 0, .slice none 0 0] 30 (0, 0))) ∧ (w'.heap[s_.2]? = some (.cells #[.int .i64 0, .int .i64 0, .slice none 0 0, .slice none 0 0] 30 (0, 0))) ∧ (w.heap.size ≤ s_.2) ∧ (w.heap.size ≤ s_.2) ∧ (gb240 ≠ s_.2) ∧ (s_.2 ≠ gb240) ∧ (gb241 ≠ s_.2) ∧ (s_.2 ≠ gb241) ∧ (Below w.heap.size w w')) ?_ ?_
 rotate_left
 ·intro hCont
  refine two_ (i := 6) (j := 8) (Ni := some 12) (Nj := some 3) #[true,true,true,true,true,true,true,false,false,false] #[true,true,true,true,true,true,false,false,true,false] rfl rfl rfl rfl (two_of HT_.out kr) (by decide) (by decide) (fun K hK => ?_) (fun K hK => ?_)
  ·skip
   refine goes_ Try.func27 kr rfl #[.slice A0_2 l0_2.length c0_2] (by rfl) rfl rfl mpw ?_
   with_reducible refine (slices_Clone_string_string.calls _ _ l0_2 t242 _ ?side1 ?side2 A2.out).mono ?_
   (case side1 => have X_ := HR0_2; exact cbl)
   (case side2 => exact HC0_2.out)
   rintro e w6 ⟨v243, rfl, ho0, hb⟩
   refine ⟨_, rfl, ?_⟩
   have n0_ := am (Kd.R_lower ho0 (below_size blw))
   have n1_ := am (blk_below (g := gb240) bkw hb)
   have n2_ := am (blk_below (g := gb241) bkw hb)
   have n3_ := am (below_step blw hb)
   clear BK240
   clear BK241
   clear HB
   revert n0_ n1_ n2_ n3_
   intro HO244 BK240 BK241 HB
   (try clear hb)
   (try clear hb2)
   (try clear hk)
   (try clear hi)
   (try clear ho0)
   obtain ⟨Ao7, co7, eo7⟩ := Kd.R_slice HO244.out
   (first | subst eo7 | (injection eo7 with f1_ f2_ f3_; have f4_ := f1_.symm; have f5_ := f3_.symm; clear f1_ f2_ f3_; subst f4_; subst f5_))
   refine hK.out _ _ ⟨(blk_cell BK240.out 0).trans rfl, (blk_cell BK240.out 1).trans rfl, (blk_cell BK240.out 2).trans rfl, (blk_cell BK240.out 3).trans rfl⟩ (fun hHeld => ?_)
   clear hK K
   refine norm_ (a' := ?_) ?_ ?_
   rotate_left
   ·show Act.put _ (some 12) _ = _
    simp only [sx]
    rfl
   refine pure_ (i := 7) (N := some 13) (v := ?_) (a' := ?_) (bm 10 255) rfl rfl (any_of HT_.out kr) qi (Or.inl ⟨by rfl, ?_⟩) ?_ ?_
   rotate_left
   ·intro w'
    go_simp
    with_reducible rfl
   rotate_left
   ·simp only [sx]
    rfl
   refine one_ (i := 8) (N := some 3) (bm 10 511) rfl rfl (one_of HT_.out kr) (by decide) (fun K hK => ?_)
   refine box_step ?hg (N := 3) ?hd (cs := #[.int .i64 0, .int .i64 0, .slice none 0 0, .slice none 0 0]) (t := 30) ?hr ?_; (case hd => rfl); (case hg => rfl); (case hr => exact hrw)
   intro gb245 hg w8 hbox hb
   have n0_ := am (Kd.R_below (by (with_reducible repeat (first | apply Kd.R_alloc | apply Kd.R_drewN | apply Kd.R_drew)); exact HO244.out) hb)
   have n1_ := am (blk_below (g := gb240) bkw hb)
   have n2_ := am (blk_below (g := gb241) bkw hb)
   have n3_ := am (below_step blw hb)
   have n4_ := am (hbox)
   have n5_ := am ((by rw [hg]; exact (below_size blw) : w.heap.size ≤ gb245))
   have n6_ := am ((by rw [hg]; exact (below_size blw) : w.heap.size ≤ gb245))
   have n7_ := am ((by rw [hg]; exact Nat.ne_of_lt (blk_lt (g := gb240) bkw) : gb240 ≠ gb245))
   have n8_ := am ((by rw [hg]; exact Nat.ne_of_gt (blk_lt (g := gb240) bkw) : gb245 ≠ gb240))
   have n9_ := am ((by rw [hg]; exact Nat.ne_of_lt (blk_lt (g := gb241) bkw) : gb241 ≠ gb245))
   have n10_ := am ((by rw [hg]; exact Nat.ne_of_gt (blk_lt (g := gb241) bkw) : gb245 ≠ gb241))
   clear HO244
   clear BK240
   clear BK241
   clear HB
   revert n0_ n1_ n2_ n3_ n4_ n5_ n6_ n7_ n8_ n9_ n10_
   intro HO244 BK240 BK241 HB BK245 GW245 GE245 NB240_245 NB245_240 NB241_245 NB245_241
   clear hb hbox hg
   refine hK.out _ _ ⟨(blk_cell BK240.out 0).trans rfl, (blk_cell BK240.out 1).trans rfl, (blk_cell BK240.out 2).trans rfl, (blk_cell BK240.out 3).trans rfl⟩ (fun hHeld => ?_)
   clear hK K
   refine norm_ (a' := ?_) ?_ ?_
   rotate_left
   ·show Act.put _ (some 3) _ = _
    simp only [sx]
    rfl
   exact norm_ (by simp only [putAll, Act.put, List.setIfInBounds_toArray, List.set_cons_zero, List.set_cons_succ]) (hCont (.slice Ao7 t242.length co7, gb245) _ ⟨hHeld, (by (with_reducible repeat (first | apply Kd.R_alloc | apply Kd.R_drewN | apply Kd.R_drew)); exact HO244.out), bkw, bkw, bkw, GW245.out, GE245.out, NB240_245.out, NB245_240.out, NB241_245.out, NB245_241.out, blw⟩)
  ·skip
   refine box_step ?hg (N := 3) ?hd (cs := #[.int .i64 0, .int .i64 0, .slice none 0 0, .slice none 0 0]) (t := 30) ?hr ?_; (case hd => rfl); (case hg => rfl); (case hr => exact hrw)
   intro gb245 hg w6 hbox hb
   have n0_ := am (blk_below (g := gb240) bkw hb)
   have n1_ := am (blk_below (g := gb241) bkw hb)
   have n2_ := am (below_step blw hb)
   have n3_ := am (hbox)
   have n4_ := am ((by rw [hg]; exact (below_size blw) : w.heap.size ≤ gb245))
   have n5_ := am ((by rw [hg]; exact (below_size blw) : w.heap.size ≤ gb245))
   have n6_ := am ((by rw [hg]; exact Nat.ne_of_lt (blk_lt (g := gb240) bkw) : gb240 ≠ gb245))
   have n7_ := am ((by rw [hg]; exact Nat.ne_of_gt (blk_lt (g := gb240) bkw) : gb245 ≠ gb240))
   have n8_ := am ((by rw [hg]; exact Nat.ne_of_lt (blk_lt (g := gb241) bkw) : gb241 ≠ gb245))
   have n9_ := am ((by rw [hg]; exact Nat.ne_of_gt (blk_lt (g := gb241) bkw) : gb245 ≠ gb241))
   clear BK240
   clear BK241
   clear HB
   revert n0_ n1_ n2_ n3_ n4_ n5_ n6_ n7_ n8_ n9_
   intro BK240 BK241 HB BK245 GW245 GE245 NB240_245 NB245_240 NB241_245 NB245_241
   clear hb hbox hg
   refine hK.out _ _ ⟨(blk_cell BK240.out 0).trans rfl, (blk_cell BK240.out 1).trans rfl, (blk_cell BK240.out 2).trans rfl, (blk_cell BK240.out 3).trans rfl⟩ (fun hHeld => ?_)
   clear hK K
   refine norm_ (a' := ?_) ?_ ?_
   rotate_left
   ·show Act.put _ (some 3) _ = _
    simp only [sx]
    rfl
   refine one_ (i := 6) (N := some 12) (bm 10 383) rfl rfl (one_of HT_.out kr) (by decide) (fun K hK => ?_)
   refine goes_ Try.func27 kr rfl #[.slice A0_2 l0_2.length c0_2] (by rfl) rfl rfl mpw ?_
   with_reducible refine (slices_Clone_string_string.calls _ _ l0_2 t242 _ ?side1 ?side2 A2.out).mono ?_
   (case side1 => have X_ := HR0_2; exact cbl)
   (case side2 => exact HC0_2.out)
   rintro e w7 ⟨v243, rfl, ho0, hb⟩
   refine ⟨_, rfl, ?_⟩
   have n0_ := am (Kd.R_lower ho0 (below_size blw))
   have n1_ := am (blk_below (g := gb240) bkw hb)
   have n2_ := am (blk_below (g := gb241) bkw hb)
   have n3_ := am (blk_below (g := gb245) bkw hb)
   have n4_ := am (below_step blw hb)
   clear BK240
   clear BK241
   clear BK245
   clear HB
   revert n0_ n1_ n2_ n3_ n4_
   intro HO244 BK240 BK241 BK245 HB
   (try clear hb)
   (try clear hb2)
   (try clear hk)
   (try clear hi)
   (try clear ho0)
   obtain ⟨Ao8, co8, eo8⟩ := Kd.R_slice HO244.out
   (first | subst eo8 | (injection eo8 with f1_ f2_ f3_; have f4_ := f1_.symm; have f5_ := f3_.symm; clear f1_ f2_ f3_; subst f4_; subst f5_))
   refine hK.out _ _ ⟨(blk_cell BK240.out 0).trans rfl, (blk_cell BK240.out 1).trans rfl, (blk_cell BK240.out 2).trans rfl, (blk_cell BK240.out 3).trans rfl⟩ (fun hHeld => ?_)
   clear hK K
   refine norm_ (a' := ?_) ?_ ?_
   rotate_left
   ·show Act.put _ (some 12) _ = _
    simp only [sx]
    rfl
   refine pure_ (i := 7) (N := some 13) (v := ?_) (a' := ?_) (bm 10 511) rfl rfl (any_of HT_.out kr) qi (Or.inl ⟨by rfl, ?_⟩) ?_ ?_
   rotate_left
   ·intro w'
    go_simp
    with_reducible rfl
   rotate_left
   ·simp only [sx]
    rfl
   exact norm_ (by simp only [putAll, Act.put, List.setIfInBounds_toArray, List.set_cons_zero, List.set_cons_succ]) (hCont (.slice Ao8 t242.length co8, gb245) _ ⟨hHeld, (by (with_reducible repeat (first | apply Kd.R_alloc | apply Kd.R_drewN | apply Kd.R_drew)); exact HO244.out), bkw, bkw, bkw, GW245.out, GE245.out, NB240_245.out, NB245_240.out, NB241_245.out, NB245_241.out, blw⟩)
 rintro ⟨v243, gb245⟩ w9 ⟨hS_, h0_, h1_, h2_, h3_, h4_, h5_, h6_, h7_, h8_, h9_, h10_⟩
 have n0_ : Aside0 (Kd.R Kd.string 9 w9 w.heap.size (fun _ => True) v243 t242) := ⟨h0_⟩
 have n1_ : Aside0 (w9.heap[gb240]? = some (.cells #[.int .i64 a0_0, .int .i64 a0_1, .slice A0_2 l0_2.length c0_2, .slice A0_3 l0_3.length c0_3] 30 (0, 0))) := ⟨h1_⟩
 have n2_ : Aside0 (w9.heap[gb241]? = some (.cells #[.int .i64 0, .int .i64 0, .slice none 0 0, .slice none 0 0] 30 (0, 0))) := ⟨h2_⟩
 have n3_ : Aside0 (w9.heap[gb245]? = some (.cells #[.int .i64 0, .int .i64 0, .slice none 0 0, .slice none 0 0] 30 (0, 0))) := ⟨h3_⟩
 have n4_ : Aside0 (w.heap.size ≤ gb245) := ⟨h4_⟩
 have n5_ : Aside0 (w.heap.size ≤ gb245) := ⟨h5_⟩
 have n6_ : Aside0 (gb240 ≠ gb245) := ⟨h6_⟩
 have n7_ : Aside0 (gb245 ≠ gb240) := ⟨h7_⟩
 have n8_ : Aside0 (gb241 ≠ gb245) := ⟨h8_⟩
 have n9_ : Aside0 (gb245 ≠ gb241) := ⟨h9_⟩
 have n10_ : Aside0 (Below w.heap.size w w9) := ⟨h10_⟩
 clear BK240
 clear BK241
 clear HB
 clear h0_ h1_ h2_ h3_ h4_ h5_ h6_ h7_ h8_ h9_ h10_
 revert n0_ n1_ n2_ n3_ n4_ n5_ n6_ n7_ n8_ n9_ n10_
 intro HO244 BK240 BK241 BK245 GW245 GE245 NB240_245 NB245_240 NB241_245 NB245_241 HB
 have hHeld : w9.cell? ⟨gb240, 0, none⟩ = some (.int .i64 a0_0) ∧ w9.cell? ⟨gb240, 1, none⟩ = some (.int .i64 a0_1) ∧ w9.cell? ⟨gb240, 2, none⟩ = some (.slice A0_2 l0_2.length c0_2) ∧ w9.cell? ⟨gb240, 3, none⟩ = some (.slice A0_3 l0_3.length c0_3) := hS_
 obtain ⟨Ao10, co10, eo10⟩ := Kd.R_slice HO244.out
 (first | subst eo10 | (injection eo10 with f1_ f2_ f3_; have f4_ := f1_.symm; have f5_ := f3_.symm; clear f1_ f2_ f3_; subst f4_; subst f5_))
 refine norm_ (a' := ?_) ?_ ?_
 rotate_left
 ·simp only [putAll, Act.put, List.setIfInBounds_toArray, List.set_cons_zero, List.set_cons_succ]
  rfl
 refine one_ (i := 9) (N := none) (bm 10 1023) rfl rfl (one_of HT_.out kr) (by decide) (fun K hK => ?_)
 have hs11 : w9.cell? ⟨gb245, 0, none⟩ = some (.int .i64 0) := (blk_cell BK245.out 0).trans rfl
 have hfs11 := blk_frozen BK245.out 0
 have hns11_0 := NB240_245.out
 have hns11_1 := NB241_245.out
 have hms11_0 := NB245_240.out
 have hms11_1 := NB245_241.out
 have hs12 : w9.cell? ⟨gb245, 1, none⟩ = some (.int .i64 0) := (blk_cell BK245.out 1).trans rfl
 have hfs12 := blk_frozen BK245.out 1
 have hns12_0 := NB240_245.out
 have hns12_1 := NB241_245.out
 have hms12_0 := NB245_240.out
 have hms12_1 := NB245_241.out
 have hs13 : w9.cell? ⟨gb245, 2, none⟩ = some (.slice none 0 0) := (blk_cell BK245.out 2).trans rfl
 have hfs13 := blk_frozen BK245.out 2
 have hns13_0 := NB240_245.out
 have hns13_1 := NB241_245.out
 have hms13_0 := NB245_240.out
 have hms13_1 := NB245_241.out
 have hs14 : w9.cell? ⟨gb245, 3, none⟩ = some (.slice none 0 0) := (blk_cell BK245.out 3).trans rfl
 have hfs14 := blk_frozen BK245.out 3
 have hns14_0 := NB240_245.out
 have hns14_1 := NB241_245.out
 have hms14_0 := NB245_240.out
 have hms14_1 := NB245_241.out
 refine skip_ (w1 := ?_) (by rfl) rfl ?_ ?_
 rotate_left
 ·go_simp
  rfl
 refine hK.out _ _ ⟨((cell_far (p := ⟨gb245, _, none⟩) NB240_245.out _).trans (((cell_far (p := ⟨gb245, _, none⟩) NB240_245.out _).trans (((cell_far (p := ⟨gb245, _, none⟩) NB240_245.out _).trans (((cell_far (p := ⟨gb245, _, none⟩) NB240_245.out _).trans (hHeld.1)))))))), ((cell_far (p := ⟨gb245, _, none⟩) NB240_245.out _).trans (((cell_far (p := ⟨gb245, _, none⟩) NB240_245.out _).trans (((cell_far (p := ⟨gb245, _, none⟩) NB240_245.out _).trans (((cell_far (p := ⟨gb245, _, none⟩) NB240_245.out _).trans (hHeld.2.1)))))))), ((cell_far (p := ⟨gb245, _, none⟩) NB240_245.out _).trans (((cell_far (p := ⟨gb245, _, none⟩) NB240_245.out _).trans (((cell_far (p := ⟨gb245, _, none⟩) NB240_245.out _).trans (((cell_far (p := ⟨gb245, _, none⟩) NB240_245.out _).trans (hHeld.2.2.1)))))))), ((cell_far (p := ⟨gb245, _, none⟩) NB240_245.out _).trans (((cell_far (p := ⟨gb245, _, none⟩) NB240_245.out _).trans (((cell_far (p := ⟨gb245, _, none⟩) NB240_245.out _).trans (((cell_far (p := ⟨gb245, _, none⟩) NB240_245.out _).trans (hHeld.2.2.2))))))))⟩ (fun hHeld => ?_)
 clear hK K
 refine done_ (done_of HT_.out kr) ?_
 have hnb15 := NB240_241.out
 have hnc15 := NB241_240.out
 have hnb16 := NB240_245.out
 have hnc16 := NB245_240.out
 obtain ⟨hcz17_0, hcz17_1, hcz17_2, hcz17_3⟩ := cls4 BK240.out
 obtain ⟨hfz17_0, hfz17_1, hfz17_2, hfz17_3⟩ := frz4 BK240.out
 try go_wp2
 go_loopg [17] k (fun kq v17 w' => ∃ (x17_1 : Int) (x246003_1 : List (S30)) (u246003 : Value), v17 = .int .i64 x17_1 ∧ Aside0 (impl_CanonValue.l0 kq l0_3 (l0_3.length : Int) x17_1 a0_0 a0_1 l0_2 l0_3 a0_0 a0_1 t242 x246003_1 = some (r1, r2, r3, r4)) ∧ Aside0 (kq ≤ k) ∧ Aside0 (Kd.R Kd.string 9 w' w.heap.size (fun _ => True) (.slice Ao10 t242.length co10) t242) ∧ Aside0 (Kd.S k30 30 w' w.heap.size (fun k_ => some k_ ≠ ((.slice Ao10 t242.length co10) : Value).ownBlock ∧ k_ ≠ gb240 ∧ k_ ≠ gb241 ∧ k_ ≠ gb245) u246003 x246003_1) ∧ Aside0 (w'.heap[gb240]? = some (.cells #[.int .i64 a0_0, .int .i64 a0_1, (.slice A0_2 l0_2.length c0_2), (.slice A0_3 l0_3.length c0_3)] 30 (0, 0))) ∧ Aside0 (w'.heap[gb241]? = some (.cells #[.int .i64 0, .int .i64 0, (.slice none 0 0), (.slice none 0 0)] 30 (0, 0))) ∧ Aside0 (w'.heap[gb245]? = some (.cells #[.int .i64 a0_0, .int .i64 a0_1, (.slice Ao10 t242.length co10), u246003] 30 (0, 0))) ∧ Aside0 (Below w.heap.size w w'))
 case atStart => exact ⟨(0), (([] : List (S30))), (.slice none 0 0), rfs, H', ⟨Nat.le_refl _⟩, ⟨by (with_reducible repeat (first | apply Kd.R_alloc | apply Kd.R_drewN | apply Kd.R_drew)); exact Kd.R_mono (fr4 (g := gb245) (Kd.R_types HO244.out BK245.out (by decide)) (fun _ hk => hk.2) 0) (fun _ hk => trivial)⟩, ⟨by first | exact Kd.S_nil _ _ _ _ _ | exact Kd.N_nil _ _ _ _ _ | exact Kd.V_nil _ _ _ _ _ | exact Kd.Q_nil _ _ _ _ _ | exact Kd.R_nil _ _ _ _ _⟩, ⟨by (with_reducible repeat (first | refine blk_drewN ?_ _ | refine blk_drew ?_ | refine blk_alloc ?_ _)); refine blk_far ?_ NB240_245.out _; (with_reducible repeat (first | refine blk_drewN ?_ _ | refine blk_drew ?_ | refine blk_alloc ?_ _)); refine blk_far ?_ NB240_245.out _; (with_reducible repeat (first | refine blk_drewN ?_ _ | refine blk_drew ?_ | refine blk_alloc ?_ _)); refine blk_far ?_ NB240_245.out _; (with_reducible repeat (first | refine blk_drewN ?_ _ | refine blk_drew ?_ | refine blk_alloc ?_ _)); refine blk_far ?_ NB240_245.out _; (with_reducible repeat (first | refine blk_drewN ?_ _ | refine blk_drew ?_ | refine blk_alloc ?_ _)); exact BK240.out⟩, ⟨by (with_reducible repeat (first | refine blk_drewN ?_ _ | refine blk_drew ?_ | refine blk_alloc ?_ _)); refine blk_far ?_ NB241_245.out _; (with_reducible repeat (first | refine blk_drewN ?_ _ | refine blk_drew ?_ | refine blk_alloc ?_ _)); refine blk_far ?_ NB241_245.out _; (with_reducible repeat (first | refine blk_drewN ?_ _ | refine blk_drew ?_ | refine blk_alloc ?_ _)); refine blk_far ?_ NB241_245.out _; (with_reducible repeat (first | refine blk_drewN ?_ _ | refine blk_drew ?_ | refine blk_alloc ?_ _)); refine blk_far ?_ NB241_245.out _; (with_reducible repeat (first | refine blk_drewN ?_ _ | refine blk_drew ?_ | refine blk_alloc ?_ _)); exact BK241.out⟩, ⟨by (with_reducible repeat (first | refine blk_drewN ?_ _ | refine blk_drew ?_ | refine blk_alloc ?_ _)); refine blk_put (cs := #[.int .i64 a0_0, .int .i64 a0_1, .slice Ao10 t242.length co10, .slice none 0 0]) ?_ 3 _ rfl; (with_reducible repeat (first | refine blk_drewN ?_ _ | refine blk_drew ?_ | refine blk_alloc ?_ _)); refine blk_put (cs := #[.int .i64 a0_0, .int .i64 a0_1, .slice none 0 0, .slice none 0 0]) ?_ 2 _ rfl; (with_reducible repeat (first | refine blk_drewN ?_ _ | refine blk_drew ?_ | refine blk_alloc ?_ _)); refine blk_put (cs := #[.int .i64 a0_0, .int .i64 0, .slice none 0 0, .slice none 0 0]) ?_ 1 _ rfl; (with_reducible repeat (first | refine blk_drewN ?_ _ | refine blk_drew ?_ | refine blk_alloc ?_ _)); refine blk_put (cs := #[.int .i64 0, .int .i64 0, .slice none 0 0, .slice none 0 0]) ?_ 0 _ rfl; (with_reducible repeat (first | refine blk_drewN ?_ _ | refine blk_drew ?_ | refine blk_alloc ?_ _)); exact BK245.out⟩, ⟨blw⟩⟩
 case round =>
  clear H'
  (try clear c1); (try clear c2); (try clear p2); (try clear c14); (try clear c15); (try clear c16); (try clear hcz17_0 hcz17_1 hcz17_2 hcz17_3); (try clear hfz17_0 hfz17_1 hfz17_2 hfz17_3)
  obtain ⟨x17_1, x246003_1, u246003, rfl, HA, HK1, HO_246002, HO_246003, BK240, BK241, BK245, HB⟩ := hrel
  cases gk with
  | zero => exact absurd HA.out (by simp [impl_CanonValue.l0])
  | succ k1 =>
   have H := HA.out
   clear HA
   simp only [impl_CanonValue.l0] at H
   by_cases c18 : x17_1 < (l0_3.length : Int)
   case neg =>
    rw [if_neg c18] at H
    have c18b0 : decide (x17_1 < (l0_3.length : Int)) = false := decide_eq_false c18
    clear c18
    by_cases c37 : a0_0 = 4
    case neg =>
     rw [if_neg c37] at H
     have c37b0 : (a0_0 == 4) = false := beq_eq_false_iff_ne.mpr c37
     have c37b1 : (a0_0 != 4) = true := bne_iff_ne.mpr c37
     simp only [Option.some.injEq, Prod.mk.injEq] at H
     obtain ⟨rfl, rfl, rfl, rfl⟩ := H
     have hnb45 := NB240_241.out
     have hnc45 := NB241_240.out
     have hnb46 := NB240_245.out
     have hnc46 := NB245_240.out
     obtain ⟨hcz47_0, hcz47_1, hcz47_2, hcz47_3⟩ := cls4 BK240.out
     obtain ⟨hfz47_0, hfz47_1, hfz47_2, hfz47_3⟩ := frz4 BK240.out
     have hnb48 := NB245_241.out
     have hnc48 := NB241_245.out
     obtain ⟨hcz49_0, hcz49_1, hcz49_2, hcz49_3⟩ := cls4 BK245.out
     obtain ⟨hfz49_0, hfz49_1, hfz49_2, hfz49_3⟩ := frz4 BK245.out
     obtain ⟨hcz50_0, hcz50_1, hcz50_2, hcz50_3⟩ := cls4 BK241.out
     obtain ⟨hfz50_0, hfz50_1, hfz50_2, hfz50_3⟩ := frz4 BK241.out
     obtain ⟨Ao51, co51, eo51⟩ := Kd.S_slice HO_246003.out
     subst eo51
     go_wp2
     refine bodyPost_ret (results_cell_row rfl _ _ gb241 30 #[.int .i64 a0_0, .int .i64 a0_1, .slice Ao10 t242.length co10, .slice Ao51 x246003_1.length co51] (0, 0) _ rfl (by (with_reducible repeat (first | refine blk_drewN ?_ _ | refine blk_drew ?_ | refine blk_alloc ?_ _)); refine blk_put (cs := #[.int .i64 a0_0, .int .i64 a0_1, .slice Ao10 t242.length co10, .slice none 0 0]) ?_ 3 _ rfl; (with_reducible repeat (first | refine blk_drewN ?_ _ | refine blk_drew ?_ | refine blk_alloc ?_ _)); refine blk_put (cs := #[.int .i64 a0_0, .int .i64 a0_1, .slice none 0 0, .slice none 0 0]) ?_ 2 _ rfl; (with_reducible repeat (first | refine blk_drewN ?_ _ | refine blk_drew ?_ | refine blk_alloc ?_ _)); refine blk_put (cs := #[.int .i64 a0_0, .int .i64 0, .slice none 0 0, .slice none 0 0]) ?_ 1 _ rfl; (with_reducible repeat (first | refine blk_drewN ?_ _ | refine blk_drew ?_ | refine blk_alloc ?_ _)); refine blk_put (cs := #[.int .i64 0, .int .i64 0, .slice none 0 0, .slice none 0 0]) ?_ 0 _ rfl; (with_reducible repeat (first | refine blk_drewN ?_ _ | refine blk_drew ?_ | refine blk_alloc ?_ _)); exact BK241.out) Try.underlying30 rfl kr) rfl ?_
     exact ⟨_, _, rfw, by (with_reducible repeat (first | apply Kd.R_alloc | apply Kd.R_drewN | apply Kd.R_drew)); exact Kd.R_mono (fr4 (g := gb241) (Kd.R_types HO_246002.out BK241.out (by decide)) (fun _ hk => hk.2) 0) (fun _ hk => trivial), by (with_reducible repeat (first | apply Kd.S_alloc | apply Kd.S_drewN | apply Kd.S_drew)); exact Kd.S_mono (Kd.S_far (p := ⟨gb241, 3, none⟩) (Kd.S_far (p := ⟨gb241, 2, none⟩) (Kd.S_far (p := ⟨gb241, 1, none⟩) (Kd.S_far (p := ⟨gb241, 0, none⟩) (Kd.S_mono HO_246003.out (fun k_ hk => (⟨hk, hk.2.2.1⟩ : _ ∧ k_ ≠ gb241))) (fun _ hk => hk.2) (.int .i64 a0_0)) (fun _ hk => hk.2) (.int .i64 a0_1)) (fun _ hk => hk.2) (.slice Ao10 t242.length co10)) (fun _ hk => hk.2) (.slice Ao51 x246003_1.length co51)) (fun _ hk => hk.1.1), blw⟩
    rw [if_pos c37] at H
    have c37b0 : (a0_0 == 4) = true := beq_iff_eq.mpr c37
    have c37b1 : (a0_0 != 4) = false := bne_eq_false_iff_eq.mpr c37
    clear c37
    obtain ⟨s_, hs_, H⟩ := Option.bind_eq_some_iff.mp H
    obtain ⟨hsm_, hln_, hst_⟩ := srt_some hs_
    clear hs_
    have HSM_ := am hsm_; have HLN_ := am hln_; have HST_ := am hst_
    clear hsm_ hln_ hst_
    simp only [Option.some.injEq, Prod.mk.injEq] at H
    obtain ⟨rfl, rfl, rfl, rfl⟩ := H
    have hnb38 := NB240_241.out
    have hnc38 := NB241_240.out
    have hnb39 := NB240_245.out
    have hnc39 := NB245_240.out
    obtain ⟨hcz40_0, hcz40_1, hcz40_2, hcz40_3⟩ := cls4 BK240.out
    obtain ⟨hfz40_0, hfz40_1, hfz40_2, hfz40_3⟩ := frz4 BK240.out
    have hnb41 := NB245_241.out
    have hnc41 := NB241_245.out
    obtain ⟨hcz42_0, hcz42_1, hcz42_2, hcz42_3⟩ := cls4 BK245.out
    obtain ⟨hfz42_0, hfz42_1, hfz42_2, hfz42_3⟩ := frz4 BK245.out
    obtain ⟨hcz43_0, hcz43_1, hcz43_2, hcz43_3⟩ := cls4 BK241.out
    obtain ⟨hfz43_0, hfz43_1, hfz43_2, hfz43_3⟩ := frz4 BK241.out
    obtain ⟨Ao44, co44, eo44⟩ := Kd.S_slice HO_246003.out
    subst eo44
    go_wp2_with (fail)
    refine (ssf_S w _ x246003_1 HLN_.out HSM_.out wr HO_246003.out HB.out).mono ?_
    rintro e w2 ⟨rfl, ho2, hb2, hs2, hk2⟩
    (try refine ⟨_, rfl, ?_⟩)
    have nHO_246002 := am (Kd.R_mono (Kd.R_step (Kd.R_apart' HO_246002.out (Kd.R_typed (Kd.S_R HO_246003.out)) (by decide)) (fun k hk hl => hk2 k hk.2 hl)) (fun _ hk => hk.1))
    have nBK240 := am ((hk2 gb240 (Kd.R_away (Kd.S_R HO_246003.out) (fun _ hk => hk.2.1)) (blk_lt BK240.out)).trans BK240.out)
    have nBK245 := am ((hk2 gb245 (Kd.R_away (Kd.S_R HO_246003.out) (fun _ hk => hk.2.2.2)) (blk_lt BK245.out)).trans BK245.out)
    have nBK241 := am ((hk2 gb241 (Kd.R_away (Kd.S_R HO_246003.out) (fun _ hk => hk.2.2.1)) (blk_lt BK241.out)).trans BK241.out)
    clear HO_246002 BK240 BK245 BK241 HO_246003 HB
    have HO_246002 := nHO_246002
    have BK240 := nBK240
    have BK245 := nBK245
    have BK241 := nBK241
    have HO_246003 := am ho2
    have HB := am hb2
    clear nHO_246002 nBK240 nBK245 nBK241 ho2 hb2 hs2 hk2
    rw [← HST_.out] at HO_246003
    clear hcz40_0 hcz40_1 hcz40_2 hcz40_3 hfz40_0 hfz40_1 hfz40_2 hfz40_3 hcz42_0 hcz42_1 hcz42_2 hcz42_3 hfz42_0 hfz42_1 hfz42_2 hfz42_3 hcz43_0 hcz43_1 hcz43_2 hcz43_3 hfz43_0 hfz43_1 hfz43_2 hfz43_3
    obtain ⟨hcz40_0, hcz40_1, hcz40_2, hcz40_3⟩ := cls4 BK240.out
    obtain ⟨hfz40_0, hfz40_1, hfz40_2, hfz40_3⟩ := frz4 BK240.out
    obtain ⟨hcz42_0, hcz42_1, hcz42_2, hcz42_3⟩ := cls4 BK245.out
    obtain ⟨hfz42_0, hfz42_1, hfz42_2, hfz42_3⟩ := frz4 BK245.out
    obtain ⟨hcz43_0, hcz43_1, hcz43_2, hcz43_3⟩ := cls4 BK241.out
    obtain ⟨hfz43_0, hfz43_1, hfz43_2, hfz43_3⟩ := frz4 BK241.out
    go_wp2
    refine bodyPost_ret (results_cell_row rfl _ _ gb241 30 #[.int .i64 a0_0, .int .i64 a0_1, .slice Ao10 t242.length co10, .slice Ao44 x246003_1.length co44] (0, 0) _ rfl (by (with_reducible repeat (first | refine blk_drewN ?_ _ | refine blk_drew ?_ | refine blk_alloc ?_ _)); refine blk_put (cs := #[.int .i64 a0_0, .int .i64 a0_1, .slice Ao10 t242.length co10, .slice none 0 0]) ?_ 3 _ rfl; (with_reducible repeat (first | refine blk_drewN ?_ _ | refine blk_drew ?_ | refine blk_alloc ?_ _)); refine blk_put (cs := #[.int .i64 a0_0, .int .i64 a0_1, .slice none 0 0, .slice none 0 0]) ?_ 2 _ rfl; (with_reducible repeat (first | refine blk_drewN ?_ _ | refine blk_drew ?_ | refine blk_alloc ?_ _)); refine blk_put (cs := #[.int .i64 a0_0, .int .i64 0, .slice none 0 0, .slice none 0 0]) ?_ 1 _ rfl; (with_reducible repeat (first | refine blk_drewN ?_ _ | refine blk_drew ?_ | refine blk_alloc ?_ _)); refine blk_put (cs := #[.int .i64 0, .int .i64 0, .slice none 0 0, .slice none 0 0]) ?_ 0 _ rfl; (with_reducible repeat (first | refine blk_drewN ?_ _ | refine blk_drew ?_ | refine blk_alloc ?_ _)); exact BK241.out) Try.underlying30 rfl kr) rfl ?_
    exact ⟨_, _, rfw, by (with_reducible repeat (first | apply Kd.R_alloc | apply Kd.R_drewN | apply Kd.R_drew)); exact Kd.R_mono (fr4 (g := gb241) (Kd.R_types HO_246002.out BK241.out (by decide)) (fun _ hk => hk.2) 0) (fun _ hk => trivial), by (with_reducible repeat (first | apply Kd.S_alloc | apply Kd.S_drewN | apply Kd.S_drew)); exact Kd.S_mono (Kd.S_far (p := ⟨gb241, 3, none⟩) (Kd.S_far (p := ⟨gb241, 2, none⟩) (Kd.S_far (p := ⟨gb241, 1, none⟩) (Kd.S_far (p := ⟨gb241, 0, none⟩) (Kd.S_mono HO_246003.out (fun k_ hk => (⟨hk, hk.2.2.1⟩ : _ ∧ k_ ≠ gb241))) (fun _ hk => hk.2) (.int .i64 a0_0)) (fun _ hk => hk.2) (.int .i64 a0_1)) (fun _ hk => hk.2) (.slice Ao10 t242.length co10)) (fun _ hk => hk.2) (.slice Ao44 x246003_1.length co44)) (fun _ hk => hk.1.1), blw⟩
   rw [if_pos c18] at H
   have c18b0 : decide (x17_1 < (l0_3.length : Int)) = true := decide_eq_true c18
   clear c18
   by_cases c19 : 0 ≤ x17_1
   case neg =>
    rw [if_neg c19] at H
    exact absurd H (by simp)
   rw [if_pos c19] at H
   have c19b0 : decide (0 ≤ x17_1) = true := decide_eq_true c19
   clear c19
   by_cases c20 : x17_1 < (l0_3.length : Int)
   case neg =>
    rw [if_neg c20] at H
    exact absurd H (by simp)
   rw [if_pos c20] at H
   have c20b0 : decide (x17_1 < (l0_3.length : Int)) = true := decide_eq_true c20
   clear c20
   replace H := Option.bind_eq_some_iff.mp H
   obtain ⟨⟨t248, t249, t250, t253⟩, A210, H⟩ := H
   replace H : (if x246003_1.length < 2199023255552 then (impl_CanonValue.l0 k1 l0_3 (l0_3.length : Int) (wrap64 (x17_1 + 1)) a0_0 a0_1 l0_2 l0_3 a0_0 a0_1 t242 (x246003_1 ++ [(⟨t248, t249, t250, t253⟩ : S30)])) else (none)) = some (r1, r2, r3, r4) := H
   have A21 := am A210
   clear A210
   by_cases c22 : x246003_1.length < 2199023255552
   case neg =>
    rw [if_neg c22] at H
    exact absurd H (by simp)
   rw [if_pos c22] at H
   have LMc22 := am c22
   clear c22
   obtain ⟨y256, hy256⟩ : ∃ y_ : List (S30), y_ = (x246003_1 ++ [(⟨t248, t249, t250, t253⟩ : S30)]) := ⟨_, rfl⟩
   replace H : (impl_CanonValue.l0 k1 l0_3 (l0_3.length : Int) (wrap64 (x17_1 + 1)) a0_0 a0_1 l0_2 l0_3 a0_0 a0_1 t242 y256) = some (r1, r2, r3, r4) := by first | (rw [hy256]; with_reducible exact H) | (have H2_ := (Option.bind_some _ _).symm.trans H; rw [hy256]; with_reducible exact H2_) | (have H2_ := (Option.bind_some _ _).symm.trans H; with_reducible exact H2_) | with_reducible exact H | (rw [hy256]; exact H) | exact H
   have Ny256 := am hy256
   clear hy256
   have H' := am H
   clear H
   have p246 : 0 ≤ (x17_1 : Int) := of_decide_eq_true asw
   have q246 : x17_1 < (l0_3.length : Int) := of_decide_eq_true asw
   obtain ⟨ad246, A246_2, c246_2, A246_3, c246_3, e246, hx246_0, hx246_1, hx246_2, hx246_3, hl246_2, hi246_2, hl246_3, hi246_3⟩ := at_T30 HR0_3.out x17_1 p246 q246
   cases e246
   replace hx246_0 := upw HB.out hx246_0
   replace hx246_1 := upw HB.out hx246_1
   replace hx246_2 := upw HB.out hx246_2
   replace hx246_3 := upw HB.out hx246_3
   have HR246_2 := am hi246_2
   have HC246_2 := am hl246_2
   clear hi246_2 hl246_2
   have HR246_3 := am hi246_3
   have HC246_3 := am hl246_3
   clear hi246_3 hl246_3
   replace p246 := eq_true p246
   replace q246 := eq_true q246
   try go_wp2_with (first | ((with_reducible refine gate_dst (N := 5) rfl ?_); refine box_event ?hg (N := 5) ?hd (cs := #[.int .i64 0, .int .i64 0, .slice none 0 0, .slice none 0 0]) (t := 30) ?hr ?_; (case hd => rfl); (case hg => rfl); (case hr => exact hrw); intro gb247 hg w23 hbox hb; have n0_ := am (Kd.R_below (by (with_reducible repeat (first | apply Kd.R_alloc | apply Kd.R_drewN | apply Kd.R_drew)); exact HO_246002.out) hb); have n1_ := am (Kd.S_below (Kd.S_elderB (by (with_reducible repeat (first | apply Kd.S_alloc | apply Kd.S_drewN | apply Kd.S_drew)); exact HO_246003.out) gb247 (Nat.le_of_eq hg.symm)) hb); have n2_ := am (blk_below (g := gb240) bkw hb); have n3_ := am (blk_below (g := gb241) bkw hb); have n4_ := am (blk_below (g := gb245) bkw hb); have n5_ := am (below_step blw hb); have n6_ := am (hbox); have n7_ := am ((by rw [hg]; exact (below_size blw) : w.heap.size ≤ gb247)); have n8_ := n7_; have n9_ := am ((by rw [hg]; exact Nat.ne_of_lt (blk_lt (g := gb240) bkw) : gb240 ≠ gb247)); have n10_ := am ((by rw [hg]; exact Nat.ne_of_gt (blk_lt (g := gb240) bkw) : gb247 ≠ gb240)); have n11_ := am ((by rw [hg]; exact Nat.ne_of_lt (blk_lt (g := gb241) bkw) : gb241 ≠ gb247)); have n12_ := am ((by rw [hg]; exact Nat.ne_of_gt (blk_lt (g := gb241) bkw) : gb247 ≠ gb241)); have n13_ := am ((by rw [hg]; exact Nat.ne_of_lt (blk_lt (g := gb245) bkw) : gb245 ≠ gb247)); have n14_ := am ((by rw [hg]; exact Nat.ne_of_gt (blk_lt (g := gb245) bkw) : gb247 ≠ gb245)); clear HO_246002; clear HO_246003; clear BK240; clear BK241; clear BK245; clear HB; revert n0_ n1_ n2_ n3_ n4_ n5_ n6_ n7_ n8_ n9_ n10_ n11_ n12_ n13_ n14_; intro HO_246002 HO_246003 BK240 BK241 BK245 HB BK247 GW247 GE247 NB240_247 NB247_240 NB241_247 NB247_241 NB245_247 NB247_245; clear hb hbox hg; have hnb24 := NB247_240.out; have hnc24 := NB240_247.out; have hnb25 := NB247_241.out; have hnc25 := NB241_247.out; have hnb26 := NB247_245.out; have hnc26 := NB245_247.out; obtain ⟨hcz27_0, hcz27_1, hcz27_2, hcz27_3⟩ := cls4 BK247.out; obtain ⟨hfz27_0, hfz27_1, hfz27_2, hfz27_3⟩ := frz4 BK247.out))
   have n0_ : Aside0 (Kd.R Kd.string 9 ((((w23.setCell ⟨gb247, 0, none⟩ (.int .i64 ((rd_T30 l0_3 x17_1).f0))).setCell ⟨gb247, 1, none⟩ (.int .i64 ((rd_T30 l0_3 x17_1).f1))).setCell ⟨gb247, 2, none⟩ (.slice A246_2 ((rd_T30 l0_3 x17_1).f2).length c246_2)).setCell ⟨gb247, 3, none⟩ (.slice A246_3 ((rd_T30 l0_3 x17_1).f3).length c246_3)) w.heap.size (fun _ => True) (.slice Ao10 t242.length co10) t242) := ⟨by (with_reducible repeat (first | apply Kd.R_alloc | apply Kd.R_drewN | apply Kd.R_drew)); exact Kd.R_mono (fr4 (g := gb247) (Kd.R_types HO_246002.out BK247.out (by decide)) (fun _ hk => hk.2) 0) (fun _ hk => trivial)⟩
   have n1_ : Aside0 (Kd.S k30 30 ((((w23.setCell ⟨gb247, 0, none⟩ (.int .i64 ((rd_T30 l0_3 x17_1).f0))).setCell ⟨gb247, 1, none⟩ (.int .i64 ((rd_T30 l0_3 x17_1).f1))).setCell ⟨gb247, 2, none⟩ (.slice A246_2 ((rd_T30 l0_3 x17_1).f2).length c246_2)).setCell ⟨gb247, 3, none⟩ (.slice A246_3 ((rd_T30 l0_3 x17_1).f3).length c246_3)) w.heap.size (fun k_ => some k_ ≠ (.slice Ao10 t242.length co10 : Value).ownBlock ∧ k_ ≠ gb240 ∧ k_ ≠ gb241 ∧ k_ ≠ gb245 ∧ k_ ≠ gb247) u246003 x246003_1) := ⟨by (with_reducible repeat (first | apply Kd.S_alloc | apply Kd.S_drewN | apply Kd.S_drew)); exact Kd.S_mono (Kd.S_far (p := ⟨gb247, 3, none⟩) (Kd.S_far (p := ⟨gb247, 2, none⟩) (Kd.S_far (p := ⟨gb247, 1, none⟩) (Kd.S_far (p := ⟨gb247, 0, none⟩) (Kd.S_mono HO_246003.out (fun k_ hk => (⟨hk, hk.2⟩ : _ ∧ k_ ≠ gb247))) (fun _ hk => hk.2) (.int .i64 ((rd_T30 l0_3 x17_1).f0))) (fun _ hk => hk.2) (.int .i64 ((rd_T30 l0_3 x17_1).f1))) (fun _ hk => hk.2) (.slice A246_2 ((rd_T30 l0_3 x17_1).f2).length c246_2)) (fun _ hk => hk.2) (.slice A246_3 ((rd_T30 l0_3 x17_1).f3).length c246_3)) (fun _ hk => ⟨hk.1.1.1, ⟨hk.1.1.2.1, ⟨hk.1.1.2.2.1, ⟨hk.1.1.2.2.2, hk.1.2⟩⟩⟩⟩)⟩
   have n2_ : Aside0 (((((w23.setCell ⟨gb247, 0, none⟩ (.int .i64 ((rd_T30 l0_3 x17_1).f0))).setCell ⟨gb247, 1, none⟩ (.int .i64 ((rd_T30 l0_3 x17_1).f1))).setCell ⟨gb247, 2, none⟩ (.slice A246_2 ((rd_T30 l0_3 x17_1).f2).length c246_2)).setCell ⟨gb247, 3, none⟩ (.slice A246_3 ((rd_T30 l0_3 x17_1).f3).length c246_3)).heap[gb240]? = some (.cells #[.int .i64 a0_0, .int .i64 a0_1, .slice A0_2 l0_2.length c0_2, .slice (some ad246) l0_3.length c0_3] 30 (0, 0))) := ⟨by (with_reducible repeat (first | refine blk_drewN ?_ _ | refine blk_drew ?_ | refine blk_alloc ?_ _)); refine blk_far ?_ NB240_247.out _; (with_reducible repeat (first | refine blk_drewN ?_ _ | refine blk_drew ?_ | refine blk_alloc ?_ _)); refine blk_far ?_ NB240_247.out _; (with_reducible repeat (first | refine blk_drewN ?_ _ | refine blk_drew ?_ | refine blk_alloc ?_ _)); refine blk_far ?_ NB240_247.out _; (with_reducible repeat (first | refine blk_drewN ?_ _ | refine blk_drew ?_ | refine blk_alloc ?_ _)); refine blk_far ?_ NB240_247.out _; (with_reducible repeat (first | refine blk_drewN ?_ _ | refine blk_drew ?_ | refine blk_alloc ?_ _)); exact BK240.out⟩
   have n3_ : Aside0 (((((w23.setCell ⟨gb247, 0, none⟩ (.int .i64 ((rd_T30 l0_3 x17_1).f0))).setCell ⟨gb247, 1, none⟩ (.int .i64 ((rd_T30 l0_3 x17_1).f1))).setCell ⟨gb247, 2, none⟩ (.slice A246_2 ((rd_T30 l0_3 x17_1).f2).length c246_2)).setCell ⟨gb247, 3, none⟩ (.slice A246_3 ((rd_T30 l0_3 x17_1).f3).length c246_3)).heap[gb241]? = some (.cells #[.int .i64 0, .int .i64 0, .slice none 0 0, .slice none 0 0] 30 (0, 0))) := ⟨by (with_reducible repeat (first | refine blk_drewN ?_ _ | refine blk_drew ?_ | refine blk_alloc ?_ _)); refine blk_far ?_ NB241_247.out _; (with_reducible repeat (first | refine blk_drewN ?_ _ | refine blk_drew ?_ | refine blk_alloc ?_ _)); refine blk_far ?_ NB241_247.out _; (with_reducible repeat (first | refine blk_drewN ?_ _ | refine blk_drew ?_ | refine blk_alloc ?_ _)); refine blk_far ?_ NB241_247.out _; (with_reducible repeat (first | refine blk_drewN ?_ _ | refine blk_drew ?_ | refine blk_alloc ?_ _)); refine blk_far ?_ NB241_247.out _; (with_reducible repeat (first | refine blk_drewN ?_ _ | refine blk_drew ?_ | refine blk_alloc ?_ _)); exact BK241.out⟩
   have n4_ : Aside0 (((((w23.setCell ⟨gb247, 0, none⟩ (.int .i64 ((rd_T30 l0_3 x17_1).f0))).setCell ⟨gb247, 1, none⟩ (.int .i64 ((rd_T30 l0_3 x17_1).f1))).setCell ⟨gb247, 2, none⟩ (.slice A246_2 ((rd_T30 l0_3 x17_1).f2).length c246_2)).setCell ⟨gb247, 3, none⟩ (.slice A246_3 ((rd_T30 l0_3 x17_1).f3).length c246_3)).heap[gb245]? = some (.cells #[.int .i64 a0_0, .int .i64 a0_1, .slice Ao10 t242.length co10, u246003] 30 (0, 0))) := ⟨by (with_reducible repeat (first | refine blk_drewN ?_ _ | refine blk_drew ?_ | refine blk_alloc ?_ _)); refine blk_far ?_ NB245_247.out _; (with_reducible repeat (first | refine blk_drewN ?_ _ | refine blk_drew ?_ | refine blk_alloc ?_ _)); refine blk_far ?_ NB245_247.out _; (with_reducible repeat (first | refine blk_drewN ?_ _ | refine blk_drew ?_ | refine blk_alloc ?_ _)); refine blk_far ?_ NB245_247.out _; (with_reducible repeat (first | refine blk_drewN ?_ _ | refine blk_drew ?_ | refine blk_alloc ?_ _)); refine blk_far ?_ NB245_247.out _; (with_reducible repeat (first | refine blk_drewN ?_ _ | refine blk_drew ?_ | refine blk_alloc ?_ _)); exact BK245.out⟩
   have n5_ : Aside0 (((((w23.setCell ⟨gb247, 0, none⟩ (.int .i64 ((rd_T30 l0_3 x17_1).f0))).setCell ⟨gb247, 1, none⟩ (.int .i64 ((rd_T30 l0_3 x17_1).f1))).setCell ⟨gb247, 2, none⟩ (.slice A246_2 ((rd_T30 l0_3 x17_1).f2).length c246_2)).setCell ⟨gb247, 3, none⟩ (.slice A246_3 ((rd_T30 l0_3 x17_1).f3).length c246_3)).heap[gb247]? = some (.cells #[.int .i64 ((rd_T30 l0_3 x17_1).f0), .int .i64 ((rd_T30 l0_3 x17_1).f1), .slice A246_2 ((rd_T30 l0_3 x17_1).f2).length c246_2, .slice A246_3 ((rd_T30 l0_3 x17_1).f3).length c246_3] 30 (0, 0))) := ⟨by (with_reducible repeat (first | refine blk_drewN ?_ _ | refine blk_drew ?_ | refine blk_alloc ?_ _)); refine blk_put (cs := #[.int .i64 ((rd_T30 l0_3 x17_1).f0), .int .i64 ((rd_T30 l0_3 x17_1).f1), .slice A246_2 ((rd_T30 l0_3 x17_1).f2).length c246_2, .slice none 0 0]) ?_ 3 _ rfl; (with_reducible repeat (first | refine blk_drewN ?_ _ | refine blk_drew ?_ | refine blk_alloc ?_ _)); refine blk_put (cs := #[.int .i64 ((rd_T30 l0_3 x17_1).f0), .int .i64 ((rd_T30 l0_3 x17_1).f1), .slice none 0 0, .slice none 0 0]) ?_ 2 _ rfl; (with_reducible repeat (first | refine blk_drewN ?_ _ | refine blk_drew ?_ | refine blk_alloc ?_ _)); refine blk_put (cs := #[.int .i64 ((rd_T30 l0_3 x17_1).f0), .int .i64 0, .slice none 0 0, .slice none 0 0]) ?_ 1 _ rfl; (with_reducible repeat (first | refine blk_drewN ?_ _ | refine blk_drew ?_ | refine blk_alloc ?_ _)); refine blk_put (cs := #[.int .i64 0, .int .i64 0, .slice none 0 0, .slice none 0 0]) ?_ 0 _ rfl; (with_reducible repeat (first | refine blk_drewN ?_ _ | refine blk_drew ?_ | refine blk_alloc ?_ _)); exact BK247.out⟩
   have n6_ : Aside0 (Below w.heap.size w ((((w23.setCell ⟨gb247, 0, none⟩ (.int .i64 ((rd_T30 l0_3 x17_1).f0))).setCell ⟨gb247, 1, none⟩ (.int .i64 ((rd_T30 l0_3 x17_1).f1))).setCell ⟨gb247, 2, none⟩ (.slice A246_2 ((rd_T30 l0_3 x17_1).f2).length c246_2)).setCell ⟨gb247, 3, none⟩ (.slice A246_3 ((rd_T30 l0_3 x17_1).f3).length c246_3))) := ⟨blw⟩
   (try clear HO_246002 HO_246003)
   (try clear BK240)
   (try clear BK241)
   (try clear BK245)
   (try clear BK247)
   (try clear HB)
   generalize ((((w23.setCell ⟨gb247, 0, none⟩ (.int .i64 ((rd_T30 l0_3 x17_1).f0))).setCell ⟨gb247, 1, none⟩ (.int .i64 ((rd_T30 l0_3 x17_1).f1))).setCell ⟨gb247, 2, none⟩ (.slice A246_2 ((rd_T30 l0_3 x17_1).f2).length c246_2)).setCell ⟨gb247, 3, none⟩ (.slice A246_3 ((rd_T30 l0_3 x17_1).f3).length c246_3)) = w28 at n0_ n1_ n2_ n3_ n4_ n5_ n6_ ⊢
   revert n0_ n1_ n2_ n3_ n4_ n5_ n6_
   intro HO_246002 HO_246003 BK240 BK241 BK245 BK247 HB
   have n0_ := am (Kd.R_drew HO_246002.out)
   have n1_ := am (Kd.S_drew HO_246003.out)
   have n2_ := am (blk_drew BK240.out)
   have n3_ := am (blk_drew BK241.out)
   have n4_ := am (blk_drew BK245.out)
   have n5_ := am (blk_drew BK247.out)
   have n6_ := am (below_drew1 HB.out)
   clear HO_246002
   clear HO_246003
   clear BK240
   clear BK241
   clear BK245
   clear BK247
   clear HB
   revert n0_ n1_ n2_ n3_ n4_ n5_ n6_
   intro HO_246002 HO_246003 BK240 BK241 BK245 BK247 HB
   refine start_ (n := 8) (S := fun w' => w'.cell? ⟨gb245, 0, none⟩ = some (.int .i64 a0_0) ∧ w'.cell? ⟨gb245, 1, none⟩ = some (.int .i64 a0_1) ∧ w'.cell? ⟨gb245, 2, none⟩ = some (.slice Ao10 t242.length co10) ∧ w'.cell? ⟨gb245, 3, none⟩ = some (u246003) ∧ w'.cell? ⟨gb247, 0, none⟩ = some (.int .i64 ((rd_T30 l0_3 x17_1).f0)) ∧ w'.cell? ⟨gb247, 1, none⟩ = some (.int .i64 ((rd_T30 l0_3 x17_1).f1)) ∧ w'.cell? ⟨gb247, 2, none⟩ = some (.slice A246_2 ((rd_T30 l0_3 x17_1).f2).length c246_2) ∧ w'.cell? ⟨gb247, 3, none⟩ = some (.slice A246_3 ((rd_T30 l0_3 x17_1).f3).length c246_3)) (ds := [7]) #[false,false,false,false,false,false,false,false] kr rfl rfl ⟨(blk_cell BK245.out 0).trans rfl, (blk_cell BK245.out 1).trans rfl, (blk_cell BK245.out 2).trans rfl, (blk_cell BK245.out 3).trans rfl, (blk_cell BK247.out 0).trans rfl, (blk_cell BK247.out 1).trans rfl, (blk_cell BK247.out 2).trans rfl, (blk_cell BK247.out 3).trans rfl⟩ (fun hHeld => ?_); refine with_tabW impl_CanonValue.tab5 impl_CanonValue.bits5 (fun HT_ HW_ => ?_)
   generalize w28.drew = w29 at HO_246002 HO_246003 BK240 BK241 BK245 BK247 HB hHeld ⊢
   refine pure_ (i := 0) (N := some 21) (v := ?_) (a' := ?_) (bm 8 1) rfl rfl (any_of HT_.out kr) qi (Or.inl ⟨by rfl, ?_⟩) ?_ ?_
   rotate_left
   ·intro w'
    go_simp
    with_reducible rfl
   rotate_left
   ·simp only [sx]
    rfl
   refine take_ (i := 1) (N := some 22) (v := ?_) (a' := ?_) (bm 8 3) rfl rfl (take_ofW HT_.out HW_.out kr) qi (Or.inl ⟨by rfl, ?_⟩) hHeld ?_ ?_
   rotate_left
   ·rintro w' ⟨s0, s1, s2, s3, s4, s5, s6, s7⟩
    go_simp
    with_reducible rfl
   rotate_left
   ·simp only [sx]
    rfl
   refine take_ (i := 2) (N := some 23) (v := ?_) (a' := ?_) (bm 8 7) rfl rfl (take_ofW HT_.out HW_.out kr) qi (Or.inl ⟨by rfl, ?_⟩) hHeld ?_ ?_
   rotate_left
   ·rintro w' ⟨s0, s1, s2, s3, s4, s5, s6, s7⟩
    go_simp
    with_reducible rfl
   rotate_left
   ·simp only [sx]
    rfl
   refine one_ (i := 3) (N := some 24) (bm 8 15) rfl rfl (one_of HT_.out kr) (by decide) (fun K hK => ?_)
   refine goes_ Try.func14 kr rfl #[.agg #[.int .i64 ((rd_T30 l0_3 x17_1).f0), .int .i64 ((rd_T30 l0_3 x17_1).f1), .slice A246_2 ((rd_T30 l0_3 x17_1).f2).length c246_2, .slice A246_3 ((rd_T30 l0_3 x17_1).f3).length c246_3]] (by rfl) rfl rfl mpw ?_
   with_reducible refine (ih k1 (by have := HK1.out; omega) ((rd_T30 l0_3 x17_1).f0) ((rd_T30 l0_3 x17_1).f1) _ _ ((rd_T30 l0_3 x17_1).f2) _ _ ((rd_T30 l0_3 x17_1).f3) t248 t249 t250 t253 _ ?side1 ?side2 ?side3 ?side4 A21.out).mono ?_
   (case side1 => have X_ := HR246_2; exact cbl)
   (case side2 => exact HC246_2.out)
   (case side3 => have X_ := HR246_3; exact cbl)
   (case side4 => exact HC246_3.out)
   rintro e w30 ⟨v251, v254, rfl, ho0, ho1, hb⟩
   refine ⟨_, rfl, ?_⟩
   obtain ⟨N31, EN31⟩ := Ow.name_size hb
   have n0_ := am (Kd.R_elder' (by (with_reducible repeat (first | apply Kd.R_alloc | apply Kd.R_drewN | apply Kd.R_drew)); exact HO_246002.out) (Kd.R_base ho0) hb)
   have n1_ := am (Ow.S_ltN (Kd.S_told (Kd.S_told (Kd.S_old (by (with_reducible repeat (first | apply Kd.S_alloc | apply Kd.S_drewN | apply Kd.S_drew)); exact HO_246003.out) hb) (Kd.R_base ho0)) (Kd.S_base ho1)) EN31.out)
   have n2_ := am (Kd.R_lower (Ow.R_geN (Kd.R_new' ho0 (Kd.R_lt (by (with_reducible repeat (first | apply Kd.R_alloc | apply Kd.R_drewN | apply Kd.R_drew)); exact HO_246002.out))) EN31.out) (below_size blw))
   have n3_ := am (Kd.S_lower (Ow.S_geN (Kd.S_newB (Kd.S_newB (Kd.S_newB (Kd.S_newB (Kd.S_new' (Kd.S_new' ho1 (Kd.R_lt (by (with_reducible repeat (first | apply Kd.R_alloc | apply Kd.R_drewN | apply Kd.R_drew)); exact HO_246002.out))) (Kd.S_lt (by (with_reducible repeat (first | apply Kd.S_alloc | apply Kd.S_drewN | apply Kd.S_drew)); exact HO_246003.out))) (g := gb240) (o := .cells #[.int .i64 a0_0, .int .i64 a0_1, .slice A0_2 l0_2.length c0_2, .slice (some ad246) l0_3.length c0_3] 30 (0, 0)) bkw) (g := gb241) (o := .cells #[.int .i64 0, .int .i64 0, .slice none 0 0, .slice none 0 0] 30 (0, 0)) bkw) (g := gb245) (o := .cells #[.int .i64 a0_0, .int .i64 a0_1, .slice Ao10 t242.length co10, u246003] 30 (0, 0)) bkw) (g := gb247) (o := .cells #[.int .i64 ((rd_T30 l0_3 x17_1).f0), .int .i64 ((rd_T30 l0_3 x17_1).f1), .slice A246_2 ((rd_T30 l0_3 x17_1).f2).length c246_2, .slice A246_3 ((rd_T30 l0_3 x17_1).f3).length c246_3] 30 (0, 0)) bkw) EN31.out) (below_size blw))
   have n4_ := am (blk_below (g := gb240) bkw hb)
   have n5_ := am (blk_below (g := gb241) bkw hb)
   have n6_ := am (blk_below (g := gb245) bkw hb)
   have n7_ := am (blk_below (g := gb247) bkw hb)
   have n8_ := am (below_step blw hb)
   clear HO_246002
   clear HO_246003
   clear BK240
   clear BK241
   clear BK245
   clear BK247
   clear HB
   revert n0_ n1_ n2_ n3_ n4_ n5_ n6_ n7_ n8_
   intro HO_246002 HO_246003 HO252 HO255 BK240 BK241 BK245 BK247 HB
   (try clear hb)
   (try clear hb2)
   (try clear hk)
   (try clear hi)
   (try clear ho0)
   (try clear ho1)
   obtain ⟨Ao33, co33, eo33⟩ := Kd.R_slice HO252.out
   (first | subst eo33 | (injection eo33 with f1_ f2_ f3_; have f4_ := f1_.symm; have f5_ := f3_.symm; clear f1_ f2_ f3_; subst f4_; subst f5_))
   obtain ⟨Ao34, co34, eo34⟩ := Kd.S_slice HO255.out
   (first | subst eo34 | (injection eo34 with f1_ f2_ f3_; have f4_ := f1_.symm; have f5_ := f3_.symm; clear f1_ f2_ f3_; subst f4_; subst f5_))
   refine hK.out _ _ ⟨(blk_cell BK245.out 0).trans rfl, (blk_cell BK245.out 1).trans rfl, (blk_cell BK245.out 2).trans rfl, (blk_cell BK245.out 3).trans rfl, (blk_cell BK247.out 0).trans rfl, (blk_cell BK247.out 1).trans rfl, (blk_cell BK247.out 2).trans rfl, (blk_cell BK247.out 3).trans rfl⟩ (fun hHeld => ?_)
   clear hK K
   refine norm_ (a' := ?_) ?_ ?_
   rotate_left
   ·show Act.put _ (some 24) _ = _
    simp only [sx]
    rfl
   refine one_ (i := 4) (N := some 25) (bm 8 31) rfl rfl (one_of HT_.out kr) (by decide) (fun K hK => ?_)
   refine value_ (w1 := ?_) (v := ?_) (by rfl) rfl ?_ ?_
   rotate_left 2
   ·go_simp
    constructor
    ·rfl
    ·rfl
   refine hK.out _ _ ⟨(blk_cell (blk_alloc BK245.out _) 0).trans rfl, (blk_cell (blk_alloc BK245.out _) 1).trans rfl, (blk_cell (blk_alloc BK245.out _) 2).trans rfl, (blk_cell (blk_alloc BK245.out _) 3).trans rfl, (blk_cell (blk_alloc BK247.out _) 0).trans rfl, (blk_cell (blk_alloc BK247.out _) 1).trans rfl, (blk_cell (blk_alloc BK247.out _) 2).trans rfl, (blk_cell (blk_alloc BK247.out _) 3).trans rfl⟩ (fun hHeld => ?_)
   clear hK K
   refine norm_ (a' := ?_) ?_ ?_
   rotate_left
   ·show Act.put _ (some 25) _ = _
    simp only [sx]
    rfl
   refine one_ (i := 5) (N := some 26) (bm 8 63) rfl rfl (one_of HT_.out kr) (by decide) (fun K hK => ?_)
   refine Kd.S_append_step k30 (w0 := w) w.heap.size (by rfl) (.tmp 22) (.tmp 25) 28 30 (.agg #[(.int .i64 0), (.int .i64 0), (.slice none 0 0), (.slice none 0 0)]) 64 rfl Try.underlying28 info30 rfl (by decide) (by omega) u246003 x246003_1 (⟨t248, t249, t250, t253⟩ : S30) [.int .i64 t248, .int .i64 t249, .slice Ao33 t250.length co33, .slice Ao34 t253.length co34] (fun k_ => some k_ ≠ (.slice Ao10 t242.length co10 : Value).ownBlock ∧ k_ ≠ gb240 ∧ k_ ≠ gb241 ∧ k_ ≠ gb245 ∧ k_ ≠ gb247) (fun k_ => N31 ≤ k_ ∧ ((fun k_ => some k_ ≠ (.slice Ao10 t242.length co10 : Value).ownBlock ∧ k_ ≠ gb240 ∧ k_ ≠ gb241 ∧ k_ ≠ gb245 ∧ k_ ≠ gb247)) k_ ∧ some k_ ≠ (u246003 : Value).ownBlock) rfl rfl ?aP (fun _ hk => ⟨hk.2.1, hk.2.2⟩) ?aF ?aO ?aB ?aS ?aL ?_
   (case aP => exact k30_mkA _ _ _ (⟨t248, t249, t250, t253⟩ : S30) (Kd.R_mono (Kd.R_types (Kd.R_types (Kd.R_types (Kd.R_types (Kd.R_apart' (HO252.out) (Kd.S_typed HO_246003.out) (by decide)) BK240.out (by decide)) BK241.out (by decide)) BK245.out (by decide)) BK247.out (by decide)) (fun k_ hk => ⟨hk.1.1.1.1.1.2, ⟨hk.1.1.1.1.1.1.2, ⟨hk.1.1.1.2, ⟨hk.1.1.2, ⟨hk.1.2, hk.2⟩⟩⟩⟩, hk.1.1.1.1.2⟩)) (Kd.S_mono (HO255.out) (fun k_ hk => ⟨⟨hk.2, ⟨hk.1.1.1.1.1.1.2, ⟨hk.1.1.1.1.2, ⟨hk.1.1.1.2, ⟨hk.1.1.2, hk.1.2⟩⟩⟩⟩, hk.1.1.1.1.1.2⟩, hk.1.1.1.1.1.1.1⟩)))
   (case aB => exact blw)
   (case aF => exact (fun k_ hk => ⟨Kd.fresh' (Kd.R_lt (by (with_reducible repeat (first | apply Kd.R_alloc | apply Kd.R_drewN | apply Kd.R_drew)); exact HO_246002.out)) k_ hk, Kd.freshB (g := gb240) (o := .cells #[.int .i64 a0_0, .int .i64 a0_1, .slice A0_2 l0_2.length c0_2, .slice (some ad246) l0_3.length c0_3] 30 (0, 0)) bkw k_ hk, Kd.freshB (g := gb241) (o := .cells #[.int .i64 0, .int .i64 0, .slice none 0 0, .slice none 0 0] 30 (0, 0)) bkw k_ hk, Kd.freshB (g := gb245) (o := .cells #[.int .i64 a0_0, .int .i64 a0_1, .slice Ao10 t242.length co10, u246003] 30 (0, 0)) bkw k_ hk, Kd.freshB (g := gb247) (o := .cells #[.int .i64 ((rd_T30 l0_3 x17_1).f0), .int .i64 ((rd_T30 l0_3 x17_1).f1), .slice A246_2 ((rd_T30 l0_3 x17_1).f2).length c246_2, .slice A246_3 ((rd_T30 l0_3 x17_1).f3).length c246_3] 30 (0, 0)) bkw k_ hk⟩))
   (case aO => exact (by (with_reducible repeat (first | apply Kd.S_alloc | apply Kd.S_drewN | apply Kd.S_drew)); exact Kd.S_mono HO_246003.out (fun k_ hk => ⟨⟨hk.1.1.1.1, ⟨hk.1.1.1.2.1, ⟨hk.1.1.1.2.2.1, ⟨hk.1.1.1.2.2.2.1, hk.1.1.1.2.2.2.2⟩⟩⟩⟩, fun e_ => Nat.not_le_of_lt (hk.2) e_.1⟩)))
   (case aS => exact (below_size blw))
   (case aL => have := LMc22.out; omega)
   intro v257 w32 ho hb hg hat
   rw [← Ny256.out] at ho
   have n0_ := am (Kd.R_over' (by (with_reducible repeat (first | apply Kd.R_alloc | apply Kd.R_drewN | apply Kd.R_drew)); exact HO_246002.out) (Kd.S_typed (by (with_reducible repeat (first | apply Kd.S_alloc | apply Kd.S_drewN | apply Kd.S_drew)); exact HO_246003.out)) (by decide) hg)
   have n1_ := am (blk_grown (g := gb240) (o := .cells #[.int .i64 a0_0, .int .i64 a0_1, .slice A0_2 l0_2.length c0_2, .slice (some ad246) l0_3.length c0_3] 30 (0, 0)) bkw hg (Kd.S_away HO_246003.out (fun _ hk => hk.1.1.1.2.1)))
   have n2_ := am (blk_grown (g := gb241) (o := .cells #[.int .i64 0, .int .i64 0, .slice none 0 0, .slice none 0 0] 30 (0, 0)) bkw hg (Kd.S_away HO_246003.out (fun _ hk => hk.1.1.1.2.2.1)))
   have n3_ := am (blk_grown (g := gb245) (o := .cells #[.int .i64 a0_0, .int .i64 a0_1, .slice Ao10 t242.length co10, u246003] 30 (0, 0)) bkw hg (Kd.S_away HO_246003.out (fun _ hk => hk.1.1.1.2.2.2.1)))
   have n4_ := am (blk_grown (g := gb247) (o := .cells #[.int .i64 ((rd_T30 l0_3 x17_1).f0), .int .i64 ((rd_T30 l0_3 x17_1).f1), .slice A246_2 ((rd_T30 l0_3 x17_1).f2).length c246_2, .slice A246_3 ((rd_T30 l0_3 x17_1).f3).length c246_3] 30 (0, 0)) bkw hg (Kd.S_away HO_246003.out (fun _ hk => hk.1.1.1.2.2.2.2)))
   have n5_ := am (hb)
   have n6_ := am (ho)
   clear HO_246002
   clear BK240
   clear BK241
   clear BK245
   clear BK247
   clear HB
   clear HO_246003
   clear HO252
   clear HO255
   revert n0_ n1_ n2_ n3_ n4_ n5_ n6_
   intro HO_246002 BK240 BK241 BK245 BK247 HB HO258
   clear ho hb hg hat
   obtain ⟨Ao35, co35, eo35⟩ := Kd.S_slice HO258.out
   (first | subst eo35 | (injection eo35 with f1_ f2_ f3_; have f4_ := f1_.symm; have f5_ := f3_.symm; clear f1_ f2_ f3_; subst f4_; subst f5_))
   refine hK.out _ _ ⟨(blk_cell BK245.out 0).trans rfl, (blk_cell BK245.out 1).trans rfl, (blk_cell BK245.out 2).trans rfl, (blk_cell BK245.out 3).trans rfl, (blk_cell BK247.out 0).trans rfl, (blk_cell BK247.out 1).trans rfl, (blk_cell BK247.out 2).trans rfl, (blk_cell BK247.out 3).trans rfl⟩ (fun hHeld => ?_)
   clear hK K
   refine norm_ (a' := ?_) ?_ ?_
   rotate_left
   ·show Act.put _ (some 26) _ = _
    simp only [sx]
    rfl
   refine pure_ (i := 6) (N := some 27) (v := ?_) (a' := ?_) (bm 8 127) rfl rfl (any_of HT_.out kr) qi (Or.inl ⟨by rfl, ?_⟩) ?_ ?_
   rotate_left
   ·intro w'
    go_simp
    with_reducible rfl
   rotate_left
   ·simp only [sx]
    rfl
   refine last_ (i := 7) (N := none) (bm 8 255) rfl rfl (one_of HT_.out kr) (by decide) (fun K hK => ?_)
   have hs36 : w32.cell? ⟨gb245, 3, none⟩ = some (u246003) := (blk_cell BK245.out 3).trans rfl
   have hfs36 := blk_frozen BK245.out 3
   have hns36_0 := NB240_245.out
   have hns36_1 := NB241_245.out
   have hns36_3 := NB247_245.out
   have hms36_0 := NB245_240.out
   have hms36_1 := NB245_241.out
   have hms36_3 := NB245_247.out
   refine skip_ (w1 := ?_) (by rfl) rfl ?_ ?_
   rotate_left
   ·go_simp
    rfl
   refine hK.out _ _ ?_
   clear hK K
   refine done_ (done_of HT_.out kr) ?_
   try go_wp2
   go_roundg k1
   case measure => have := HK1.out; omega
   case rel => exact ⟨(wrap64 (x17_1 + 1)), (y256), (.slice Ao35 y256.length co35), rfs, H', ⟨by have := HK1.out; omega⟩, ⟨by (with_reducible repeat (first | apply Kd.R_alloc | apply Kd.R_drewN | apply Kd.R_drew)); exact Kd.R_mono (Kd.R_far (p := ⟨gb245, 3, none⟩) (Kd.R_types HO_246002.out BK245.out (by decide)) (fun _ hk => hk.2) (.slice Ao35 y256.length co35)) (fun _ hk => trivial)⟩, ⟨by (with_reducible repeat (first | apply Kd.S_alloc | apply Kd.S_drewN | apply Kd.S_drew)); exact Kd.S_mono (Kd.S_far (p := ⟨gb245, 3, none⟩) (Kd.S_mono HO258.out (fun k_ hk => (⟨hk, hk.2.2.2.1⟩ : _ ∧ k_ ≠ gb245))) (fun _ hk => hk.2) (.slice Ao35 y256.length co35)) (fun _ hk => ⟨hk.1.1, ⟨hk.1.2.1, ⟨hk.1.2.2.1, hk.1.2.2.2.1⟩⟩⟩)⟩, ⟨by (with_reducible repeat (first | refine blk_drewN ?_ _ | refine blk_drew ?_ | refine blk_alloc ?_ _)); refine blk_far ?_ NB240_245.out _; (with_reducible repeat (first | refine blk_drewN ?_ _ | refine blk_drew ?_ | refine blk_alloc ?_ _)); exact BK240.out⟩, ⟨by (with_reducible repeat (first | refine blk_drewN ?_ _ | refine blk_drew ?_ | refine blk_alloc ?_ _)); refine blk_far ?_ NB241_245.out _; (with_reducible repeat (first | refine blk_drewN ?_ _ | refine blk_drew ?_ | refine blk_alloc ?_ _)); exact BK241.out⟩, ⟨by (with_reducible repeat (first | refine blk_drewN ?_ _ | refine blk_drew ?_ | refine blk_alloc ?_ _)); refine blk_put (cs := #[.int .i64 a0_0, .int .i64 a0_1, .slice Ao10 t242.length co10, u246003]) ?_ 3 _ rfl; (with_reducible repeat (first | refine blk_drewN ?_ _ | refine blk_drew ?_ | refine blk_alloc ?_ _)); exact BK245.out⟩, ⟨blw⟩⟩

end Go.Proofs.Ytonimhfahjediaa.Pk
end
section
namespace Go.Proofs.Ytonimhfahjediaa.Pk
open Go.RowKit Go.Proofs.Ytonimhfahjediaa.Ext Go.Proofs.YtonimhfahjediaaW.PrintWords Go.Proofs.YtonimhfahjediaaW.PrintLast Go.Proofs.YtonimhfahjediaaW.PrintMore
attribute [local go_sem] max2_int min2_int max_two min_two max_three min_three max_four min_four   -- for this text's walks alone
set_option linter.unusedVariables false
set_option linter.unusedSimpArgs false

end Go.Proofs.Ytonimhfahjediaa.Pk
end
