/- Printed by a program of this session: what functions of the translation come to, each contract as it stands. No condition. -/
import Derived.Test.YtonimhfahjediaaZCountInSh
import Derived.Test.YtonimhfahjediaaZCountInWLastM
import Derived.Test.YtonimhfahjediaaZCountInPcSortSM
import Derived.Test.YtonimhfahjediaaZCountInPc6M
section
namespace Go.Proofs.Ytonimhfahjediaa.Pc
open Go.RowKit Go.Proofs.Ytonimhfahjediaa.Ext Go.Proofs.YtonimhfahjediaaW.PrintWords Go.Proofs.YtonimhfahjediaaW.PrintLast Go.Proofs.YtonimhfahjediaaW.PrintMore
attribute [local go_sem] max2_int min2_int max_two min_two max_three min_three max_four min_four   -- for this text's walks alone
set_option linter.unusedVariables false
set_option linter.unusedSimpArgs false

/-! ### impl_CanonValue: function 14 -/
mutual
noncomputable def impl_CanonValue.l0 : Nat → List (S30) → Int → Int → Int → Int → List ByteArray → List (S30) → Int → Int → List ByteArray → List (S30) → Option (Int × Int × List ByteArray × (List (S30)))
 | 0, _, _, _, _, _, _, _, _, _, _, _ => none
 | k + 1, x15, x16, x17, x251000, x251001, x251002, x251003, x256000, x256001, x256002, x256003 => if x17 < x16 then (if 0 ≤ x17 then (if x17 < (x15.length : Int) then ((impl_CanonValue.f k ((rd_T30 x15 x17).f0) ((rd_T30 x15 x17).f1) ((rd_T30 x15 x17).f2) ((rd_T30 x15 x17).f3)).bind fun bt258 => (if x256003.length < 2199023255552 then (impl_CanonValue.l0 k x15 x16 (wrap64 (x17 + 1)) x251000 x251001 x251002 x251003 x256000 x256001 x256002 (x256003 ++ [(⟨bt258.1, bt258.2.1, bt258.2.2.1, bt258.2.2.2⟩ : S30)])) else (none))) else (none)) else (none)) else (if x251000 = 4 then ((srt x256003).bind fun s_ => (some (x256000, x256001, x256002, s_))) else (some (x256000, x256001, x256002, x256003)))
noncomputable def impl_CanonValue.f : Nat → Int → Int → List ByteArray → List (S30) → Option (Int × Int × List ByteArray × (List (S30)))
 | 0, _, _, _, _ => none
 | k + 1, a0_0, a0_1, l0_2, l0_3 => (slices_Clone_string_string.f l0_2).bind fun t252 => (impl_CanonValue.l0 k l0_3 (l0_3.length : Int) 0 a0_0 a0_1 l0_2 l0_3 a0_0 a0_1 t252 ([] : List (S30)))
end
def impl_CanonValue.T1 : Bool × List (List Nat × List Nat) := (true, [([], []), ([0], [0]), ([], []), ([2], [2]), ([], []), ([4], [4]), ([5], [5]), ([1, 3, 6], [1, 3, 6]), ([], []), ([8, 7, 6, 0, 1, 2, 3, 4, 5, 6, 7, 8], [7, 8])])
def impl_CanonValue.B1 : List Nat := [0, 1, 0, 4, 0, 16, 48, 127, 0, 511]
theorem impl_CanonValue.tab1 : rtab .any (opsOf Try.f14 1) = impl_CanonValue.T1 := by kernel_rfl
theorem impl_CanonValue.bits1 : waitsOk impl_CanonValue.T1.2 impl_CanonValue.B1 = true := by kernel_rfl
def impl_CanonValue.T5 : Bool × List (List Nat × List Nat) := (true, [([], []), ([0], [0]), ([], []), ([2], [2]), ([3], [3]), ([1, 4, 3], [1, 4]), ([0, 1, 2, 3, 4, 5], []), ([6, 5, 5, 0, 1, 2, 3, 4, 5], [5, 6])])
def impl_CanonValue.B5 : List Nat := [0, 1, 0, 4, 12, 31, 63, 127]
theorem impl_CanonValue.tab5 : rtab .any (opsOf Try.f14 5) = impl_CanonValue.T5 := by kernel_rfl
theorem impl_CanonValue.bits5 : waitsOk impl_CanonValue.T5.2 impl_CanonValue.B5 = true := by kernel_rfl
set_option maxHeartbeats 8000000 in
set_option maxRecDepth 100000 in
theorem impl_CanonValue.calls (k : Nat) : ∀ (a0_0 : Int) (a0_1 : Int) (A0_2 : Option Addr) (c0_2 : Nat) (l0_2 : List ByteArray) (A0_3 : Option Addr) (c0_3 : Nat) (l0_3 : List (S30)) (r1 : Int) (r2 : Int) (r3 : List ByteArray) (r4 : List (S30)) (w : World) (hr0_2 : Kd.C Kd.string w A0_2 l0_2.length l0_2) (hc0_2 : l0_2.length ≤ c0_2) (hr0_3 : Kd.C k30 w A0_3 l0_3.length l0_3) (hc0_3 : l0_3.length ≤ c0_3) (h : impl_CanonValue.f k a0_0 a0_1 l0_2 l0_3 = some (r1, r2, r3, r4)),
  Calls Try.prog 14 #[.agg #[.int .i64 a0_0, .int .i64 a0_1, .slice A0_2 l0_2.length c0_2, .slice A0_3 l0_3.length c0_3]] w fun e w' => ∃ v2_ v3_ : Value, e = .returned (.agg #[.int .i64 r1, .int .i64 r2, v2_, v3_]) ∧ Kd.R Kd.string 9 w' w.heap.size (fun _ => True) v2_ r3 ∧ Kd.R k30 30 w' w.heap.size (fun k_ => some k_ ≠ (v2_ : Value).ownBlock) v3_ r4 ∧ Below w.heap.size w w' := by
 induction k using Nat.strongRecOn with
 | _ k ih =>
 intro a0_0 a0_1 A0_2 c0_2 l0_2 A0_3 c0_3 l0_3 r1 r2 r3 r4 w hr0_2 hc0_2 hr0_3 hc0_3 h
 cases k with
 | zero => exact absurd h (by simp [impl_CanonValue.f])
 | succ k =>
 simp only [impl_CanonValue.f] at h
 have hu30 := Try.underlying30
 have HR0_2 := am hr0_2
 have HC0_2 := am hc0_2
 clear hr0_2 hc0_2
 have HR0_3 := am hr0_3
 have HC0_3 := am hc0_3
 clear hr0_3 hc0_3
 have HB := am (Below.refl w.heap.size w)
 have H : ((slices_Clone_string_string.f l0_2).bind fun t252 => (impl_CanonValue.l0 k l0_3 (l0_3.length : Int) 0 a0_0 a0_1 l0_2 l0_3 a0_0 a0_1 t252 ([] : List (S30)))) = some (r1, r2, r3, r4) := h
 clear h
 replace H := Option.bind_eq_some_iff.mp H
 obtain ⟨t252, A20, H⟩ := H
 replace H : (impl_CanonValue.l0 k l0_3 (l0_3.length : Int) 0 a0_0 a0_1 l0_2 l0_3 a0_0 a0_1 t252 ([] : List (S30))) = some (r1, r2, r3, r4) := H
 have A2 := am A20
 clear A20
 have H' := am H
 clear H
 go_enter Try.func14, Try.ntmps14
 try go_wp2_with (first | ((with_reducible refine gate_dst (N := 1) rfl ?_); refine box_event ?hg (N := 1) ?hd (cs := #[.int .i64 a0_0, .int .i64 a0_1, .slice A0_2 l0_2.length c0_2, .slice A0_3 l0_3.length c0_3]) (t := 30) ?hr ?_; (case hd => rfl); (case hg => rfl); (case hr => exact hrw); intro gb250 hg w3 hbox hb; have n0_ := am (below_step blw hb); have n1_ := am (hbox); have n2_ := am ((by rw [hg]; exact (below_size blw) : w.heap.size ≤ gb250)); have n3_ := n2_; clear HB; revert n0_ n1_ n2_ n3_; intro HB BK250 GW250 GE250; clear hb hbox hg) | ((with_reducible refine gate_dst (N := 2) rfl ?_); refine box_event ?hg (N := 2) ?hd (cs := #[.int .i64 0, .int .i64 0, .slice none 0 0, .slice none 0 0]) (t := 30) ?hr ?_; (case hd => rfl); (case hg => rfl); (case hr => exact hrw); intro gb251 hg w4 hbox hb; have n0_ := am (blk_below (g := gb250) bkw hb); have n1_ := am (below_step blw hb); have n2_ := am (hbox); have n3_ := am ((by rw [hg]; exact (below_size blw) : w.heap.size ≤ gb251)); have n4_ := n3_; have n5_ := am ((by rw [hg]; exact Nat.ne_of_lt (blk_lt (g := gb250) bkw) : gb250 ≠ gb251)); have n6_ := am ((by rw [hg]; exact Nat.ne_of_gt (blk_lt (g := gb250) bkw) : gb251 ≠ gb250)); clear BK250; clear HB; revert n0_ n1_ n2_ n3_ n4_ n5_ n6_; intro BK250 HB BK251 GW251 GE251 NB250_251 NB251_250; clear hb hbox hg))
 have n0_ := am (blk_drew BK250.out)
 have n1_ := am (blk_drew BK251.out)
 have n2_ := am (below_drew1 HB.out)
 clear BK250
 clear BK251
 clear HB
 revert n0_ n1_ n2_
 intro BK250 BK251 HB
 refine start_ (n := 10) (S := fun w' => w'.cell? ⟨gb250, 0, none⟩ = some (.int .i64 a0_0) ∧ w'.cell? ⟨gb250, 1, none⟩ = some (.int .i64 a0_1) ∧ w'.cell? ⟨gb250, 2, none⟩ = some (.slice A0_2 l0_2.length c0_2) ∧ w'.cell? ⟨gb250, 3, none⟩ = some (.slice A0_3 l0_3.length c0_3)) (ds := []) #[false,false,false,false,false,false,false,false,false,false] kr rfl rfl ⟨(blk_cell BK250.out 0).trans rfl, (blk_cell BK250.out 1).trans rfl, (blk_cell BK250.out 2).trans rfl, (blk_cell BK250.out 3).trans rfl⟩ (fun hHeld => ?_); refine with_tabW impl_CanonValue.tab1 impl_CanonValue.bits1 (fun HT_ HW_ => ?_)
 generalize w4.drew = w5 at BK250 BK251 HB hHeld ⊢
 refine pure_ (i := 0) (N := some 6) (v := ?_) (a' := ?_) (bm 10 1) rfl rfl (any_of HT_.out kr) qi (Or.inl ⟨by rfl, ?_⟩) ?_ ?_
 rotate_left
 ·intro w'
  go_simp
  with_reducible rfl
 rotate_left
 ·simp only [sx]
  rfl
 refine pure_ (i := 2) (N := some 8) (v := ?_) (a' := ?_) (bm 10 5) rfl rfl (any_of HT_.out kr) qi (Or.inl ⟨by rfl, ?_⟩) ?_ ?_
 rotate_left
 ·intro w'
  go_simp
  with_reducible rfl
 rotate_left
 ·simp only [sx]
  rfl
 refine pure_ (i := 4) (N := some 10) (v := ?_) (a' := ?_) (bm 10 21) rfl rfl (any_of HT_.out kr) qi (Or.inl ⟨by rfl, ?_⟩) ?_ ?_
 rotate_left
 ·intro w'
  go_simp
  with_reducible rfl
 rotate_left
 ·simp only [sx]
  rfl
 refine take_ (i := 1) (N := some 7) (v := ?_) (a' := ?_) (bm 10 23) rfl rfl (take_ofW HT_.out HW_.out kr) qi (Or.inl ⟨by rfl, ?_⟩) hHeld ?_ ?_
 rotate_left
 ·rintro w' ⟨s0, s1, s2, s3⟩
  go_simp
  with_reducible rfl
 rotate_left
 ·simp only [sx]
  rfl
 refine take_ (i := 3) (N := some 9) (v := ?_) (a' := ?_) (bm 10 31) rfl rfl (take_ofW HT_.out HW_.out kr) qi (Or.inl ⟨by rfl, ?_⟩) hHeld ?_ ?_
 rotate_left
 ·rintro w' ⟨s0, s1, s2, s3⟩
  go_simp
  with_reducible rfl
 rotate_left
 ·simp only [sx]
  rfl
 refine take_ (i := 5) (N := some 11) (v := ?_) (a' := ?_) (bm 10 63) rfl rfl (take_ofW HT_.out HW_.out kr) qi (Or.inl ⟨by rfl, ?_⟩) hHeld ?_ ?_
 rotate_left
 ·rintro w' ⟨s0, s1, s2, s3⟩
  go_simp
  with_reducible rfl
 rotate_left
 ·simp only [sx]
  rfl
 refine join_ (σ := Value × Nat) 1 #[true,true,true,true,true,true,true,true,true,false] (fun s_ => [(12, s_.1), (3, .pointer (some ⟨s_.2, 0, none⟩)), (13, .agg #[.int .i64 a0_0, .int .i64 a0_1, s_.1, .slice none 0 0])]) (fun s_ w' => (w'.cell? ⟨gb250, 0, none⟩ = some (.int .i64 a0_0) ∧ w'.cell? ⟨gb250, 1, none⟩ = some (.int .i64 a0_1) ∧ w'.cell? ⟨gb250, 2, none⟩ = some (.slice A0_2 l0_2.length c0_2) ∧ w'.cell? ⟨gb250, 3, none⟩ = some (.slice A0_3 l0_3.length c0_3)) ∧ (Kd.R Kd.string 9 w' w.heap.size (fun _ => True) s_.1 t252) ∧ (w'.heap[gb250]? = some (.cells #[.int .i64 a0_0, .int .i64 a0_1, .slice A0_2 l0_2.length c0_2, .slice A0_3 l0_3.length c0_3] 30 (0, 0))) ∧ (w'.heap[gb251]? = some (.cells #[.int .i64 0, .int .i64 0, .slice none 0 0, .slice none 0 0] 30 (0, 0))) ∧ (w'.heap[s_.2]? = some (.cells #[.int .i64 0, .int .i64 0, .slice none 0 0, .slice none 0 0] 30 (0, 0))) ∧ (w.heap.size ≤ s_.2) ∧ (w.heap.size ≤ s_.2) ∧ (gb250 ≠ s_.2) ∧ (s_.2 ≠ gb250) ∧ (gb251 ≠ s_.2) ∧ (s_.2 ≠ gb251) ∧ (Below w.heap.size w w')) ?_ ?_
 rotate_left
 ·intro hCont
  refine two_ (i := 6) (j := 8) (Ni := some 12) (Nj := some 3) #[true,true,true,true,true,true,true,false,false,false] #[true,true,true,true,true,true,false,false,true,false] rfl rfl rfl rfl (two_of HT_.out kr) (by decide) (by decide) (fun K hK => ?_) (fun K hK => ?_)
  ·skip
   refine goes_ Try.func27 kr rfl #[.slice A0_2 l0_2.length c0_2] (by rfl) rfl rfl mpw ?_
   with_reducible refine (slices_Clone_string_string.calls _ _ l0_2 t252 _ ?side1 ?side2 A2.out).mono ?_
   (case side1 => have X_ := HR0_2; exact cbl)
   (case side2 => exact HC0_2.out)
   rintro e w6 ⟨v253, rfl, ho0, hb⟩
   refine ⟨_, rfl, ?_⟩
   have n0_ := am (Kd.R_lower ho0 (below_size blw))
   have n1_ := am (blk_below (g := gb250) bkw hb)
   have n2_ := am (blk_below (g := gb251) bkw hb)
   have n3_ := am (below_step blw hb)
   clear BK250
   clear BK251
   clear HB
   revert n0_ n1_ n2_ n3_
   intro HO254 BK250 BK251 HB
   (try clear hb)
   (try clear hb2)
   (try clear hk)
   (try clear hi)
   (try clear ho0)
   obtain ⟨Ao7, co7, eo7⟩ := Kd.R_slice HO254.out
   (first | subst eo7 | (injection eo7 with f1_ f2_ f3_; have f4_ := f1_.symm; have f5_ := f3_.symm; clear f1_ f2_ f3_; subst f4_; subst f5_))
   refine hK.out _ _ ⟨(blk_cell BK250.out 0).trans rfl, (blk_cell BK250.out 1).trans rfl, (blk_cell BK250.out 2).trans rfl, (blk_cell BK250.out 3).trans rfl⟩ (fun hHeld => ?_)
   clear hK K
   refine norm_ (a' := ?_) ?_ ?_
   rotate_left
   ·show Act.put _ (some 12) _ = _
    simp only [sx]
    rfl
   refine pure_ (i := 7) (N := some 13) (v := ?_) (a' := ?_) (bm 10 255) rfl rfl (any_of HT_.out kr) qi (Or.inl ⟨by rfl, ?_⟩) ?_ ?_
   rotate_left
   ·intro w'
    go_simp
    with_reducible rfl
   rotate_left
   ·simp only [sx]
    rfl
   refine one_ (i := 8) (N := some 3) (bm 10 511) rfl rfl (one_of HT_.out kr) (by decide) (fun K hK => ?_)
   refine box_step ?hg (N := 3) ?hd (cs := #[.int .i64 0, .int .i64 0, .slice none 0 0, .slice none 0 0]) (t := 30) ?hr ?_; (case hd => rfl); (case hg => rfl); (case hr => exact hrw)
   intro gb255 hg w8 hbox hb
   have n0_ := am (Kd.R_below (by (with_reducible repeat (first | apply Kd.R_alloc | apply Kd.R_drewN | apply Kd.R_drew)); exact HO254.out) hb)
   have n1_ := am (blk_below (g := gb250) bkw hb)
   have n2_ := am (blk_below (g := gb251) bkw hb)
   have n3_ := am (below_step blw hb)
   have n4_ := am (hbox)
   have n5_ := am ((by rw [hg]; exact (below_size blw) : w.heap.size ≤ gb255))
   have n6_ := am ((by rw [hg]; exact (below_size blw) : w.heap.size ≤ gb255))
   have n7_ := am ((by rw [hg]; exact Nat.ne_of_lt (blk_lt (g := gb250) bkw) : gb250 ≠ gb255))
   have n8_ := am ((by rw [hg]; exact Nat.ne_of_gt (blk_lt (g := gb250) bkw) : gb255 ≠ gb250))
   have n9_ := am ((by rw [hg]; exact Nat.ne_of_lt (blk_lt (g := gb251) bkw) : gb251 ≠ gb255))
   have n10_ := am ((by rw [hg]; exact Nat.ne_of_gt (blk_lt (g := gb251) bkw) : gb255 ≠ gb251))
   clear HO254
   clear BK250
   clear BK251
   clear HB
   revert n0_ n1_ n2_ n3_ n4_ n5_ n6_ n7_ n8_ n9_ n10_
   intro HO254 BK250 BK251 HB BK255 GW255 GE255 NB250_255 NB255_250 NB251_255 NB255_251
   clear hb hbox hg
   refine hK.out _ _ ⟨(blk_cell BK250.out 0).trans rfl, (blk_cell BK250.out 1).trans rfl, (blk_cell BK250.out 2).trans rfl, (blk_cell BK250.out 3).trans rfl⟩ (fun hHeld => ?_)
   clear hK K
   refine norm_ (a' := ?_) ?_ ?_
   rotate_left
   ·show Act.put _ (some 3) _ = _
    simp only [sx]
    rfl
   exact norm_ (by simp only [putAll, Act.put, List.setIfInBounds_toArray, List.set_cons_zero, List.set_cons_succ]) (hCont (.slice Ao7 t252.length co7, gb255) _ ⟨hHeld, (by (with_reducible repeat (first | apply Kd.R_alloc | apply Kd.R_drewN | apply Kd.R_drew)); exact HO254.out), bkw, bkw, bkw, GW255.out, GE255.out, NB250_255.out, NB255_250.out, NB251_255.out, NB255_251.out, blw⟩)
  ·skip
   refine box_step ?hg (N := 3) ?hd (cs := #[.int .i64 0, .int .i64 0, .slice none 0 0, .slice none 0 0]) (t := 30) ?hr ?_; (case hd => rfl); (case hg => rfl); (case hr => exact hrw)
   intro gb255 hg w6 hbox hb
   have n0_ := am (blk_below (g := gb250) bkw hb)
   have n1_ := am (blk_below (g := gb251) bkw hb)
   have n2_ := am (below_step blw hb)
   have n3_ := am (hbox)
   have n4_ := am ((by rw [hg]; exact (below_size blw) : w.heap.size ≤ gb255))
   have n5_ := am ((by rw [hg]; exact (below_size blw) : w.heap.size ≤ gb255))
   have n6_ := am ((by rw [hg]; exact Nat.ne_of_lt (blk_lt (g := gb250) bkw) : gb250 ≠ gb255))
   have n7_ := am ((by rw [hg]; exact Nat.ne_of_gt (blk_lt (g := gb250) bkw) : gb255 ≠ gb250))
   have n8_ := am ((by rw [hg]; exact Nat.ne_of_lt (blk_lt (g := gb251) bkw) : gb251 ≠ gb255))
   have n9_ := am ((by rw [hg]; exact Nat.ne_of_gt (blk_lt (g := gb251) bkw) : gb255 ≠ gb251))
   clear BK250
   clear BK251
   clear HB
   revert n0_ n1_ n2_ n3_ n4_ n5_ n6_ n7_ n8_ n9_
   intro BK250 BK251 HB BK255 GW255 GE255 NB250_255 NB255_250 NB251_255 NB255_251
   clear hb hbox hg
   refine hK.out _ _ ⟨(blk_cell BK250.out 0).trans rfl, (blk_cell BK250.out 1).trans rfl, (blk_cell BK250.out 2).trans rfl, (blk_cell BK250.out 3).trans rfl⟩ (fun hHeld => ?_)
   clear hK K
   refine norm_ (a' := ?_) ?_ ?_
   rotate_left
   ·show Act.put _ (some 3) _ = _
    simp only [sx]
    rfl
   refine one_ (i := 6) (N := some 12) (bm 10 383) rfl rfl (one_of HT_.out kr) (by decide) (fun K hK => ?_)
   refine goes_ Try.func27 kr rfl #[.slice A0_2 l0_2.length c0_2] (by rfl) rfl rfl mpw ?_
   with_reducible refine (slices_Clone_string_string.calls _ _ l0_2 t252 _ ?side1 ?side2 A2.out).mono ?_
   (case side1 => have X_ := HR0_2; exact cbl)
   (case side2 => exact HC0_2.out)
   rintro e w7 ⟨v253, rfl, ho0, hb⟩
   refine ⟨_, rfl, ?_⟩
   have n0_ := am (Kd.R_lower ho0 (below_size blw))
   have n1_ := am (blk_below (g := gb250) bkw hb)
   have n2_ := am (blk_below (g := gb251) bkw hb)
   have n3_ := am (blk_below (g := gb255) bkw hb)
   have n4_ := am (below_step blw hb)
   clear BK250
   clear BK251
   clear BK255
   clear HB
   revert n0_ n1_ n2_ n3_ n4_
   intro HO254 BK250 BK251 BK255 HB
   (try clear hb)
   (try clear hb2)
   (try clear hk)
   (try clear hi)
   (try clear ho0)
   obtain ⟨Ao8, co8, eo8⟩ := Kd.R_slice HO254.out
   (first | subst eo8 | (injection eo8 with f1_ f2_ f3_; have f4_ := f1_.symm; have f5_ := f3_.symm; clear f1_ f2_ f3_; subst f4_; subst f5_))
   refine hK.out _ _ ⟨(blk_cell BK250.out 0).trans rfl, (blk_cell BK250.out 1).trans rfl, (blk_cell BK250.out 2).trans rfl, (blk_cell BK250.out 3).trans rfl⟩ (fun hHeld => ?_)
   clear hK K
   refine norm_ (a' := ?_) ?_ ?_
   rotate_left
   ·show Act.put _ (some 12) _ = _
    simp only [sx]
    rfl
   refine pure_ (i := 7) (N := some 13) (v := ?_) (a' := ?_) (bm 10 511) rfl rfl (any_of HT_.out kr) qi (Or.inl ⟨by rfl, ?_⟩) ?_ ?_
   rotate_left
   ·intro w'
    go_simp
    with_reducible rfl
   rotate_left
   ·simp only [sx]
    rfl
   exact norm_ (by simp only [putAll, Act.put, List.setIfInBounds_toArray, List.set_cons_zero, List.set_cons_succ]) (hCont (.slice Ao8 t252.length co8, gb255) _ ⟨hHeld, (by (with_reducible repeat (first | apply Kd.R_alloc | apply Kd.R_drewN | apply Kd.R_drew)); exact HO254.out), bkw, bkw, bkw, GW255.out, GE255.out, NB250_255.out, NB255_250.out, NB251_255.out, NB255_251.out, blw⟩)
 rintro ⟨v253, gb255⟩ w9 ⟨hS_, h0_, h1_, h2_, h3_, h4_, h5_, h6_, h7_, h8_, h9_, h10_⟩
 have n0_ : Aside0 (Kd.R Kd.string 9 w9 w.heap.size (fun _ => True) v253 t252) := ⟨h0_⟩
 have n1_ : Aside0 (w9.heap[gb250]? = some (.cells #[.int .i64 a0_0, .int .i64 a0_1, .slice A0_2 l0_2.length c0_2, .slice A0_3 l0_3.length c0_3] 30 (0, 0))) := ⟨h1_⟩
 have n2_ : Aside0 (w9.heap[gb251]? = some (.cells #[.int .i64 0, .int .i64 0, .slice none 0 0, .slice none 0 0] 30 (0, 0))) := ⟨h2_⟩
 have n3_ : Aside0 (w9.heap[gb255]? = some (.cells #[.int .i64 0, .int .i64 0, .slice none 0 0, .slice none 0 0] 30 (0, 0))) := ⟨h3_⟩
 have n4_ : Aside0 (w.heap.size ≤ gb255) := ⟨h4_⟩
 have n5_ : Aside0 (w.heap.size ≤ gb255) := ⟨h5_⟩
 have n6_ : Aside0 (gb250 ≠ gb255) := ⟨h6_⟩
 have n7_ : Aside0 (gb255 ≠ gb250) := ⟨h7_⟩
 have n8_ : Aside0 (gb251 ≠ gb255) := ⟨h8_⟩
 have n9_ : Aside0 (gb255 ≠ gb251) := ⟨h9_⟩
 have n10_ : Aside0 (Below w.heap.size w w9) := ⟨h10_⟩
 clear BK250
 clear BK251
 clear HB
 clear h0_ h1_ h2_ h3_ h4_ h5_ h6_ h7_ h8_ h9_ h10_
 revert n0_ n1_ n2_ n3_ n4_ n5_ n6_ n7_ n8_ n9_ n10_
 intro HO254 BK250 BK251 BK255 GW255 GE255 NB250_255 NB255_250 NB251_255 NB255_251 HB
 have hHeld : w9.cell? ⟨gb250, 0, none⟩ = some (.int .i64 a0_0) ∧ w9.cell? ⟨gb250, 1, none⟩ = some (.int .i64 a0_1) ∧ w9.cell? ⟨gb250, 2, none⟩ = some (.slice A0_2 l0_2.length c0_2) ∧ w9.cell? ⟨gb250, 3, none⟩ = some (.slice A0_3 l0_3.length c0_3) := hS_
 obtain ⟨Ao10, co10, eo10⟩ := Kd.R_slice HO254.out
 (first | subst eo10 | (injection eo10 with f1_ f2_ f3_; have f4_ := f1_.symm; have f5_ := f3_.symm; clear f1_ f2_ f3_; subst f4_; subst f5_))
 refine norm_ (a' := ?_) ?_ ?_
 rotate_left
 ·simp only [putAll, Act.put, List.setIfInBounds_toArray, List.set_cons_zero, List.set_cons_succ]
  rfl
 refine one_ (i := 9) (N := none) (bm 10 1023) rfl rfl (one_of HT_.out kr) (by decide) (fun K hK => ?_)
 have hs11 : w9.cell? ⟨gb255, 0, none⟩ = some (.int .i64 0) := (blk_cell BK255.out 0).trans rfl
 have hfs11 := blk_frozen BK255.out 0
 have hns11_0 := NB250_255.out
 have hns11_1 := NB251_255.out
 have hms11_0 := NB255_250.out
 have hms11_1 := NB255_251.out
 have hs12 : w9.cell? ⟨gb255, 1, none⟩ = some (.int .i64 0) := (blk_cell BK255.out 1).trans rfl
 have hfs12 := blk_frozen BK255.out 1
 have hns12_0 := NB250_255.out
 have hns12_1 := NB251_255.out
 have hms12_0 := NB255_250.out
 have hms12_1 := NB255_251.out
 have hs13 : w9.cell? ⟨gb255, 2, none⟩ = some (.slice none 0 0) := (blk_cell BK255.out 2).trans rfl
 have hfs13 := blk_frozen BK255.out 2
 have hns13_0 := NB250_255.out
 have hns13_1 := NB251_255.out
 have hms13_0 := NB255_250.out
 have hms13_1 := NB255_251.out
 have hs14 : w9.cell? ⟨gb255, 3, none⟩ = some (.slice none 0 0) := (blk_cell BK255.out 3).trans rfl
 have hfs14 := blk_frozen BK255.out 3
 have hns14_0 := NB250_255.out
 have hns14_1 := NB251_255.out
 have hms14_0 := NB255_250.out
 have hms14_1 := NB255_251.out
 refine skip_ (w1 := ?_) (by rfl) rfl ?_ ?_
 rotate_left
 ·go_simp
  rfl
 refine hK.out _ _ ⟨((cell_far (p := ⟨gb255, _, none⟩) NB250_255.out _).trans (((cell_far (p := ⟨gb255, _, none⟩) NB250_255.out _).trans (((cell_far (p := ⟨gb255, _, none⟩) NB250_255.out _).trans (((cell_far (p := ⟨gb255, _, none⟩) NB250_255.out _).trans (hHeld.1)))))))), ((cell_far (p := ⟨gb255, _, none⟩) NB250_255.out _).trans (((cell_far (p := ⟨gb255, _, none⟩) NB250_255.out _).trans (((cell_far (p := ⟨gb255, _, none⟩) NB250_255.out _).trans (((cell_far (p := ⟨gb255, _, none⟩) NB250_255.out _).trans (hHeld.2.1)))))))), ((cell_far (p := ⟨gb255, _, none⟩) NB250_255.out _).trans (((cell_far (p := ⟨gb255, _, none⟩) NB250_255.out _).trans (((cell_far (p := ⟨gb255, _, none⟩) NB250_255.out _).trans (((cell_far (p := ⟨gb255, _, none⟩) NB250_255.out _).trans (hHeld.2.2.1)))))))), ((cell_far (p := ⟨gb255, _, none⟩) NB250_255.out _).trans (((cell_far (p := ⟨gb255, _, none⟩) NB250_255.out _).trans (((cell_far (p := ⟨gb255, _, none⟩) NB250_255.out _).trans (((cell_far (p := ⟨gb255, _, none⟩) NB250_255.out _).trans (hHeld.2.2.2))))))))⟩ (fun hHeld => ?_)
 clear hK K
 refine done_ (done_of HT_.out kr) ?_
 have hnb15 := NB250_251.out
 have hnc15 := NB251_250.out
 have hnb16 := NB250_255.out
 have hnc16 := NB255_250.out
 obtain ⟨hcz17_0, hcz17_1, hcz17_2, hcz17_3⟩ := cls4 BK250.out
 obtain ⟨hfz17_0, hfz17_1, hfz17_2, hfz17_3⟩ := frz4 BK250.out
 try go_wp2
 go_loopg [17] k (fun kq v17 w' => ∃ (x17_1 : Int) (x256003_1 : List (S30)) (u256003 : Value), v17 = .int .i64 x17_1 ∧ Aside0 (impl_CanonValue.l0 kq l0_3 (l0_3.length : Int) x17_1 a0_0 a0_1 l0_2 l0_3 a0_0 a0_1 t252 x256003_1 = some (r1, r2, r3, r4)) ∧ Aside0 (kq ≤ k) ∧ Aside0 (Kd.R Kd.string 9 w' w.heap.size (fun _ => True) (.slice Ao10 t252.length co10) t252) ∧ Aside0 (Kd.R k30 30 w' w.heap.size (fun k_ => some k_ ≠ ((.slice Ao10 t252.length co10) : Value).ownBlock ∧ k_ ≠ gb250 ∧ k_ ≠ gb251 ∧ k_ ≠ gb255) u256003 x256003_1) ∧ Aside0 (w'.heap[gb250]? = some (.cells #[.int .i64 a0_0, .int .i64 a0_1, (.slice A0_2 l0_2.length c0_2), (.slice A0_3 l0_3.length c0_3)] 30 (0, 0))) ∧ Aside0 (w'.heap[gb251]? = some (.cells #[.int .i64 0, .int .i64 0, (.slice none 0 0), (.slice none 0 0)] 30 (0, 0))) ∧ Aside0 (w'.heap[gb255]? = some (.cells #[.int .i64 a0_0, .int .i64 a0_1, (.slice Ao10 t252.length co10), u256003] 30 (0, 0))) ∧ Aside0 (Below w.heap.size w w'))
 case atStart => exact ⟨(0), (([] : List (S30))), (.slice none 0 0), rfs, H', ⟨Nat.le_refl _⟩, ⟨by (with_reducible repeat (first | apply Kd.R_alloc | apply Kd.R_drewN | apply Kd.R_drew)); exact Kd.R_mono (fr4 (g := gb255) (Kd.R_types HO254.out BK255.out (by decide)) (fun _ hk => hk.2) 0) (fun _ hk => trivial)⟩, ⟨by first | exact Kd.R_nil _ _ _ _ _ | exact Kd.N_nil _ _ _ _ _ | exact Kd.V_nil _ _ _ _ _ | exact Kd.Q_nil _ _ _ _ _ | exact Kd.S_nil _ _ _ _ _⟩, ⟨by (with_reducible repeat (first | refine blk_drewN ?_ _ | refine blk_drew ?_ | refine blk_alloc ?_ _)); refine blk_far ?_ NB250_255.out _; (with_reducible repeat (first | refine blk_drewN ?_ _ | refine blk_drew ?_ | refine blk_alloc ?_ _)); refine blk_far ?_ NB250_255.out _; (with_reducible repeat (first | refine blk_drewN ?_ _ | refine blk_drew ?_ | refine blk_alloc ?_ _)); refine blk_far ?_ NB250_255.out _; (with_reducible repeat (first | refine blk_drewN ?_ _ | refine blk_drew ?_ | refine blk_alloc ?_ _)); refine blk_far ?_ NB250_255.out _; (with_reducible repeat (first | refine blk_drewN ?_ _ | refine blk_drew ?_ | refine blk_alloc ?_ _)); exact BK250.out⟩, ⟨by (with_reducible repeat (first | refine blk_drewN ?_ _ | refine blk_drew ?_ | refine blk_alloc ?_ _)); refine blk_far ?_ NB251_255.out _; (with_reducible repeat (first | refine blk_drewN ?_ _ | refine blk_drew ?_ | refine blk_alloc ?_ _)); refine blk_far ?_ NB251_255.out _; (with_reducible repeat (first | refine blk_drewN ?_ _ | refine blk_drew ?_ | refine blk_alloc ?_ _)); refine blk_far ?_ NB251_255.out _; (with_reducible repeat (first | refine blk_drewN ?_ _ | refine blk_drew ?_ | refine blk_alloc ?_ _)); refine blk_far ?_ NB251_255.out _; (with_reducible repeat (first | refine blk_drewN ?_ _ | refine blk_drew ?_ | refine blk_alloc ?_ _)); exact BK251.out⟩, ⟨by (with_reducible repeat (first | refine blk_drewN ?_ _ | refine blk_drew ?_ | refine blk_alloc ?_ _)); refine blk_put (cs := #[.int .i64 a0_0, .int .i64 a0_1, .slice Ao10 t252.length co10, .slice none 0 0]) ?_ 3 _ rfl; (with_reducible repeat (first | refine blk_drewN ?_ _ | refine blk_drew ?_ | refine blk_alloc ?_ _)); refine blk_put (cs := #[.int .i64 a0_0, .int .i64 a0_1, .slice none 0 0, .slice none 0 0]) ?_ 2 _ rfl; (with_reducible repeat (first | refine blk_drewN ?_ _ | refine blk_drew ?_ | refine blk_alloc ?_ _)); refine blk_put (cs := #[.int .i64 a0_0, .int .i64 0, .slice none 0 0, .slice none 0 0]) ?_ 1 _ rfl; (with_reducible repeat (first | refine blk_drewN ?_ _ | refine blk_drew ?_ | refine blk_alloc ?_ _)); refine blk_put (cs := #[.int .i64 0, .int .i64 0, .slice none 0 0, .slice none 0 0]) ?_ 0 _ rfl; (with_reducible repeat (first | refine blk_drewN ?_ _ | refine blk_drew ?_ | refine blk_alloc ?_ _)); exact BK255.out⟩, ⟨blw⟩⟩
 case round =>
  clear H'
  (try clear c1); (try clear c2); (try clear p2); (try clear c14); (try clear c15); (try clear c16); (try clear hcz17_0 hcz17_1 hcz17_2 hcz17_3); (try clear hfz17_0 hfz17_1 hfz17_2 hfz17_3)
  obtain ⟨x17_1, x256003_1, u256003, rfl, HA, HK1, HO_256002, HO_256003, BK250, BK251, BK255, HB⟩ := hrel
  cases gk with
  | zero => exact absurd HA.out (by simp [impl_CanonValue.l0])
  | succ k1 =>
   have H := HA.out
   clear HA
   simp only [impl_CanonValue.l0] at H
   by_cases c18 : x17_1 < (l0_3.length : Int)
   case neg =>
    rw [if_neg c18] at H
    have c18b0 : decide (x17_1 < (l0_3.length : Int)) = false := decide_eq_false c18
    clear c18
    by_cases c36 : a0_0 = 4
    case neg =>
     rw [if_neg c36] at H
     have c36b0 : (a0_0 == 4) = false := beq_eq_false_iff_ne.mpr c36
     have c36b1 : (a0_0 != 4) = true := bne_iff_ne.mpr c36
     simp only [Option.some.injEq, Prod.mk.injEq] at H
     obtain ⟨rfl, rfl, rfl, rfl⟩ := H
     have hnb44 := NB250_251.out
     have hnc44 := NB251_250.out
     have hnb45 := NB250_255.out
     have hnc45 := NB255_250.out
     obtain ⟨hcz46_0, hcz46_1, hcz46_2, hcz46_3⟩ := cls4 BK250.out
     obtain ⟨hfz46_0, hfz46_1, hfz46_2, hfz46_3⟩ := frz4 BK250.out
     have hnb47 := NB255_251.out
     have hnc47 := NB251_255.out
     obtain ⟨hcz48_0, hcz48_1, hcz48_2, hcz48_3⟩ := cls4 BK255.out
     obtain ⟨hfz48_0, hfz48_1, hfz48_2, hfz48_3⟩ := frz4 BK255.out
     obtain ⟨hcz49_0, hcz49_1, hcz49_2, hcz49_3⟩ := cls4 BK251.out
     obtain ⟨hfz49_0, hfz49_1, hfz49_2, hfz49_3⟩ := frz4 BK251.out
     obtain ⟨Ao50, co50, eo50⟩ := Kd.R_slice HO_256003.out
     subst eo50
     go_wp2
     refine bodyPost_ret (results_cell_row rfl _ _ gb251 30 #[.int .i64 a0_0, .int .i64 a0_1, .slice Ao10 t252.length co10, .slice Ao50 x256003_1.length co50] (0, 0) _ rfl (by (with_reducible repeat (first | refine blk_drewN ?_ _ | refine blk_drew ?_ | refine blk_alloc ?_ _)); refine blk_put (cs := #[.int .i64 a0_0, .int .i64 a0_1, .slice Ao10 t252.length co10, .slice none 0 0]) ?_ 3 _ rfl; (with_reducible repeat (first | refine blk_drewN ?_ _ | refine blk_drew ?_ | refine blk_alloc ?_ _)); refine blk_put (cs := #[.int .i64 a0_0, .int .i64 a0_1, .slice none 0 0, .slice none 0 0]) ?_ 2 _ rfl; (with_reducible repeat (first | refine blk_drewN ?_ _ | refine blk_drew ?_ | refine blk_alloc ?_ _)); refine blk_put (cs := #[.int .i64 a0_0, .int .i64 0, .slice none 0 0, .slice none 0 0]) ?_ 1 _ rfl; (with_reducible repeat (first | refine blk_drewN ?_ _ | refine blk_drew ?_ | refine blk_alloc ?_ _)); refine blk_put (cs := #[.int .i64 0, .int .i64 0, .slice none 0 0, .slice none 0 0]) ?_ 0 _ rfl; (with_reducible repeat (first | refine blk_drewN ?_ _ | refine blk_drew ?_ | refine blk_alloc ?_ _)); exact BK251.out) Try.underlying30 rfl kr) rfl ?_
     exact ⟨_, _, rfw, by (with_reducible repeat (first | apply Kd.R_alloc | apply Kd.R_drewN | apply Kd.R_drew)); exact Kd.R_mono (fr4 (g := gb251) (Kd.R_types HO_256002.out BK251.out (by decide)) (fun _ hk => hk.2) 0) (fun _ hk => trivial), by (with_reducible repeat (first | apply Kd.R_alloc | apply Kd.R_drewN | apply Kd.R_drew)); exact Kd.R_mono (fr4 (g := gb251) (Kd.R_mono HO_256003.out (fun k_ hk => (⟨hk, hk.2.2.1⟩ : _ ∧ k_ ≠ gb251))) (fun _ hk => hk.2) 0) (fun _ hk => hk.1.1), blw⟩
    rw [if_pos c36] at H
    have c36b0 : (a0_0 == 4) = true := beq_iff_eq.mpr c36
    have c36b1 : (a0_0 != 4) = false := bne_eq_false_iff_eq.mpr c36
    clear c36
    obtain ⟨s_, hs_, H⟩ := Option.bind_eq_some_iff.mp H
    obtain ⟨hsm_, hln_, hst_⟩ := srt_some hs_
    clear hs_
    have HSM_ := am hsm_; have HLN_ := am hln_; have HST_ := am hst_
    clear hsm_ hln_ hst_
    simp only [Option.some.injEq, Prod.mk.injEq] at H
    obtain ⟨rfl, rfl, rfl, rfl⟩ := H
    have hnb37 := NB250_251.out
    have hnc37 := NB251_250.out
    have hnb38 := NB250_255.out
    have hnc38 := NB255_250.out
    obtain ⟨hcz39_0, hcz39_1, hcz39_2, hcz39_3⟩ := cls4 BK250.out
    obtain ⟨hfz39_0, hfz39_1, hfz39_2, hfz39_3⟩ := frz4 BK250.out
    have hnb40 := NB255_251.out
    have hnc40 := NB251_255.out
    obtain ⟨hcz41_0, hcz41_1, hcz41_2, hcz41_3⟩ := cls4 BK255.out
    obtain ⟨hfz41_0, hfz41_1, hfz41_2, hfz41_3⟩ := frz4 BK255.out
    obtain ⟨hcz42_0, hcz42_1, hcz42_2, hcz42_3⟩ := cls4 BK251.out
    obtain ⟨hfz42_0, hfz42_1, hfz42_2, hfz42_3⟩ := frz4 BK251.out
    obtain ⟨Ao43, co43, eo43⟩ := Kd.R_slice HO_256003.out
    subst eo43
    go_wp2_with (fail)
    refine (ssf_R w _ x256003_1 HLN_.out HSM_.out wr HO_256003.out HB.out).mono ?_
    rintro e w2 ⟨rfl, ho2, hb2, hs2, hk2⟩
    (try refine ⟨_, rfl, ?_⟩)
    have nHO_256002 := am (Kd.R_mono (Kd.R_step (Kd.R_apart' HO_256002.out (Kd.R_typed HO_256003.out) (by decide)) (fun k hk hl => hk2 k hk.2 hl)) (fun _ hk => hk.1))
    have nBK250 := am ((hk2 gb250 (Kd.R_away HO_256003.out (fun _ hk => hk.2.1)) (blk_lt BK250.out)).trans BK250.out)
    have nBK255 := am ((hk2 gb255 (Kd.R_away HO_256003.out (fun _ hk => hk.2.2.2)) (blk_lt BK255.out)).trans BK255.out)
    have nBK251 := am ((hk2 gb251 (Kd.R_away HO_256003.out (fun _ hk => hk.2.2.1)) (blk_lt BK251.out)).trans BK251.out)
    clear HO_256002 BK250 BK255 BK251 HO_256003 HB
    have HO_256002 := nHO_256002
    have BK250 := nBK250
    have BK255 := nBK255
    have BK251 := nBK251
    have HO_256003 := am ho2
    have HB := am hb2
    clear nHO_256002 nBK250 nBK255 nBK251 ho2 hb2 hs2 hk2
    rw [← HST_.out] at HO_256003
    clear hcz39_0 hcz39_1 hcz39_2 hcz39_3 hfz39_0 hfz39_1 hfz39_2 hfz39_3 hcz41_0 hcz41_1 hcz41_2 hcz41_3 hfz41_0 hfz41_1 hfz41_2 hfz41_3 hcz42_0 hcz42_1 hcz42_2 hcz42_3 hfz42_0 hfz42_1 hfz42_2 hfz42_3
    obtain ⟨hcz39_0, hcz39_1, hcz39_2, hcz39_3⟩ := cls4 BK250.out
    obtain ⟨hfz39_0, hfz39_1, hfz39_2, hfz39_3⟩ := frz4 BK250.out
    obtain ⟨hcz41_0, hcz41_1, hcz41_2, hcz41_3⟩ := cls4 BK255.out
    obtain ⟨hfz41_0, hfz41_1, hfz41_2, hfz41_3⟩ := frz4 BK255.out
    obtain ⟨hcz42_0, hcz42_1, hcz42_2, hcz42_3⟩ := cls4 BK251.out
    obtain ⟨hfz42_0, hfz42_1, hfz42_2, hfz42_3⟩ := frz4 BK251.out
    go_wp2
    refine bodyPost_ret (results_cell_row rfl _ _ gb251 30 #[.int .i64 a0_0, .int .i64 a0_1, .slice Ao10 t252.length co10, .slice Ao43 x256003_1.length co43] (0, 0) _ rfl (by (with_reducible repeat (first | refine blk_drewN ?_ _ | refine blk_drew ?_ | refine blk_alloc ?_ _)); refine blk_put (cs := #[.int .i64 a0_0, .int .i64 a0_1, .slice Ao10 t252.length co10, .slice none 0 0]) ?_ 3 _ rfl; (with_reducible repeat (first | refine blk_drewN ?_ _ | refine blk_drew ?_ | refine blk_alloc ?_ _)); refine blk_put (cs := #[.int .i64 a0_0, .int .i64 a0_1, .slice none 0 0, .slice none 0 0]) ?_ 2 _ rfl; (with_reducible repeat (first | refine blk_drewN ?_ _ | refine blk_drew ?_ | refine blk_alloc ?_ _)); refine blk_put (cs := #[.int .i64 a0_0, .int .i64 0, .slice none 0 0, .slice none 0 0]) ?_ 1 _ rfl; (with_reducible repeat (first | refine blk_drewN ?_ _ | refine blk_drew ?_ | refine blk_alloc ?_ _)); refine blk_put (cs := #[.int .i64 0, .int .i64 0, .slice none 0 0, .slice none 0 0]) ?_ 0 _ rfl; (with_reducible repeat (first | refine blk_drewN ?_ _ | refine blk_drew ?_ | refine blk_alloc ?_ _)); exact BK251.out) Try.underlying30 rfl kr) rfl ?_
    exact ⟨_, _, rfw, by (with_reducible repeat (first | apply Kd.R_alloc | apply Kd.R_drewN | apply Kd.R_drew)); exact Kd.R_mono (fr4 (g := gb251) (Kd.R_types HO_256002.out BK251.out (by decide)) (fun _ hk => hk.2) 0) (fun _ hk => trivial), by (with_reducible repeat (first | apply Kd.R_alloc | apply Kd.R_drewN | apply Kd.R_drew)); exact Kd.R_mono (fr4 (g := gb251) (Kd.R_mono HO_256003.out (fun k_ hk => (⟨hk, hk.2.2.1⟩ : _ ∧ k_ ≠ gb251))) (fun _ hk => hk.2) 0) (fun _ hk => hk.1.1), blw⟩
   rw [if_pos c18] at H
   have c18b0 : decide (x17_1 < (l0_3.length : Int)) = true := decide_eq_true c18
   clear c18
   by_cases c19 : 0 ≤ x17_1
   case neg =>
    rw [if_neg c19] at H
    exact absurd H (by simp)
   rw [if_pos c19] at H
   have c19b0 : decide (0 ≤ x17_1) = true := decide_eq_true c19
   clear c19
   by_cases c20 : x17_1 < (l0_3.length : Int)
   case neg =>
    rw [if_neg c20] at H
    exact absurd H (by simp)
   rw [if_pos c20] at H
   have c20b0 : decide (x17_1 < (l0_3.length : Int)) = true := decide_eq_true c20
   clear c20
   replace H := Option.bind_eq_some_iff.mp H
   obtain ⟨⟨t258, t259, t260, t263⟩, A210, H⟩ := H
   replace H : (if x256003_1.length < 2199023255552 then (impl_CanonValue.l0 k1 l0_3 (l0_3.length : Int) (wrap64 (x17_1 + 1)) a0_0 a0_1 l0_2 l0_3 a0_0 a0_1 t252 (x256003_1 ++ [(⟨t258, t259, t260, t263⟩ : S30)])) else (none)) = some (r1, r2, r3, r4) := H
   have A21 := am A210
   clear A210
   by_cases c22 : x256003_1.length < 2199023255552
   case neg =>
    rw [if_neg c22] at H
    exact absurd H (by simp)
   rw [if_pos c22] at H
   have LMc22 := am c22
   clear c22
   obtain ⟨y266, hy266⟩ : ∃ y_ : List (S30), y_ = (x256003_1 ++ [(⟨t258, t259, t260, t263⟩ : S30)]) := ⟨_, rfl⟩
   replace H : (impl_CanonValue.l0 k1 l0_3 (l0_3.length : Int) (wrap64 (x17_1 + 1)) a0_0 a0_1 l0_2 l0_3 a0_0 a0_1 t252 y266) = some (r1, r2, r3, r4) := by first | (rw [hy266]; with_reducible exact H) | (have H2_ := (Option.bind_some _ _).symm.trans H; rw [hy266]; with_reducible exact H2_) | (have H2_ := (Option.bind_some _ _).symm.trans H; with_reducible exact H2_) | with_reducible exact H | (rw [hy266]; exact H) | exact H
   have Ny266 := am hy266
   clear hy266
   have H' := am H
   clear H
   have p256 : 0 ≤ (x17_1 : Int) := of_decide_eq_true asw
   have q256 : x17_1 < (l0_3.length : Int) := of_decide_eq_true asw
   obtain ⟨ad256, A256_2, c256_2, A256_3, c256_3, e256, hx256_0, hx256_1, hx256_2, hx256_3, hl256_2, hi256_2, hl256_3, hi256_3⟩ := at_T30 HR0_3.out x17_1 p256 q256
   cases e256
   replace hx256_0 := upw HB.out hx256_0
   replace hx256_1 := upw HB.out hx256_1
   replace hx256_2 := upw HB.out hx256_2
   replace hx256_3 := upw HB.out hx256_3
   have HR256_2 := am hi256_2
   have HC256_2 := am hl256_2
   clear hi256_2 hl256_2
   have HR256_3 := am hi256_3
   have HC256_3 := am hl256_3
   clear hi256_3 hl256_3
   replace p256 := eq_true p256
   replace q256 := eq_true q256
   try go_wp2_with (first | ((with_reducible refine gate_dst (N := 5) rfl ?_); refine box_event ?hg (N := 5) ?hd (cs := #[.int .i64 0, .int .i64 0, .slice none 0 0, .slice none 0 0]) (t := 30) ?hr ?_; (case hd => rfl); (case hg => rfl); (case hr => exact hrw); intro gb257 hg w23 hbox hb; have n0_ := am (Kd.R_below (by (with_reducible repeat (first | apply Kd.R_alloc | apply Kd.R_drewN | apply Kd.R_drew)); exact HO_256002.out) hb); have n1_ := am (Kd.R_below (Kd.R_elderB (by (with_reducible repeat (first | apply Kd.R_alloc | apply Kd.R_drewN | apply Kd.R_drew)); exact HO_256003.out) gb257 (Nat.le_of_eq hg.symm)) hb); have n2_ := am (blk_below (g := gb250) bkw hb); have n3_ := am (blk_below (g := gb251) bkw hb); have n4_ := am (blk_below (g := gb255) bkw hb); have n5_ := am (below_step blw hb); have n6_ := am (hbox); have n7_ := am ((by rw [hg]; exact (below_size blw) : w.heap.size ≤ gb257)); have n8_ := n7_; have n9_ := am ((by rw [hg]; exact Nat.ne_of_lt (blk_lt (g := gb250) bkw) : gb250 ≠ gb257)); have n10_ := am ((by rw [hg]; exact Nat.ne_of_gt (blk_lt (g := gb250) bkw) : gb257 ≠ gb250)); have n11_ := am ((by rw [hg]; exact Nat.ne_of_lt (blk_lt (g := gb251) bkw) : gb251 ≠ gb257)); have n12_ := am ((by rw [hg]; exact Nat.ne_of_gt (blk_lt (g := gb251) bkw) : gb257 ≠ gb251)); have n13_ := am ((by rw [hg]; exact Nat.ne_of_lt (blk_lt (g := gb255) bkw) : gb255 ≠ gb257)); have n14_ := am ((by rw [hg]; exact Nat.ne_of_gt (blk_lt (g := gb255) bkw) : gb257 ≠ gb255)); clear HO_256002; clear HO_256003; clear BK250; clear BK251; clear BK255; clear HB; revert n0_ n1_ n2_ n3_ n4_ n5_ n6_ n7_ n8_ n9_ n10_ n11_ n12_ n13_ n14_; intro HO_256002 HO_256003 BK250 BK251 BK255 HB BK257 GW257 GE257 NB250_257 NB257_250 NB251_257 NB257_251 NB255_257 NB257_255; clear hb hbox hg; have hnb24 := NB257_250.out; have hnc24 := NB250_257.out; have hnb25 := NB257_251.out; have hnc25 := NB251_257.out; have hnb26 := NB257_255.out; have hnc26 := NB255_257.out; obtain ⟨hcz27_0, hcz27_1, hcz27_2, hcz27_3⟩ := cls4 BK257.out; obtain ⟨hfz27_0, hfz27_1, hfz27_2, hfz27_3⟩ := frz4 BK257.out))
   have n0_ : Aside0 (Kd.R Kd.string 9 ((((w23.setCell ⟨gb257, 0, none⟩ (.int .i64 ((rd_T30 l0_3 x17_1).f0))).setCell ⟨gb257, 1, none⟩ (.int .i64 ((rd_T30 l0_3 x17_1).f1))).setCell ⟨gb257, 2, none⟩ (.slice A256_2 ((rd_T30 l0_3 x17_1).f2).length c256_2)).setCell ⟨gb257, 3, none⟩ (.slice A256_3 ((rd_T30 l0_3 x17_1).f3).length c256_3)) w.heap.size (fun _ => True) (.slice Ao10 t252.length co10) t252) := ⟨by (with_reducible repeat (first | apply Kd.R_alloc | apply Kd.R_drewN | apply Kd.R_drew)); exact Kd.R_mono (fr4 (g := gb257) (Kd.R_types HO_256002.out BK257.out (by decide)) (fun _ hk => hk.2) 0) (fun _ hk => trivial)⟩
   have n1_ : Aside0 (Kd.R k30 30 ((((w23.setCell ⟨gb257, 0, none⟩ (.int .i64 ((rd_T30 l0_3 x17_1).f0))).setCell ⟨gb257, 1, none⟩ (.int .i64 ((rd_T30 l0_3 x17_1).f1))).setCell ⟨gb257, 2, none⟩ (.slice A256_2 ((rd_T30 l0_3 x17_1).f2).length c256_2)).setCell ⟨gb257, 3, none⟩ (.slice A256_3 ((rd_T30 l0_3 x17_1).f3).length c256_3)) w.heap.size (fun k_ => some k_ ≠ (.slice Ao10 t252.length co10 : Value).ownBlock ∧ k_ ≠ gb250 ∧ k_ ≠ gb251 ∧ k_ ≠ gb255 ∧ k_ ≠ gb257) u256003 x256003_1) := ⟨by (with_reducible repeat (first | apply Kd.R_alloc | apply Kd.R_drewN | apply Kd.R_drew)); exact Kd.R_mono (fr4 (g := gb257) (Kd.R_mono HO_256003.out (fun k_ hk => (⟨hk, hk.2⟩ : _ ∧ k_ ≠ gb257))) (fun _ hk => hk.2) 0) (fun _ hk => ⟨hk.1.1.1, ⟨hk.1.1.2.1, ⟨hk.1.1.2.2.1, ⟨hk.1.1.2.2.2, hk.1.2⟩⟩⟩⟩)⟩
   have n2_ : Aside0 (((((w23.setCell ⟨gb257, 0, none⟩ (.int .i64 ((rd_T30 l0_3 x17_1).f0))).setCell ⟨gb257, 1, none⟩ (.int .i64 ((rd_T30 l0_3 x17_1).f1))).setCell ⟨gb257, 2, none⟩ (.slice A256_2 ((rd_T30 l0_3 x17_1).f2).length c256_2)).setCell ⟨gb257, 3, none⟩ (.slice A256_3 ((rd_T30 l0_3 x17_1).f3).length c256_3)).heap[gb250]? = some (.cells #[.int .i64 a0_0, .int .i64 a0_1, .slice A0_2 l0_2.length c0_2, .slice (some ad256) l0_3.length c0_3] 30 (0, 0))) := ⟨by (with_reducible repeat (first | refine blk_drewN ?_ _ | refine blk_drew ?_ | refine blk_alloc ?_ _)); refine blk_far ?_ NB250_257.out _; (with_reducible repeat (first | refine blk_drewN ?_ _ | refine blk_drew ?_ | refine blk_alloc ?_ _)); refine blk_far ?_ NB250_257.out _; (with_reducible repeat (first | refine blk_drewN ?_ _ | refine blk_drew ?_ | refine blk_alloc ?_ _)); refine blk_far ?_ NB250_257.out _; (with_reducible repeat (first | refine blk_drewN ?_ _ | refine blk_drew ?_ | refine blk_alloc ?_ _)); refine blk_far ?_ NB250_257.out _; (with_reducible repeat (first | refine blk_drewN ?_ _ | refine blk_drew ?_ | refine blk_alloc ?_ _)); exact BK250.out⟩
   have n3_ : Aside0 (((((w23.setCell ⟨gb257, 0, none⟩ (.int .i64 ((rd_T30 l0_3 x17_1).f0))).setCell ⟨gb257, 1, none⟩ (.int .i64 ((rd_T30 l0_3 x17_1).f1))).setCell ⟨gb257, 2, none⟩ (.slice A256_2 ((rd_T30 l0_3 x17_1).f2).length c256_2)).setCell ⟨gb257, 3, none⟩ (.slice A256_3 ((rd_T30 l0_3 x17_1).f3).length c256_3)).heap[gb251]? = some (.cells #[.int .i64 0, .int .i64 0, .slice none 0 0, .slice none 0 0] 30 (0, 0))) := ⟨by (with_reducible repeat (first | refine blk_drewN ?_ _ | refine blk_drew ?_ | refine blk_alloc ?_ _)); refine blk_far ?_ NB251_257.out _; (with_reducible repeat (first | refine blk_drewN ?_ _ | refine blk_drew ?_ | refine blk_alloc ?_ _)); refine blk_far ?_ NB251_257.out _; (with_reducible repeat (first | refine blk_drewN ?_ _ | refine blk_drew ?_ | refine blk_alloc ?_ _)); refine blk_far ?_ NB251_257.out _; (with_reducible repeat (first | refine blk_drewN ?_ _ | refine blk_drew ?_ | refine blk_alloc ?_ _)); refine blk_far ?_ NB251_257.out _; (with_reducible repeat (first | refine blk_drewN ?_ _ | refine blk_drew ?_ | refine blk_alloc ?_ _)); exact BK251.out⟩
   have n4_ : Aside0 (((((w23.setCell ⟨gb257, 0, none⟩ (.int .i64 ((rd_T30 l0_3 x17_1).f0))).setCell ⟨gb257, 1, none⟩ (.int .i64 ((rd_T30 l0_3 x17_1).f1))).setCell ⟨gb257, 2, none⟩ (.slice A256_2 ((rd_T30 l0_3 x17_1).f2).length c256_2)).setCell ⟨gb257, 3, none⟩ (.slice A256_3 ((rd_T30 l0_3 x17_1).f3).length c256_3)).heap[gb255]? = some (.cells #[.int .i64 a0_0, .int .i64 a0_1, .slice Ao10 t252.length co10, u256003] 30 (0, 0))) := ⟨by (with_reducible repeat (first | refine blk_drewN ?_ _ | refine blk_drew ?_ | refine blk_alloc ?_ _)); refine blk_far ?_ NB255_257.out _; (with_reducible repeat (first | refine blk_drewN ?_ _ | refine blk_drew ?_ | refine blk_alloc ?_ _)); refine blk_far ?_ NB255_257.out _; (with_reducible repeat (first | refine blk_drewN ?_ _ | refine blk_drew ?_ | refine blk_alloc ?_ _)); refine blk_far ?_ NB255_257.out _; (with_reducible repeat (first | refine blk_drewN ?_ _ | refine blk_drew ?_ | refine blk_alloc ?_ _)); refine blk_far ?_ NB255_257.out _; (with_reducible repeat (first | refine blk_drewN ?_ _ | refine blk_drew ?_ | refine blk_alloc ?_ _)); exact BK255.out⟩
   have n5_ : Aside0 (((((w23.setCell ⟨gb257, 0, none⟩ (.int .i64 ((rd_T30 l0_3 x17_1).f0))).setCell ⟨gb257, 1, none⟩ (.int .i64 ((rd_T30 l0_3 x17_1).f1))).setCell ⟨gb257, 2, none⟩ (.slice A256_2 ((rd_T30 l0_3 x17_1).f2).length c256_2)).setCell ⟨gb257, 3, none⟩ (.slice A256_3 ((rd_T30 l0_3 x17_1).f3).length c256_3)).heap[gb257]? = some (.cells #[.int .i64 ((rd_T30 l0_3 x17_1).f0), .int .i64 ((rd_T30 l0_3 x17_1).f1), .slice A256_2 ((rd_T30 l0_3 x17_1).f2).length c256_2, .slice A256_3 ((rd_T30 l0_3 x17_1).f3).length c256_3] 30 (0, 0))) := ⟨by (with_reducible repeat (first | refine blk_drewN ?_ _ | refine blk_drew ?_ | refine blk_alloc ?_ _)); refine blk_put (cs := #[.int .i64 ((rd_T30 l0_3 x17_1).f0), .int .i64 ((rd_T30 l0_3 x17_1).f1), .slice A256_2 ((rd_T30 l0_3 x17_1).f2).length c256_2, .slice none 0 0]) ?_ 3 _ rfl; (with_reducible repeat (first | refine blk_drewN ?_ _ | refine blk_drew ?_ | refine blk_alloc ?_ _)); refine blk_put (cs := #[.int .i64 ((rd_T30 l0_3 x17_1).f0), .int .i64 ((rd_T30 l0_3 x17_1).f1), .slice none 0 0, .slice none 0 0]) ?_ 2 _ rfl; (with_reducible repeat (first | refine blk_drewN ?_ _ | refine blk_drew ?_ | refine blk_alloc ?_ _)); refine blk_put (cs := #[.int .i64 ((rd_T30 l0_3 x17_1).f0), .int .i64 0, .slice none 0 0, .slice none 0 0]) ?_ 1 _ rfl; (with_reducible repeat (first | refine blk_drewN ?_ _ | refine blk_drew ?_ | refine blk_alloc ?_ _)); refine blk_put (cs := #[.int .i64 0, .int .i64 0, .slice none 0 0, .slice none 0 0]) ?_ 0 _ rfl; (with_reducible repeat (first | refine blk_drewN ?_ _ | refine blk_drew ?_ | refine blk_alloc ?_ _)); exact BK257.out⟩
   have n6_ : Aside0 (Below w.heap.size w ((((w23.setCell ⟨gb257, 0, none⟩ (.int .i64 ((rd_T30 l0_3 x17_1).f0))).setCell ⟨gb257, 1, none⟩ (.int .i64 ((rd_T30 l0_3 x17_1).f1))).setCell ⟨gb257, 2, none⟩ (.slice A256_2 ((rd_T30 l0_3 x17_1).f2).length c256_2)).setCell ⟨gb257, 3, none⟩ (.slice A256_3 ((rd_T30 l0_3 x17_1).f3).length c256_3))) := ⟨blw⟩
   (try clear HO_256002 HO_256003)
   (try clear BK250)
   (try clear BK251)
   (try clear BK255)
   (try clear BK257)
   (try clear HB)
   generalize ((((w23.setCell ⟨gb257, 0, none⟩ (.int .i64 ((rd_T30 l0_3 x17_1).f0))).setCell ⟨gb257, 1, none⟩ (.int .i64 ((rd_T30 l0_3 x17_1).f1))).setCell ⟨gb257, 2, none⟩ (.slice A256_2 ((rd_T30 l0_3 x17_1).f2).length c256_2)).setCell ⟨gb257, 3, none⟩ (.slice A256_3 ((rd_T30 l0_3 x17_1).f3).length c256_3)) = w28 at n0_ n1_ n2_ n3_ n4_ n5_ n6_ ⊢
   revert n0_ n1_ n2_ n3_ n4_ n5_ n6_
   intro HO_256002 HO_256003 BK250 BK251 BK255 BK257 HB
   have n0_ := am (Kd.R_drew HO_256002.out)
   have n1_ := am (Kd.R_drew HO_256003.out)
   have n2_ := am (blk_drew BK250.out)
   have n3_ := am (blk_drew BK251.out)
   have n4_ := am (blk_drew BK255.out)
   have n5_ := am (blk_drew BK257.out)
   have n6_ := am (below_drew1 HB.out)
   clear HO_256002
   clear HO_256003
   clear BK250
   clear BK251
   clear BK255
   clear BK257
   clear HB
   revert n0_ n1_ n2_ n3_ n4_ n5_ n6_
   intro HO_256002 HO_256003 BK250 BK251 BK255 BK257 HB
   refine start_ (n := 8) (S := fun w' => w'.cell? ⟨gb255, 0, none⟩ = some (.int .i64 a0_0) ∧ w'.cell? ⟨gb255, 1, none⟩ = some (.int .i64 a0_1) ∧ w'.cell? ⟨gb255, 2, none⟩ = some (.slice Ao10 t252.length co10) ∧ w'.cell? ⟨gb255, 3, none⟩ = some (u256003) ∧ w'.cell? ⟨gb257, 0, none⟩ = some (.int .i64 ((rd_T30 l0_3 x17_1).f0)) ∧ w'.cell? ⟨gb257, 1, none⟩ = some (.int .i64 ((rd_T30 l0_3 x17_1).f1)) ∧ w'.cell? ⟨gb257, 2, none⟩ = some (.slice A256_2 ((rd_T30 l0_3 x17_1).f2).length c256_2) ∧ w'.cell? ⟨gb257, 3, none⟩ = some (.slice A256_3 ((rd_T30 l0_3 x17_1).f3).length c256_3)) (ds := [7]) #[false,false,false,false,false,false,false,false] kr rfl rfl ⟨(blk_cell BK255.out 0).trans rfl, (blk_cell BK255.out 1).trans rfl, (blk_cell BK255.out 2).trans rfl, (blk_cell BK255.out 3).trans rfl, (blk_cell BK257.out 0).trans rfl, (blk_cell BK257.out 1).trans rfl, (blk_cell BK257.out 2).trans rfl, (blk_cell BK257.out 3).trans rfl⟩ (fun hHeld => ?_); refine with_tabW impl_CanonValue.tab5 impl_CanonValue.bits5 (fun HT_ HW_ => ?_)
   generalize w28.drew = w29 at HO_256002 HO_256003 BK250 BK251 BK255 BK257 HB hHeld ⊢
   refine pure_ (i := 0) (N := some 21) (v := ?_) (a' := ?_) (bm 8 1) rfl rfl (any_of HT_.out kr) qi (Or.inl ⟨by rfl, ?_⟩) ?_ ?_
   rotate_left
   ·intro w'
    go_simp
    with_reducible rfl
   rotate_left
   ·simp only [sx]
    rfl
   refine take_ (i := 1) (N := some 22) (v := ?_) (a' := ?_) (bm 8 3) rfl rfl (take_ofW HT_.out HW_.out kr) qi (Or.inl ⟨by rfl, ?_⟩) hHeld ?_ ?_
   rotate_left
   ·rintro w' ⟨s0, s1, s2, s3, s4, s5, s6, s7⟩
    go_simp
    with_reducible rfl
   rotate_left
   ·simp only [sx]
    rfl
   refine take_ (i := 2) (N := some 23) (v := ?_) (a' := ?_) (bm 8 7) rfl rfl (take_ofW HT_.out HW_.out kr) qi (Or.inl ⟨by rfl, ?_⟩) hHeld ?_ ?_
   rotate_left
   ·rintro w' ⟨s0, s1, s2, s3, s4, s5, s6, s7⟩
    go_simp
    with_reducible rfl
   rotate_left
   ·simp only [sx]
    rfl
   refine one_ (i := 3) (N := some 24) (bm 8 15) rfl rfl (one_of HT_.out kr) (by decide) (fun K hK => ?_)
   refine goes_ Try.func14 kr rfl #[.agg #[.int .i64 ((rd_T30 l0_3 x17_1).f0), .int .i64 ((rd_T30 l0_3 x17_1).f1), .slice A256_2 ((rd_T30 l0_3 x17_1).f2).length c256_2, .slice A256_3 ((rd_T30 l0_3 x17_1).f3).length c256_3]] (by rfl) rfl rfl mpw ?_
   with_reducible refine (ih k1 (by have := HK1.out; omega) ((rd_T30 l0_3 x17_1).f0) ((rd_T30 l0_3 x17_1).f1) _ _ ((rd_T30 l0_3 x17_1).f2) _ _ ((rd_T30 l0_3 x17_1).f3) t258 t259 t260 t263 _ ?side1 ?side2 ?side3 ?side4 A21.out).mono ?_
   (case side1 => have X_ := HR256_2; exact cbl)
   (case side2 => exact HC256_2.out)
   (case side3 => have X_ := HR256_3; exact cbl)
   (case side4 => exact HC256_3.out)
   rintro e w30 ⟨v261, v264, rfl, ho0, ho1, hb⟩
   refine ⟨_, rfl, ?_⟩
   have n0_ := am (Kd.R_elder' (by (with_reducible repeat (first | apply Kd.R_alloc | apply Kd.R_drewN | apply Kd.R_drew)); exact HO_256002.out) (Kd.R_base ho0) hb)
   have n1_ := am (Kd.R_mono (Kd.R_told (Kd.R_told (Kd.R_old (by (with_reducible repeat (first | apply Kd.R_alloc | apply Kd.R_drewN | apply Kd.R_drew)); exact HO_256003.out) hb) (Kd.R_base ho0)) (Kd.R_base ho1)) (fun _ h_ => h_.1))
   have n2_ := am (Kd.R_lower (Kd.R_new' ho0 (Kd.R_lt (by (with_reducible repeat (first | apply Kd.R_alloc | apply Kd.R_drewN | apply Kd.R_drew)); exact HO_256002.out))) (below_size blw))
   have n3_ := am (Kd.R_lower (Kd.R_newB (Kd.R_newB (Kd.R_newB (Kd.R_newB (Kd.R_new' (Kd.R_new' ho1 (Kd.R_lt (by (with_reducible repeat (first | apply Kd.R_alloc | apply Kd.R_drewN | apply Kd.R_drew)); exact HO_256002.out))) (Kd.R_lt (by (with_reducible repeat (first | apply Kd.R_alloc | apply Kd.R_drewN | apply Kd.R_drew)); exact HO_256003.out))) (g := gb250) (o := .cells #[.int .i64 a0_0, .int .i64 a0_1, .slice A0_2 l0_2.length c0_2, .slice (some ad256) l0_3.length c0_3] 30 (0, 0)) bkw) (g := gb251) (o := .cells #[.int .i64 0, .int .i64 0, .slice none 0 0, .slice none 0 0] 30 (0, 0)) bkw) (g := gb255) (o := .cells #[.int .i64 a0_0, .int .i64 a0_1, .slice Ao10 t252.length co10, u256003] 30 (0, 0)) bkw) (g := gb257) (o := .cells #[.int .i64 ((rd_T30 l0_3 x17_1).f0), .int .i64 ((rd_T30 l0_3 x17_1).f1), .slice A256_2 ((rd_T30 l0_3 x17_1).f2).length c256_2, .slice A256_3 ((rd_T30 l0_3 x17_1).f3).length c256_3] 30 (0, 0)) bkw) (below_size blw))
   have n4_ := am (blk_below (g := gb250) bkw hb)
   have n5_ := am (blk_below (g := gb251) bkw hb)
   have n6_ := am (blk_below (g := gb255) bkw hb)
   have n7_ := am (blk_below (g := gb257) bkw hb)
   have n8_ := am (below_step blw hb)
   clear HO_256002
   clear HO_256003
   clear BK250
   clear BK251
   clear BK255
   clear BK257
   clear HB
   revert n0_ n1_ n2_ n3_ n4_ n5_ n6_ n7_ n8_
   intro HO_256002 HO_256003 HO262 HO265 BK250 BK251 BK255 BK257 HB
   (try clear hb)
   (try clear hb2)
   (try clear hk)
   (try clear hi)
   (try clear ho0)
   (try clear ho1)
   obtain ⟨Ao32, co32, eo32⟩ := Kd.R_slice HO262.out
   (first | subst eo32 | (injection eo32 with f1_ f2_ f3_; have f4_ := f1_.symm; have f5_ := f3_.symm; clear f1_ f2_ f3_; subst f4_; subst f5_))
   obtain ⟨Ao33, co33, eo33⟩ := Kd.R_slice HO265.out
   (first | subst eo33 | (injection eo33 with f1_ f2_ f3_; have f4_ := f1_.symm; have f5_ := f3_.symm; clear f1_ f2_ f3_; subst f4_; subst f5_))
   refine hK.out _ _ ⟨(blk_cell BK255.out 0).trans rfl, (blk_cell BK255.out 1).trans rfl, (blk_cell BK255.out 2).trans rfl, (blk_cell BK255.out 3).trans rfl, (blk_cell BK257.out 0).trans rfl, (blk_cell BK257.out 1).trans rfl, (blk_cell BK257.out 2).trans rfl, (blk_cell BK257.out 3).trans rfl⟩ (fun hHeld => ?_)
   clear hK K
   refine norm_ (a' := ?_) ?_ ?_
   rotate_left
   ·show Act.put _ (some 24) _ = _
    simp only [sx]
    rfl
   refine one_ (i := 4) (N := some 25) (bm 8 31) rfl rfl (one_of HT_.out kr) (by decide) (fun K hK => ?_)
   refine value_ (w1 := ?_) (v := ?_) (by rfl) rfl ?_ ?_
   rotate_left 2
   ·go_simp
    constructor
    ·rfl
    ·rfl
   refine hK.out _ _ ⟨(blk_cell (blk_alloc BK255.out _) 0).trans rfl, (blk_cell (blk_alloc BK255.out _) 1).trans rfl, (blk_cell (blk_alloc BK255.out _) 2).trans rfl, (blk_cell (blk_alloc BK255.out _) 3).trans rfl, (blk_cell (blk_alloc BK257.out _) 0).trans rfl, (blk_cell (blk_alloc BK257.out _) 1).trans rfl, (blk_cell (blk_alloc BK257.out _) 2).trans rfl, (blk_cell (blk_alloc BK257.out _) 3).trans rfl⟩ (fun hHeld => ?_)
   clear hK K
   refine norm_ (a' := ?_) ?_ ?_
   rotate_left
   ·show Act.put _ (some 25) _ = _
    simp only [sx]
    rfl
   refine one_ (i := 5) (N := some 26) (bm 8 63) rfl rfl (one_of HT_.out kr) (by decide) (fun K hK => ?_)
   refine Kd.R_append_step k30 (w0 := w) w.heap.size (by rfl) (.tmp 22) (.tmp 25) 28 30 (.agg #[(.int .i64 0), (.int .i64 0), (.slice none 0 0), (.slice none 0 0)]) 64 rfl Try.underlying28 info30 rfl (by decide) (by omega) u256003 x256003_1 (⟨t258, t259, t260, t263⟩ : S30) [.int .i64 t258, .int .i64 t259, .slice Ao32 t260.length co32, .slice Ao33 t263.length co33] (fun k_ => some k_ ≠ (.slice Ao10 t252.length co10 : Value).ownBlock ∧ k_ ≠ gb250 ∧ k_ ≠ gb251 ∧ k_ ≠ gb255 ∧ k_ ≠ gb257) (fun k_ => ((fun k_ => some k_ ≠ (.slice Ao10 t252.length co10 : Value).ownBlock ∧ k_ ≠ gb250 ∧ k_ ≠ gb251 ∧ k_ ≠ gb255 ∧ k_ ≠ gb257)) k_ ∧ some k_ ≠ (u256003 : Value).ownBlock) rfl rfl ?aP (fun _ hk => hk) ?aF ?aO ?aB ?aS ?aL ?_
   (case aP => exact k30_mkM _ _ _ (⟨t258, t259, t260, t263⟩ : S30) (Kd.R_mono (Kd.R_types (Kd.R_types (Kd.R_types (Kd.R_types (Kd.R_apart' (HO262.out) (Kd.R_typed HO_256003.out) (by decide)) BK250.out (by decide)) BK251.out (by decide)) BK255.out (by decide)) BK257.out (by decide)) (fun k_ hk => ⟨⟨hk.1.1.1.1.1.2, ⟨hk.1.1.1.2, ⟨hk.1.1.2, ⟨hk.1.2, hk.2⟩⟩⟩⟩, hk.1.1.1.1.2⟩)) (Kd.R_mono (HO265.out) (fun k_ hk => ⟨⟨hk.1.1.1.1.1.2, ⟨hk.1.1.1.2, ⟨hk.1.1.2, ⟨hk.1.2, hk.2⟩⟩⟩⟩, hk.1.1.1.1.2⟩)))
   (case aB => exact blw)
   (case aF => exact (fun k_ hk => ⟨Kd.fresh' (Kd.R_lt (by (with_reducible repeat (first | apply Kd.R_alloc | apply Kd.R_drewN | apply Kd.R_drew)); exact HO_256002.out)) k_ hk, Kd.freshB (g := gb250) (o := .cells #[.int .i64 a0_0, .int .i64 a0_1, .slice A0_2 l0_2.length c0_2, .slice (some ad256) l0_3.length c0_3] 30 (0, 0)) bkw k_ hk, Kd.freshB (g := gb251) (o := .cells #[.int .i64 0, .int .i64 0, .slice none 0 0, .slice none 0 0] 30 (0, 0)) bkw k_ hk, Kd.freshB (g := gb255) (o := .cells #[.int .i64 a0_0, .int .i64 a0_1, .slice Ao10 t252.length co10, u256003] 30 (0, 0)) bkw k_ hk, Kd.freshB (g := gb257) (o := .cells #[.int .i64 ((rd_T30 l0_3 x17_1).f0), .int .i64 ((rd_T30 l0_3 x17_1).f1), .slice A256_2 ((rd_T30 l0_3 x17_1).f2).length c256_2, .slice A256_3 ((rd_T30 l0_3 x17_1).f3).length c256_3] 30 (0, 0)) bkw k_ hk⟩))
   (case aO => exact (by (with_reducible repeat (first | apply Kd.R_alloc | apply Kd.R_drewN | apply Kd.R_drew)); exact Kd.R_mono HO_256003.out (fun _ hk => ⟨hk.1.1.1, ⟨hk.1.1.2.1, ⟨hk.1.1.2.2.1, ⟨hk.1.1.2.2.2.1, hk.1.1.2.2.2.2⟩⟩⟩⟩)))
   (case aS => exact (below_size blw))
   (case aL => have := LMc22.out; omega)
   intro v267 w31 ho hb hg hat
   rw [← Ny266.out] at ho
   have n0_ := am (Kd.R_over' (by (with_reducible repeat (first | apply Kd.R_alloc | apply Kd.R_drewN | apply Kd.R_drew)); exact HO_256002.out) (Kd.R_typed (by (with_reducible repeat (first | apply Kd.R_alloc | apply Kd.R_drewN | apply Kd.R_drew)); exact HO_256003.out)) (by decide) hg)
   have n1_ := am (blk_grown (g := gb250) (o := .cells #[.int .i64 a0_0, .int .i64 a0_1, .slice A0_2 l0_2.length c0_2, .slice (some ad256) l0_3.length c0_3] 30 (0, 0)) bkw hg (Kd.R_away HO_256003.out (fun _ hk => hk.1.1.2.1)))
   have n2_ := am (blk_grown (g := gb251) (o := .cells #[.int .i64 0, .int .i64 0, .slice none 0 0, .slice none 0 0] 30 (0, 0)) bkw hg (Kd.R_away HO_256003.out (fun _ hk => hk.1.1.2.2.1)))
   have n3_ := am (blk_grown (g := gb255) (o := .cells #[.int .i64 a0_0, .int .i64 a0_1, .slice Ao10 t252.length co10, u256003] 30 (0, 0)) bkw hg (Kd.R_away HO_256003.out (fun _ hk => hk.1.1.2.2.2.1)))
   have n4_ := am (blk_grown (g := gb257) (o := .cells #[.int .i64 ((rd_T30 l0_3 x17_1).f0), .int .i64 ((rd_T30 l0_3 x17_1).f1), .slice A256_2 ((rd_T30 l0_3 x17_1).f2).length c256_2, .slice A256_3 ((rd_T30 l0_3 x17_1).f3).length c256_3] 30 (0, 0)) bkw hg (Kd.R_away HO_256003.out (fun _ hk => hk.1.1.2.2.2.2)))
   have n5_ := am (hb)
   have n6_ := am (ho)
   clear HO_256002
   clear BK250
   clear BK251
   clear BK255
   clear BK257
   clear HB
   clear HO_256003
   clear HO262
   clear HO265
   revert n0_ n1_ n2_ n3_ n4_ n5_ n6_
   intro HO_256002 BK250 BK251 BK255 BK257 HB HO268
   clear ho hb hg hat
   obtain ⟨Ao34, co34, eo34⟩ := Kd.R_slice HO268.out
   (first | subst eo34 | (injection eo34 with f1_ f2_ f3_; have f4_ := f1_.symm; have f5_ := f3_.symm; clear f1_ f2_ f3_; subst f4_; subst f5_))
   refine hK.out _ _ ⟨(blk_cell BK255.out 0).trans rfl, (blk_cell BK255.out 1).trans rfl, (blk_cell BK255.out 2).trans rfl, (blk_cell BK255.out 3).trans rfl, (blk_cell BK257.out 0).trans rfl, (blk_cell BK257.out 1).trans rfl, (blk_cell BK257.out 2).trans rfl, (blk_cell BK257.out 3).trans rfl⟩ (fun hHeld => ?_)
   clear hK K
   refine norm_ (a' := ?_) ?_ ?_
   rotate_left
   ·show Act.put _ (some 26) _ = _
    simp only [sx]
    rfl
   refine pure_ (i := 6) (N := some 27) (v := ?_) (a' := ?_) (bm 8 127) rfl rfl (any_of HT_.out kr) qi (Or.inl ⟨by rfl, ?_⟩) ?_ ?_
   rotate_left
   ·intro w'
    go_simp
    with_reducible rfl
   rotate_left
   ·simp only [sx]
    rfl
   refine last_ (i := 7) (N := none) (bm 8 255) rfl rfl (one_of HT_.out kr) (by decide) (fun K hK => ?_)
   have hs35 : w31.cell? ⟨gb255, 3, none⟩ = some (u256003) := (blk_cell BK255.out 3).trans rfl
   have hfs35 := blk_frozen BK255.out 3
   have hns35_0 := NB250_255.out
   have hns35_1 := NB251_255.out
   have hns35_3 := NB257_255.out
   have hms35_0 := NB255_250.out
   have hms35_1 := NB255_251.out
   have hms35_3 := NB255_257.out
   refine skip_ (w1 := ?_) (by rfl) rfl ?_ ?_
   rotate_left
   ·go_simp
    rfl
   refine hK.out _ _ ?_
   clear hK K
   refine done_ (done_of HT_.out kr) ?_
   try go_wp2
   go_roundg k1
   case measure => have := HK1.out; omega
   case rel => exact ⟨(wrap64 (x17_1 + 1)), (y266), (.slice Ao34 y266.length co34), rfs, H', ⟨by have := HK1.out; omega⟩, ⟨by (with_reducible repeat (first | apply Kd.R_alloc | apply Kd.R_drewN | apply Kd.R_drew)); exact Kd.R_mono (Kd.R_far (p := ⟨gb255, 3, none⟩) (Kd.R_types HO_256002.out BK255.out (by decide)) (fun _ hk => hk.2) (.slice Ao34 y266.length co34)) (fun _ hk => trivial)⟩, ⟨by (with_reducible repeat (first | apply Kd.R_alloc | apply Kd.R_drewN | apply Kd.R_drew)); exact Kd.R_mono (Kd.R_far (p := ⟨gb255, 3, none⟩) (Kd.R_mono HO268.out (fun k_ hk => (⟨hk, hk.2.2.2.1⟩ : _ ∧ k_ ≠ gb255))) (fun _ hk => hk.2) (.slice Ao34 y266.length co34)) (fun _ hk => ⟨hk.1.1, ⟨hk.1.2.1, ⟨hk.1.2.2.1, hk.1.2.2.2.1⟩⟩⟩)⟩, ⟨by (with_reducible repeat (first | refine blk_drewN ?_ _ | refine blk_drew ?_ | refine blk_alloc ?_ _)); refine blk_far ?_ NB250_255.out _; (with_reducible repeat (first | refine blk_drewN ?_ _ | refine blk_drew ?_ | refine blk_alloc ?_ _)); exact BK250.out⟩, ⟨by (with_reducible repeat (first | refine blk_drewN ?_ _ | refine blk_drew ?_ | refine blk_alloc ?_ _)); refine blk_far ?_ NB251_255.out _; (with_reducible repeat (first | refine blk_drewN ?_ _ | refine blk_drew ?_ | refine blk_alloc ?_ _)); exact BK251.out⟩, ⟨by (with_reducible repeat (first | refine blk_drewN ?_ _ | refine blk_drew ?_ | refine blk_alloc ?_ _)); refine blk_put (cs := #[.int .i64 a0_0, .int .i64 a0_1, .slice Ao10 t252.length co10, u256003]) ?_ 3 _ rfl; (with_reducible repeat (first | refine blk_drewN ?_ _ | refine blk_drew ?_ | refine blk_alloc ?_ _)); exact BK255.out⟩, ⟨blw⟩⟩

end Go.Proofs.Ytonimhfahjediaa.Pc
end
section
namespace Go.Proofs.Ytonimhfahjediaa.Pc
open Go.RowKit Go.Proofs.Ytonimhfahjediaa.Ext Go.Proofs.YtonimhfahjediaaW.PrintWords Go.Proofs.YtonimhfahjediaaW.PrintLast Go.Proofs.YtonimhfahjediaaW.PrintMore
attribute [local go_sem] max2_int min2_int max_two min_two max_three min_three max_four min_four   -- for this text's walks alone
set_option linter.unusedVariables false
set_option linter.unusedSimpArgs false

/-! ### impl_SameBag: function 9 -/
noncomputable def impl_SameBag.f (k : Nat) (a0_0 : Int) (a0_1 : Int) (l0_2 : List ByteArray) (l0_3 : List (S30)) (a1_0 : Int) (a1_1 : Int) (l1_2 : List ByteArray) (l1_3 : List (S30)) : Option (Bool) := (impl_CanonValue.f k a0_0 a0_1 l0_2 l0_3).bind fun bt271 => ((impl_CanonValue.f k a1_0 a1_1 l1_2 l1_3).bind fun bt279 => ((impl_CompareValues.f k bt271.1 bt271.2.1 bt271.2.2.1 bt271.2.2.2 bt279.1 bt279.2.1 bt279.2.2.1 bt279.2.2.2).bind fun t287 => (some (t287 == 0))))
set_option maxHeartbeats 8000000 in
set_option maxRecDepth 100000 in
theorem impl_SameBag.calls (k : Nat) (a0_0 : Int) (a0_1 : Int) (A0_2 : Option Addr) (c0_2 : Nat) (l0_2 : List ByteArray) (A0_3 : Option Addr) (c0_3 : Nat) (l0_3 : List (S30)) (a1_0 : Int) (a1_1 : Int) (A1_2 : Option Addr) (c1_2 : Nat) (l1_2 : List ByteArray) (A1_3 : Option Addr) (c1_3 : Nat) (l1_3 : List (S30)) (r : Bool) (w : World) (hr0_2 : Kd.C Kd.string w A0_2 l0_2.length l0_2) (hc0_2 : l0_2.length ≤ c0_2) (hr0_3 : Kd.C k30 w A0_3 l0_3.length l0_3) (hc0_3 : l0_3.length ≤ c0_3) (hr1_2 : Kd.C Kd.string w A1_2 l1_2.length l1_2) (hc1_2 : l1_2.length ≤ c1_2) (hr1_3 : Kd.C k30 w A1_3 l1_3.length l1_3) (hc1_3 : l1_3.length ≤ c1_3) (h : impl_SameBag.f k a0_0 a0_1 l0_2 l0_3 a1_0 a1_1 l1_2 l1_3 = some r) :
  Calls Try.prog 9 #[.agg #[.int .i64 a0_0, .int .i64 a0_1, .slice A0_2 l0_2.length c0_2, .slice A0_3 l0_3.length c0_3], .agg #[.int .i64 a1_0, .int .i64 a1_1, .slice A1_2 l1_2.length c1_2, .slice A1_3 l1_3.length c1_3]] w fun e w' => e = .returned (.bool r) ∧ Below w.heap.size w w' := by
 have hu30 := Try.underlying30
 have HR0_2 := am hr0_2
 have HC0_2 := am hc0_2
 clear hr0_2 hc0_2
 have HR0_3 := am hr0_3
 have HC0_3 := am hc0_3
 clear hr0_3 hc0_3
 have HR1_2 := am hr1_2
 have HC1_2 := am hc1_2
 clear hr1_2 hc1_2
 have HR1_3 := am hr1_3
 have HC1_3 := am hc1_3
 clear hr1_3 hc1_3
 have HB := am (Below.refl w.heap.size w)
 have H : ((impl_CanonValue.f k a0_0 a0_1 l0_2 l0_3).bind fun bt271 => ((impl_CanonValue.f k a1_0 a1_1 l1_2 l1_3).bind fun bt279 => ((impl_CompareValues.f k bt271.1 bt271.2.1 bt271.2.2.1 bt271.2.2.2 bt279.1 bt279.2.1 bt279.2.2.1 bt279.2.2.2).bind fun t287 => (some (t287 == 0))))) = some r := h
 clear h
 replace H := Option.bind_eq_some_iff.mp H
 obtain ⟨⟨t271, t272, t273, t276⟩, A30, H⟩ := H
 replace H : ((impl_CanonValue.f k a1_0 a1_1 l1_2 l1_3).bind fun bt279 => ((impl_CompareValues.f k t271 t272 t273 t276 bt279.1 bt279.2.1 bt279.2.2.1 bt279.2.2.2).bind fun t287 => (some (t287 == 0)))) = some r := H
 have A3 := am A30
 clear A30
 replace H := Option.bind_eq_some_iff.mp H
 obtain ⟨⟨t279, t280, t281, t284⟩, A40, H⟩ := H
 replace H : ((impl_CompareValues.f k t271 t272 t273 t276 t279 t280 t281 t284).bind fun t287 => (some (t287 == 0))) = some r := H
 have A4 := am A40
 clear A40
 replace H := Option.bind_eq_some_iff.mp H
 obtain ⟨t287, A50, H⟩ := H
 replace H : (some (t287 == 0)) = some r := H
 have A5 := am A50
 clear A50
 obtain rfl := Option.some.inj H
 go_enter Try.func9, Try.ntmps9
 try go_wp2_with (first | ((with_reducible refine gate_dst (N := 2) rfl ?_); refine box_event ?hg (N := 2) ?hd (cs := #[.int .i64 a0_0, .int .i64 a0_1, .slice A0_2 l0_2.length c0_2, .slice A0_3 l0_3.length c0_3]) (t := 30) ?hr ?_; (case hd => rfl); (case hg => rfl); (case hr => exact hrw); intro gb269 hg w6 hbox hb; have n0_ := am (below_step blw hb); have n1_ := am (hbox); have n2_ := am ((by rw [hg]; exact (below_size blw) : w.heap.size ≤ gb269)); have n3_ := n2_; clear HB; revert n0_ n1_ n2_ n3_; intro HB BK269 GW269 GE269; clear hb hbox hg) | ((with_reducible refine gate_dst (N := 3) rfl ?_); refine box_event ?hg (N := 3) ?hd (cs := #[.int .i64 a1_0, .int .i64 a1_1, .slice A1_2 l1_2.length c1_2, .slice A1_3 l1_3.length c1_3]) (t := 30) ?hr ?_; (case hd => rfl); (case hg => rfl); (case hr => exact hrw); intro gb270 hg w7 hbox hb; have n0_ := am (blk_below (g := gb269) bkw hb); have n1_ := am (below_step blw hb); have n2_ := am (hbox); have n3_ := am ((by rw [hg]; exact (below_size blw) : w.heap.size ≤ gb270)); have n4_ := n3_; have n5_ := am ((by rw [hg]; exact Nat.ne_of_lt (blk_lt (g := gb269) bkw) : gb269 ≠ gb270)); have n6_ := am ((by rw [hg]; exact Nat.ne_of_gt (blk_lt (g := gb269) bkw) : gb270 ≠ gb269)); clear BK269; clear HB; revert n0_ n1_ n2_ n3_ n4_ n5_ n6_; intro BK269 HB BK270 GW270 GE270 NB269_270 NB270_269; clear hb hbox hg))
 have n0_ := am (blk_drew BK269.out)
 have n1_ := am (blk_drew BK270.out)
 have n2_ := am (below_drew1 HB.out)
 clear BK269
 clear BK270
 clear HB
 revert n0_ n1_ n2_
 intro BK269 BK270 HB
 refine start_ (n := 7) (S := fun w' => w'.cell? ⟨gb269, 0, none⟩ = some (.int .i64 a0_0) ∧ w'.cell? ⟨gb269, 1, none⟩ = some (.int .i64 a0_1) ∧ w'.cell? ⟨gb269, 2, none⟩ = some (.slice A0_2 l0_2.length c0_2) ∧ w'.cell? ⟨gb269, 3, none⟩ = some (.slice A0_3 l0_3.length c0_3) ∧ w'.cell? ⟨gb270, 0, none⟩ = some (.int .i64 a1_0) ∧ w'.cell? ⟨gb270, 1, none⟩ = some (.int .i64 a1_1) ∧ w'.cell? ⟨gb270, 2, none⟩ = some (.slice A1_2 l1_2.length c1_2) ∧ w'.cell? ⟨gb270, 3, none⟩ = some (.slice A1_3 l1_3.length c1_3)) (ds := []) #[false,false,false,false,false,false,false] kr rfl rfl ⟨(blk_cell BK269.out 0).trans rfl, (blk_cell BK269.out 1).trans rfl, (blk_cell BK269.out 2).trans rfl, (blk_cell BK269.out 3).trans rfl, (blk_cell BK270.out 0).trans rfl, (blk_cell BK270.out 1).trans rfl, (blk_cell BK270.out 2).trans rfl, (blk_cell BK270.out 3).trans rfl⟩ (fun hHeld => ?_)
 generalize w7.drew = w8 at BK269 BK270 HB hHeld ⊢
 refine take_ (i := 0) (N := some 5) (v := ?_) (a' := ?_) (bm 7 1) rfl rfl kr qi (Or.inl ⟨by rfl, ?_⟩) hHeld ?_ ?_
 rotate_left
 ·rintro w' ⟨s0, s1, s2, s3, s4, s5, s6, s7⟩
  go_simp
  with_reducible rfl
 rotate_left
 ·simp only [sx]
  rfl
 refine take_ (i := 2) (N := some 7) (v := ?_) (a' := ?_) (bm 7 5) rfl rfl kr qi (Or.inl ⟨by rfl, ?_⟩) hHeld ?_ ?_
 rotate_left
 ·rintro w' ⟨s0, s1, s2, s3, s4, s5, s6, s7⟩
  go_simp
  with_reducible rfl
 rotate_left
 ·simp only [sx]
  rfl
 refine one_ (i := 1) (N := some 6) (bm 7 7) rfl rfl kr (by decide) (fun K hK => ?_)
 refine goes_ Try.func14 kr rfl #[.agg #[.int .i64 a0_0, .int .i64 a0_1, .slice A0_2 l0_2.length c0_2, .slice A0_3 l0_3.length c0_3]] (by rfl) rfl rfl mpw ?_
 with_reducible refine (impl_CanonValue.calls k a0_0 a0_1 _ _ l0_2 _ _ l0_3 t271 t272 t273 t276 _ ?side1 ?side2 ?side3 ?side4 A3.out).mono ?_
 (case side1 => have X_ := HR0_2; exact cbl)
 (case side2 => exact HC0_2.out)
 (case side3 => have X_ := HR0_3; exact cbl)
 (case side4 => exact HC0_3.out)
 rintro e w9 ⟨v274, v277, rfl, ho0, ho1, hb⟩
 refine ⟨_, rfl, ?_⟩
 have n0_ := am (Kd.R_lower ho0 (below_size blw))
 have n1_ := am (Kd.R_lower (Kd.R_newB (Kd.R_newB ho1 (g := gb269) (o := .cells #[.int .i64 a0_0, .int .i64 a0_1, .slice A0_2 l0_2.length c0_2, .slice A0_3 l0_3.length c0_3] 30 (0, 0)) bkw) (g := gb270) (o := .cells #[.int .i64 a1_0, .int .i64 a1_1, .slice A1_2 l1_2.length c1_2, .slice A1_3 l1_3.length c1_3] 30 (0, 0)) bkw) (below_size blw))
 have n2_ := am (blk_below (g := gb269) bkw hb)
 have n3_ := am (blk_below (g := gb270) bkw hb)
 have n4_ := am (below_step blw hb)
 clear BK269
 clear BK270
 clear HB
 revert n0_ n1_ n2_ n3_ n4_
 intro HO275 HO278 BK269 BK270 HB
 (try clear hb)
 (try clear hb2)
 (try clear hk)
 (try clear hi)
 (try clear ho0)
 (try clear ho1)
 refine hK.out _ _ ⟨(blk_cell BK269.out 0).trans rfl, (blk_cell BK269.out 1).trans rfl, (blk_cell BK269.out 2).trans rfl, (blk_cell BK269.out 3).trans rfl, (blk_cell BK270.out 0).trans rfl, (blk_cell BK270.out 1).trans rfl, (blk_cell BK270.out 2).trans rfl, (blk_cell BK270.out 3).trans rfl⟩ (fun hHeld => ?_)
 clear hK K
 refine norm_ (a' := ?_) ?_ ?_
 rotate_left
 ·show Act.put _ (some 6) _ = _
  simp only [sx]
  rfl
 refine one_ (i := 3) (N := some 8) (bm 7 15) rfl rfl kr (by decide) (fun K hK => ?_)
 refine goes_ Try.func14 kr rfl #[.agg #[.int .i64 a1_0, .int .i64 a1_1, .slice A1_2 l1_2.length c1_2, .slice A1_3 l1_3.length c1_3]] (by rfl) rfl rfl mpw ?_
 with_reducible refine (impl_CanonValue.calls k a1_0 a1_1 _ _ l1_2 _ _ l1_3 t279 t280 t281 t284 _ ?side1 ?side2 ?side3 ?side4 A4.out).mono ?_
 (case side1 => have X_ := HR1_2; exact cbl)
 (case side2 => exact HC1_2.out)
 (case side3 => have X_ := HR1_3; exact cbl)
 (case side4 => exact HC1_3.out)
 rintro e w10 ⟨v282, v285, rfl, ho0, ho1, hb⟩
 refine ⟨_, rfl, ?_⟩
 have n0_ := am (Kd.R_elder' (by (with_reducible repeat (first | apply Kd.R_alloc | apply Kd.R_drewN | apply Kd.R_drew)); exact HO275.out) (Kd.R_base ho0) hb)
 have n1_ := am (Kd.R_mono (Kd.R_told (Kd.R_told (Kd.R_old (by (with_reducible repeat (first | apply Kd.R_alloc | apply Kd.R_drewN | apply Kd.R_drew)); exact HO278.out) hb) (Kd.R_base ho0)) (Kd.R_base ho1)) (fun _ h_ => h_.1))
 have n2_ := am (Kd.R_lower (Kd.R_new' ho0 (Kd.R_lt (by (with_reducible repeat (first | apply Kd.R_alloc | apply Kd.R_drewN | apply Kd.R_drew)); exact HO275.out))) (below_size blw))
 have n3_ := am (Kd.R_lower (Kd.R_newB (Kd.R_newB (Kd.R_new' (Kd.R_new' ho1 (Kd.R_lt (by (with_reducible repeat (first | apply Kd.R_alloc | apply Kd.R_drewN | apply Kd.R_drew)); exact HO275.out))) (Kd.R_lt (by (with_reducible repeat (first | apply Kd.R_alloc | apply Kd.R_drewN | apply Kd.R_drew)); exact HO278.out))) (g := gb269) (o := .cells #[.int .i64 a0_0, .int .i64 a0_1, .slice A0_2 l0_2.length c0_2, .slice A0_3 l0_3.length c0_3] 30 (0, 0)) bkw) (g := gb270) (o := .cells #[.int .i64 a1_0, .int .i64 a1_1, .slice A1_2 l1_2.length c1_2, .slice A1_3 l1_3.length c1_3] 30 (0, 0)) bkw) (below_size blw))
 have n4_ := am (blk_below (g := gb269) bkw hb)
 have n5_ := am (blk_below (g := gb270) bkw hb)
 have n6_ := am (below_step blw hb)
 clear HO275
 clear HO278
 clear BK269
 clear BK270
 clear HB
 revert n0_ n1_ n2_ n3_ n4_ n5_ n6_
 intro HO275 HO278 HO283 HO286 BK269 BK270 HB
 (try clear hb)
 (try clear hb2)
 (try clear hk)
 (try clear hi)
 (try clear ho0)
 (try clear ho1)
 obtain ⟨Ao11, co11, eo11⟩ := Kd.R_slice HO275.out
 (first | subst eo11 | (injection eo11 with f1_ f2_ f3_; have f4_ := f1_.symm; have f5_ := f3_.symm; clear f1_ f2_ f3_; subst f4_; subst f5_))
 obtain ⟨Ao12, co12, eo12⟩ := Kd.R_slice HO278.out
 (first | subst eo12 | (injection eo12 with f1_ f2_ f3_; have f4_ := f1_.symm; have f5_ := f3_.symm; clear f1_ f2_ f3_; subst f4_; subst f5_))
 obtain ⟨Ao13, co13, eo13⟩ := Kd.R_slice HO283.out
 (first | subst eo13 | (injection eo13 with f1_ f2_ f3_; have f4_ := f1_.symm; have f5_ := f3_.symm; clear f1_ f2_ f3_; subst f4_; subst f5_))
 obtain ⟨Ao14, co14, eo14⟩ := Kd.R_slice HO286.out
 (first | subst eo14 | (injection eo14 with f1_ f2_ f3_; have f4_ := f1_.symm; have f5_ := f3_.symm; clear f1_ f2_ f3_; subst f4_; subst f5_))
 refine hK.out _ _ ⟨(blk_cell BK269.out 0).trans rfl, (blk_cell BK269.out 1).trans rfl, (blk_cell BK269.out 2).trans rfl, (blk_cell BK269.out 3).trans rfl, (blk_cell BK270.out 0).trans rfl, (blk_cell BK270.out 1).trans rfl, (blk_cell BK270.out 2).trans rfl, (blk_cell BK270.out 3).trans rfl⟩ (fun hHeld => ?_)
 clear hK K
 refine norm_ (a' := ?_) ?_ ?_
 rotate_left
 ·show Act.put _ (some 8) _ = _
  simp only [sx]
  rfl
 refine one_ (i := 4) (N := some 9) (bm 7 31) rfl rfl kr (by decide) (fun K hK => ?_)
 refine goes_ Try.func22 kr rfl #[.agg #[.int .i64 t271, .int .i64 t272, .slice Ao11 t273.length co11, .slice Ao12 t276.length co12], .agg #[.int .i64 t279, .int .i64 t280, .slice Ao13 t281.length co13, .slice Ao14 t284.length co14]] (by rfl) rfl rfl mpw ?_
 with_reducible refine (impl_CompareValues.calls k t271 t272 _ _ t273 _ _ t276 t279 t280 _ _ t281 _ _ t284 t287 _ ?side1 ?side2 ?side3 ?side4 ?side5 ?side6 ?side7 ?side8 A5.out).mono ?_
 (case side1 => repeat (first | exact (Kd.R_reads' HO275.out).2.2 | (with_reducible refine Kd.C_alloc ?_ _) | (with_reducible refine Kd.C_drewN ?_ _) | (with_reducible refine Kd.C_drew ?_)))
 (case side2 => exact (Kd.R_reads' HO275.out).2.1)
 (case side3 => repeat (first | exact (Kd.R_reads' HO278.out).2.2 | (with_reducible refine Kd.C_alloc ?_ _) | (with_reducible refine Kd.C_drewN ?_ _) | (with_reducible refine Kd.C_drew ?_)))
 (case side4 => exact (Kd.R_reads' HO278.out).2.1)
 (case side5 => repeat (first | exact (Kd.R_reads' HO283.out).2.2 | (with_reducible refine Kd.C_alloc ?_ _) | (with_reducible refine Kd.C_drewN ?_ _) | (with_reducible refine Kd.C_drew ?_)))
 (case side6 => exact (Kd.R_reads' HO283.out).2.1)
 (case side7 => repeat (first | exact (Kd.R_reads' HO286.out).2.2 | (with_reducible refine Kd.C_alloc ?_ _) | (with_reducible refine Kd.C_drewN ?_ _) | (with_reducible refine Kd.C_drew ?_)))
 (case side8 => exact (Kd.R_reads' HO286.out).2.1)
 rintro e w15 ⟨rfl, hb⟩
 refine ⟨_, rfl, ?_⟩
 have n0_ := am (Kd.R_below (by (with_reducible repeat (first | apply Kd.R_alloc | apply Kd.R_drewN | apply Kd.R_drew)); exact HO275.out) hb)
 have n1_ := am (Kd.R_below (by (with_reducible repeat (first | apply Kd.R_alloc | apply Kd.R_drewN | apply Kd.R_drew)); exact HO278.out) hb)
 have n2_ := am (Kd.R_below (by (with_reducible repeat (first | apply Kd.R_alloc | apply Kd.R_drewN | apply Kd.R_drew)); exact HO283.out) hb)
 have n3_ := am (Kd.R_below (by (with_reducible repeat (first | apply Kd.R_alloc | apply Kd.R_drewN | apply Kd.R_drew)); exact HO286.out) hb)
 have n4_ := am (blk_below (g := gb269) bkw hb)
 have n5_ := am (blk_below (g := gb270) bkw hb)
 have n6_ := am (below_step blw hb)
 clear HO275
 clear HO278
 clear HO283
 clear HO286
 clear BK269
 clear BK270
 clear HB
 revert n0_ n1_ n2_ n3_ n4_ n5_ n6_
 intro HO275 HO278 HO283 HO286 BK269 BK270 HB
 (try clear hb)
 (try clear hb2)
 (try clear hk)
 (try clear hi)
 refine hK.out _ _ ⟨(blk_cell BK269.out 0).trans rfl, (blk_cell BK269.out 1).trans rfl, (blk_cell BK269.out 2).trans rfl, (blk_cell BK269.out 3).trans rfl, (blk_cell BK270.out 0).trans rfl, (blk_cell BK270.out 1).trans rfl, (blk_cell BK270.out 2).trans rfl, (blk_cell BK270.out 3).trans rfl⟩ (fun hHeld => ?_)
 clear hK K
 refine norm_ (a' := ?_) ?_ ?_
 rotate_left
 ·show Act.put _ (some 9) _ = _
  simp only [sx]
  rfl
 refine pure_ (i := 5) (N := some 10) (v := ?_) (a' := ?_) (bm 7 63) rfl rfl kr qi (Or.inl ⟨by rfl, ?_⟩) ?_ ?_
 rotate_left
 ·intro w'
  go_simp
  with_reducible rfl
 rotate_left
 ·simp only [sx]
  rfl
 refine pure_ (i := 6) (N := some 4) (v := ?_) (a' := ?_) (bm 7 127) rfl rfl kr qi (Or.inl ⟨by rfl, ?_⟩) ?_ ?_
 rotate_left
 ·intro w'
  go_simp
  with_reducible rfl
 rotate_left
 ·simp only [sx]
  rfl
 refine done_ kr ?_
 try go_wp2
 go_ret
 exact ⟨rfw, blw⟩
end Go.Proofs.Ytonimhfahjediaa.Pc
end
