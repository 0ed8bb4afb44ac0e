/- Printed by a program of this session: what functions of the translation come to, each contract as it stands. No condition. -/
import Derived.Test.YtaakdfbfgabdbaaZTypesSh
import Derived.Test.YtaakdfbfgabdbaaZTypesExtM
import Derived.Test.YtaakdfbfgabdbaaZTypesPt13
import Derived.Test.YtaakdfbfgabdbaaZTypesPt2
import Derived.Test.YtaakdfbfgabdbaaZTypesPt6M
import Derived.Test.YtaakdfbfgabdbaaZTypesPt3
import Derived.Test.YtaakdfbfgabdbaaZTypesPt4
import Derived.Laws.Bits128
import Derived.Test.YtaakdfbfgabdbaaZTypesPt10M
import Derived.Test.YtaakdfbfgabdbaaZTypesPt7M
import Derived.Test.YtaakdfbfgabdbaaZTypesPt5
section
namespace Go.Proofs.Ytaakdfbfgabdbaa.Pt
open Go.RowKit Go.Proofs.Ytaakdfbfgabdbaa.Ext Go.Proofs.YtaakdfbfgabdbaaW.PrintWords Go.Proofs.YtaakdfbfgabdbaaW.PrintLast Go.Proofs.YtaakdfbfgabdbaaW.PrintMore
attribute [local go_sem] max2_int min2_int max_two min_two max_three min_three max_four min_four   -- for this text's walks alone
set_option linter.unusedVariables false
set_option linter.unusedSimpArgs false

/-! ### impl_cloneType: function 34 -/
mutual
def impl_cloneType.l0 : Nat → List (S27) → Int → Int → Int → List ByteArray → List (S27) → Option (Int × List ByteArray × (List (S27)))
 | 0, _, _, _, _, _, _ => none
 | k + 1, x13, x14, x15, x484000, x484001, x484002 => if x15 < x14 then (if 0 ≤ x15 then (if x15 < (x13.length : Int) then ((impl_cloneType.f k ((rd_T27 x13 x15).f0) ((rd_T27 x13 x15).f1) ((rd_T27 x13 x15).f2)).bind fun bt486 => (if x484002.length < 2513169434916 then (impl_cloneType.l0 k x13 x14 (wrap64 (x15 + 1)) x484000 x484001 (x484002 ++ [(⟨bt486.1, bt486.2.1, bt486.2.2⟩ : S27)])) else (none))) else (none)) else (none)) else (some (x484000, x484001, x484002))
def impl_cloneType.f : Nat → Int → List ByteArray → List (S27) → Option (Int × List ByteArray × (List (S27)))
 | 0, _, _, _ => none
 | k + 1, a0_0, l0_1, l0_2 => (slices_Clone_string_string.f l0_1).bind fun t480 => (impl_cloneType.l0 k l0_2 (l0_2.length : Int) 0 a0_0 t480 ([] : List (S27)))
end
def impl_cloneType.T1 : Bool × List (List Nat × List Nat) := (true, [([], []), ([0], [0]), ([], []), ([2], [2]), ([3], [3]), ([1, 4], [1, 4]), ([], []), ([6, 5, 4, 0, 1, 2, 3, 4, 5, 6], [5, 6])])
def impl_cloneType.B1 : List Nat := [0, 1, 0, 4, 12, 31, 0, 127]
theorem impl_cloneType.tab1 : rtab .any (opsOf Try.f34 1) = impl_cloneType.T1 := by kernel_rfl
theorem impl_cloneType.bits1 : waitsOk impl_cloneType.T1.2 impl_cloneType.B1 = true := by kernel_rfl
def impl_cloneType.T5 : Bool × List (List Nat × List Nat) := (true, [([], []), ([0], [0]), ([], []), ([2], [2]), ([3], [3]), ([1, 4, 3], [1, 4]), ([0, 1, 2, 3, 4, 5], []), ([6, 5, 5, 0, 1, 2, 3, 4, 5], [5, 6])])
def impl_cloneType.B5 : List Nat := [0, 1, 0, 4, 12, 31, 63, 127]
theorem impl_cloneType.tab5 : rtab .any (opsOf Try.f34 5) = impl_cloneType.T5 := by kernel_rfl
theorem impl_cloneType.bits5 : waitsOk impl_cloneType.T5.2 impl_cloneType.B5 = true := by kernel_rfl
set_option maxHeartbeats 8000000 in
set_option maxRecDepth 100000 in
theorem impl_cloneType.calls (k : Nat) : ∀ (a0_0 : Int) (A0_1 : Option Addr) (c0_1 : Nat) (l0_1 : List ByteArray) (A0_2 : Option Addr) (c0_2 : Nat) (l0_2 : List (S27)) (r1 : Int) (r2 : List ByteArray) (r3 : List (S27)) (w : World) (hr0_1 : Kd.C Kd.string w A0_1 l0_1.length l0_1) (hc0_1 : l0_1.length ≤ c0_1) (hr0_2 : Kd.C k27 w A0_2 l0_2.length l0_2) (hc0_2 : l0_2.length ≤ c0_2) (h : impl_cloneType.f k a0_0 l0_1 l0_2 = some (r1, r2, r3)),
  Calls Try.prog 34 #[.agg #[.int .i64 a0_0, .slice A0_1 l0_1.length c0_1, .slice A0_2 l0_2.length c0_2]] w fun e w' => ∃ v1_ v2_ : Value, e = .returned (.agg #[.int .i64 r1, v1_, v2_]) ∧ Kd.R Kd.string 9 w' w.heap.size (fun _ => True) v1_ r2 ∧ Kd.S k27 27 w' w.heap.size (fun k_ => some k_ ≠ (v1_ : Value).ownBlock) v2_ r3 ∧ Below w.heap.size w w' := by
 induction k using Nat.strongRecOn with
 | _ k ih =>
 intro a0_0 A0_1 c0_1 l0_1 A0_2 c0_2 l0_2 r1 r2 r3 w hr0_1 hc0_1 hr0_2 hc0_2 h
 cases k with
 | zero => exact absurd h (by simp [impl_cloneType.f])
 | succ k =>
 simp only [impl_cloneType.f] at h
 have hu27 := Try.underlying27
 have HR0_1 := Aside0.mk hr0_1
 have HC0_1 := Aside0.mk hc0_1
 clear hr0_1 hc0_1
 have HR0_2 := Aside0.mk hr0_2
 have HC0_2 := Aside0.mk hc0_2
 clear hr0_2 hc0_2
 have HB := Aside0.mk (Below.refl w.heap.size w)
 have H : ((slices_Clone_string_string.f l0_1).bind fun t480 => (impl_cloneType.l0 k l0_2 (l0_2.length : Int) 0 a0_0 t480 ([] : List (S27)))) = some (r1, r2, r3) := h
 clear h
 replace H := Option.bind_eq_some_iff.mp H
 obtain ⟨t480, A20, H⟩ := H
 replace H : (impl_cloneType.l0 k l0_2 (l0_2.length : Int) 0 a0_0 t480 ([] : List (S27))) = some (r1, r2, r3) := H
 have A2 := Aside0.mk A20
 clear A20
 have H' := Aside0.mk H
 clear H
 go_enter Try.func34, Try.ntmps34
 try go_wp2_with (first | ((with_reducible refine gate_dst (N := 1) rfl ?_); refine box_event ?hg (N := 1) ?hd (cs := #[.int .i64 a0_0, .slice A0_1 l0_1.length c0_1, .slice A0_2 l0_2.length c0_2]) (t := 27) ?hr ?_; (case hd => rfl); (case hg => rfl); (case hr => exact hrw); intro gb478 hg w3 hbox hb; have n0_ := Aside0.mk (below_step blw hb); have n1_ := Aside0.mk (hbox); have n2_ := Aside0.mk ((by rw [hg]; exact (below_size blw) : w.heap.size ≤ gb478)); have n3_ := n2_; clear HB; revert n0_ n1_ n2_ n3_; intro HB BK478 GW478 GE478; clear hb hbox hg) | ((with_reducible refine gate_dst (N := 2) rfl ?_); refine box_event ?hg (N := 2) ?hd (cs := #[.int .i64 0, .slice none 0 0, .slice none 0 0]) (t := 27) ?hr ?_; (case hd => rfl); (case hg => rfl); (case hr => exact hrw); intro gb479 hg w4 hbox hb; have n0_ := Aside0.mk (blk_below (g := gb478) (o := .cells #[.int .i64 a0_0, .slice A0_1 l0_1.length c0_1, .slice A0_2 l0_2.length c0_2] 27 (0, 0)) bkw hb); have n1_ := Aside0.mk (below_step blw hb); have n2_ := Aside0.mk (hbox); have n3_ := Aside0.mk ((by rw [hg]; exact (below_size blw) : w.heap.size ≤ gb479)); have n4_ := n3_; have n5_ := Aside0.mk ((by rw [hg]; exact Nat.ne_of_lt (blk_lt (g := gb478) (o := .cells #[.int .i64 a0_0, .slice A0_1 l0_1.length c0_1, .slice A0_2 l0_2.length c0_2] 27 (0, 0)) bkw) : gb478 ≠ gb479)); have n6_ := Aside0.mk ((by rw [hg]; exact Nat.ne_of_gt (blk_lt (g := gb478) (o := .cells #[.int .i64 a0_0, .slice A0_1 l0_1.length c0_1, .slice A0_2 l0_2.length c0_2] 27 (0, 0)) bkw) : gb479 ≠ gb478)); clear BK478; clear HB; revert n0_ n1_ n2_ n3_ n4_ n5_ n6_; intro BK478 HB BK479 GW479 GE479 NB478_479 NB479_478; clear hb hbox hg))
 have n0_ := Aside0.mk (blk_drew BK478.out)
 have n1_ := Aside0.mk (blk_drew BK479.out)
 have n2_ := Aside0.mk (below_drew1 HB.out)
 clear BK478
 clear BK479
 clear HB
 revert n0_ n1_ n2_
 intro BK478 BK479 HB
 refine start_ (n := 8) (S := fun w' => w'.cell? ⟨gb478, 0, none⟩ = some (.int .i64 a0_0) ∧ w'.cell? ⟨gb478, 1, none⟩ = some (.slice A0_1 l0_1.length c0_1) ∧ w'.cell? ⟨gb478, 2, none⟩ = some (.slice A0_2 l0_2.length c0_2)) (ds := []) #[false,false,false,false,false,false,false,false] kr rfl rfl ⟨(blk_cell BK478.out 0).trans rfl, (blk_cell BK478.out 1).trans rfl, (blk_cell BK478.out 2).trans rfl⟩ (fun hHeld => ?_); refine with_tabW impl_cloneType.tab1 impl_cloneType.bits1 (fun HT_ HW_ => ?_)
 generalize w4.drew = w5 at BK478 BK479 HB hHeld ⊢
 refine pure_ (i := 0) (N := some 6) (v := ?_) (a' := ?_) (bm 8 1) rfl rfl (any_of HT_.out kr) qi (Or.inl ⟨by rfl, ?_⟩) ?_ ?_
 rotate_left
 ·intro w'
  go_simp
  with_reducible rfl
 rotate_left
 ·simp only [sx]
  rfl
 refine pure_ (i := 2) (N := some 8) (v := ?_) (a' := ?_) (bm 8 5) rfl rfl (any_of HT_.out kr) qi (Or.inl ⟨by rfl, ?_⟩) ?_ ?_
 rotate_left
 ·intro w'
  go_simp
  with_reducible rfl
 rotate_left
 ·simp only [sx]
  rfl
 refine take_ (i := 1) (N := some 7) (v := ?_) (a' := ?_) (bm 8 7) rfl rfl (take_ofW HT_.out HW_.out kr) qi (Or.inl ⟨by rfl, ?_⟩) hHeld ?_ ?_
 rotate_left
 ·rintro w' ⟨s0, s1, s2⟩
  go_simp
  with_reducible rfl
 rotate_left
 ·simp only [sx]
  rfl
 refine take_ (i := 3) (N := some 9) (v := ?_) (a' := ?_) (bm 8 15) rfl rfl (take_ofW HT_.out HW_.out kr) qi (Or.inl ⟨by rfl, ?_⟩) hHeld ?_ ?_
 rotate_left
 ·rintro w' ⟨s0, s1, s2⟩
  go_simp
  with_reducible rfl
 rotate_left
 ·simp only [sx]
  rfl
 refine join_ (σ := Value × Nat) 1 #[true,true,true,true,true,true,true,false] (fun s_ => [(10, s_.1), (3, .pointer (some ⟨s_.2, 0, none⟩)), (11, .agg #[.int .i64 a0_0, s_.1, .slice none 0 0])]) (fun s_ w' => (w'.cell? ⟨gb478, 0, none⟩ = some (.int .i64 a0_0) ∧ w'.cell? ⟨gb478, 1, none⟩ = some (.slice A0_1 l0_1.length c0_1) ∧ w'.cell? ⟨gb478, 2, none⟩ = some (.slice A0_2 l0_2.length c0_2)) ∧ (Kd.R Kd.string 9 w' w.heap.size (fun _ => True) s_.1 t480) ∧ (w'.heap[gb478]? = some (.cells #[.int .i64 a0_0, .slice A0_1 l0_1.length c0_1, .slice A0_2 l0_2.length c0_2] 27 (0, 0))) ∧ (w'.heap[gb479]? = some (.cells #[.int .i64 0, .slice none 0 0, .slice none 0 0] 27 (0, 0))) ∧ (w'.heap[s_.2]? = some (.cells #[.int .i64 0, .slice none 0 0, .slice none 0 0] 27 (0, 0))) ∧ (w.heap.size ≤ s_.2) ∧ (w.heap.size ≤ s_.2) ∧ (gb478 ≠ s_.2) ∧ (s_.2 ≠ gb478) ∧ (gb479 ≠ s_.2) ∧ (s_.2 ≠ gb479) ∧ (Below w.heap.size w w')) ?_ ?_
 rotate_left
 ·intro hCont
  refine two_ (i := 4) (j := 6) (Ni := some 10) (Nj := some 3) #[true,true,true,true,true,false,false,false] #[true,true,true,true,false,false,true,false] rfl rfl rfl rfl (two_of HT_.out kr) (by decide) (by decide) (fun K hK => ?_) (fun K hK => ?_)
  ·skip
   refine goes_ Try.func52 kr rfl #[.slice A0_1 l0_1.length c0_1] (by rfl) rfl rfl mpw ?_
   with_reducible refine (slices_Clone_string_string.calls _ _ l0_1 t480 _ ?side1 ?side2 A2.out).mono ?_
   (case side1 => have X_ := HR0_1; exact cbl)
   (case side2 => exact HC0_1.out)
   rintro e w6 ⟨v481, rfl, ho0, hb⟩
   refine ⟨_, rfl, ?_⟩
   have n0_ := Aside0.mk (Kd.R_lower ho0 (below_size blw))
   have n1_ := Aside0.mk (blk_below (g := gb478) (o := .cells #[.int .i64 a0_0, .slice A0_1 l0_1.length c0_1, .slice A0_2 l0_2.length c0_2] 27 (0, 0)) bkw hb)
   have n2_ := Aside0.mk (blk_below (g := gb479) (o := .cells #[.int .i64 0, .slice none 0 0, .slice none 0 0] 27 (0, 0)) bkw hb)
   have n3_ := Aside0.mk (below_step blw hb)
   clear BK478
   clear BK479
   clear HB
   revert n0_ n1_ n2_ n3_
   intro HO482 BK478 BK479 HB
   (try clear hb)
   (try clear hb2)
   (try clear hk)
   (try clear hi)
   (try clear ho0)
   obtain ⟨Ao7, co7, eo7⟩ := Kd.R_slice HO482.out
   (first | subst eo7 | (injection eo7 with f1_ f2_ f3_; have f4_ := f1_.symm; have f5_ := f3_.symm; clear f1_ f2_ f3_; subst f4_; subst f5_))
   refine hK.out _ _ ⟨(blk_cell BK478.out 0).trans rfl, (blk_cell BK478.out 1).trans rfl, (blk_cell BK478.out 2).trans rfl⟩ (fun hHeld => ?_)
   clear hK K
   refine norm_ (a' := ?_) ?_ ?_
   rotate_left
   ·show Act.put _ (some 10) _ = _
    simp only [sx]
    rfl
   refine pure_ (i := 5) (N := some 11) (v := ?_) (a' := ?_) (bm 8 63) rfl rfl (any_of HT_.out kr) qi (Or.inl ⟨by rfl, ?_⟩) ?_ ?_
   rotate_left
   ·intro w'
    go_simp
    with_reducible rfl
   rotate_left
   ·simp only [sx]
    rfl
   refine one_ (i := 6) (N := some 3) (bm 8 127) rfl rfl (one_of HT_.out kr) (by decide) (fun K hK => ?_)
   refine box_step ?hg (N := 3) ?hd (cs := #[.int .i64 0, .slice none 0 0, .slice none 0 0]) (t := 27) ?hr ?_; (case hd => rfl); (case hg => rfl); (case hr => exact hrw)
   intro gb483 hg w8 hbox hb
   have n0_ := Aside0.mk (Kd.R_below (by (with_reducible repeat (first | apply Kd.R_alloc | apply Kd.R_drewN | apply Kd.R_drew)); exact HO482.out) hb)
   have n1_ := Aside0.mk (blk_below (g := gb478) (o := .cells #[.int .i64 a0_0, .slice A0_1 l0_1.length c0_1, .slice A0_2 l0_2.length c0_2] 27 (0, 0)) bkw hb)
   have n2_ := Aside0.mk (blk_below (g := gb479) (o := .cells #[.int .i64 0, .slice none 0 0, .slice none 0 0] 27 (0, 0)) bkw hb)
   have n3_ := Aside0.mk (below_step blw hb)
   have n4_ := Aside0.mk (hbox)
   have n5_ := Aside0.mk ((by rw [hg]; exact (below_size blw) : w.heap.size ≤ gb483))
   have n6_ := Aside0.mk ((by rw [hg]; exact (below_size blw) : w.heap.size ≤ gb483))
   have n7_ := Aside0.mk ((by rw [hg]; exact Nat.ne_of_lt (blk_lt (g := gb478) (o := .cells #[.int .i64 a0_0, .slice A0_1 l0_1.length c0_1, .slice A0_2 l0_2.length c0_2] 27 (0, 0)) bkw) : gb478 ≠ gb483))
   have n8_ := Aside0.mk ((by rw [hg]; exact Nat.ne_of_gt (blk_lt (g := gb478) (o := .cells #[.int .i64 a0_0, .slice A0_1 l0_1.length c0_1, .slice A0_2 l0_2.length c0_2] 27 (0, 0)) bkw) : gb483 ≠ gb478))
   have n9_ := Aside0.mk ((by rw [hg]; exact Nat.ne_of_lt (blk_lt (g := gb479) (o := .cells #[.int .i64 0, .slice none 0 0, .slice none 0 0] 27 (0, 0)) bkw) : gb479 ≠ gb483))
   have n10_ := Aside0.mk ((by rw [hg]; exact Nat.ne_of_gt (blk_lt (g := gb479) (o := .cells #[.int .i64 0, .slice none 0 0, .slice none 0 0] 27 (0, 0)) bkw) : gb483 ≠ gb479))
   clear HO482
   clear BK478
   clear BK479
   clear HB
   revert n0_ n1_ n2_ n3_ n4_ n5_ n6_ n7_ n8_ n9_ n10_
   intro HO482 BK478 BK479 HB BK483 GW483 GE483 NB478_483 NB483_478 NB479_483 NB483_479
   clear hb hbox hg
   refine hK.out _ _ ⟨(blk_cell BK478.out 0).trans rfl, (blk_cell BK478.out 1).trans rfl, (blk_cell BK478.out 2).trans rfl⟩ (fun hHeld => ?_)
   clear hK K
   refine norm_ (a' := ?_) ?_ ?_
   rotate_left
   ·show Act.put _ (some 3) _ = _
    simp only [sx]
    rfl
   exact norm_ (by simp only [putAll, Act.put, List.setIfInBounds_toArray, List.set_cons_zero, List.set_cons_succ]) (hCont (.slice Ao7 t480.length co7, gb483) _ ⟨hHeld, (by (with_reducible repeat (first | apply Kd.R_alloc | apply Kd.R_drewN | apply Kd.R_drew)); exact HO482.out), bkw, bkw, bkw, GW483.out, GE483.out, NB478_483.out, NB483_478.out, NB479_483.out, NB483_479.out, blw⟩)
  ·skip
   refine box_step ?hg (N := 3) ?hd (cs := #[.int .i64 0, .slice none 0 0, .slice none 0 0]) (t := 27) ?hr ?_; (case hd => rfl); (case hg => rfl); (case hr => exact hrw)
   intro gb483 hg w6 hbox hb
   have n0_ := Aside0.mk (blk_below (g := gb478) (o := .cells #[.int .i64 a0_0, .slice A0_1 l0_1.length c0_1, .slice A0_2 l0_2.length c0_2] 27 (0, 0)) bkw hb)
   have n1_ := Aside0.mk (blk_below (g := gb479) (o := .cells #[.int .i64 0, .slice none 0 0, .slice none 0 0] 27 (0, 0)) bkw hb)
   have n2_ := Aside0.mk (below_step blw hb)
   have n3_ := Aside0.mk (hbox)
   have n4_ := Aside0.mk ((by rw [hg]; exact (below_size blw) : w.heap.size ≤ gb483))
   have n5_ := Aside0.mk ((by rw [hg]; exact (below_size blw) : w.heap.size ≤ gb483))
   have n6_ := Aside0.mk ((by rw [hg]; exact Nat.ne_of_lt (blk_lt (g := gb478) (o := .cells #[.int .i64 a0_0, .slice A0_1 l0_1.length c0_1, .slice A0_2 l0_2.length c0_2] 27 (0, 0)) bkw) : gb478 ≠ gb483))
   have n7_ := Aside0.mk ((by rw [hg]; exact Nat.ne_of_gt (blk_lt (g := gb478) (o := .cells #[.int .i64 a0_0, .slice A0_1 l0_1.length c0_1, .slice A0_2 l0_2.length c0_2] 27 (0, 0)) bkw) : gb483 ≠ gb478))
   have n8_ := Aside0.mk ((by rw [hg]; exact Nat.ne_of_lt (blk_lt (g := gb479) (o := .cells #[.int .i64 0, .slice none 0 0, .slice none 0 0] 27 (0, 0)) bkw) : gb479 ≠ gb483))
   have n9_ := Aside0.mk ((by rw [hg]; exact Nat.ne_of_gt (blk_lt (g := gb479) (o := .cells #[.int .i64 0, .slice none 0 0, .slice none 0 0] 27 (0, 0)) bkw) : gb483 ≠ gb479))
   clear BK478
   clear BK479
   clear HB
   revert n0_ n1_ n2_ n3_ n4_ n5_ n6_ n7_ n8_ n9_
   intro BK478 BK479 HB BK483 GW483 GE483 NB478_483 NB483_478 NB479_483 NB483_479
   clear hb hbox hg
   refine hK.out _ _ ⟨(blk_cell BK478.out 0).trans rfl, (blk_cell BK478.out 1).trans rfl, (blk_cell BK478.out 2).trans rfl⟩ (fun hHeld => ?_)
   clear hK K
   refine norm_ (a' := ?_) ?_ ?_
   rotate_left
   ·show Act.put _ (some 3) _ = _
    simp only [sx]
    rfl
   refine one_ (i := 4) (N := some 10) (bm 8 95) rfl rfl (one_of HT_.out kr) (by decide) (fun K hK => ?_)
   refine goes_ Try.func52 kr rfl #[.slice A0_1 l0_1.length c0_1] (by rfl) rfl rfl mpw ?_
   with_reducible refine (slices_Clone_string_string.calls _ _ l0_1 t480 _ ?side1 ?side2 A2.out).mono ?_
   (case side1 => have X_ := HR0_1; exact cbl)
   (case side2 => exact HC0_1.out)
   rintro e w7 ⟨v481, rfl, ho0, hb⟩
   refine ⟨_, rfl, ?_⟩
   have n0_ := Aside0.mk (Kd.R_lower ho0 (below_size blw))
   have n1_ := Aside0.mk (blk_below (g := gb478) (o := .cells #[.int .i64 a0_0, .slice A0_1 l0_1.length c0_1, .slice A0_2 l0_2.length c0_2] 27 (0, 0)) bkw hb)
   have n2_ := Aside0.mk (blk_below (g := gb479) (o := .cells #[.int .i64 0, .slice none 0 0, .slice none 0 0] 27 (0, 0)) bkw hb)
   have n3_ := Aside0.mk (blk_below (g := gb483) (o := .cells #[.int .i64 0, .slice none 0 0, .slice none 0 0] 27 (0, 0)) bkw hb)
   have n4_ := Aside0.mk (below_step blw hb)
   clear BK478
   clear BK479
   clear BK483
   clear HB
   revert n0_ n1_ n2_ n3_ n4_
   intro HO482 BK478 BK479 BK483 HB
   (try clear hb)
   (try clear hb2)
   (try clear hk)
   (try clear hi)
   (try clear ho0)
   obtain ⟨Ao8, co8, eo8⟩ := Kd.R_slice HO482.out
   (first | subst eo8 | (injection eo8 with f1_ f2_ f3_; have f4_ := f1_.symm; have f5_ := f3_.symm; clear f1_ f2_ f3_; subst f4_; subst f5_))
   refine hK.out _ _ ⟨(blk_cell BK478.out 0).trans rfl, (blk_cell BK478.out 1).trans rfl, (blk_cell BK478.out 2).trans rfl⟩ (fun hHeld => ?_)
   clear hK K
   refine norm_ (a' := ?_) ?_ ?_
   rotate_left
   ·show Act.put _ (some 10) _ = _
    simp only [sx]
    rfl
   refine pure_ (i := 5) (N := some 11) (v := ?_) (a' := ?_) (bm 8 127) rfl rfl (any_of HT_.out kr) qi (Or.inl ⟨by rfl, ?_⟩) ?_ ?_
   rotate_left
   ·intro w'
    go_simp
    with_reducible rfl
   rotate_left
   ·simp only [sx]
    rfl
   exact norm_ (by simp only [putAll, Act.put, List.setIfInBounds_toArray, List.set_cons_zero, List.set_cons_succ]) (hCont (.slice Ao8 t480.length co8, gb483) _ ⟨hHeld, (by (with_reducible repeat (first | apply Kd.R_alloc | apply Kd.R_drewN | apply Kd.R_drew)); exact HO482.out), bkw, bkw, bkw, GW483.out, GE483.out, NB478_483.out, NB483_478.out, NB479_483.out, NB483_479.out, blw⟩)
 rintro ⟨v481, gb483⟩ w9 ⟨hS_, h0_, h1_, h2_, h3_, h4_, h5_, h6_, h7_, h8_, h9_, h10_⟩
 have n0_ : Aside0 (Kd.R Kd.string 9 w9 w.heap.size (fun _ => True) v481 t480) := ⟨h0_⟩
 have n1_ : Aside0 (w9.heap[gb478]? = some (.cells #[.int .i64 a0_0, .slice A0_1 l0_1.length c0_1, .slice A0_2 l0_2.length c0_2] 27 (0, 0))) := ⟨h1_⟩
 have n2_ : Aside0 (w9.heap[gb479]? = some (.cells #[.int .i64 0, .slice none 0 0, .slice none 0 0] 27 (0, 0))) := ⟨h2_⟩
 have n3_ : Aside0 (w9.heap[gb483]? = some (.cells #[.int .i64 0, .slice none 0 0, .slice none 0 0] 27 (0, 0))) := ⟨h3_⟩
 have n4_ : Aside0 (w.heap.size ≤ gb483) := ⟨h4_⟩
 have n5_ : Aside0 (w.heap.size ≤ gb483) := ⟨h5_⟩
 have n6_ : Aside0 (gb478 ≠ gb483) := ⟨h6_⟩
 have n7_ : Aside0 (gb483 ≠ gb478) := ⟨h7_⟩
 have n8_ : Aside0 (gb479 ≠ gb483) := ⟨h8_⟩
 have n9_ : Aside0 (gb483 ≠ gb479) := ⟨h9_⟩
 have n10_ : Aside0 (Below w.heap.size w w9) := ⟨h10_⟩
 clear BK478
 clear BK479
 clear HB
 clear h0_ h1_ h2_ h3_ h4_ h5_ h6_ h7_ h8_ h9_ h10_
 revert n0_ n1_ n2_ n3_ n4_ n5_ n6_ n7_ n8_ n9_ n10_
 intro HO482 BK478 BK479 BK483 GW483 GE483 NB478_483 NB483_478 NB479_483 NB483_479 HB
 have hHeld : w9.cell? ⟨gb478, 0, none⟩ = some (.int .i64 a0_0) ∧ w9.cell? ⟨gb478, 1, none⟩ = some (.slice A0_1 l0_1.length c0_1) ∧ w9.cell? ⟨gb478, 2, none⟩ = some (.slice A0_2 l0_2.length c0_2) := hS_
 obtain ⟨Ao10, co10, eo10⟩ := Kd.R_slice HO482.out
 (first | subst eo10 | (injection eo10 with f1_ f2_ f3_; have f4_ := f1_.symm; have f5_ := f3_.symm; clear f1_ f2_ f3_; subst f4_; subst f5_))
 refine norm_ (a' := ?_) ?_ ?_
 rotate_left
 ·simp only [putAll, Act.put, List.setIfInBounds_toArray, List.set_cons_zero, List.set_cons_succ]
  rfl
 refine one_ (i := 7) (N := none) (bm 8 255) rfl rfl (one_of HT_.out kr) (by decide) (fun K hK => ?_)
 have hs11 : w9.cell? ⟨gb483, 0, none⟩ = some (.int .i64 0) := (blk_cell BK483.out 0).trans rfl
 have hfs11 := blk_frozen BK483.out 0
 have hns11_0 := NB478_483.out
 have hns11_1 := NB479_483.out
 have hms11_0 := NB483_478.out
 have hms11_1 := NB483_479.out
 have hs12 : w9.cell? ⟨gb483, 1, none⟩ = some (.slice none 0 0) := (blk_cell BK483.out 1).trans rfl
 have hfs12 := blk_frozen BK483.out 1
 have hns12_0 := NB478_483.out
 have hns12_1 := NB479_483.out
 have hms12_0 := NB483_478.out
 have hms12_1 := NB483_479.out
 have hs13 : w9.cell? ⟨gb483, 2, none⟩ = some (.slice none 0 0) := (blk_cell BK483.out 2).trans rfl
 have hfs13 := blk_frozen BK483.out 2
 have hns13_0 := NB478_483.out
 have hns13_1 := NB479_483.out
 have hms13_0 := NB483_478.out
 have hms13_1 := NB483_479.out
 refine skip_ (w1 := ?_) (by rfl) rfl ?_ ?_
 rotate_left
 ·go_simp
  rfl
 refine hK.out _ _ ⟨((cell_far (p := ⟨gb483, _, none⟩) NB478_483.out _).trans (((cell_far (p := ⟨gb483, _, none⟩) NB478_483.out _).trans (((cell_far (p := ⟨gb483, _, none⟩) NB478_483.out _).trans (hHeld.1)))))), ((cell_far (p := ⟨gb483, _, none⟩) NB478_483.out _).trans (((cell_far (p := ⟨gb483, _, none⟩) NB478_483.out _).trans (((cell_far (p := ⟨gb483, _, none⟩) NB478_483.out _).trans (hHeld.2.1)))))), ((cell_far (p := ⟨gb483, _, none⟩) NB478_483.out _).trans (((cell_far (p := ⟨gb483, _, none⟩) NB478_483.out _).trans (((cell_far (p := ⟨gb483, _, none⟩) NB478_483.out _).trans (hHeld.2.2))))))⟩ (fun hHeld => ?_)
 clear hK K
 refine done_ (done_of HT_.out kr) ?_
 have hnb14 := NB478_479.out
 have hnc14 := NB479_478.out
 have hnb15 := NB478_483.out
 have hnc15 := NB483_478.out
 obtain ⟨hcz16_0, hcz16_1, hcz16_2⟩ := cls3 BK478.out
 obtain ⟨hfz16_0, hfz16_1, hfz16_2⟩ := frz3 BK478.out
 try go_wp2
 go_loopg [15] k (fun kq v15 w' => ∃ (x15_1 : Int) (x484002_1 : List (S27)) (u484002 : Value), v15 = .int .i64 x15_1 ∧ Aside0 (impl_cloneType.l0 kq l0_2 (l0_2.length : Int) x15_1 a0_0 t480 x484002_1 = some (r1, r2, r3)) ∧ Aside0 (kq ≤ k) ∧ Aside0 (Kd.R Kd.string 9 w' w.heap.size (fun _ => True) (.slice Ao10 t480.length co10) t480) ∧ Aside0 (Kd.S k27 27 w' w.heap.size (fun k_ => some k_ ≠ ((.slice Ao10 t480.length co10) : Value).ownBlock ∧ k_ ≠ gb478 ∧ k_ ≠ gb479 ∧ k_ ≠ gb483) u484002 x484002_1) ∧ Aside0 (w'.heap[gb478]? = some (.cells #[.int .i64 a0_0, (.slice A0_1 l0_1.length c0_1), (.slice A0_2 l0_2.length c0_2)] 27 (0, 0))) ∧ Aside0 (w'.heap[gb479]? = some (.cells #[.int .i64 0, (.slice none 0 0), (.slice none 0 0)] 27 (0, 0))) ∧ Aside0 (w'.heap[gb483]? = some (.cells #[.int .i64 a0_0, (.slice Ao10 t480.length co10), u484002] 27 (0, 0))) ∧ Aside0 (Below w.heap.size w w'))
 case atStart => exact ⟨(0), (([] : List (S27))), (.slice none 0 0), rfs, H', ⟨Nat.le_refl _⟩, ⟨by (with_reducible repeat (first | apply Kd.R_alloc | apply Kd.R_drewN | apply Kd.R_drew)); exact Kd.R_mono (Kd.R_far (p := ⟨gb483, 2, none⟩) (Kd.R_far (p := ⟨gb483, 1, none⟩) (Kd.R_far (p := ⟨gb483, 0, none⟩) (Kd.R_types HO482.out BK483.out (by decide)) (fun _ hk => hk.2) (.int .i64 a0_0)) (fun _ hk => hk.2) (.slice Ao10 t480.length co10)) (fun _ hk => hk.2) (.slice none 0 0)) (fun _ hk => trivial)⟩, ⟨by first | exact Kd.S_nil _ _ _ _ _ | exact Kd.N_nil _ _ _ _ _ | exact Kd.V_nil _ _ _ _ _ | exact Kd.Q_nil _ _ _ _ _ | exact Kd.R_nil _ _ _ _ _⟩, ⟨by (with_reducible repeat (first | refine blk_drewN ?_ _ | refine blk_drew ?_ | refine blk_alloc ?_ _)); refine blk_far ?_ NB478_483.out _; (with_reducible repeat (first | refine blk_drewN ?_ _ | refine blk_drew ?_ | refine blk_alloc ?_ _)); refine blk_far ?_ NB478_483.out _; (with_reducible repeat (first | refine blk_drewN ?_ _ | refine blk_drew ?_ | refine blk_alloc ?_ _)); refine blk_far ?_ NB478_483.out _; (with_reducible repeat (first | refine blk_drewN ?_ _ | refine blk_drew ?_ | refine blk_alloc ?_ _)); exact BK478.out⟩, ⟨by (with_reducible repeat (first | refine blk_drewN ?_ _ | refine blk_drew ?_ | refine blk_alloc ?_ _)); refine blk_far ?_ NB479_483.out _; (with_reducible repeat (first | refine blk_drewN ?_ _ | refine blk_drew ?_ | refine blk_alloc ?_ _)); refine blk_far ?_ NB479_483.out _; (with_reducible repeat (first | refine blk_drewN ?_ _ | refine blk_drew ?_ | refine blk_alloc ?_ _)); refine blk_far ?_ NB479_483.out _; (with_reducible repeat (first | refine blk_drewN ?_ _ | refine blk_drew ?_ | refine blk_alloc ?_ _)); exact BK479.out⟩, ⟨by (with_reducible repeat (first | refine blk_drewN ?_ _ | refine blk_drew ?_ | refine blk_alloc ?_ _)); refine blk_put (cs := #[.int .i64 a0_0, .slice Ao10 t480.length co10, .slice none 0 0]) ?_ 2 _ rfl; (with_reducible repeat (first | refine blk_drewN ?_ _ | refine blk_drew ?_ | refine blk_alloc ?_ _)); refine blk_put (cs := #[.int .i64 a0_0, .slice none 0 0, .slice none 0 0]) ?_ 1 _ rfl; (with_reducible repeat (first | refine blk_drewN ?_ _ | refine blk_drew ?_ | refine blk_alloc ?_ _)); refine blk_put (cs := #[.int .i64 0, .slice none 0 0, .slice none 0 0]) ?_ 0 _ rfl; (with_reducible repeat (first | refine blk_drewN ?_ _ | refine blk_drew ?_ | refine blk_alloc ?_ _)); exact BK483.out⟩, ⟨blw⟩⟩
 case round =>
  clear H'
  (try clear c1); (try clear p2); (try clear c3); (try clear c5); (try clear c14); (try clear c15); (try clear hcz16_0); (try clear hcz16_1); (try clear hcz16_2); (try clear hfz16_0); (try clear hfz16_1); (try clear hfz16_2)
  obtain ⟨x15_1, x484002_1, u484002, rfl, HA, HK1, HO_484001, HO_484002, BK478, BK479, BK483, HB⟩ := hrel
  cases gk with
  | zero => exact absurd HA.out (by simp [impl_cloneType.l0])
  | succ k1 =>
   have H := HA.out
   clear HA
   simp only [impl_cloneType.l0] at H
   by_cases c17 : x15_1 < (l0_2.length : Int)
   case neg =>
    rw [if_neg c17] at H
    have c17b0 : decide (x15_1 < (l0_2.length : Int)) = false := decide_eq_false c17
    clear c17
    simp only [Option.some.injEq, Prod.mk.injEq] at H
    obtain ⟨rfl, rfl, rfl⟩ := H
    have hnb36 := NB483_478.out
    have hnc36 := NB478_483.out
    have hnb37 := NB483_479.out
    have hnc37 := NB479_483.out
    obtain ⟨hcz38_0, hcz38_1, hcz38_2⟩ := cls3 BK483.out
    obtain ⟨hfz38_0, hfz38_1, hfz38_2⟩ := frz3 BK483.out
    have hnb39 := NB479_478.out
    have hnc39 := NB478_479.out
    obtain ⟨hcz40_0, hcz40_1, hcz40_2⟩ := cls3 BK479.out
    obtain ⟨hfz40_0, hfz40_1, hfz40_2⟩ := frz3 BK479.out
    obtain ⟨Ao41, co41, eo41⟩ := Kd.S_slice HO_484002.out
    subst eo41
    go_wp2
    refine bodyPost_ret (results_cell_row rfl _ _ gb479 27 #[.int .i64 a0_0, .slice Ao10 t480.length co10, .slice Ao41 x484002_1.length co41] (0, 0) _ rfl (by (with_reducible repeat (first | refine blk_drewN ?_ _ | refine blk_drew ?_ | refine blk_alloc ?_ _)); refine blk_put (cs := #[.int .i64 a0_0, .slice Ao10 t480.length co10, .slice none 0 0]) ?_ 2 _ rfl; (with_reducible repeat (first | refine blk_drewN ?_ _ | refine blk_drew ?_ | refine blk_alloc ?_ _)); refine blk_put (cs := #[.int .i64 a0_0, .slice none 0 0, .slice none 0 0]) ?_ 1 _ rfl; (with_reducible repeat (first | refine blk_drewN ?_ _ | refine blk_drew ?_ | refine blk_alloc ?_ _)); refine blk_put (cs := #[.int .i64 0, .slice none 0 0, .slice none 0 0]) ?_ 0 _ rfl; (with_reducible repeat (first | refine blk_drewN ?_ _ | refine blk_drew ?_ | refine blk_alloc ?_ _)); exact BK479.out) Try.underlying27 rfl kr) rfl ?_
    exact ⟨_, _, rfw, by (with_reducible repeat (first | apply Kd.R_alloc | apply Kd.R_drewN | apply Kd.R_drew)); exact Kd.R_mono (Kd.R_far (p := ⟨gb479, 2, none⟩) (Kd.R_far (p := ⟨gb479, 1, none⟩) (Kd.R_far (p := ⟨gb479, 0, none⟩) (Kd.R_types HO_484001.out BK479.out (by decide)) (fun _ hk => hk.2) (.int .i64 a0_0)) (fun _ hk => hk.2) (.slice Ao10 t480.length co10)) (fun _ hk => hk.2) (.slice Ao41 x484002_1.length co41)) (fun _ hk => trivial), by (with_reducible repeat (first | apply Kd.S_alloc | apply Kd.S_drewN | apply Kd.S_drew)); exact Kd.S_mono (Kd.S_far (p := ⟨gb479, 2, none⟩) (Kd.S_far (p := ⟨gb479, 1, none⟩) (Kd.S_far (p := ⟨gb479, 0, none⟩) (Kd.S_mono HO_484002.out (fun k_ hk => (⟨hk, hk.2.2.1⟩ : _ ∧ k_ ≠ gb479))) (fun _ hk => hk.2) (.int .i64 a0_0)) (fun _ hk => hk.2) (.slice Ao10 t480.length co10)) (fun _ hk => hk.2) (.slice Ao41 x484002_1.length co41)) (fun _ hk => hk.1.1), blw⟩
   rw [if_pos c17] at H
   have c17b0 : decide (x15_1 < (l0_2.length : Int)) = true := decide_eq_true c17
   clear c17
   by_cases c18 : 0 ≤ x15_1
   case neg =>
    rw [if_neg c18] at H
    exact absurd H (by simp)
   rw [if_pos c18] at H
   have c18b0 : decide (0 ≤ x15_1) = true := decide_eq_true c18
   clear c18
   by_cases c19 : x15_1 < (l0_2.length : Int)
   case neg =>
    rw [if_neg c19] at H
    exact absurd H (by simp)
   rw [if_pos c19] at H
   have c19b0 : decide (x15_1 < (l0_2.length : Int)) = true := decide_eq_true c19
   clear c19
   replace H := Option.bind_eq_some_iff.mp H
   obtain ⟨⟨t486, t487, t490⟩, A200, H⟩ := H
   replace H : (if x484002_1.length < 2513169434916 then (impl_cloneType.l0 k1 l0_2 (l0_2.length : Int) (wrap64 (x15_1 + 1)) a0_0 t480 (x484002_1 ++ [(⟨t486, t487, t490⟩ : S27)])) else (none)) = some (r1, r2, r3) := H
   have A20 := Aside0.mk A200
   clear A200
   by_cases c21 : x484002_1.length < 2513169434916
   case neg =>
    rw [if_neg c21] at H
    exact absurd H (by simp)
   rw [if_pos c21] at H
   have LMc21 := Aside0.mk c21
   clear c21
   obtain ⟨y493, hy493⟩ : ∃ y_ : List (S27), y_ = (x484002_1 ++ [(⟨t486, t487, t490⟩ : S27)]) := ⟨_, rfl⟩
   replace H : (impl_cloneType.l0 k1 l0_2 (l0_2.length : Int) (wrap64 (x15_1 + 1)) a0_0 t480 y493) = some (r1, r2, r3) := by first | (rw [hy493]; with_reducible exact H) | (have H2_ := (Option.bind_some _ _).symm.trans H; rw [hy493]; with_reducible exact H2_) | (have H2_ := (Option.bind_some _ _).symm.trans H; with_reducible exact H2_) | with_reducible exact H | (rw [hy493]; exact H) | exact H
   have Ny493 := Aside0.mk hy493
   clear hy493
   have H' := Aside0.mk H
   clear H
   have p484 : 0 ≤ (x15_1 : Int) := of_decide_eq_true asw
   have q484 : x15_1 < (l0_2.length : Int) := of_decide_eq_true asw
   obtain ⟨ad484, A484_1, c484_1, A484_2, c484_2, e484, hx484_0, hx484_1, hx484_2, hl484_1, hi484_1, hl484_2, hi484_2⟩ := at_T27 HR0_2.out x15_1 p484 q484
   cases e484
   replace hx484_0 := upw HB.out hx484_0
   replace hx484_1 := upw HB.out hx484_1
   replace hx484_2 := upw HB.out hx484_2
   have HR484_1 := Aside0.mk hi484_1
   have HC484_1 := Aside0.mk hl484_1
   clear hi484_1 hl484_1
   have HR484_2 := Aside0.mk hi484_2
   have HC484_2 := Aside0.mk hl484_2
   clear hi484_2 hl484_2
   replace p484 := eq_true p484
   replace q484 := eq_true q484
   try go_wp2_with (first | ((with_reducible refine gate_dst (N := 5) rfl ?_); refine box_event ?hg (N := 5) ?hd (cs := #[.int .i64 0, .slice none 0 0, .slice none 0 0]) (t := 27) ?hr ?_; (case hd => rfl); (case hg => rfl); (case hr => exact hrw); intro gb485 hg w22 hbox hb; have n0_ := Aside0.mk (Kd.R_below (by (with_reducible repeat (first | apply Kd.R_alloc | apply Kd.R_drewN | apply Kd.R_drew)); exact HO_484001.out) hb); have n1_ := Aside0.mk (Kd.S_below (Kd.S_elderB (by (with_reducible repeat (first | apply Kd.S_alloc | apply Kd.S_drewN | apply Kd.S_drew)); exact HO_484002.out) gb485 (Nat.le_of_eq hg.symm)) hb); have n2_ := Aside0.mk (blk_below (g := gb478) (o := .cells #[.int .i64 a0_0, .slice A0_1 l0_1.length c0_1, .slice (some ad484) l0_2.length c0_2] 27 (0, 0)) bkw hb); have n3_ := Aside0.mk (blk_below (g := gb479) (o := .cells #[.int .i64 0, .slice none 0 0, .slice none 0 0] 27 (0, 0)) bkw hb); have n4_ := Aside0.mk (blk_below (g := gb483) (o := .cells #[.int .i64 a0_0, .slice Ao10 t480.length co10, u484002] 27 (0, 0)) bkw hb); have n5_ := Aside0.mk (below_step blw hb); have n6_ := Aside0.mk (hbox); have n7_ := Aside0.mk ((by rw [hg]; exact (below_size blw) : w.heap.size ≤ gb485)); have n8_ := n7_; have n9_ := Aside0.mk ((by rw [hg]; exact Nat.ne_of_lt (blk_lt (g := gb478) (o := .cells #[.int .i64 a0_0, .slice A0_1 l0_1.length c0_1, .slice (some ad484) l0_2.length c0_2] 27 (0, 0)) bkw) : gb478 ≠ gb485)); have n10_ := Aside0.mk ((by rw [hg]; exact Nat.ne_of_gt (blk_lt (g := gb478) (o := .cells #[.int .i64 a0_0, .slice A0_1 l0_1.length c0_1, .slice (some ad484) l0_2.length c0_2] 27 (0, 0)) bkw) : gb485 ≠ gb478)); have n11_ := Aside0.mk ((by rw [hg]; exact Nat.ne_of_lt (blk_lt (g := gb479) (o := .cells #[.int .i64 0, .slice none 0 0, .slice none 0 0] 27 (0, 0)) bkw) : gb479 ≠ gb485)); have n12_ := Aside0.mk ((by rw [hg]; exact Nat.ne_of_gt (blk_lt (g := gb479) (o := .cells #[.int .i64 0, .slice none 0 0, .slice none 0 0] 27 (0, 0)) bkw) : gb485 ≠ gb479)); have n13_ := Aside0.mk ((by rw [hg]; exact Nat.ne_of_lt (blk_lt (g := gb483) (o := .cells #[.int .i64 a0_0, .slice Ao10 t480.length co10, u484002] 27 (0, 0)) bkw) : gb483 ≠ gb485)); have n14_ := Aside0.mk ((by rw [hg]; exact Nat.ne_of_gt (blk_lt (g := gb483) (o := .cells #[.int .i64 a0_0, .slice Ao10 t480.length co10, u484002] 27 (0, 0)) bkw) : gb485 ≠ gb483)); clear HO_484001; clear HO_484002; clear BK478; clear BK479; clear BK483; clear HB; revert n0_ n1_ n2_ n3_ n4_ n5_ n6_ n7_ n8_ n9_ n10_ n11_ n12_ n13_ n14_; intro HO_484001 HO_484002 BK478 BK479 BK483 HB BK485 GW485 GE485 NB478_485 NB485_478 NB479_485 NB485_479 NB483_485 NB485_483; clear hb hbox hg; have hnb23 := NB485_478.out; have hnc23 := NB478_485.out; have hnb24 := NB485_479.out; have hnc24 := NB479_485.out; have hnb25 := NB485_483.out; have hnc25 := NB483_485.out; obtain ⟨hcz26_0, hcz26_1, hcz26_2⟩ := cls3 BK485.out; obtain ⟨hfz26_0, hfz26_1, hfz26_2⟩ := frz3 BK485.out))
   have n0_ : Aside0 (Kd.R Kd.string 9 (((w22.setCell ⟨gb485, 0, none⟩ (.int .i64 ((rd_T27 l0_2 x15_1).f0))).setCell ⟨gb485, 1, none⟩ (.slice A484_1 ((rd_T27 l0_2 x15_1).f1).length c484_1)).setCell ⟨gb485, 2, none⟩ (.slice A484_2 ((rd_T27 l0_2 x15_1).f2).length c484_2)) w.heap.size (fun _ => True) (.slice Ao10 t480.length co10) t480) := ⟨by (with_reducible repeat (first | apply Kd.R_alloc | apply Kd.R_drewN | apply Kd.R_drew)); exact Kd.R_mono (Kd.R_far (p := ⟨gb485, 2, none⟩) (Kd.R_far (p := ⟨gb485, 1, none⟩) (Kd.R_far (p := ⟨gb485, 0, none⟩) (Kd.R_types HO_484001.out BK485.out (by decide)) (fun _ hk => hk.2) (.int .i64 ((rd_T27 l0_2 x15_1).f0))) (fun _ hk => hk.2) (.slice A484_1 ((rd_T27 l0_2 x15_1).f1).length c484_1)) (fun _ hk => hk.2) (.slice A484_2 ((rd_T27 l0_2 x15_1).f2).length c484_2)) (fun _ hk => trivial)⟩
   have n1_ : Aside0 (Kd.S k27 27 (((w22.setCell ⟨gb485, 0, none⟩ (.int .i64 ((rd_T27 l0_2 x15_1).f0))).setCell ⟨gb485, 1, none⟩ (.slice A484_1 ((rd_T27 l0_2 x15_1).f1).length c484_1)).setCell ⟨gb485, 2, none⟩ (.slice A484_2 ((rd_T27 l0_2 x15_1).f2).length c484_2)) w.heap.size (fun k_ => some k_ ≠ (.slice Ao10 t480.length co10 : Value).ownBlock ∧ k_ ≠ gb478 ∧ k_ ≠ gb479 ∧ k_ ≠ gb483 ∧ k_ ≠ gb485) u484002 x484002_1) := ⟨by (with_reducible repeat (first | apply Kd.S_alloc | apply Kd.S_drewN | apply Kd.S_drew)); exact Kd.S_mono (Kd.S_far (p := ⟨gb485, 2, none⟩) (Kd.S_far (p := ⟨gb485, 1, none⟩) (Kd.S_far (p := ⟨gb485, 0, none⟩) (Kd.S_mono HO_484002.out (fun k_ hk => (⟨hk, hk.2⟩ : _ ∧ k_ ≠ gb485))) (fun _ hk => hk.2) (.int .i64 ((rd_T27 l0_2 x15_1).f0))) (fun _ hk => hk.2) (.slice A484_1 ((rd_T27 l0_2 x15_1).f1).length c484_1)) (fun _ hk => hk.2) (.slice A484_2 ((rd_T27 l0_2 x15_1).f2).length c484_2)) (fun _ hk => ⟨hk.1.1.1, ⟨hk.1.1.2.1, ⟨hk.1.1.2.2.1, ⟨hk.1.1.2.2.2, hk.1.2⟩⟩⟩⟩)⟩
   have n2_ : Aside0 ((((w22.setCell ⟨gb485, 0, none⟩ (.int .i64 ((rd_T27 l0_2 x15_1).f0))).setCell ⟨gb485, 1, none⟩ (.slice A484_1 ((rd_T27 l0_2 x15_1).f1).length c484_1)).setCell ⟨gb485, 2, none⟩ (.slice A484_2 ((rd_T27 l0_2 x15_1).f2).length c484_2)).heap[gb478]? = some (.cells #[.int .i64 a0_0, .slice A0_1 l0_1.length c0_1, .slice (some ad484) l0_2.length c0_2] 27 (0, 0))) := ⟨by (with_reducible repeat (first | refine blk_drewN ?_ _ | refine blk_drew ?_ | refine blk_alloc ?_ _)); refine blk_far ?_ NB478_485.out _; (with_reducible repeat (first | refine blk_drewN ?_ _ | refine blk_drew ?_ | refine blk_alloc ?_ _)); refine blk_far ?_ NB478_485.out _; (with_reducible repeat (first | refine blk_drewN ?_ _ | refine blk_drew ?_ | refine blk_alloc ?_ _)); refine blk_far ?_ NB478_485.out _; (with_reducible repeat (first | refine blk_drewN ?_ _ | refine blk_drew ?_ | refine blk_alloc ?_ _)); exact BK478.out⟩
   have n3_ : Aside0 ((((w22.setCell ⟨gb485, 0, none⟩ (.int .i64 ((rd_T27 l0_2 x15_1).f0))).setCell ⟨gb485, 1, none⟩ (.slice A484_1 ((rd_T27 l0_2 x15_1).f1).length c484_1)).setCell ⟨gb485, 2, none⟩ (.slice A484_2 ((rd_T27 l0_2 x15_1).f2).length c484_2)).heap[gb479]? = some (.cells #[.int .i64 0, .slice none 0 0, .slice none 0 0] 27 (0, 0))) := ⟨by (with_reducible repeat (first | refine blk_drewN ?_ _ | refine blk_drew ?_ | refine blk_alloc ?_ _)); refine blk_far ?_ NB479_485.out _; (with_reducible repeat (first | refine blk_drewN ?_ _ | refine blk_drew ?_ | refine blk_alloc ?_ _)); refine blk_far ?_ NB479_485.out _; (with_reducible repeat (first | refine blk_drewN ?_ _ | refine blk_drew ?_ | refine blk_alloc ?_ _)); refine blk_far ?_ NB479_485.out _; (with_reducible repeat (first | refine blk_drewN ?_ _ | refine blk_drew ?_ | refine blk_alloc ?_ _)); exact BK479.out⟩
   have n4_ : Aside0 ((((w22.setCell ⟨gb485, 0, none⟩ (.int .i64 ((rd_T27 l0_2 x15_1).f0))).setCell ⟨gb485, 1, none⟩ (.slice A484_1 ((rd_T27 l0_2 x15_1).f1).length c484_1)).setCell ⟨gb485, 2, none⟩ (.slice A484_2 ((rd_T27 l0_2 x15_1).f2).length c484_2)).heap[gb483]? = some (.cells #[.int .i64 a0_0, .slice Ao10 t480.length co10, u484002] 27 (0, 0))) := ⟨by (with_reducible repeat (first | refine blk_drewN ?_ _ | refine blk_drew ?_ | refine blk_alloc ?_ _)); refine blk_far ?_ NB483_485.out _; (with_reducible repeat (first | refine blk_drewN ?_ _ | refine blk_drew ?_ | refine blk_alloc ?_ _)); refine blk_far ?_ NB483_485.out _; (with_reducible repeat (first | refine blk_drewN ?_ _ | refine blk_drew ?_ | refine blk_alloc ?_ _)); refine blk_far ?_ NB483_485.out _; (with_reducible repeat (first | refine blk_drewN ?_ _ | refine blk_drew ?_ | refine blk_alloc ?_ _)); exact BK483.out⟩
   have n5_ : Aside0 ((((w22.setCell ⟨gb485, 0, none⟩ (.int .i64 ((rd_T27 l0_2 x15_1).f0))).setCell ⟨gb485, 1, none⟩ (.slice A484_1 ((rd_T27 l0_2 x15_1).f1).length c484_1)).setCell ⟨gb485, 2, none⟩ (.slice A484_2 ((rd_T27 l0_2 x15_1).f2).length c484_2)).heap[gb485]? = some (.cells #[.int .i64 ((rd_T27 l0_2 x15_1).f0), .slice A484_1 ((rd_T27 l0_2 x15_1).f1).length c484_1, .slice A484_2 ((rd_T27 l0_2 x15_1).f2).length c484_2] 27 (0, 0))) := ⟨by (with_reducible repeat (first | refine blk_drewN ?_ _ | refine blk_drew ?_ | refine blk_alloc ?_ _)); refine blk_put (cs := #[.int .i64 ((rd_T27 l0_2 x15_1).f0), .slice A484_1 ((rd_T27 l0_2 x15_1).f1).length c484_1, .slice none 0 0]) ?_ 2 _ rfl; (with_reducible repeat (first | refine blk_drewN ?_ _ | refine blk_drew ?_ | refine blk_alloc ?_ _)); refine blk_put (cs := #[.int .i64 ((rd_T27 l0_2 x15_1).f0), .slice none 0 0, .slice none 0 0]) ?_ 1 _ rfl; (with_reducible repeat (first | refine blk_drewN ?_ _ | refine blk_drew ?_ | refine blk_alloc ?_ _)); refine blk_put (cs := #[.int .i64 0, .slice none 0 0, .slice none 0 0]) ?_ 0 _ rfl; (with_reducible repeat (first | refine blk_drewN ?_ _ | refine blk_drew ?_ | refine blk_alloc ?_ _)); exact BK485.out⟩
   have n6_ : Aside0 (Below w.heap.size w (((w22.setCell ⟨gb485, 0, none⟩ (.int .i64 ((rd_T27 l0_2 x15_1).f0))).setCell ⟨gb485, 1, none⟩ (.slice A484_1 ((rd_T27 l0_2 x15_1).f1).length c484_1)).setCell ⟨gb485, 2, none⟩ (.slice A484_2 ((rd_T27 l0_2 x15_1).f2).length c484_2))) := ⟨blw⟩
   (try clear HO_484001)
   (try clear HO_484002)
   (try clear BK478)
   (try clear BK479)
   (try clear BK483)
   (try clear BK485)
   (try clear HB)
   generalize (((w22.setCell ⟨gb485, 0, none⟩ (.int .i64 ((rd_T27 l0_2 x15_1).f0))).setCell ⟨gb485, 1, none⟩ (.slice A484_1 ((rd_T27 l0_2 x15_1).f1).length c484_1)).setCell ⟨gb485, 2, none⟩ (.slice A484_2 ((rd_T27 l0_2 x15_1).f2).length c484_2)) = w27 at n0_ n1_ n2_ n3_ n4_ n5_ n6_ ⊢
   revert n0_ n1_ n2_ n3_ n4_ n5_ n6_
   intro HO_484001 HO_484002 BK478 BK479 BK483 BK485 HB
   have n0_ := Aside0.mk (Kd.R_drew HO_484001.out)
   have n1_ := Aside0.mk (Kd.S_drew HO_484002.out)
   have n2_ := Aside0.mk (blk_drew BK478.out)
   have n3_ := Aside0.mk (blk_drew BK479.out)
   have n4_ := Aside0.mk (blk_drew BK483.out)
   have n5_ := Aside0.mk (blk_drew BK485.out)
   have n6_ := Aside0.mk (below_drew1 HB.out)
   clear HO_484001
   clear HO_484002
   clear BK478
   clear BK479
   clear BK483
   clear BK485
   clear HB
   revert n0_ n1_ n2_ n3_ n4_ n5_ n6_
   intro HO_484001 HO_484002 BK478 BK479 BK483 BK485 HB
   refine start_ (n := 8) (S := fun w' => w'.cell? ⟨gb483, 0, none⟩ = some (.int .i64 a0_0) ∧ w'.cell? ⟨gb483, 1, none⟩ = some (.slice Ao10 t480.length co10) ∧ w'.cell? ⟨gb483, 2, none⟩ = some (u484002) ∧ w'.cell? ⟨gb485, 0, none⟩ = some (.int .i64 ((rd_T27 l0_2 x15_1).f0)) ∧ w'.cell? ⟨gb485, 1, none⟩ = some (.slice A484_1 ((rd_T27 l0_2 x15_1).f1).length c484_1) ∧ w'.cell? ⟨gb485, 2, none⟩ = some (.slice A484_2 ((rd_T27 l0_2 x15_1).f2).length c484_2)) (ds := [7]) #[false,false,false,false,false,false,false,false] kr rfl rfl ⟨(blk_cell BK483.out 0).trans rfl, (blk_cell BK483.out 1).trans rfl, (blk_cell BK483.out 2).trans rfl, (blk_cell BK485.out 0).trans rfl, (blk_cell BK485.out 1).trans rfl, (blk_cell BK485.out 2).trans rfl⟩ (fun hHeld => ?_); refine with_tabW impl_cloneType.tab5 impl_cloneType.bits5 (fun HT_ HW_ => ?_)
   generalize w27.drew = w28 at HO_484001 HO_484002 BK478 BK479 BK483 BK485 HB hHeld ⊢
   refine pure_ (i := 0) (N := some 19) (v := ?_) (a' := ?_) (bm 8 1) rfl rfl (any_of HT_.out kr) qi (Or.inl ⟨by rfl, ?_⟩) ?_ ?_
   rotate_left
   ·intro w'
    go_simp
    with_reducible rfl
   rotate_left
   ·simp only [sx]
    rfl
   refine take_ (i := 1) (N := some 20) (v := ?_) (a' := ?_) (bm 8 3) rfl rfl (take_ofW HT_.out HW_.out kr) qi (Or.inl ⟨by rfl, ?_⟩) hHeld ?_ ?_
   rotate_left
   ·rintro w' ⟨s0, s1, s2, s3, s4, s5⟩
    go_simp
    with_reducible rfl
   rotate_left
   ·simp only [sx]
    rfl
   refine take_ (i := 2) (N := some 21) (v := ?_) (a' := ?_) (bm 8 7) rfl rfl (take_ofW HT_.out HW_.out kr) qi (Or.inl ⟨by rfl, ?_⟩) hHeld ?_ ?_
   rotate_left
   ·rintro w' ⟨s0, s1, s2, s3, s4, s5⟩
    go_simp
    with_reducible rfl
   rotate_left
   ·simp only [sx]
    rfl
   refine one_ (i := 3) (N := some 22) (bm 8 15) rfl rfl (one_of HT_.out kr) (by decide) (fun K hK => ?_)
   refine goes_ Try.func34 kr rfl #[.agg #[.int .i64 ((rd_T27 l0_2 x15_1).f0), .slice A484_1 ((rd_T27 l0_2 x15_1).f1).length c484_1, .slice A484_2 ((rd_T27 l0_2 x15_1).f2).length c484_2]] (by rfl) rfl rfl mpw ?_
   with_reducible refine (ih k1 (by have := HK1.out; omega) ((rd_T27 l0_2 x15_1).f0) _ _ ((rd_T27 l0_2 x15_1).f1) _ _ ((rd_T27 l0_2 x15_1).f2) t486 t487 t490 _ ?side1 ?side2 ?side3 ?side4 A20.out).mono ?_
   (case side1 => have X_ := HR484_1; exact cbl)
   (case side2 => exact HC484_1.out)
   (case side3 => have X_ := HR484_2; exact cbl)
   (case side4 => exact HC484_2.out)
   rintro e w29 ⟨v488, v491, rfl, ho0, ho1, hb⟩
   refine ⟨_, rfl, ?_⟩
   obtain ⟨N30, EN30⟩ := Ow.name_size hb
   have n0_ := Aside0.mk (Kd.R_elder' (by (with_reducible repeat (first | apply Kd.R_alloc | apply Kd.R_drewN | apply Kd.R_drew)); exact HO_484001.out) (Kd.R_base ho0) hb)
   have n1_ := Aside0.mk (Ow.S_ltN (Kd.S_told (Kd.S_told (Kd.S_old (by (with_reducible repeat (first | apply Kd.S_alloc | apply Kd.S_drewN | apply Kd.S_drew)); exact HO_484002.out) hb) (Kd.R_base ho0)) (Kd.S_base ho1)) EN30.out)
   have n2_ := Aside0.mk (Kd.R_lower (Ow.R_geN (Kd.R_new' ho0 (Kd.R_lt (by (with_reducible repeat (first | apply Kd.R_alloc | apply Kd.R_drewN | apply Kd.R_drew)); exact HO_484001.out))) EN30.out) (below_size blw))
   have n3_ := Aside0.mk (Kd.S_lower (Ow.S_geN (Kd.S_newB (Kd.S_newB (Kd.S_newB (Kd.S_newB (Kd.S_new' (Kd.S_new' ho1 (Kd.R_lt (by (with_reducible repeat (first | apply Kd.R_alloc | apply Kd.R_drewN | apply Kd.R_drew)); exact HO_484001.out))) (Kd.S_lt (by (with_reducible repeat (first | apply Kd.S_alloc | apply Kd.S_drewN | apply Kd.S_drew)); exact HO_484002.out))) (g := gb478) (o := .cells #[.int .i64 a0_0, .slice A0_1 l0_1.length c0_1, .slice (some ad484) l0_2.length c0_2] 27 (0, 0)) bkw) (g := gb479) (o := .cells #[.int .i64 0, .slice none 0 0, .slice none 0 0] 27 (0, 0)) bkw) (g := gb483) (o := .cells #[.int .i64 a0_0, .slice Ao10 t480.length co10, u484002] 27 (0, 0)) bkw) (g := gb485) (o := .cells #[.int .i64 ((rd_T27 l0_2 x15_1).f0), .slice A484_1 ((rd_T27 l0_2 x15_1).f1).length c484_1, .slice A484_2 ((rd_T27 l0_2 x15_1).f2).length c484_2] 27 (0, 0)) bkw) EN30.out) (below_size blw))
   have n4_ := Aside0.mk (blk_below (g := gb478) (o := .cells #[.int .i64 a0_0, .slice A0_1 l0_1.length c0_1, .slice (some ad484) l0_2.length c0_2] 27 (0, 0)) bkw hb)
   have n5_ := Aside0.mk (blk_below (g := gb479) (o := .cells #[.int .i64 0, .slice none 0 0, .slice none 0 0] 27 (0, 0)) bkw hb)
   have n6_ := Aside0.mk (blk_below (g := gb483) (o := .cells #[.int .i64 a0_0, .slice Ao10 t480.length co10, u484002] 27 (0, 0)) bkw hb)
   have n7_ := Aside0.mk (blk_below (g := gb485) (o := .cells #[.int .i64 ((rd_T27 l0_2 x15_1).f0), .slice A484_1 ((rd_T27 l0_2 x15_1).f1).length c484_1, .slice A484_2 ((rd_T27 l0_2 x15_1).f2).length c484_2] 27 (0, 0)) bkw hb)
   have n8_ := Aside0.mk (below_step blw hb)
   clear HO_484001
   clear HO_484002
   clear BK478
   clear BK479
   clear BK483
   clear BK485
   clear HB
   revert n0_ n1_ n2_ n3_ n4_ n5_ n6_ n7_ n8_
   intro HO_484001 HO_484002 HO489 HO492 BK478 BK479 BK483 BK485 HB
   (try clear hb)
   (try clear hb2)
   (try clear hk)
   (try clear hi)
   (try clear ho0)
   (try clear ho1)
   obtain ⟨Ao32, co32, eo32⟩ := Kd.R_slice HO489.out
   (first | subst eo32 | (injection eo32 with f1_ f2_ f3_; have f4_ := f1_.symm; have f5_ := f3_.symm; clear f1_ f2_ f3_; subst f4_; subst f5_))
   obtain ⟨Ao33, co33, eo33⟩ := Kd.S_slice HO492.out
   (first | subst eo33 | (injection eo33 with f1_ f2_ f3_; have f4_ := f1_.symm; have f5_ := f3_.symm; clear f1_ f2_ f3_; subst f4_; subst f5_))
   refine hK.out _ _ ⟨(blk_cell BK483.out 0).trans rfl, (blk_cell BK483.out 1).trans rfl, (blk_cell BK483.out 2).trans rfl, (blk_cell BK485.out 0).trans rfl, (blk_cell BK485.out 1).trans rfl, (blk_cell BK485.out 2).trans rfl⟩ (fun hHeld => ?_)
   clear hK K
   refine norm_ (a' := ?_) ?_ ?_
   rotate_left
   ·show Act.put _ (some 22) _ = _
    simp only [sx]
    rfl
   refine one_ (i := 4) (N := some 23) (bm 8 31) rfl rfl (one_of HT_.out kr) (by decide) (fun K hK => ?_)
   refine value_ (w1 := ?_) (v := ?_) (by rfl) rfl ?_ ?_
   rotate_left 2
   ·go_simp
    constructor
    ·rfl
    ·rfl
   refine hK.out _ _ ⟨(blk_cell (blk_alloc BK483.out _) 0).trans rfl, (blk_cell (blk_alloc BK483.out _) 1).trans rfl, (blk_cell (blk_alloc BK483.out _) 2).trans rfl, (blk_cell (blk_alloc BK485.out _) 0).trans rfl, (blk_cell (blk_alloc BK485.out _) 1).trans rfl, (blk_cell (blk_alloc BK485.out _) 2).trans rfl⟩ (fun hHeld => ?_)
   clear hK K
   refine norm_ (a' := ?_) ?_ ?_
   rotate_left
   ·show Act.put _ (some 23) _ = _
    simp only [sx]
    rfl
   refine one_ (i := 5) (N := some 24) (bm 8 63) rfl rfl (one_of HT_.out kr) (by decide) (fun K hK => ?_)
   refine Kd.S_append_step k27 (w0 := w) w.heap.size (by rfl) (.tmp 20) (.tmp 23) 25 27 (.agg #[(.int .i64 0), (.slice none 0 0), (.slice none 0 0)]) 56 rfl Try.underlying25 info27 rfl (by decide) (by omega) u484002 x484002_1 (⟨t486, t487, t490⟩ : S27) [.int .i64 t486, .slice Ao32 t487.length co32, .slice Ao33 t490.length co33] (fun k_ => some k_ ≠ (.slice Ao10 t480.length co10 : Value).ownBlock ∧ k_ ≠ gb478 ∧ k_ ≠ gb479 ∧ k_ ≠ gb483 ∧ k_ ≠ gb485) (fun k_ => N30 ≤ k_ ∧ ((fun k_ => some k_ ≠ (.slice Ao10 t480.length co10 : Value).ownBlock ∧ k_ ≠ gb478 ∧ k_ ≠ gb479 ∧ k_ ≠ gb483 ∧ k_ ≠ gb485)) k_ ∧ some k_ ≠ (u484002 : Value).ownBlock) rfl rfl ?aP (fun _ hk => ⟨hk.2.1, hk.2.2⟩) ?aF ?aO ?aB ?aS ?aL ?_
   (case aP => exact k27_mkA _ _ _ (⟨t486, t487, t490⟩ : S27) (Kd.R_mono (Kd.R_types (Kd.R_types (Kd.R_types (Kd.R_types (Kd.R_apart' (HO489.out) (Kd.S_typed HO_484002.out) (by decide)) BK478.out (by decide)) BK479.out (by decide)) BK483.out (by decide)) BK485.out (by decide)) (fun k_ hk => ⟨hk.1.1.1.1.1.2, ⟨hk.1.1.1.1.1.1.2, ⟨hk.1.1.1.2, ⟨hk.1.1.2, ⟨hk.1.2, hk.2⟩⟩⟩⟩, hk.1.1.1.1.2⟩)) (Kd.S_mono (HO492.out) (fun k_ hk => ⟨⟨hk.2, ⟨hk.1.1.1.1.1.1.2, ⟨hk.1.1.1.1.2, ⟨hk.1.1.1.2, ⟨hk.1.1.2, hk.1.2⟩⟩⟩⟩, hk.1.1.1.1.1.2⟩, hk.1.1.1.1.1.1.1⟩)))
   (case aB => exact blw)
   (case aF => exact (fun k_ hk => ⟨Kd.fresh' (Kd.R_lt (by (with_reducible repeat (first | apply Kd.R_alloc | apply Kd.R_drewN | apply Kd.R_drew)); exact HO_484001.out)) k_ hk, Kd.freshB (g := gb478) (o := .cells #[.int .i64 a0_0, .slice A0_1 l0_1.length c0_1, .slice (some ad484) l0_2.length c0_2] 27 (0, 0)) bkw k_ hk, Kd.freshB (g := gb479) (o := .cells #[.int .i64 0, .slice none 0 0, .slice none 0 0] 27 (0, 0)) bkw k_ hk, Kd.freshB (g := gb483) (o := .cells #[.int .i64 a0_0, .slice Ao10 t480.length co10, u484002] 27 (0, 0)) bkw k_ hk, Kd.freshB (g := gb485) (o := .cells #[.int .i64 ((rd_T27 l0_2 x15_1).f0), .slice A484_1 ((rd_T27 l0_2 x15_1).f1).length c484_1, .slice A484_2 ((rd_T27 l0_2 x15_1).f2).length c484_2] 27 (0, 0)) bkw k_ hk⟩))
   (case aO => exact (by (with_reducible repeat (first | apply Kd.S_alloc | apply Kd.S_drewN | apply Kd.S_drew)); exact Kd.S_mono HO_484002.out (fun k_ hk => ⟨⟨hk.1.1.1.1, ⟨hk.1.1.1.2.1, ⟨hk.1.1.1.2.2.1, ⟨hk.1.1.1.2.2.2.1, hk.1.1.1.2.2.2.2⟩⟩⟩⟩, fun e_ => Nat.not_le_of_lt (hk.2) e_.1⟩)))
   (case aS => exact (below_size blw))
   (case aL => have := LMc21.out; omega)
   intro v494 w31 ho hb hg hat
   rw [← Ny493.out] at ho
   have n0_ := Aside0.mk (Kd.R_over' (by (with_reducible repeat (first | apply Kd.R_alloc | apply Kd.R_drewN | apply Kd.R_drew)); exact HO_484001.out) (Kd.S_typed (by (with_reducible repeat (first | apply Kd.S_alloc | apply Kd.S_drewN | apply Kd.S_drew)); exact HO_484002.out)) (by decide) hg)
   have n1_ := Aside0.mk (blk_grown (g := gb478) (o := .cells #[.int .i64 a0_0, .slice A0_1 l0_1.length c0_1, .slice (some ad484) l0_2.length c0_2] 27 (0, 0)) bkw hg (Kd.S_away HO_484002.out (fun _ hk => hk.1.1.1.2.1)))
   have n2_ := Aside0.mk (blk_grown (g := gb479) (o := .cells #[.int .i64 0, .slice none 0 0, .slice none 0 0] 27 (0, 0)) bkw hg (Kd.S_away HO_484002.out (fun _ hk => hk.1.1.1.2.2.1)))
   have n3_ := Aside0.mk (blk_grown (g := gb483) (o := .cells #[.int .i64 a0_0, .slice Ao10 t480.length co10, u484002] 27 (0, 0)) bkw hg (Kd.S_away HO_484002.out (fun _ hk => hk.1.1.1.2.2.2.1)))
   have n4_ := Aside0.mk (blk_grown (g := gb485) (o := .cells #[.int .i64 ((rd_T27 l0_2 x15_1).f0), .slice A484_1 ((rd_T27 l0_2 x15_1).f1).length c484_1, .slice A484_2 ((rd_T27 l0_2 x15_1).f2).length c484_2] 27 (0, 0)) bkw hg (Kd.S_away HO_484002.out (fun _ hk => hk.1.1.1.2.2.2.2)))
   have n5_ := Aside0.mk (hb)
   have n6_ := Aside0.mk (ho)
   clear HO_484001
   clear BK478
   clear BK479
   clear BK483
   clear BK485
   clear HB
   clear HO_484002
   clear HO489
   clear HO492
   revert n0_ n1_ n2_ n3_ n4_ n5_ n6_
   intro HO_484001 BK478 BK479 BK483 BK485 HB HO495
   clear ho hb hg hat
   obtain ⟨Ao34, co34, eo34⟩ := Kd.S_slice HO495.out
   (first | subst eo34 | (injection eo34 with f1_ f2_ f3_; have f4_ := f1_.symm; have f5_ := f3_.symm; clear f1_ f2_ f3_; subst f4_; subst f5_))
   refine hK.out _ _ ⟨(blk_cell BK483.out 0).trans rfl, (blk_cell BK483.out 1).trans rfl, (blk_cell BK483.out 2).trans rfl, (blk_cell BK485.out 0).trans rfl, (blk_cell BK485.out 1).trans rfl, (blk_cell BK485.out 2).trans rfl⟩ (fun hHeld => ?_)
   clear hK K
   refine norm_ (a' := ?_) ?_ ?_
   rotate_left
   ·show Act.put _ (some 24) _ = _
    simp only [sx]
    rfl
   refine pure_ (i := 6) (N := some 25) (v := ?_) (a' := ?_) (bm 8 127) rfl rfl (any_of HT_.out kr) qi (Or.inl ⟨by rfl, ?_⟩) ?_ ?_
   rotate_left
   ·intro w'
    go_simp
    with_reducible rfl
   rotate_left
   ·simp only [sx]
    rfl
   refine last_ (i := 7) (N := none) (bm 8 255) rfl rfl (one_of HT_.out kr) (by decide) (fun K hK => ?_)
   have hs35 : w31.cell? ⟨gb483, 2, none⟩ = some (u484002) := (blk_cell BK483.out 2).trans rfl
   have hfs35 := blk_frozen BK483.out 2
   have hns35_0 := NB478_483.out
   have hns35_1 := NB479_483.out
   have hns35_3 := NB485_483.out
   have hms35_0 := NB483_478.out
   have hms35_1 := NB483_479.out
   have hms35_3 := NB483_485.out
   refine skip_ (w1 := ?_) (by rfl) rfl ?_ ?_
   rotate_left
   ·go_simp
    rfl
   refine hK.out _ _ ?_
   clear hK K
   refine done_ (done_of HT_.out kr) ?_
   try go_wp2
   go_roundg k1
   case measure => have := HK1.out; omega
   case rel => exact ⟨(wrap64 (x15_1 + 1)), (y493), (.slice Ao34 y493.length co34), rfs, H', ⟨by have := HK1.out; omega⟩, ⟨by (with_reducible repeat (first | apply Kd.R_alloc | apply Kd.R_drewN | apply Kd.R_drew)); exact Kd.R_mono (Kd.R_far (p := ⟨gb483, 2, none⟩) (Kd.R_types HO_484001.out BK483.out (by decide)) (fun _ hk => hk.2) (.slice Ao34 y493.length co34)) (fun _ hk => trivial)⟩, ⟨by (with_reducible repeat (first | apply Kd.S_alloc | apply Kd.S_drewN | apply Kd.S_drew)); exact Kd.S_mono (Kd.S_far (p := ⟨gb483, 2, none⟩) (Kd.S_mono HO495.out (fun k_ hk => (⟨hk, hk.2.2.2.1⟩ : _ ∧ k_ ≠ gb483))) (fun _ hk => hk.2) (.slice Ao34 y493.length co34)) (fun _ hk => ⟨hk.1.1, ⟨hk.1.2.1, ⟨hk.1.2.2.1, hk.1.2.2.2.1⟩⟩⟩)⟩, ⟨by (with_reducible repeat (first | refine blk_drewN ?_ _ | refine blk_drew ?_ | refine blk_alloc ?_ _)); refine blk_far ?_ NB478_483.out _; (with_reducible repeat (first | refine blk_drewN ?_ _ | refine blk_drew ?_ | refine blk_alloc ?_ _)); exact BK478.out⟩, ⟨by (with_reducible repeat (first | refine blk_drewN ?_ _ | refine blk_drew ?_ | refine blk_alloc ?_ _)); refine blk_far ?_ NB479_483.out _; (with_reducible repeat (first | refine blk_drewN ?_ _ | refine blk_drew ?_ | refine blk_alloc ?_ _)); exact BK479.out⟩, ⟨by (with_reducible repeat (first | refine blk_drewN ?_ _ | refine blk_drew ?_ | refine blk_alloc ?_ _)); refine blk_put (cs := #[.int .i64 a0_0, .slice Ao10 t480.length co10, u484002]) ?_ 2 _ rfl; (with_reducible repeat (first | refine blk_drewN ?_ _ | refine blk_drew ?_ | refine blk_alloc ?_ _)); exact BK483.out⟩, ⟨blw⟩⟩

end Go.Proofs.Ytaakdfbfgabdbaa.Pt
end
section
namespace Go.Proofs.Ytaakdfbfgabdbaa.Pt
open Go.RowKit Go.Proofs.YtaakdfbfgabdbaaW.PrintWords Go.Proofs.YtaakdfbfgabdbaaW.PrintLast Go.Proofs.Ytaakdfbfgabdbaa.Pl Go.Proofs.Ytaakdfbfgabdbaa.Ext
set_option linter.unusedVariables false
set_option linter.unusedSimpArgs false
theorem spec_l3Copy_ev : ∀ x : S27, SmType x → Ev (fun k => spec_l3Copy.f k x.f0 x.f1 x.f2) (x.f0, x.f1, x.f2) := by
  refine indTypeI fun x ih hx => ?_
  have hp1 := hx.p1
  have hp2 := hx.p2
  refine Ev.up ?_
  simp only [spec_l3Copy.f]
  refine Ev.none_bind (Ev.pos (by simp; omega) ?_)
  suffices h : ∀ m i, i + m = x.f2.length → Ev (fun k => spec_l3Copy.l0 k (i : Int) x.f0 x.f1 x.f2 x.f0 x.f1 (x.f2.take i)) (x.f0, x.f1, x.f2) by simpa using h x.f2.length 0 (by omega)
  intro m
  induction m with
  | zero =>
    intro i hi
    refine Ev.up ?_
    simp only [spec_l3Copy.l0]
    refine Ev.neg (by omega) (Ev.const ?_)
    rw [List.take_of_length_le (by omega)]
  | succ m ih2 =>
    intro i hi
    have hlt : i < x.f2.length := by omega
    have hm := mem_getD x.f2 z27 i hlt
    refine Ev.up ?_
    simp only [spec_l3Copy.l0]
    refine Ev.pos (by omega) (Ev.pos (by omega) (Ev.bind (ih _ hm (hp2.2 _ hm)) (Ev.pos (by rw [List.length_take]; omega) ?_)))
    rw [w1' hlt hp2.1]
    simp only [rd_T27, Int.toNat_natCast, etaType]
    have e : x.f2.take i ++ [x.f2.getD i z27] = x.f2.take (i + 1) := by
      rw [List.take_succ_eq_append_getElem hlt, List.getD_eq_getElem?_getD, List.getElem?_eq_getElem hlt]
      rfl
    have h2 := ih2 (i + 1) (by omega)
    rw [← e] at h2
    exact h2
theorem impl_cloneType_ev : ∀ x : S27, SmType x → Ev (fun k => impl_cloneType.f k x.f0 x.f1 x.f2) (x.f0, x.f1, x.f2) := by
  refine indTypeI fun x ih hx => ?_
  have hp1 := hx.p1
  have hp2 := hx.p2
  refine Ev.up ?_
  simp only [impl_cloneType.f]
  refine Ev.fix (a := x.f1) (by unfold slices_Clone_string_string.f; rw [if_pos (by omega)]) ?_
  suffices h : ∀ m i, i + m = x.f2.length → Ev (fun k => impl_cloneType.l0 k x.f2 (x.f2.length : Int) (i : Int) x.f0 x.f1 (x.f2.take i)) (x.f0, x.f1, x.f2) by simpa using h x.f2.length 0 (by omega)
  intro m
  induction m with
  | zero =>
    intro i hi
    refine Ev.up ?_
    simp only [impl_cloneType.l0]
    refine Ev.neg (by omega) (Ev.const ?_)
    rw [List.take_of_length_le (by omega)]
  | succ m ih2 =>
    intro i hi
    have hlt : i < x.f2.length := by omega
    have hm := mem_getD x.f2 z27 i hlt
    refine Ev.up ?_
    simp only [impl_cloneType.l0]
    refine Ev.pos (by omega) (Ev.pos (by omega) (Ev.pos (by omega) (Ev.bind (ih _ hm (hp2.2 _ hm)) (Ev.pos (by rw [List.length_take]; omega) ?_))))
    rw [w1' hlt hp2.1]
    simp only [rd_T27, Int.toNat_natCast, etaType]
    have e : x.f2.take i ++ [x.f2.getD i z27] = x.f2.take (i + 1) := by
      rw [List.take_succ_eq_append_getElem hlt, List.getD_eq_getElem?_getD, List.getElem?_eq_getElem hlt]
      rfl
    have h2 := ih2 (i + 1) (by omega)
    rw [← e] at h2
    exact h2

end Go.Proofs.Ytaakdfbfgabdbaa.Pt
end
section
namespace Go.Proofs.Ytaakdfbfgabdbaa.Pt
open Go.RowKit Go.Proofs.YtaakdfbfgabdbaaW.PrintWords Go.Proofs.YtaakdfbfgabdbaaW.PrintLast Go.Proofs.Ytaakdfbfgabdbaa.Pl Go.Proofs.Ytaakdfbfgabdbaa.Ext
set_option linter.unusedVariables false
set_option linter.unusedSimpArgs false
theorem i64_and255 (n : Int) : Go.bits .and .i64 n 255 = n % 256 := by
  have h255 : (BitVec.ofInt 64 255).toNat = 2 ^ 8 - 1 := by decide
  have key : (BitVec.ofInt 64 n &&& BitVec.ofInt 64 255).toNat = (n % ((2 ^ 64 : Nat) : Int)).toNat % 2 ^ 8 := by
    rw [BitVec.toNat_and, BitVec.toNat_ofInt, h255, Nat.and_two_pow_sub_one_eq_mod]
  show IntKind.i64.wrap ((BitVec.ofInt 64 n &&& BitVec.ofInt 64 255).toNat : Nat) = n % 256
  rw [key, IntKind.wrap_i64]
  omega
theorem and255 (x : Int) : 0 ≤ Go.bits .and .i64 x 255 ∧ Go.bits .and .i64 x 255 ≤ 255 := by
  rw [i64_and255]
  omega
theorem l1Byte_ev (l : List Int) (hl : l.length ≤ 1048576) (i h : Int) (h0 : 0 ≤ i) (h1 : i ≤ l.length) : ∃ x i' h', spec_l1Byte.f l i h = some (x, i', h') ∧ 0 ≤ x ∧ x ≤ 255 ∧ 0 ≤ i' ∧ i' ≤ l.length := by
  unfold spec_l1Byte.f
  by_cases hc : i < (l.length : Int)
  · rw [if_pos hc, if_pos h0]
    have e : wrap64 (i + 1) = i + 1 := w64 (by omega) (by omega)
    exact ⟨_, _, _, rfl, (and255 _).1, (and255 _).2, by omega, by omega⟩
  · rw [if_neg hc]
    exact ⟨_, _, _, rfl, (and255 _).1, (and255 _).2, h0, h1⟩
theorem l1Below_ev (l : List Int) (hl : l.length ≤ 1048576) (i h n : Int) (h0 : 0 ≤ i) (h1 : i ≤ l.length) (hn : 0 < n) (hn2 : n ≤ 256) : ∃ x i' h', spec_l1Below.f l i h n = some (x, i', h') ∧ 0 ≤ x ∧ x < n ∧ 0 ≤ i' ∧ i' ≤ l.length := by
  obtain ⟨x, i', h', e, a, b, c, d⟩ := l1Byte_ev l hl i h h0 h1
  unfold spec_l1Below.f
  rw [if_neg (by omega), if_pos hn2, e]
  simp only [Option.bind_some]
  rw [if_neg (by omega)]
  exact ⟨_, _, _, rfl, Int.tmod_nonneg _ a, Int.tmod_lt_of_pos _ hn, c, d⟩
theorem l1Pick_ev (l : List Int) (hl : l.length ≤ 1048576) (i h : Int) (xs : List ByteArray) (h0 : 0 ≤ i) (h1 : i ≤ l.length) (hn : 0 < xs.length) (hn2 : xs.length ≤ 256) : ∃ s i' h', spec_l1Pick.f l i h xs = some (s, i', h') ∧ s ∈ xs ∧ 0 ≤ i' ∧ i' ≤ l.length := by
  obtain ⟨x, i', h', e, a, b, c, d⟩ := l1Below_ev l hl i h (xs.length : Int) h0 h1 (by omega) (by omega)
  unfold spec_l1Pick.f
  rw [e]
  simp only [Option.bind_some]
  rw [if_pos a, if_pos b]
  obtain ⟨k, rfl⟩ : ∃ k : Nat, x = k := ⟨x.toNat, by omega⟩
  exact ⟨_, _, _, rfl, by rw [rdOf_str]; exact mem_getD xs _ k (by omega), c, d⟩
theorem l1PickInt_ev' (l : List Int) (hl : l.length ≤ 1048576) (i h : Int) (xs : List Int) (h0 : 0 ≤ i) (h1 : i ≤ l.length) (hn : 0 < xs.length) (hn2 : xs.length ≤ 256) : ∃ s i' h', spec_l1PickInt.f l i h xs = some (s, i', h') ∧ s ∈ xs ∧ 0 ≤ i' ∧ i' ≤ l.length := by
  obtain ⟨x, i', h', e, a, b, c, d⟩ := l1Below_ev l hl i h (xs.length : Int) h0 h1 (by omega) (by omega)
  unfold spec_l1PickInt.f
  rw [e]
  simp only [Option.bind_some]
  rw [if_pos a, if_pos b]
  obtain ⟨k, rfl⟩ : ∃ k : Nat, x = k := ⟨x.toNat, by omega⟩
  refine ⟨_, _, _, rfl, ?_, c, d⟩
  have hk : k < xs.length := by omega
  simp [rd, hk]
theorem l1New_ev (l : List Int) (hl : l.length ≤ 1048576) : ∃ h, Ev (fun k => spec_l1New.f k l) (l, 0, h) := by
  simp only [spec_l1New.f]
  suffices hh : ∀ m i (x : Int), i + m = l.length → ∃ h, Ev (fun k => spec_l1New.l0 k l x (i : Int)) (l, 0, h) from hh l.length 0 _ (by omega)
  intro m
  induction m with
  | zero =>
    intro i x hi
    refine ⟨x, Ev.up ?_⟩
    simp only [spec_l1New.l0]
    exact Ev.neg (by omega) (Ev.now _)
  | succ m ih =>
    intro i x hi
    by_cases hc : (i : Int) < 4000
    · obtain ⟨h, hh⟩ := ih (i + 1) (Go.bits .and .i64 (wrap64 ((wrap64 ((wrap64 (x * 131)) + (wrap64 (rd l (i : Int))))) + 7)) 1073741823) (by omega)
      refine ⟨h, Ev.up ?_⟩
      simp only [spec_l1New.l0, w1 (n := l.length) (i := i) (by omega) (by unfold maxLen; omega)]
      exact Ev.pos (by omega) (Ev.pos hc (Ev.pos (by omega) hh))
    · refine ⟨x, Ev.up ?_⟩
      simp only [spec_l1New.l0]
      exact Ev.pos (by omega) (Ev.neg hc (Ev.now _))

end Go.Proofs.Ytaakdfbfgabdbaa.Pt
end
section
namespace Go.Proofs.Ytaakdfbfgabdbaa.Pt
open Go.RowKit Go.Proofs.YtaakdfbfgabdbaaW.PrintWords Go.Proofs.YtaakdfbfgabdbaaW.PrintLast Go.Proofs.Ytaakdfbfgabdbaa.Pl Go.Proofs.Ytaakdfbfgabdbaa.Ext
set_option linter.unusedVariables false
set_option linter.unusedSimpArgs false
def small (c : Int) : Bool := decide (97 ≤ c) && decide (c ≤ 122)
def dig (c : Int) : Bool := decide (48 ≤ c) && decide (c ≤ 57)
def chkS (s : ByteArray) : Nat → Nat → Bool
  | _, 0 => true
  | i, m + 1 => (small (bt s i) || (i != 0 && dig (bt s i))) && chkS s (i + 1) m
def chkI (s : ByteArray) : Nat → Nat → Bool
  | _, 0 => true
  | i, m + 1 => (small (bt s i) || dig (bt s i)) && chkI s (i + 1) m
def isName (s : ByteArray) : Bool := chkS s 0 s.size && (decide (1 ≤ s.size ∧ s.size ≤ 4) && (s.toList != ([105, 102] : List UInt8) && s.toList != ([102, 111, 114] : List UInt8)))
theorem chk_later (s : ByteArray) : ∀ m i, i ≠ 0 → chkI s i m = chkS s i m := by
  intro m
  induction m with
  | zero => intro i h; rfl
  | succ m ih =>
    intro i h
    simp only [chkI, chkS]
    rw [ih (i + 1) (by omega)]
    have : (i != 0) = true := by simpa using h
    rw [this, Bool.true_and]
theorem isSmall_eq (c : Int) : impl_isSmall.f c = some (small c) := by
  unfold impl_isSmall.f small
  split
  · rename_i h; simp [show (97 : Int) ≤ c from h]
  · rename_i h; simp [show ¬ (97 : Int) ≤ c from h]
theorem isDigit_eq (c : Int) : impl_isDigit.f c = some (dig c) := by
  unfold impl_isDigit.f dig
  split
  · rename_i h; simp [show (48 : Int) ≤ c from h]
  · rename_i h; simp [show ¬ (48 : Int) ≤ c from h]
theorem small_pos {c : Int} (h : 97 ≤ c) (h2 : c ≤ 122) : small c = true := by simp [small, h, h2]
theorem small_neg {c : Int} (h : ¬ (97 ≤ c ∧ c ≤ 122)) : small c = false := by
  unfold small
  by_cases h1 : 97 ≤ c
  · by_cases h2 : c ≤ 122
    · exact absurd ⟨h1, h2⟩ h
    · simp [h2]
  · simp [h1]
theorem dig_pos {c : Int} (h : 48 ≤ c) (h2 : c ≤ 57) : dig c = true := by simp [dig, h, h2]
theorem dig_neg {c : Int} (h : ¬ (48 ≤ c ∧ c ≤ 57)) : dig c = false := by
  unfold dig
  by_cases h1 : 48 ≤ c
  · by_cases h2 : c ≤ 57
    · exact absurd ⟨h1, h2⟩ h
    · simp [h2]
  · simp [h1]
theorem spec_IsName_ev (s : ByteArray) (hs : s.size ≤ 1048576) : Ev (fun k => spec_IsName.f k s) (isName s) := by
  have hend : Ev (fun (k : Nat) => ((spec_l1In.f (s.size : Int) 1 4).bind fun t => (if t = true then (if s.toList = ([105, 102] : List UInt8) then (some false) else (some (s.toList != ([102, 111, 114] : List UInt8)))) else (some false)))) (decide (1 ≤ s.size ∧ s.size ≤ 4) && (s.toList != ([105, 102] : List UInt8) && s.toList != ([102, 111, 114] : List UInt8))) := by
    refine ⟨0, fun k _ => ?_⟩
    unfold spec_l1In.f
    by_cases h1 : 1 ≤ s.size
    · by_cases h2 : s.size ≤ 4
      · rw [if_pos (by omega), Option.bind_some, if_pos (by simpa using (by omega : (s.size : Int) ≤ 4))]
        by_cases h3 : s.toList = ([105, 102] : List UInt8)
        · rw [if_pos h3]; simp [h3]
        · rw [if_neg h3]
          have : (s.toList != ([105, 102] : List UInt8)) = true := by simpa using h3
          rw [this]; simp [h1, h2]
      · rw [if_pos (by omega), Option.bind_some, if_neg (by simpa using (by omega : (4 : Int) < s.size))]
        simp [h2]
    · rw [if_neg (by omega), Option.bind_some, if_neg (by simp)]
      simp [h1]
  suffices h : ∀ m i, i + m = s.size → Ev (fun k => spec_IsName.l0 k s (i : Int)) (chkS s i m && (decide (1 ≤ s.size ∧ s.size ≤ 4) && (s.toList != ([105, 102] : List UInt8) && s.toList != ([102, 111, 114] : List UInt8)))) from h s.size 0 (by omega)
  intro m
  induction m with
  | zero =>
    intro i hi
    refine Ev.up ?_
    simp only [spec_IsName.l0]
    exact Ev.neg (by omega) (Ev.eq hend (by simp [chkS]))
  | succ m ih =>
    intro i hi
    refine Ev.up ?_
    simp only [spec_IsName.l0, chkS]
    rw [w1' (n := s.size) (by omega) hs]
    have hr := ih (i + 1) (by omega)
    have hdig : ∀ (hsm : small (bt s (i : Int)) = false), Ev (fun k => if (i : Int) = 0 then some false else if bt s (i : Int) < 48 then some false else if bt s (i : Int) > 57 then some false else spec_IsName.l0 k s ((i + 1 : Nat) : Int)) ((small (bt s (i : Int)) || (i != 0 && dig (bt s (i : Int)))) && chkS s (i + 1) m && (decide (1 ≤ s.size ∧ s.size ≤ 4) && (s.toList != ([105, 102] : List UInt8) && s.toList != ([102, 111, 114] : List UInt8)))) := by
      intro hsm
      rw [hsm, Bool.false_or]
      refine Ev.cases (fun h0 => ?_) (fun h0 => Ev.cases (fun h1 => ?_) (fun h1 => Ev.cases (fun h2 => ?_) (fun h2 => ?_)))
      · obtain rfl : i = 0 := by omega
        exact Ev.const (by simp)
      · rw [dig_neg (by omega)]; exact Ev.const (by simp)
      · rw [dig_neg (by omega)]; exact Ev.const (by simp)
      · rw [dig_pos (by omega) (by omega)]
        have hi0 : (i != 0) = true := by simpa using (show i ≠ 0 by omega)
        exact Ev.eq hr (by rw [hi0, Bool.true_and, Bool.true_and])
    refine Ev.pos (by omega) (Ev.pos (by omega) (Ev.cases (fun h1 => Ev.cases (fun h2 => ?_) (fun h2 => hdig (small_neg (by omega)))) (fun h1 => hdig (small_neg (by omega)))))
    rw [small_pos (by omega) h2, Bool.true_or, Bool.true_and]
    exact hr
theorem impl_IsName_ev (s : ByteArray) (hs : s.size ≤ 1048576) : Ev (fun k => impl_IsName.f k s) (isName s) := by
  have hl : ∀ m i, i + m = s.size → Ev (fun k => impl_IsName.l0 k s (s.size : Int) (i : Int)) (chkI s i m) := by
    intro m
    induction m with
    | zero =>
      intro i hi
      refine Ev.up ?_
      simp only [impl_IsName.l0]
      exact Ev.neg (by omega) (Ev.now _)
    | succ m ih =>
      intro i hi
      refine Ev.up ?_
      simp only [impl_IsName.l0, chkI]
      rw [w1' (n := s.size) (by omega) hs]
      refine Ev.pos (by omega) (Ev.pos (by omega) (Ev.pos (by omega) (Ev.fix (isSmall_eq _) ?_)))
      refine Ev.cases (fun h1 => ?_) (fun h1 => Ev.fix (isDigit_eq _) (Ev.cases (fun h2 => ?_) (fun h2 => ?_)))
      · rw [h1, Bool.true_or, Bool.true_and]; exact ih (i + 1) (by omega)
      · rw [h2, Bool.or_true, Bool.true_and]; exact ih (i + 1) (by omega)
      · rw [Bool.eq_false_iff.2 h1, Bool.eq_false_iff.2 h2]; exact Ev.const (by simp)
  have hj : ∀ b, Ev (fun k => impl_IsName.j0 k s b) (!b && chkI s 0 s.size) := by
    intro b
    refine Ev.up ?_
    simp only [impl_IsName.j0]
    refine Ev.cases (fun h => ?_) (fun h => ?_)
    · rw [h]; exact Ev.const (by simp)
    · rw [Bool.eq_false_iff.2 h]; exact Ev.eq (hl s.size 0 (by omega)) (by simp)
  have hjt : Ev (fun k => impl_IsName.j0 k s true) false := Ev.eq (hj true) (by simp)
  have hfail : ¬ (1 ≤ s.size ∧ s.size ≤ 4) → isName s = false := by intro h; simp only [isName]; rw [decide_eq_false h]; simp
  simp only [impl_IsName.f]
  refine Ev.cases (fun h1 => ?_) (fun h1 => Ev.cases (fun h2 => ?_) (fun h2 => Ev.pos (by omega) (Ev.fix (isSmall_eq _) ?_)))
  · rw [hfail (by omega)]; exact hjt
  · rw [hfail (by omega)]; exact hjt
  · obtain ⟨n, hn⟩ : ∃ n, s.size = n + 1 := ⟨s.size - 1, by omega⟩
    have hc : isName s = ((small (bt s 0) && chkS s 1 n) && (s.toList != ([105, 102] : List UInt8) && s.toList != ([102, 111, 114] : List UInt8))) := by
      simp only [isName]
      rw [decide_eq_true (show 1 ≤ s.size ∧ s.size ≤ 4 by omega), Bool.true_and, hn]
      simp [chkS]
    rw [hc]
    refine Ev.cases (fun h3 => ?_) (fun h3 => ?_)
    · have hk : chkI s 0 s.size = chkS s 1 n := by
        rw [hn]
        simp only [chkI]
        rw [chk_later s n (0 + 1) (by omega)]
        rw [show small (bt s ((0 : Nat) : Int)) = true from h3, Bool.true_or, Bool.true_and]
      rw [h3, Bool.true_and]
      refine Ev.cases (fun h4 => ?_) (fun h4 => ?_)
      · rw [h4]; exact Ev.eq hjt (by simp)
      · have h4' : (s.toList != ([105, 102] : List UInt8)) = true := by simpa using h4
        refine Ev.eq (hj _) ?_
        rw [hk, h4', Bool.true_and, Bool.and_comm]
        rfl
    · rw [Bool.eq_false_iff.2 h3]; exact Ev.eq hjt (by simp)
end Go.Proofs.Ytaakdfbfgabdbaa.Pt
end
section
namespace Go.Proofs.Ytaakdfbfgabdbaa.Pt
open Go.RowKit Go.Proofs.YtaakdfbfgabdbaaW.PrintWords Go.Proofs.YtaakdfbfgabdbaaW.PrintLast Go.Proofs.Ytaakdfbfgabdbaa.Pl Go.Proofs.Ytaakdfbfgabdbaa.Ext
set_option linter.unusedVariables false
set_option linter.unusedSimpArgs false
theorem wf_small (a : Int) (ha : 0 ≤ a) (hb : a ≤ 10) : (Lit.int .i64 a).wf = true := by
  simp only [Lit.wf, IntKind.min, IntKind.max, IntKind.signed, IntKind.bits, Bool.and_eq_true, decide_eq_true_eq, if_true]
  omega
theorem l1Once_ev (l : List Int) (hl : l.length ≤ 1048576) (i h n : Int) (h0 : 0 ≤ i) (h1 : i ≤ l.length) (hn : 0 < n) (hn2 : n ≤ 256) : ∃ b i' h', spec_l1Once.f l i h n = some (b, i', h') ∧ 0 ≤ i' ∧ i' ≤ l.length := by
  obtain ⟨x, i', h', e, _, _, c, d⟩ := l1Below_ev l hl i h n h0 h1 hn hn2
  unfold spec_l1Once.f
  rw [e]
  exact ⟨_, _, _, rfl, c, d⟩
/-- A type within small bounds. -/
def Bt (n : Nat) (x : S27) : Prop := SmType x ∧ ndType x ≤ n ∧ x.f1.length ≤ 2
theorem Bt.mono {n m : Nat} {x : S27} (h : Bt n x) (hm : n ≤ m) : Bt m x := ⟨h.1, Nat.le_trans h.2.1 hm, h.2.2⟩
theorem Bt_mk (a : Int) (ha : 0 ≤ a) (hb : a ≤ 10) (ls : List ByteArray) (hl : ls.length ≤ 2 ∧ ∀ y ∈ ls, y.size ≤ 1048576) (xs : List S27) (hx : xs.length ≤ 1048576) (n : Nat) (h : ∀ y ∈ xs, SmType y) (hn : 1 + (xs.map ndType).sum ≤ n) : Bt n (⟨a, ls, xs⟩ : S27) :=
  ⟨SmType.mk (wf_small a ha hb) ⟨Nat.le_trans hl.1 (by decide), hl.2⟩ hx h, by rw [ndType_eq]; exact hn, hl.1⟩
theorem Bt_leaf (a : Int) (ha : 0 ≤ a) (hb : a ≤ 10) : Bt 1 (⟨a, [], []⟩ : S27) := Bt_mk a ha hb [] ⟨by simp, by simp⟩ [] (by simp) 1 (by simp) (by simp)
theorem l3Bag_ev (t : S27) (n : Nat) (h : Bt n t) : Ev (fun k => spec_l3Bag.f k t.f0 t.f1 t.f2) (4, ([] : List ByteArray), [t]) ∧ Bt (n + 1) (⟨4, [], [t]⟩ : S27) := by
  refine ⟨?_, Bt_mk 4 (by decide) (by decide) [] ⟨by simp, by simp⟩ [t] (by simp) _ (by simpa using h.1) (by have := h.2.1; simp; omega)⟩
  simp only [spec_l3Bag.f]
  exact Ev.bind (spec_l3Copy_ev t h.1) (Ev.const (by simp only [etaType]))
theorem l3Fun_ev (t u : S27) (n m : Nat) (h : Bt n t) (h2 : Bt m u) : Ev (fun k => spec_l3Fun.f k t.f0 t.f1 t.f2 u.f0 u.f1 u.f2) (5, ([] : List ByteArray), [t, u]) ∧ Bt (n + m + 1) (⟨5, [], [t, u]⟩ : S27) := by
  refine ⟨?_, Bt_mk 5 (by decide) (by decide) [] ⟨by simp, by simp⟩ [t, u] (by simp) _ (by have := h.1; have := h2.1; simp; exact ⟨by assumption, by assumption⟩) (by have := h.2.1; have := h2.2.1; simp; omega)⟩
  simp only [spec_l3Fun.f]
  exact Ev.bind (spec_l3Copy_ev t h.1) (Ev.bind (spec_l3Copy_ev u h2.1) (Ev.const (by simp only [etaType])))
theorem l3Rec_ev (ls : List ByteArray) (hl : ls.length ≤ 1048576) (xs : List S27) (hx : xs.length ≤ 1048576) (h : ∀ y ∈ xs, SmType y) : Ev (fun k => spec_l3Rec.f k ls xs) (3, ls, xs) := by
  simp only [spec_l3Rec.f]
  refine Ev.none_bind (Ev.pos (by simp; omega) ?_)
  suffices hs : ∀ m i, i + m = xs.length → Ev (fun k => spec_l3Rec.l0 k xs (i : Int) 3 ls (xs.take i)) (3, ls, xs) by simpa using hs xs.length 0 (by omega)
  intro m
  induction m with
  | zero =>
    intro i hi
    refine Ev.up ?_
    simp only [spec_l3Rec.l0]
    refine Ev.neg (by omega) (Ev.const ?_)
    rw [List.take_of_length_le (by omega)]
  | succ m ih =>
    intro i hi
    have hlt : i < xs.length := by omega
    have hm := mem_getD xs z27 i hlt
    refine Ev.up ?_
    simp only [spec_l3Rec.l0]
    refine Ev.pos (by omega) (Ev.pos (by omega) (Ev.bind (spec_l3Copy_ev _ (h _ hm)) (Ev.pos (by rw [List.length_take]; omega) ?_)))
    rw [w1' hlt hx]
    simp only [rd_T27, Int.toNat_natCast, etaType]
    have e : xs.take i ++ [xs.getD i z27] = xs.take (i + 1) := by
      rw [List.take_succ_eq_append_getElem hlt, List.getD_eq_getElem?_getD, List.getElem?_eq_getElem hlt]
      rfl
    have h2 := ih (i + 1) (by omega)
    rw [← e] at h2
    exact h2
theorem step_small {j m : Nat} {x : Int} (hj : ((j + (m + 1) : Nat) : Int) = 1 + x) (x1 : x < 2) : j < 3 := by omega
theorem step_small2 {j : Nat} (h : j < 3) : (j : Int) < 3 := by omega
theorem step_next {j m : Nat} {x : Int} (hj : ((j + (m + 1) : Nat) : Int) = 1 + x) : ((j + 1 + m : Nat) : Int) = 1 + x := by omega
theorem step_lt {j m : Nat} {x : Int} (hj : ((j + (m + 1) : Nat) : Int) = 1 + x) : (j : Int) < 1 + x := by omega
theorem step_two {j m : Nat} {x : Int} (hj : ((j + (m + 1) : Nat) : Int) = 1 + x) (x1 : x < 2) : j + 1 ≤ 2 := by omega
theorem step_sum {s t j b : Nat} (h : s ≤ j * b) (h2 : t ≤ b) : s + t ≤ (j + 1) * b := by rw [Nat.succ_mul]; omega
theorem one_small (a : UInt8) : (⟨#[a]⟩ : ByteArray).size ≤ 1 := Nat.le_refl _
theorem abc_small : ∀ y ∈ [(⟨#[97]⟩ : ByteArray), (⟨#[98]⟩ : ByteArray), (⟨#[99]⟩ : ByteArray)], y.size ≤ 1 := by
  intro y hy
  rcases List.mem_cons.1 hy with rfl | hy
  · exact one_small _
  rcases List.mem_cons.1 hy with rfl | hy
  · exact one_small _
  rcases List.mem_cons.1 hy with rfl | hy
  · exact one_small _
  cases hy
/-- What a draw hands back: a small type, and a place within the bytes. -/
def Drawn (l : List Int) (n : Nat) (g : Nat → Option (Int × List ByteArray × (List (S27)) × Int × Int)) : Prop :=
  ∃ (t : S27) (i' h' : Int), Ev g (t.f0, t.f1, t.f2, i', h') ∧ Bt n t ∧ 0 ≤ i' ∧ i' ≤ l.length
theorem l3Draw_ev (l : List Int) (hl : l.length ≤ 1048576) : ∀ (n : Nat), n ≤ 8 → ∀ (a i h : Int), -9223372036854775807 ≤ a → a ≤ n + 1 → 0 ≤ i → i ≤ l.length → Drawn l (2 ^ (n + 1) - 1) (fun k => spec_l3Draw.f k l i h a) := by
  have leaf : ∀ (m : Nat), 1 ≤ m → ∀ (a i h : Int), 0 ≤ i → i ≤ l.length → Drawn l m (fun k => spec_l3Draw.j0 k a true l i h) := by
    intro m hm a i h h0 h1
    obtain ⟨x, i', h', e, hx, c, d⟩ := l1PickInt_ev' l hl i h [1, 2, 1] h0 h1 (by simp) (by simp)
    have hx2 : 0 ≤ x ∧ x ≤ 10 := by simp at hx; omega
    refine ⟨⟨x, [], []⟩, i', h', Ev.up ?_, (Bt_leaf x hx2.1 hx2.2).mono hm, c, d⟩
    simp only [spec_l3Draw.j0]
    exact Ev.pos (by simp) (Ev.fix e (Ev.now _))
  intro n
  induction n with
  | zero =>
    intro _ a i h ha0 ha h0 h1
    obtain ⟨t, i', h', e, r⟩ := leaf 1 (by omega) a i h h0 h1
    refine ⟨t, i', h', Ev.up ?_, r⟩
    simp only [spec_l3Draw.f]
    exact Ev.pos (by omega) e
  | succ n ih =>
    intro hn8 a i h ha0 ha h0 h1
    have hp : 2 ^ (n + 1) ≤ 2 ^ 9 := Nat.pow_le_pow_right (by decide) (by omega)
    have hp1 : 1 ≤ 2 ^ (n + 1) := Nat.one_le_two_pow
    have hps : 2 ^ (n + 1 + 1) = 2 * 2 ^ (n + 1) := by rw [Nat.pow_succ]; omega
    rw [hps]
    generalize 2 ^ (n + 1) = B at ih hp hp1
    by_cases hlt : a < 2
    · obtain ⟨t, i', h', e, r⟩ := leaf (2 * B - 1) (by omega) a i h h0 h1
      refine ⟨t, i', h', Ev.up ?_, r⟩
      simp only [spec_l3Draw.f]
      exact Ev.pos hlt e
    obtain ⟨b, i1, h2, e1, c1, d1⟩ := l1Once_ev l hl i h 3 h0 h1 (by decide) (by decide)
    suffices hh : Drawn l (2 * B - 1) (fun k => spec_l3Draw.j0 k a b l i1 h2) by
      obtain ⟨t, i', h', e, r⟩ := hh
      refine ⟨t, i', h', Ev.up ?_, r⟩
      simp only [spec_l3Draw.f]
      exact Ev.neg hlt (Ev.fix e1 e)
    cases b with
    | true => exact leaf _ (by omega) a i1 h2 c1 d1
    | false =>
    have ha1 : wrap64 (a - 1) = a - 1 := w64 (by omega) (by omega)
    obtain ⟨b, i2, h3, e2, c2, d2⟩ := l1Once_ev l hl i1 h2 2 c1 d1 (by decide) (by decide)
    cases b with
    | true =>
      obtain ⟨t, i3, h4, e3, ht, c3, d3⟩ := ih (by omega) (a - 1) i2 h3 (by omega) (by omega) c2 d2
      obtain ⟨e4, hb⟩ := l3Bag_ev t _ ht
      refine ⟨⟨4, [], [t]⟩, i3, h4, Ev.up ?_, hb.mono (by omega), c3, d3⟩
      simp only [spec_l3Draw.j0]
      refine Ev.neg (by simp) (Ev.fix e2 (Ev.pos rfl ?_))
      simp only [ha1]
      exact Ev.bind e3 (Ev.bind e4 (Ev.now _))
    | false =>
      obtain ⟨x, i3, h4, e3, x0, x1, c3, d3⟩ := l1Below_ev l hl i2 h3 2 c2 d2 (by decide) (by decide)
      have hw : wrap64 (1 + x) = 1 + x := w64 (by omega) (by omega)
      suffices hh : ∀ (m j : Nat), ((j + m : Nat) : Int) = 1 + x → ∀ (ls : List ByteArray) (xs : List S27) (i h : Int), ls.length ≤ 2 → (∀ y ∈ ls, y.size ≤ 1) → xs.length = j → (∀ y ∈ xs, SmType y) → (xs.map ndType).sum ≤ j * (B - 1) → 0 ≤ i → i ≤ l.length → ls.length = j → Drawn l (2 * B - 1) (fun k => spec_l3Draw.l0 k a ls xs (1 + x) (j : Int) l i h) by
        obtain ⟨t, i', h', e, r⟩ := hh (1 + x).toNat 0 (by omega) [] [] i3 h4 (by simp) (by simp) rfl (by simp) (by simp) c3 d3 rfl
        refine ⟨t, i', h', Ev.up ?_, r⟩
        simp only [spec_l3Draw.j0]
        refine Ev.neg (by simp) (Ev.fix e2 (Ev.neg (by simp) (Ev.fix e3 ?_)))
        simp only [hw]
        exact e
      intro m
      induction m with
      | zero =>
        intro j hj ls xs i h hls hly hxl hxy hsum h0 h1 _
        refine ⟨⟨3, ls, xs⟩, i, h, Ev.up ?_, Bt_mk 3 (by decide) (by decide) ls ⟨by omega, fun y hy => by have := hly y hy; omega⟩ xs (by omega) _ hxy ?_, h0, h1⟩
        · simp only [spec_l3Draw.l0]
          exact Ev.neg (by omega) (Ev.bind (l3Rec_ev ls (by omega) xs (by omega) hxy) (Ev.now _))
        · have : j * (B - 1) ≤ 2 * (B - 1) := Nat.mul_le_mul_right _ (by omega)
          omega
      | succ m ihm =>
        intro j hj ls xs i h hls hly hxl hxy hsum h0 h1 hlj
        obtain ⟨t, i5, h6, e5, ht, c5, d5⟩ := ih (by omega) (a - 1) i h (by omega) (by omega) h0 h1
        have hjw : wrap64 ((j : Int) + 1) = ((j + 1 : Nat) : Int) := by rw [w64 (by omega) (by omega)]; rfl
        have hjl : j < 3 := step_small hj x1
        have hj3 : (j : Int) < 3 := step_small2 hjl
        have hlab : (rdOf ByteArray.empty [(⟨#[97]⟩ : ByteArray), (⟨#[98]⟩ : ByteArray), (⟨#[99]⟩ : ByteArray)] (j : Int)).size ≤ 1 := by
          rw [rdOf_str]
          exact abc_small _ (mem_getD _ _ j (by simpa using hjl))
        generalize hlb : rdOf ByteArray.empty [(⟨#[97]⟩ : ByteArray), (⟨#[98]⟩ : ByteArray), (⟨#[99]⟩ : ByteArray)] (j : Int) = lab at hlab
        have q1 : (ls ++ [lab]).length ≤ 2 := by rw [List.length_append, List.length_singleton, hlj]; exact step_two hj x1
        have q2 : ∀ y ∈ ls ++ [lab], y.size ≤ 1 := by
          intro y hy
          rcases List.mem_append.1 hy with hy | hy
          · exact hly y hy
          · rw [List.mem_singleton.1 hy]; exact hlab
        have q3 : (xs ++ [t]).length = j + 1 := by rw [List.length_append, List.length_singleton, hxl]
        have q4 : ∀ y ∈ xs ++ [t], SmType y := by
          intro y hy
          rcases List.mem_append.1 hy with hy | hy
          · exact hxy y hy
          · rw [List.mem_singleton.1 hy]; exact ht.1
        have q5 : ((xs ++ [t]).map ndType).sum ≤ (j + 1) * (B - 1) := by
          rw [List.map_append, List.sum_append, List.map_cons, List.map_nil, List.sum_cons, List.sum_nil, Nat.add_zero]
          exact step_sum hsum ht.2.1
        have q6 : (ls ++ [lab]).length = j + 1 := by rw [List.length_append, List.length_singleton, hlj]
        obtain ⟨r, i', h', e6, r6⟩ := ihm (j + 1) (step_next hj) (ls ++ [lab]) (xs ++ [t]) i5 h6 q1 q2 q3 q4 q5 c5 d5 q6
        refine ⟨r, i', h', Ev.up ?_, r6⟩
        simp only [spec_l3Draw.l0]
        refine Ev.pos (step_lt hj) (Ev.none_bind (Ev.pos (Int.natCast_nonneg _) (Ev.pos hj3 (Ev.pos (Nat.lt_of_le_of_lt hls (by decide)) ?_))))
        simp only [ha1, hjw, hlb]
        exact Ev.bind e5 (Ev.pos (by rw [hxl]; exact Nat.lt_trans hjl (by decide)) (by simpa only [etaType] using e6))
theorem Bt_append {n : Nat} {t : S27} (h : Bt n t) (s : ByteArray) (hs : s.size ≤ 1048576) : SmType (⟨t.f0, t.f1 ++ [s], t.f2⟩ : S27) ∧ ndType (⟨t.f0, t.f1 ++ [s], t.f2⟩ : S27) ≤ n := by
  have hl := h.2.2
  refine ⟨SmType.mk h.1.p0 ⟨by rw [List.length_append, List.length_singleton]; omega, fun y hy => ?_⟩ h.1.p2.1 h.1.p2.2, ?_⟩
  · rcases List.mem_append.1 hy with hy | hy
    · exact h.1.p1.2 y hy
    · rw [List.mem_singleton.1 hy]; exact hs
  · have := h.2.1
    rw [ndType_eq] at this ⊢
    exact this
/-- What a bent draw hands back: a type of at most 40 parts. -/
def Bent (l : List Int) (g : Nat → Option (Int × List ByteArray × (List (S27)) × Int × Int)) : Prop :=
  ∃ (t : S27) (i' h' : Int), Ev g (t.f0, t.f1, t.f2, i', h') ∧ SmType t ∧ ndType t ≤ 40 ∧ 0 ≤ i' ∧ i' ≤ l.length
theorem l3Bags_ev (l : List Int) (i h n : Int) (h0 : 0 ≤ i) (h1 : i ≤ l.length) (hn : n ≤ 5) : ∀ (m j b : Nat), ((j + m : Nat) : Int) = n → ∀ t : S27, Bt b t → ∃ u : S27, Ev (fun k => spec_l3Bent.l0 k n (j : Int) l i h t.f0 t.f1 t.f2) (u.f0, u.f1, u.f2, i, h) ∧ Bt (b + m) u := by
  intro m
  induction m with
  | zero =>
    intro j b hj t ht
    refine ⟨t, Ev.up ?_, ht⟩
    simp only [spec_l3Bent.l0]
    exact Ev.neg (by omega) (Ev.now _)
  | succ m ih =>
    intro j b hj t ht
    obtain ⟨e, hb⟩ := l3Bag_ev t b ht
    have hw : wrap64 ((j : Int) + 1) = ((j + 1 : Nat) : Int) := by rw [w64 (by omega) (by omega)]; rfl
    obtain ⟨u, e2, hu⟩ := ih (j + 1) (b + 1) (by omega) ⟨4, [], [t]⟩ hb
    refine ⟨u, Ev.up ?_, hu.mono (by omega)⟩
    simp only [spec_l3Bent.l0]
    refine Ev.pos (by omega) (Ev.bind e ?_)
    rw [hw]
    exact e2

end Go.Proofs.Ytaakdfbfgabdbaa.Pt
end
section
namespace Go.Proofs.Ytaakdfbfgabdbaa.Pt
open Go.RowKit Go.Proofs.YtaakdfbfgabdbaaW.PrintWords Go.Proofs.YtaakdfbfgabdbaaW.PrintLast Go.Proofs.Ytaakdfbfgabdbaa.Pl Go.Proofs.Ytaakdfbfgabdbaa.Ext
set_option linter.unusedVariables false
set_option linter.unusedSimpArgs false
theorem len_nd (xs : List S27) : xs.length ≤ (xs.map ndType).sum := by
 induction xs with
 | nil => simp
 | cons x r ih =>
  have := ndType_eq x
  simp only [List.length_cons, List.map_cons, List.sum_cons]
  omega
theorem az_small : ∀ y ∈ [(⟨#[97]⟩ : ByteArray), (⟨#[122]⟩ : ByteArray), (⟨#[105, 102]⟩ : ByteArray)], y.size ≤ 1048576 := by
 intro y hy
 rcases List.mem_cons.1 hy with rfl | hy
 ·exact Nat.le_trans (one_small _) (by decide)
 rcases List.mem_cons.1 hy with rfl | hy
 ·exact Nat.le_trans (one_small _) (by decide)
 rcases List.mem_cons.1 hy with rfl | hy
 ·exact Nat.le_trans (Nat.le_refl 2) (by decide)
 cases hy
theorem l3Bent_ev (l : List Int) (hl : l.length ≤ 1048576) (i h : Int) (h0 : 0 ≤ i) (h1 : i ≤ l.length) : Bent l (fun k => spec_l3Bent.f k l i h) := by
 obtain ⟨t, i1, h2, e1, ht', c1, d1⟩ := l3Draw_ev l hl 3 (by decide) 4 i h (by decide) (by decide) h0 h1
 have ht : Bt 15 t := ht'
 have hnd := ht.2.1
 have hnd2 := ndType_eq t
 have hlen := len_nd t.f2
 obtain ⟨x, i2, h3, e2, x0, x1, c2, d2⟩ := l1Below_ev l hl i1 h2 10 c1 d1 (by decide) (by decide)
 by_cases q0 : x = 0
 ·obtain ⟨y, i3, h4, e3, y0, y1, c3, d3⟩ := l1Below_ev l hl i2 h3 7 c2 d2 (by decide) (by decide)
  refine ⟨⟨y, t.f1, t.f2⟩, i3, h4, ?_, SmType.mk (wf_small y y0 (by omega)) ht.1.p1 ht.1.p2.1 ht.1.p2.2, ?_, c3, d3⟩
  ·simp only [spec_l3Bent.f]
   exact Ev.bind e1 (Ev.fix e2 (Ev.pos q0 (Ev.fix e3 (Ev.now _))))
  ·rw [ndType_eq]
   show 1 + (t.f2.map ndType).sum ≤ 40
   omega
 by_cases q1 : x = 1
 ·obtain ⟨s, i3, h4, e3, hs, c3, d3⟩ := l1Pick_ev l hl i2 h3 [(⟨#[97]⟩ : ByteArray), (⟨#[122]⟩ : ByteArray), (⟨#[105, 102]⟩ : ByteArray)] c2 d2 (by simp) (by simp)
  have hb := Bt_append ht s (az_small s hs)
  refine ⟨⟨t.f0, t.f1 ++ [s], t.f2⟩, i3, h4, ?_, hb.1, Nat.le_trans hb.2 (by decide), c3, d3⟩
  simp only [spec_l3Bent.f]
  exact Ev.bind e1 (Ev.fix e2 (Ev.neg q0 (Ev.pos q1 (Ev.fix e3 (Ev.pos (Nat.lt_of_le_of_lt ht.2.2 (by decide)) (Ev.now _))))))
 by_cases q2 : x = 2
 ·refine ⟨⟨t.f0, t.f1, t.f2 ++ [⟨1, [], []⟩]⟩, i2, h3, ?_, SmType.mk ht.1.p0 ht.1.p1 (by rw [List.length_append, List.length_singleton]; omega) (fun y hy => ?_), ?_, c2, d2⟩
  ·simp only [spec_l3Bent.f]
   exact Ev.bind e1 (Ev.fix e2 (Ev.neg q0 (Ev.neg q1 (Ev.pos q2 (Ev.fix rfl (Ev.pos (Nat.lt_of_le_of_lt (show t.f2.length ≤ 15 by omega) (by decide)) (Ev.now _)))))))
  ·rcases List.mem_append.1 hy with hy | hy
   ·exact ht.1.p2.2 y hy
   ·rw [List.mem_singleton.1 hy]; exact (Bt_leaf 1 (by decide) (by decide)).1
  ·rw [ndType_eq]
   show 1 + ((t.f2 ++ [(⟨1, [], []⟩ : S27)]).map ndType).sum ≤ 40
   have h9 := (Bt_leaf 1 (by decide) (by decide)).2.1
   rw [List.map_append, List.sum_append, List.map_cons, List.map_nil, List.sum_cons, List.sum_nil]
   omega
 by_cases q3 : x = 3
 ·obtain ⟨u, i3, h4, e3, hu', c3, d3⟩ := l3Draw_ev l hl 1 (by decide) 2 i2 h3 (by decide) (by decide) c2 d2
  have hu : Bt 3 u := hu'
  obtain ⟨e4, hb⟩ := l3Fun_ev t u 15 3 ht hu
  refine ⟨⟨5, [], [t, u]⟩, i3, h4, ?_, hb.1, Nat.le_trans hb.2.1 (by decide), c3, d3⟩
  simp only [spec_l3Bent.f]
  exact Ev.bind e1 (Ev.fix e2 (Ev.neg q0 (Ev.neg q1 (Ev.neg q2 (Ev.pos q3 (Ev.bind e3 (Ev.bind e4 (Ev.now _))))))))
 by_cases q4 : x = 4
 case neg =>
  refine ⟨t, i2, h3, ?_, ht.1, Nat.le_trans hnd (by decide), c2, d2⟩
  simp only [spec_l3Bent.f]
  exact Ev.bind e1 (Ev.fix e2 (Ev.neg q0 (Ev.neg q1 (Ev.neg q2 (Ev.neg q3 (Ev.neg q4 (Ev.now _)))))))
 obtain ⟨y, i3, h4, e3, y0, y1, c3, d3⟩ := l1Below_ev l hl i2 h3 5 c2 d2 (by decide) (by decide)
 have hw : wrap64 (1 + y) = 1 + y := w64 (by omega) (by omega)
 obtain ⟨u, e4, hu⟩ := l3Bags_ev l i3 h4 (1 + y) c3 d3 (by omega) (1 + y).toNat 0 15 (by omega) t ht
 refine ⟨u, i3, h4, ?_, hu.1, Nat.le_trans hu.2.1 (by omega), c3, d3⟩
 simp only [spec_l3Bent.f]
 refine Ev.bind e1 (Ev.fix e2 (Ev.neg q0 (Ev.neg q1 (Ev.neg q2 (Ev.neg q3 (Ev.pos q4 (Ev.fix e3 ?_)))))))
 simp only [hw]
 exact e4

end Go.Proofs.Ytaakdfbfgabdbaa.Pt
end
