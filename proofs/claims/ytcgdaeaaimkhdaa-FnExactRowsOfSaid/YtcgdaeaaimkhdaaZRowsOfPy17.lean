/- Printed by a program of this session: what functions of the translation come to, each contract as it stands. No condition. -/
import Derived.Test.YtcgdaeaaimkhdaaZRowsOfExtM
import Derived.Test.YtcgdaeaaimkhdaaZRowsOfPlM
namespace Go.Proofs.Ytcgdaeaaimkhdaa.Py
open Go.RowKit Go.Proofs.Ytcgdaeaaimkhdaa.Ext Go.Proofs.YtcgdaeaaimkhdaaW.PrintWords Go.Proofs.YtcgdaeaaimkhdaaW.PrintLast Go.Proofs.YtcgdaeaaimkhdaaW.PrintMore
attribute [local go_sem] max2_int min2_int max_two min_two max_three min_three max_four min_four   -- for this text's walks alone
set_option linter.unusedVariables false
set_option linter.unusedSimpArgs false

/-! ### impl_cloneValue: function 116 -/
mutual
def impl_cloneValue.l0 : Nat → List (S70) → Int → Int → Int → Int → List ByteArray → List (S70) → Option (Int × Int × List ByteArray × (List (S70)))
  | 0, _, _, _, _, _, _, _ => none
  | k + 1, x15, x16, x17, x472000, x472001, x472002, x472003 => if x17 < x16 then (if 0 ≤ x17 then (if x17 < (x15.length : Int) then ((impl_cloneValue.f k ((rd_T70 x15 x17).f0) ((rd_T70 x15 x17).f1) ((rd_T70 x15 x17).f2) ((rd_T70 x15 x17).f3)).bind fun bt474 => (if x472003.length < 2199023255552 then (impl_cloneValue.l0 k x15 x16 (wrap64 (x17 + 1)) x472000 x472001 x472002 (x472003 ++ [(⟨bt474.1, bt474.2.1, bt474.2.2.1, bt474.2.2.2⟩ : S70)])) else (none))) else (none)) else (none)) else (some (x472000, x472001, x472002, x472003))
def impl_cloneValue.f : Nat → Int → Int → List ByteArray → List (S70) → Option (Int × Int × List ByteArray × (List (S70)))
  | 0, _, _, _, _ => none
  | k + 1, a0_0, a0_1, l0_2, l0_3 => (slices_Clone_string_string.f l0_2).bind fun t468 => (impl_cloneValue.l0 k l0_3 (l0_3.length : Int) 0 a0_0 a0_1 t468 ([] : List (S70)))
end
def impl_cloneValue.T1 : Bool × List (List Nat × List Nat) := (true, [([], []), ([0], [0]), ([], []), ([2], [2]), ([], []), ([4], [4]), ([5], [5]), ([1, 3, 6], [1, 3, 6]), ([], []), ([8, 7, 6, 0, 1, 2, 3, 4, 5, 6, 7, 8], [7, 8])])
def impl_cloneValue.B1 : List Nat := [0, 1, 0, 4, 0, 16, 48, 127, 0, 511]
theorem impl_cloneValue.tab1 : rtab .any (opsOf Try.f116 1) = impl_cloneValue.T1 := by kernel_rfl
theorem impl_cloneValue.bits1 : waitsOk impl_cloneValue.T1.2 impl_cloneValue.B1 = true := by kernel_rfl
def impl_cloneValue.T5 : Bool × List (List Nat × List Nat) := (true, [([], []), ([0], [0]), ([], []), ([2], [2]), ([3], [3]), ([1, 4, 3], [1, 4]), ([0, 1, 2, 3, 4, 5], []), ([6, 5, 5, 0, 1, 2, 3, 4, 5], [5, 6])])
def impl_cloneValue.B5 : List Nat := [0, 1, 0, 4, 12, 31, 63, 127]
theorem impl_cloneValue.tab5 : rtab .any (opsOf Try.f116 5) = impl_cloneValue.T5 := by kernel_rfl
theorem impl_cloneValue.bits5 : waitsOk impl_cloneValue.T5.2 impl_cloneValue.B5 = true := by kernel_rfl
set_option maxHeartbeats 8000000 in
set_option maxRecDepth 100000 in
theorem impl_cloneValue.calls (k : Nat) : ∀ (a0_0 : Int) (a0_1 : Int) (A0_2 : Option Addr) (c0_2 : Nat) (l0_2 : List ByteArray) (A0_3 : Option Addr) (c0_3 : Nat) (l0_3 : List (S70)) (r1 : Int) (r2 : Int) (r3 : List ByteArray) (r4 : List (S70)) (w : World) (hr0_2 : Kd.C Kd.string w A0_2 l0_2.length l0_2) (hc0_2 : l0_2.length ≤ c0_2) (hr0_3 : Kd.C k70 w A0_3 l0_3.length l0_3) (hc0_3 : l0_3.length ≤ c0_3) (h : impl_cloneValue.f k a0_0 a0_1 l0_2 l0_3 = some (r1, r2, r3, r4)),
    Calls Try.prog 116 #[.agg #[.int .i64 a0_0, .int .i64 a0_1, .slice A0_2 l0_2.length c0_2, .slice A0_3 l0_3.length c0_3]] w fun e w' => ∃ v2_ v3_ : Value, e = .returned (.agg #[.int .i64 r1, .int .i64 r2, v2_, v3_]) ∧ Kd.R Kd.string 9 w' w.heap.size (fun _ => True) v2_ r3 ∧ Kd.S k70 70 w' w.heap.size (fun k_ => some k_ ≠ (v2_ : Value).ownBlock) v3_ r4 ∧ Below w.heap.size w w' := by
  induction k using Nat.strongRecOn with
  | _ k ih =>
  intro a0_0 a0_1 A0_2 c0_2 l0_2 A0_3 c0_3 l0_3 r1 r2 r3 r4 w hr0_2 hc0_2 hr0_3 hc0_3 h
  cases k with
  | zero => exact absurd h (by simp [impl_cloneValue.f])
  | succ k =>
  simp only [impl_cloneValue.f] at h
  have hu70 := Try.underlying70
  have HR0_2 := Aside0.mk hr0_2
  have HC0_2 := Aside0.mk hc0_2
  clear hr0_2 hc0_2
  have HR0_3 := Aside0.mk hr0_3
  have HC0_3 := Aside0.mk hc0_3
  clear hr0_3 hc0_3
  have HB := Aside0.mk (Below.refl w.heap.size w)
  have H : ((slices_Clone_string_string.f l0_2).bind fun t468 => (impl_cloneValue.l0 k l0_3 (l0_3.length : Int) 0 a0_0 a0_1 t468 ([] : List (S70)))) = some (r1, r2, r3, r4) := h
  clear h
  replace H := Option.bind_eq_some_iff.mp H
  obtain ⟨t468, A20, H⟩ := H
  replace H : (impl_cloneValue.l0 k l0_3 (l0_3.length : Int) 0 a0_0 a0_1 t468 ([] : List (S70))) = some (r1, r2, r3, r4) := H
  have A2 := Aside0.mk A20
  clear A20
  have H' := Aside0.mk H
  clear H
  go_enter Try.func116, Try.ntmps116
  try go_wp2_with (first | ((with_reducible refine gate_dst (N := 1) rfl ?_); refine box_event ?hg (N := 1) ?hd (cs := #[.int .i64 a0_0, .int .i64 a0_1, .slice A0_2 l0_2.length c0_2, .slice A0_3 l0_3.length c0_3]) (t := 70) ?hr ?_; (case hd => rfl); (case hg => rfl); (case hr => first | (go_simp; done) | (go_simp; rfl)); intro gb466 hg w3 hbox hb; have n0_ := Aside0.mk (below_step (by repeat (first | (with_reducible first | exact HB.out | apply below_alloc | apply pw_below_drewN | apply below_drew1) | exact HB.out)) hb); have n1_ := Aside0.mk (hbox); have n2_ := Aside0.mk ((by rw [hg]; exact (below_size (by repeat (first | (with_reducible first | exact HB.out | apply below_alloc | apply pw_below_drewN | apply below_drew1) | exact HB.out))) : w.heap.size ≤ gb466)); have n3_ := Aside0.mk ((by rw [hg]; exact (below_size (by repeat (first | (with_reducible first | exact HB.out | apply below_alloc | apply pw_below_drewN | apply below_drew1) | exact HB.out))) : w.heap.size ≤ gb466)); clear HB; have HB := n0_; have BK466 := n1_; have GW466 := n2_; have GE466 := n3_; clear n0_ n1_ n2_ n3_; clear hb hbox hg) | ((with_reducible refine gate_dst (N := 2) rfl ?_); refine box_event ?hg (N := 2) ?hd (cs := #[.int .i64 0, .int .i64 0, .slice none 0 0, .slice none 0 0]) (t := 70) ?hr ?_; (case hd => rfl); (case hg => rfl); (case hr => first | (go_simp; done) | (go_simp; rfl)); intro gb467 hg w4 hbox hb; have n0_ := Aside0.mk (blk_below (g := gb466) (o := .cells #[.int .i64 a0_0, .int .i64 a0_1, .slice A0_2 l0_2.length c0_2, .slice A0_3 l0_3.length c0_3] 70 (0, 0)) (by (with_reducible repeat (first | refine blk_drewN ?_ _ | refine blk_drew ?_ | refine blk_alloc ?_ _)); exact BK466.out) hb); have n1_ := Aside0.mk (below_step (by repeat (first | (with_reducible first | exact HB.out | apply below_alloc | apply pw_below_drewN | apply below_drew1 | refine below_set ?_ GE466.out) | exact HB.out)) hb); have n2_ := Aside0.mk (hbox); have n3_ := Aside0.mk ((by rw [hg]; exact (below_size (by repeat (first | (with_reducible first | exact HB.out | apply below_alloc | apply pw_below_drewN | apply below_drew1 | refine below_set ?_ GE466.out) | exact HB.out))) : w.heap.size ≤ gb467)); have n4_ := Aside0.mk ((by rw [hg]; exact (below_size (by repeat (first | (with_reducible first | exact HB.out | apply below_alloc | apply pw_below_drewN | apply below_drew1 | refine below_set ?_ GE466.out) | exact HB.out))) : w.heap.size ≤ gb467)); have n5_ := Aside0.mk ((by rw [hg]; exact Nat.ne_of_lt (blk_lt (g := gb466) (o := .cells #[.int .i64 a0_0, .int .i64 a0_1, .slice A0_2 l0_2.length c0_2, .slice A0_3 l0_3.length c0_3] 70 (0, 0)) (by (with_reducible repeat (first | refine blk_drewN ?_ _ | refine blk_drew ?_ | refine blk_alloc ?_ _)); exact BK466.out)) : gb466 ≠ gb467)); have n6_ := Aside0.mk ((by rw [hg]; exact Nat.ne_of_gt (blk_lt (g := gb466) (o := .cells #[.int .i64 a0_0, .int .i64 a0_1, .slice A0_2 l0_2.length c0_2, .slice A0_3 l0_3.length c0_3] 70 (0, 0)) (by (with_reducible repeat (first | refine blk_drewN ?_ _ | refine blk_drew ?_ | refine blk_alloc ?_ _)); exact BK466.out)) : gb467 ≠ gb466)); clear BK466; clear HB; have BK466 := n0_; have HB := n1_; have BK467 := n2_; have GW467 := n3_; have GE467 := n4_; have NB466_467 := n5_; have NB467_466 := n6_; clear n0_ n1_ n2_ n3_ n4_ n5_ n6_; clear hb hbox hg))
  have n0_ := Aside0.mk (blk_drew BK466.out)
  have n1_ := Aside0.mk (blk_drew BK467.out)
  have n2_ := Aside0.mk (below_drew1 HB.out)
  clear BK466
  clear BK467
  clear HB
  have BK466 := n0_
  have BK467 := n1_
  have HB := n2_
  clear n0_ n1_ n2_
  refine start_ (n := 10) (S := fun w' => w'.cell? ⟨gb466, 0, none⟩ = some (.int .i64 a0_0) ∧ w'.cell? ⟨gb466, 1, none⟩ = some (.int .i64 a0_1) ∧ w'.cell? ⟨gb466, 2, none⟩ = some (.slice A0_2 l0_2.length c0_2) ∧ w'.cell? ⟨gb466, 3, none⟩ = some (.slice A0_3 l0_3.length c0_3)) (ds := []) #[false, false, false, false, false, false, false, false, false, false] (by kernel_rfl) rfl rfl ⟨(blk_cell BK466.out 0).trans rfl, (blk_cell BK466.out 1).trans rfl, (blk_cell BK466.out 2).trans rfl, (blk_cell BK466.out 3).trans rfl⟩ (fun hHeld => ?_); refine with_tabW impl_cloneValue.tab1 impl_cloneValue.bits1 (fun HT_ HW_ => ?_)
  generalize w4.drew = w5 at BK466 BK467 HB hHeld ⊢
  refine pure_ (i := 0) (N := some 6) (v := ?_) (a' := ?_) #[true, false, false, false, false, false, false, false, false, false] rfl rfl (any_of HT_.out (by kernel_rfl)) (fun _ _ _ h => h) (Or.inl ⟨by rfl, ?_⟩) ?_ ?_
  rotate_left
  · intro w'
    go_simp
    with_reducible rfl
  rotate_left
  · simp only [Act.put, List.setIfInBounds_toArray, List.set_cons_zero, List.set_cons_succ, i64_w, i32_w]
    rfl
  refine pure_ (i := 2) (N := some 8) (v := ?_) (a' := ?_) #[true, false, true, false, false, false, false, false, false, false] rfl rfl (any_of HT_.out (by kernel_rfl)) (fun _ _ _ h => h) (Or.inl ⟨by rfl, ?_⟩) ?_ ?_
  rotate_left
  · intro w'
    go_simp
    with_reducible rfl
  rotate_left
  · simp only [Act.put, List.setIfInBounds_toArray, List.set_cons_zero, List.set_cons_succ, i64_w, i32_w]
    rfl
  refine pure_ (i := 4) (N := some 10) (v := ?_) (a' := ?_) #[true, false, true, false, true, false, false, false, false, false] rfl rfl (any_of HT_.out (by kernel_rfl)) (fun _ _ _ h => h) (Or.inl ⟨by rfl, ?_⟩) ?_ ?_
  rotate_left
  · intro w'
    go_simp
    with_reducible rfl
  rotate_left
  · simp only [Act.put, List.setIfInBounds_toArray, List.set_cons_zero, List.set_cons_succ, i64_w, i32_w]
    rfl
  refine take_ (i := 1) (N := some 7) (v := ?_) (a' := ?_) #[true, true, true, false, true, false, false, false, false, false] rfl rfl (take_ofW HT_.out HW_.out (by kernel_rfl)) (fun _ _ _ h => h) (Or.inl ⟨by rfl, ?_⟩) hHeld ?_ ?_
  rotate_left
  · rintro w' ⟨s0, s1, s2, s3⟩
    go_simp
    with_reducible rfl
  rotate_left
  · simp only [Act.put, List.setIfInBounds_toArray, List.set_cons_zero, List.set_cons_succ, i64_w, i32_w]
    rfl
  refine take_ (i := 3) (N := some 9) (v := ?_) (a' := ?_) #[true, true, true, true, true, false, false, false, false, false] rfl rfl (take_ofW HT_.out HW_.out (by kernel_rfl)) (fun _ _ _ h => h) (Or.inl ⟨by rfl, ?_⟩) hHeld ?_ ?_
  rotate_left
  · rintro w' ⟨s0, s1, s2, s3⟩
    go_simp
    with_reducible rfl
  rotate_left
  · simp only [Act.put, List.setIfInBounds_toArray, List.set_cons_zero, List.set_cons_succ, i64_w, i32_w]
    rfl
  refine take_ (i := 5) (N := some 11) (v := ?_) (a' := ?_) #[true, true, true, true, true, true, false, false, false, false] rfl rfl (take_ofW HT_.out HW_.out (by kernel_rfl)) (fun _ _ _ h => h) (Or.inl ⟨by rfl, ?_⟩) hHeld ?_ ?_
  rotate_left
  · rintro w' ⟨s0, s1, s2, s3⟩
    go_simp
    with_reducible rfl
  rotate_left
  · simp only [Act.put, List.setIfInBounds_toArray, List.set_cons_zero, List.set_cons_succ, i64_w, i32_w]
    rfl
  refine join_ (σ := Value × Nat) 1 #[true, true, true, true, true, true, true, true, true, false] (fun s_ => [(12, s_.1), (3, .pointer (some ⟨s_.2, 0, none⟩)), (13, .agg #[.int .i64 a0_0, .int .i64 a0_1, s_.1, .slice none 0 0])]) (fun s_ w' => (w'.cell? ⟨gb466, 0, none⟩ = some (.int .i64 a0_0) ∧ w'.cell? ⟨gb466, 1, none⟩ = some (.int .i64 a0_1) ∧ w'.cell? ⟨gb466, 2, none⟩ = some (.slice A0_2 l0_2.length c0_2) ∧ w'.cell? ⟨gb466, 3, none⟩ = some (.slice A0_3 l0_3.length c0_3)) ∧ (Kd.R Kd.string 9 w' w.heap.size (fun _ => True) s_.1 t468) ∧ (w'.heap[gb466]? = some (.cells #[.int .i64 a0_0, .int .i64 a0_1, .slice A0_2 l0_2.length c0_2, .slice A0_3 l0_3.length c0_3] 70 (0, 0))) ∧ (w'.heap[gb467]? = some (.cells #[.int .i64 0, .int .i64 0, .slice none 0 0, .slice none 0 0] 70 (0, 0))) ∧ (w'.heap[s_.2]? = some (.cells #[.int .i64 0, .int .i64 0, .slice none 0 0, .slice none 0 0] 70 (0, 0))) ∧ (w.heap.size ≤ s_.2) ∧ (w.heap.size ≤ s_.2) ∧ (gb466 ≠ s_.2) ∧ (s_.2 ≠ gb466) ∧ (gb467 ≠ s_.2) ∧ (s_.2 ≠ gb467) ∧ (Below w.heap.size w w')) ?_ ?_
  rotate_left
  · intro hCont
    refine two_ (i := 6) (j := 8) (Ni := some 12) (Nj := some 3) #[true, true, true, true, true, true, true, false, false, false] #[true, true, true, true, true, true, false, false, true, false] rfl rfl rfl rfl (two_of HT_.out (by kernel_rfl)) (by decide) (by decide) (fun K hK => ?_) (fun K hK => ?_)
    · skip
      refine goes_ Try.func88 (by kernel_rfl) rfl #[.slice A0_2 l0_2.length c0_2] (by rfl) rfl rfl (by (try simp only [List.map_toArray, List.map_cons, List.map_nil]); first | done | rfl | (simp only [List.length_drop, List.length_take]; rfl)) ?_
      with_reducible refine (slices_Clone_string_string.calls _ _ l0_2 t468 _ ?side1 ?side2 A2.out).mono ?_
      (case side1 => repeat (first | exact (Kd.C_below HR0_2.out HB.out) | (with_reducible refine Kd.C_alloc ?_ _) | (with_reducible refine Kd.C_drewN ?_ _) | (with_reducible refine Kd.C_drew ?_)))
      (case side2 => exact HC0_2.out)
      rintro e w6 ⟨v469, rfl, ho0, hb⟩
      refine ⟨_, rfl, ?_⟩
      have n0_ := Aside0.mk (Kd.R_lower ho0 (below_size (by repeat (first | (with_reducible first | exact HB.out | apply below_alloc | apply pw_below_drewN | apply below_drew1 | refine below_set ?_ GE466.out | refine below_set ?_ GE467.out) | exact HB.out))))
      have n1_ := Aside0.mk (blk_below (g := gb466) (o := .cells #[.int .i64 a0_0, .int .i64 a0_1, .slice A0_2 l0_2.length c0_2, .slice A0_3 l0_3.length c0_3] 70 (0, 0)) (by (with_reducible repeat (first | refine blk_drewN ?_ _ | refine blk_drew ?_ | refine blk_alloc ?_ _)); exact BK466.out) hb)
      have n2_ := Aside0.mk (blk_below (g := gb467) (o := .cells #[.int .i64 0, .int .i64 0, .slice none 0 0, .slice none 0 0] 70 (0, 0)) (by (with_reducible repeat (first | refine blk_drewN ?_ _ | refine blk_drew ?_ | refine blk_alloc ?_ _)); exact BK467.out) hb)
      have n3_ := Aside0.mk (below_step (by repeat (first | (with_reducible first | exact HB.out | apply below_alloc | apply pw_below_drewN | apply below_drew1 | refine below_set ?_ GE466.out | refine below_set ?_ GE467.out) | exact HB.out)) hb)
      clear BK466
      clear BK467
      clear HB
      have HO470 := n0_
      have BK466 := n1_
      have BK467 := n2_
      have HB := n3_
      clear n0_ n1_ n2_ n3_
      (try clear hb)
      (try clear hb2)
      (try clear hk)
      (try clear hi)
      (try clear ho0)
      obtain ⟨Ao7, co7, eo7⟩ := Kd.R_slice HO470.out
      (first | subst eo7 | (injection eo7 with f1_ f2_ f3_; have f4_ := f1_.symm; have f5_ := f3_.symm; clear f1_ f2_ f3_; subst f4_; subst f5_))
      refine hK.out _ _ ⟨(blk_cell BK466.out 0).trans rfl, (blk_cell BK466.out 1).trans rfl, (blk_cell BK466.out 2).trans rfl, (blk_cell BK466.out 3).trans rfl⟩ (fun hHeld => ?_)
      clear hK K
      refine norm_ (a' := ?_) ?_ ?_
      rotate_left
      · show Act.put _ (some 12) _ = _
        simp only [Act.put, List.setIfInBounds_toArray, List.set_cons_zero, List.set_cons_succ, i64_w, i32_w]
        rfl
      refine pure_ (i := 7) (N := some 13) (v := ?_) (a' := ?_) #[true, true, true, true, true, true, true, true, false, false] rfl rfl (any_of HT_.out (by kernel_rfl)) (fun _ _ _ h => h) (Or.inl ⟨by rfl, ?_⟩) ?_ ?_
      rotate_left
      · intro w'
        go_simp
        with_reducible rfl
      rotate_left
      · simp only [Act.put, List.setIfInBounds_toArray, List.set_cons_zero, List.set_cons_succ, i64_w, i32_w]
        rfl
      refine one_ (i := 8) (N := some 3) #[true, true, true, true, true, true, true, true, true, false] rfl rfl (one_of HT_.out (by kernel_rfl)) (by decide) (fun K hK => ?_)
      refine box_step ?hg (N := 3) ?hd (cs := #[.int .i64 0, .int .i64 0, .slice none 0 0, .slice none 0 0]) (t := 70) ?hr ?_; (case hd => rfl); (case hg => rfl); (case hr => first | (go_simp; done) | (go_simp; rfl))
      intro gb471 hg w8 hbox hb
      have n0_ := Aside0.mk (Kd.R_below (by (with_reducible repeat (first | apply Kd.R_alloc | apply Kd.R_drewN | apply Kd.R_drew)); exact HO470.out) hb)
      have n1_ := Aside0.mk (blk_below (g := gb466) (o := .cells #[.int .i64 a0_0, .int .i64 a0_1, .slice A0_2 l0_2.length c0_2, .slice A0_3 l0_3.length c0_3] 70 (0, 0)) (by (with_reducible repeat (first | refine blk_drewN ?_ _ | refine blk_drew ?_ | refine blk_alloc ?_ _)); exact BK466.out) hb)
      have n2_ := Aside0.mk (blk_below (g := gb467) (o := .cells #[.int .i64 0, .int .i64 0, .slice none 0 0, .slice none 0 0] 70 (0, 0)) (by (with_reducible repeat (first | refine blk_drewN ?_ _ | refine blk_drew ?_ | refine blk_alloc ?_ _)); exact BK467.out) hb)
      have n3_ := Aside0.mk (below_step (by repeat (first | (with_reducible first | exact HB.out | apply below_alloc | apply pw_below_drewN | apply below_drew1 | refine below_set ?_ GE466.out | refine below_set ?_ GE467.out) | exact HB.out)) hb)
      have n4_ := Aside0.mk (hbox)
      have n5_ := Aside0.mk ((by rw [hg]; exact (below_size (by repeat (first | (with_reducible first | exact HB.out | apply below_alloc | apply pw_below_drewN | apply below_drew1 | refine below_set ?_ GE466.out | refine below_set ?_ GE467.out) | exact HB.out))) : w.heap.size ≤ gb471))
      have n6_ := Aside0.mk ((by rw [hg]; exact (below_size (by repeat (first | (with_reducible first | exact HB.out | apply below_alloc | apply pw_below_drewN | apply below_drew1 | refine below_set ?_ GE466.out | refine below_set ?_ GE467.out) | exact HB.out))) : w.heap.size ≤ gb471))
      have n7_ := Aside0.mk ((by rw [hg]; exact Nat.ne_of_lt (blk_lt (g := gb466) (o := .cells #[.int .i64 a0_0, .int .i64 a0_1, .slice A0_2 l0_2.length c0_2, .slice A0_3 l0_3.length c0_3] 70 (0, 0)) (by (with_reducible repeat (first | refine blk_drewN ?_ _ | refine blk_drew ?_ | refine blk_alloc ?_ _)); exact BK466.out)) : gb466 ≠ gb471))
      have n8_ := Aside0.mk ((by rw [hg]; exact Nat.ne_of_gt (blk_lt (g := gb466) (o := .cells #[.int .i64 a0_0, .int .i64 a0_1, .slice A0_2 l0_2.length c0_2, .slice A0_3 l0_3.length c0_3] 70 (0, 0)) (by (with_reducible repeat (first | refine blk_drewN ?_ _ | refine blk_drew ?_ | refine blk_alloc ?_ _)); exact BK466.out)) : gb471 ≠ gb466))
      have n9_ := Aside0.mk ((by rw [hg]; exact Nat.ne_of_lt (blk_lt (g := gb467) (o := .cells #[.int .i64 0, .int .i64 0, .slice none 0 0, .slice none 0 0] 70 (0, 0)) (by (with_reducible repeat (first | refine blk_drewN ?_ _ | refine blk_drew ?_ | refine blk_alloc ?_ _)); exact BK467.out)) : gb467 ≠ gb471))
      have n10_ := Aside0.mk ((by rw [hg]; exact Nat.ne_of_gt (blk_lt (g := gb467) (o := .cells #[.int .i64 0, .int .i64 0, .slice none 0 0, .slice none 0 0] 70 (0, 0)) (by (with_reducible repeat (first | refine blk_drewN ?_ _ | refine blk_drew ?_ | refine blk_alloc ?_ _)); exact BK467.out)) : gb471 ≠ gb467))
      clear HO470
      clear BK466
      clear BK467
      clear HB
      have HO470 := n0_
      have BK466 := n1_
      have BK467 := n2_
      have HB := n3_
      have BK471 := n4_
      have GW471 := n5_
      have GE471 := n6_
      have NB466_471 := n7_
      have NB471_466 := n8_
      have NB467_471 := n9_
      have NB471_467 := n10_
      clear n0_ n1_ n2_ n3_ n4_ n5_ n6_ n7_ n8_ n9_ n10_
      clear hb hbox hg
      refine hK.out _ _ ⟨(blk_cell BK466.out 0).trans rfl, (blk_cell BK466.out 1).trans rfl, (blk_cell BK466.out 2).trans rfl, (blk_cell BK466.out 3).trans rfl⟩ (fun hHeld => ?_)
      clear hK K
      refine norm_ (a' := ?_) ?_ ?_
      rotate_left
      · show Act.put _ (some 3) _ = _
        simp only [Act.put, List.setIfInBounds_toArray, List.set_cons_zero, List.set_cons_succ, i64_w, i32_w]
        rfl
      exact norm_ (by simp only [putAll, Act.put, List.setIfInBounds_toArray, List.set_cons_zero, List.set_cons_succ]) (hCont (.slice Ao7 t468.length co7, gb471) _ ⟨hHeld, (by (with_reducible repeat (first | apply Kd.R_alloc | apply Kd.R_drewN | apply Kd.R_drew)); exact HO470.out), (by (with_reducible repeat (first | refine blk_drewN ?_ _ | refine blk_drew ?_ | refine blk_alloc ?_ _)); exact BK466.out), (by (with_reducible repeat (first | refine blk_drewN ?_ _ | refine blk_drew ?_ | refine blk_alloc ?_ _)); exact BK467.out), (by (with_reducible repeat (first | refine blk_drewN ?_ _ | refine blk_drew ?_ | refine blk_alloc ?_ _)); exact BK471.out), GW471.out, GE471.out, NB466_471.out, NB471_466.out, NB467_471.out, NB471_467.out, (by repeat (first | (with_reducible first | exact HB.out | apply below_alloc | apply pw_below_drewN | apply below_drew1 | refine below_set ?_ GE466.out | refine below_set ?_ GE467.out | refine below_set ?_ GE471.out) | exact HB.out))⟩)
    · skip
      refine box_step ?hg (N := 3) ?hd (cs := #[.int .i64 0, .int .i64 0, .slice none 0 0, .slice none 0 0]) (t := 70) ?hr ?_; (case hd => rfl); (case hg => rfl); (case hr => first | (go_simp; done) | (go_simp; rfl))
      intro gb471 hg w6 hbox hb
      have n0_ := Aside0.mk (blk_below (g := gb466) (o := .cells #[.int .i64 a0_0, .int .i64 a0_1, .slice A0_2 l0_2.length c0_2, .slice A0_3 l0_3.length c0_3] 70 (0, 0)) (by (with_reducible repeat (first | refine blk_drewN ?_ _ | refine blk_drew ?_ | refine blk_alloc ?_ _)); exact BK466.out) hb)
      have n1_ := Aside0.mk (blk_below (g := gb467) (o := .cells #[.int .i64 0, .int .i64 0, .slice none 0 0, .slice none 0 0] 70 (0, 0)) (by (with_reducible repeat (first | refine blk_drewN ?_ _ | refine blk_drew ?_ | refine blk_alloc ?_ _)); exact BK467.out) hb)
      have n2_ := Aside0.mk (below_step (by repeat (first | (with_reducible first | exact HB.out | apply below_alloc | apply pw_below_drewN | apply below_drew1 | refine below_set ?_ GE466.out | refine below_set ?_ GE467.out) | exact HB.out)) hb)
      have n3_ := Aside0.mk (hbox)
      have n4_ := Aside0.mk ((by rw [hg]; exact (below_size (by repeat (first | (with_reducible first | exact HB.out | apply below_alloc | apply pw_below_drewN | apply below_drew1 | refine below_set ?_ GE466.out | refine below_set ?_ GE467.out) | exact HB.out))) : w.heap.size ≤ gb471))
      have n5_ := Aside0.mk ((by rw [hg]; exact (below_size (by repeat (first | (with_reducible first | exact HB.out | apply below_alloc | apply pw_below_drewN | apply below_drew1 | refine below_set ?_ GE466.out | refine below_set ?_ GE467.out) | exact HB.out))) : w.heap.size ≤ gb471))
      have n6_ := Aside0.mk ((by rw [hg]; exact Nat.ne_of_lt (blk_lt (g := gb466) (o := .cells #[.int .i64 a0_0, .int .i64 a0_1, .slice A0_2 l0_2.length c0_2, .slice A0_3 l0_3.length c0_3] 70 (0, 0)) (by (with_reducible repeat (first | refine blk_drewN ?_ _ | refine blk_drew ?_ | refine blk_alloc ?_ _)); exact BK466.out)) : gb466 ≠ gb471))
      have n7_ := Aside0.mk ((by rw [hg]; exact Nat.ne_of_gt (blk_lt (g := gb466) (o := .cells #[.int .i64 a0_0, .int .i64 a0_1, .slice A0_2 l0_2.length c0_2, .slice A0_3 l0_3.length c0_3] 70 (0, 0)) (by (with_reducible repeat (first | refine blk_drewN ?_ _ | refine blk_drew ?_ | refine blk_alloc ?_ _)); exact BK466.out)) : gb471 ≠ gb466))
      have n8_ := Aside0.mk ((by rw [hg]; exact Nat.ne_of_lt (blk_lt (g := gb467) (o := .cells #[.int .i64 0, .int .i64 0, .slice none 0 0, .slice none 0 0] 70 (0, 0)) (by (with_reducible repeat (first | refine blk_drewN ?_ _ | refine blk_drew ?_ | refine blk_alloc ?_ _)); exact BK467.out)) : gb467 ≠ gb471))
      have n9_ := Aside0.mk ((by rw [hg]; exact Nat.ne_of_gt (blk_lt (g := gb467) (o := .cells #[.int .i64 0, .int .i64 0, .slice none 0 0, .slice none 0 0] 70 (0, 0)) (by (with_reducible repeat (first | refine blk_drewN ?_ _ | refine blk_drew ?_ | refine blk_alloc ?_ _)); exact BK467.out)) : gb471 ≠ gb467))
      clear BK466
      clear BK467
      clear HB
      have BK466 := n0_
      have BK467 := n1_
      have HB := n2_
      have BK471 := n3_
      have GW471 := n4_
      have GE471 := n5_
      have NB466_471 := n6_
      have NB471_466 := n7_
      have NB467_471 := n8_
      have NB471_467 := n9_
      clear n0_ n1_ n2_ n3_ n4_ n5_ n6_ n7_ n8_ n9_
      clear hb hbox hg
      refine hK.out _ _ ⟨(blk_cell BK466.out 0).trans rfl, (blk_cell BK466.out 1).trans rfl, (blk_cell BK466.out 2).trans rfl, (blk_cell BK466.out 3).trans rfl⟩ (fun hHeld => ?_)
      clear hK K
      refine norm_ (a' := ?_) ?_ ?_
      rotate_left
      · show Act.put _ (some 3) _ = _
        simp only [Act.put, List.setIfInBounds_toArray, List.set_cons_zero, List.set_cons_succ, i64_w, i32_w]
        rfl
      refine one_ (i := 6) (N := some 12) #[true, true, true, true, true, true, true, false, true, false] rfl rfl (one_of HT_.out (by kernel_rfl)) (by decide) (fun K hK => ?_)
      refine goes_ Try.func88 (by kernel_rfl) rfl #[.slice A0_2 l0_2.length c0_2] (by rfl) rfl rfl (by (try simp only [List.map_toArray, List.map_cons, List.map_nil]); first | done | rfl | (simp only [List.length_drop, List.length_take]; rfl)) ?_
      with_reducible refine (slices_Clone_string_string.calls _ _ l0_2 t468 _ ?side1 ?side2 A2.out).mono ?_
      (case side1 => repeat (first | exact (Kd.C_below HR0_2.out HB.out) | (with_reducible refine Kd.C_alloc ?_ _) | (with_reducible refine Kd.C_drewN ?_ _) | (with_reducible refine Kd.C_drew ?_)))
      (case side2 => exact HC0_2.out)
      rintro e w7 ⟨v469, rfl, ho0, hb⟩
      refine ⟨_, rfl, ?_⟩
      have n0_ := Aside0.mk (Kd.R_lower ho0 (below_size (by repeat (first | (with_reducible first | exact HB.out | apply below_alloc | apply pw_below_drewN | apply below_drew1 | refine below_set ?_ GE466.out | refine below_set ?_ GE467.out | refine below_set ?_ GE471.out) | exact HB.out))))
      have n1_ := Aside0.mk (blk_below (g := gb466) (o := .cells #[.int .i64 a0_0, .int .i64 a0_1, .slice A0_2 l0_2.length c0_2, .slice A0_3 l0_3.length c0_3] 70 (0, 0)) (by (with_reducible repeat (first | refine blk_drewN ?_ _ | refine blk_drew ?_ | refine blk_alloc ?_ _)); exact BK466.out) hb)
      have n2_ := Aside0.mk (blk_below (g := gb467) (o := .cells #[.int .i64 0, .int .i64 0, .slice none 0 0, .slice none 0 0] 70 (0, 0)) (by (with_reducible repeat (first | refine blk_drewN ?_ _ | refine blk_drew ?_ | refine blk_alloc ?_ _)); exact BK467.out) hb)
      have n3_ := Aside0.mk (blk_below (g := gb471) (o := .cells #[.int .i64 0, .int .i64 0, .slice none 0 0, .slice none 0 0] 70 (0, 0)) (by (with_reducible repeat (first | refine blk_drewN ?_ _ | refine blk_drew ?_ | refine blk_alloc ?_ _)); exact BK471.out) hb)
      have n4_ := Aside0.mk (below_step (by repeat (first | (with_reducible first | exact HB.out | apply below_alloc | apply pw_below_drewN | apply below_drew1 | refine below_set ?_ GE466.out | refine below_set ?_ GE467.out | refine below_set ?_ GE471.out) | exact HB.out)) hb)
      clear BK466
      clear BK467
      clear BK471
      clear HB
      have HO470 := n0_
      have BK466 := n1_
      have BK467 := n2_
      have BK471 := n3_
      have HB := n4_
      clear n0_ n1_ n2_ n3_ n4_
      (try clear hb)
      (try clear hb2)
      (try clear hk)
      (try clear hi)
      (try clear ho0)
      obtain ⟨Ao8, co8, eo8⟩ := Kd.R_slice HO470.out
      (first | subst eo8 | (injection eo8 with f1_ f2_ f3_; have f4_ := f1_.symm; have f5_ := f3_.symm; clear f1_ f2_ f3_; subst f4_; subst f5_))
      refine hK.out _ _ ⟨(blk_cell BK466.out 0).trans rfl, (blk_cell BK466.out 1).trans rfl, (blk_cell BK466.out 2).trans rfl, (blk_cell BK466.out 3).trans rfl⟩ (fun hHeld => ?_)
      clear hK K
      refine norm_ (a' := ?_) ?_ ?_
      rotate_left
      · show Act.put _ (some 12) _ = _
        simp only [Act.put, List.setIfInBounds_toArray, List.set_cons_zero, List.set_cons_succ, i64_w, i32_w]
        rfl
      refine pure_ (i := 7) (N := some 13) (v := ?_) (a' := ?_) #[true, true, true, true, true, true, true, true, true, false] rfl rfl (any_of HT_.out (by kernel_rfl)) (fun _ _ _ h => h) (Or.inl ⟨by rfl, ?_⟩) ?_ ?_
      rotate_left
      · intro w'
        go_simp
        with_reducible rfl
      rotate_left
      · simp only [Act.put, List.setIfInBounds_toArray, List.set_cons_zero, List.set_cons_succ, i64_w, i32_w]
        rfl
      exact norm_ (by simp only [putAll, Act.put, List.setIfInBounds_toArray, List.set_cons_zero, List.set_cons_succ]) (hCont (.slice Ao8 t468.length co8, gb471) _ ⟨hHeld, (by (with_reducible repeat (first | apply Kd.R_alloc | apply Kd.R_drewN | apply Kd.R_drew)); exact HO470.out), (by (with_reducible repeat (first | refine blk_drewN ?_ _ | refine blk_drew ?_ | refine blk_alloc ?_ _)); exact BK466.out), (by (with_reducible repeat (first | refine blk_drewN ?_ _ | refine blk_drew ?_ | refine blk_alloc ?_ _)); exact BK467.out), (by (with_reducible repeat (first | refine blk_drewN ?_ _ | refine blk_drew ?_ | refine blk_alloc ?_ _)); exact BK471.out), GW471.out, GE471.out, NB466_471.out, NB471_466.out, NB467_471.out, NB471_467.out, (by repeat (first | (with_reducible first | exact HB.out | apply below_alloc | apply pw_below_drewN | apply below_drew1 | refine below_set ?_ GE466.out | refine below_set ?_ GE467.out | refine below_set ?_ GE471.out) | exact HB.out))⟩)
  rintro ⟨v469, gb471⟩ w9 ⟨hS_, h0_, h1_, h2_, h3_, h4_, h5_, h6_, h7_, h8_, h9_, h10_⟩
  have n0_ : Aside0 (Kd.R Kd.string 9 w9 w.heap.size (fun _ => True) v469 t468) := ⟨h0_⟩
  have n1_ : Aside0 (w9.heap[gb466]? = some (.cells #[.int .i64 a0_0, .int .i64 a0_1, .slice A0_2 l0_2.length c0_2, .slice A0_3 l0_3.length c0_3] 70 (0, 0))) := ⟨h1_⟩
  have n2_ : Aside0 (w9.heap[gb467]? = some (.cells #[.int .i64 0, .int .i64 0, .slice none 0 0, .slice none 0 0] 70 (0, 0))) := ⟨h2_⟩
  have n3_ : Aside0 (w9.heap[gb471]? = some (.cells #[.int .i64 0, .int .i64 0, .slice none 0 0, .slice none 0 0] 70 (0, 0))) := ⟨h3_⟩
  have n4_ : Aside0 (w.heap.size ≤ gb471) := ⟨h4_⟩
  have n5_ : Aside0 (w.heap.size ≤ gb471) := ⟨h5_⟩
  have n6_ : Aside0 (gb466 ≠ gb471) := ⟨h6_⟩
  have n7_ : Aside0 (gb471 ≠ gb466) := ⟨h7_⟩
  have n8_ : Aside0 (gb467 ≠ gb471) := ⟨h8_⟩
  have n9_ : Aside0 (gb471 ≠ gb467) := ⟨h9_⟩
  have n10_ : Aside0 (Below w.heap.size w w9) := ⟨h10_⟩
  clear BK466
  clear BK467
  clear HB
  clear h0_ h1_ h2_ h3_ h4_ h5_ h6_ h7_ h8_ h9_ h10_
  have HO470 := n0_
  have BK466 := n1_
  have BK467 := n2_
  have BK471 := n3_
  have GW471 := n4_
  have GE471 := n5_
  have NB466_471 := n6_
  have NB471_466 := n7_
  have NB467_471 := n8_
  have NB471_467 := n9_
  have HB := n10_
  clear n0_ n1_ n2_ n3_ n4_ n5_ n6_ n7_ n8_ n9_ n10_
  have hHeld : w9.cell? ⟨gb466, 0, none⟩ = some (.int .i64 a0_0) ∧ w9.cell? ⟨gb466, 1, none⟩ = some (.int .i64 a0_1) ∧ w9.cell? ⟨gb466, 2, none⟩ = some (.slice A0_2 l0_2.length c0_2) ∧ w9.cell? ⟨gb466, 3, none⟩ = some (.slice A0_3 l0_3.length c0_3) := hS_
  obtain ⟨Ao10, co10, eo10⟩ := Kd.R_slice HO470.out
  (first | subst eo10 | (injection eo10 with f1_ f2_ f3_; have f4_ := f1_.symm; have f5_ := f3_.symm; clear f1_ f2_ f3_; subst f4_; subst f5_))
  refine norm_ (a' := ?_) ?_ ?_
  rotate_left
  · simp only [putAll, Act.put, List.setIfInBounds_toArray, List.set_cons_zero, List.set_cons_succ]
    rfl
  refine one_ (i := 9) (N := none) #[true, true, true, true, true, true, true, true, true, true] rfl rfl (one_of HT_.out (by kernel_rfl)) (by decide) (fun K hK => ?_)
  have hs11 : w9.cell? ⟨gb471, 0, none⟩ = some (.int .i64 0) := (blk_cell BK471.out 0).trans rfl
  have hfs11 := blk_frozen BK471.out 0
  have hns11_0 := NB466_471.out
  have hns11_1 := NB467_471.out
  have hms11_0 := NB471_466.out
  have hms11_1 := NB471_467.out
  have hs12 : w9.cell? ⟨gb471, 1, none⟩ = some (.int .i64 0) := (blk_cell BK471.out 1).trans rfl
  have hfs12 := blk_frozen BK471.out 1
  have hns12_0 := NB466_471.out
  have hns12_1 := NB467_471.out
  have hms12_0 := NB471_466.out
  have hms12_1 := NB471_467.out
  have hs13 : w9.cell? ⟨gb471, 2, none⟩ = some (.slice none 0 0) := (blk_cell BK471.out 2).trans rfl
  have hfs13 := blk_frozen BK471.out 2
  have hns13_0 := NB466_471.out
  have hns13_1 := NB467_471.out
  have hms13_0 := NB471_466.out
  have hms13_1 := NB471_467.out
  have hs14 : w9.cell? ⟨gb471, 3, none⟩ = some (.slice none 0 0) := (blk_cell BK471.out 3).trans rfl
  have hfs14 := blk_frozen BK471.out 3
  have hns14_0 := NB466_471.out
  have hns14_1 := NB467_471.out
  have hms14_0 := NB471_466.out
  have hms14_1 := NB471_467.out
  refine skip_ (w1 := ?_) (by rfl) rfl ?_ ?_
  rotate_left
  · go_simp
    rfl
  refine hK.out _ _ ⟨((cell_far (p := ⟨gb471, _, none⟩) NB466_471.out _).trans (((cell_far (p := ⟨gb471, _, none⟩) NB466_471.out _).trans (((cell_far (p := ⟨gb471, _, none⟩) NB466_471.out _).trans (((cell_far (p := ⟨gb471, _, none⟩) NB466_471.out _).trans (hHeld.1)))))))), ((cell_far (p := ⟨gb471, _, none⟩) NB466_471.out _).trans (((cell_far (p := ⟨gb471, _, none⟩) NB466_471.out _).trans (((cell_far (p := ⟨gb471, _, none⟩) NB466_471.out _).trans (((cell_far (p := ⟨gb471, _, none⟩) NB466_471.out _).trans (hHeld.2.1)))))))), ((cell_far (p := ⟨gb471, _, none⟩) NB466_471.out _).trans (((cell_far (p := ⟨gb471, _, none⟩) NB466_471.out _).trans (((cell_far (p := ⟨gb471, _, none⟩) NB466_471.out _).trans (((cell_far (p := ⟨gb471, _, none⟩) NB466_471.out _).trans (hHeld.2.2.1)))))))), ((cell_far (p := ⟨gb471, _, none⟩) NB466_471.out _).trans (((cell_far (p := ⟨gb471, _, none⟩) NB466_471.out _).trans (((cell_far (p := ⟨gb471, _, none⟩) NB466_471.out _).trans (((cell_far (p := ⟨gb471, _, none⟩) NB466_471.out _).trans (hHeld.2.2.2))))))))⟩ (fun hHeld => ?_)
  clear hK K
  refine done_ (done_of HT_.out (by kernel_rfl)) ?_
  have hnb15 := NB466_467.out
  have hnc15 := NB467_466.out
  have hnb16 := NB466_471.out
  have hnc16 := NB471_466.out
  have hcz17_0 : w9.cell? ⟨gb466, 0, none⟩ = some (.int .i64 a0_0) := (blk_cell BK466.out 0).trans rfl
  have hcz17_1 : w9.cell? ⟨gb466, 1, none⟩ = some (.int .i64 a0_1) := (blk_cell BK466.out 1).trans rfl
  have hcz17_2 : w9.cell? ⟨gb466, 2, none⟩ = some (.slice A0_2 l0_2.length c0_2) := (blk_cell BK466.out 2).trans rfl
  have hcz17_3 : w9.cell? ⟨gb466, 3, none⟩ = some (.slice A0_3 l0_3.length c0_3) := (blk_cell BK466.out 3).trans rfl
  have hfz17_0 := blk_frozen BK466.out 0
  have hfz17_1 := blk_frozen BK466.out 1
  have hfz17_2 := blk_frozen BK466.out 2
  have hfz17_3 := blk_frozen BK466.out 3
  try go_wp2
  go_loopg [17] k (fun kq v17 w' => ∃ (x17_1 : Int) (x472003_1 : List (S70)) (u472003 : Value), v17 = .int .i64 x17_1 ∧ Aside0 (impl_cloneValue.l0 kq l0_3 (l0_3.length : Int) x17_1 a0_0 a0_1 t468 x472003_1 = some (r1, r2, r3, r4)) ∧ Aside0 (kq ≤ k) ∧ Aside0 (Kd.R Kd.string 9 w' w.heap.size (fun _ => True) (.slice Ao10 t468.length co10) t468) ∧ Aside0 (Kd.S k70 70 w' w.heap.size (fun k_ => some k_ ≠ ((.slice Ao10 t468.length co10) : Value).ownBlock ∧ k_ ≠ gb466 ∧ k_ ≠ gb467 ∧ k_ ≠ gb471) u472003 x472003_1) ∧ Aside0 (w'.heap[gb466]? = some (.cells #[.int .i64 a0_0, .int .i64 a0_1, (.slice A0_2 l0_2.length c0_2), (.slice A0_3 l0_3.length c0_3)] 70 (0, 0))) ∧ Aside0 (w'.heap[gb467]? = some (.cells #[.int .i64 0, .int .i64 0, (.slice none 0 0), (.slice none 0 0)] 70 (0, 0))) ∧ Aside0 (w'.heap[gb471]? = some (.cells #[.int .i64 a0_0, .int .i64 a0_1, (.slice Ao10 t468.length co10), u472003] 70 (0, 0))) ∧ Aside0 (Below w.heap.size w w'))
  case atStart => exact ⟨(0), (([] : List (S70))), (.slice none 0 0), (by first | rfl | (simp; done) | (simp [i64_w, i32_w]; done) | (simp [*]; done)), H', ⟨Nat.le_refl _⟩, ⟨by (with_reducible repeat (first | apply Kd.R_alloc | apply Kd.R_drewN | apply Kd.R_drew)); exact Kd.R_mono (Kd.R_far (p := ⟨gb471, 3, none⟩) (Kd.R_far (p := ⟨gb471, 2, none⟩) (Kd.R_far (p := ⟨gb471, 1, none⟩) (Kd.R_far (p := ⟨gb471, 0, none⟩) (Kd.R_types HO470.out BK471.out (by decide)) (fun _ hk => hk.2) (.int .i64 a0_0)) (fun _ hk => hk.2) (.int .i64 a0_1)) (fun _ hk => hk.2) (.slice Ao10 t468.length co10)) (fun _ hk => hk.2) (.slice none 0 0)) (fun _ hk => trivial)⟩, ⟨by first | exact Kd.S_nil _ _ _ _ _ | exact Kd.N_nil _ _ _ _ _ | exact Kd.V_nil _ _ _ _ _ | exact Kd.Q_nil _ _ _ _ _ | exact Kd.R_nil _ _ _ _ _⟩, ⟨by (with_reducible repeat (first | refine blk_drewN ?_ _ | refine blk_drew ?_ | refine blk_alloc ?_ _)); refine blk_far ?_ NB466_471.out _; (with_reducible repeat (first | refine blk_drewN ?_ _ | refine blk_drew ?_ | refine blk_alloc ?_ _)); refine blk_far ?_ NB466_471.out _; (with_reducible repeat (first | refine blk_drewN ?_ _ | refine blk_drew ?_ | refine blk_alloc ?_ _)); refine blk_far ?_ NB466_471.out _; (with_reducible repeat (first | refine blk_drewN ?_ _ | refine blk_drew ?_ | refine blk_alloc ?_ _)); refine blk_far ?_ NB466_471.out _; (with_reducible repeat (first | refine blk_drewN ?_ _ | refine blk_drew ?_ | refine blk_alloc ?_ _)); exact BK466.out⟩, ⟨by (with_reducible repeat (first | refine blk_drewN ?_ _ | refine blk_drew ?_ | refine blk_alloc ?_ _)); refine blk_far ?_ NB467_471.out _; (with_reducible repeat (first | refine blk_drewN ?_ _ | refine blk_drew ?_ | refine blk_alloc ?_ _)); refine blk_far ?_ NB467_471.out _; (with_reducible repeat (first | refine blk_drewN ?_ _ | refine blk_drew ?_ | refine blk_alloc ?_ _)); refine blk_far ?_ NB467_471.out _; (with_reducible repeat (first | refine blk_drewN ?_ _ | refine blk_drew ?_ | refine blk_alloc ?_ _)); refine blk_far ?_ NB467_471.out _; (with_reducible repeat (first | refine blk_drewN ?_ _ | refine blk_drew ?_ | refine blk_alloc ?_ _)); exact BK467.out⟩, ⟨by (with_reducible repeat (first | refine blk_drewN ?_ _ | refine blk_drew ?_ | refine blk_alloc ?_ _)); refine blk_put (cs := #[.int .i64 a0_0, .int .i64 a0_1, .slice Ao10 t468.length co10, .slice none 0 0]) ?_ 3 _ rfl; (with_reducible repeat (first | refine blk_drewN ?_ _ | refine blk_drew ?_ | refine blk_alloc ?_ _)); refine blk_put (cs := #[.int .i64 a0_0, .int .i64 a0_1, .slice none 0 0, .slice none 0 0]) ?_ 2 _ rfl; (with_reducible repeat (first | refine blk_drewN ?_ _ | refine blk_drew ?_ | refine blk_alloc ?_ _)); refine blk_put (cs := #[.int .i64 a0_0, .int .i64 0, .slice none 0 0, .slice none 0 0]) ?_ 1 _ rfl; (with_reducible repeat (first | refine blk_drewN ?_ _ | refine blk_drew ?_ | refine blk_alloc ?_ _)); refine blk_put (cs := #[.int .i64 0, .int .i64 0, .slice none 0 0, .slice none 0 0]) ?_ 0 _ rfl; (with_reducible repeat (first | refine blk_drewN ?_ _ | refine blk_drew ?_ | refine blk_alloc ?_ _)); exact BK471.out⟩, ⟨by repeat (first | (with_reducible first | exact HB.out | apply below_alloc | apply pw_below_drewN | apply below_drew1 | refine below_set ?_ GE466.out | refine below_set ?_ GE467.out | refine below_set ?_ GE471.out) | exact HB.out)⟩⟩
  case round =>
    clear H'
    try clear c1
    try clear p2
    try clear c8
    try clear c11
    try clear c15
    try clear c16
    try clear hcz17_0
    try clear hcz17_1
    try clear hcz17_2
    try clear hcz17_3
    try clear hfz17_0
    try clear hfz17_1
    try clear hfz17_2
    try clear hfz17_3
    obtain ⟨x17_1, x472003_1, u472003, rfl, HA, HK1, HO_472002, HO_472003, BK466, BK467, BK471, HB⟩ := hrel
    cases gk with
    | zero => exact absurd HA.out (by simp [impl_cloneValue.l0])
    | succ k1 =>
      have H := HA.out
      clear HA
      simp only [impl_cloneValue.l0] at H
      by_cases c18 : x17_1 < (l0_3.length : Int)
      · rw [if_pos c18] at H
        have c18b0 : decide (x17_1 < (l0_3.length : Int)) = true := decide_eq_true c18
        clear c18
        by_cases c19 : 0 ≤ x17_1
        · rw [if_pos c19] at H
          have c19b0 : decide (0 ≤ x17_1) = true := decide_eq_true c19
          clear c19
          by_cases c20 : x17_1 < (l0_3.length : Int)
          · rw [if_pos c20] at H
            have c20b0 : decide (x17_1 < (l0_3.length : Int)) = true := decide_eq_true c20
            clear c20
            replace H := Option.bind_eq_some_iff.mp H
            obtain ⟨⟨t474, t475, t476, t479⟩, A210, H⟩ := H
            replace H : (if x472003_1.length < 2199023255552 then (impl_cloneValue.l0 k1 l0_3 (l0_3.length : Int) (wrap64 (x17_1 + 1)) a0_0 a0_1 t468 (x472003_1 ++ [(⟨t474, t475, t476, t479⟩ : S70)])) else (none)) = some (r1, r2, r3, r4) := H
            have A21 := Aside0.mk A210
            clear A210
            by_cases c22 : x472003_1.length < 2199023255552
            · rw [if_pos c22] at H
              have LMc22 := Aside0.mk c22
              clear c22
              obtain ⟨y482, hy482⟩ : ∃ y_ : List (S70), y_ = (x472003_1 ++ [(⟨t474, t475, t476, t479⟩ : S70)]) := ⟨_, rfl⟩
              replace H : (impl_cloneValue.l0 k1 l0_3 (l0_3.length : Int) (wrap64 (x17_1 + 1)) a0_0 a0_1 t468 y482) = some (r1, r2, r3, r4) := by first | (rw [hy482]; with_reducible exact H) | (have H2_ := (Option.bind_some _ _).symm.trans H; rw [hy482]; with_reducible exact H2_) | (have H2_ := (Option.bind_some _ _).symm.trans H; with_reducible exact H2_) | with_reducible exact H | (rw [hy482]; exact H) | exact H
              have Ny482 := Aside0.mk hy482
              clear hy482
              have H' := Aside0.mk H
              clear H
              have p472 : 0 ≤ (x17_1 : Int) := of_decide_eq_true (by first | (with_reducible assumption) | assumption)
              have q472 : x17_1 < (l0_3.length : Int) := of_decide_eq_true (by first | (with_reducible assumption) | assumption)
              obtain ⟨ad472, A472_2, c472_2, A472_3, c472_3, e472, hx472_0, hx472_1, hx472_2, hx472_3, hl472_2, hi472_2, hl472_3, hi472_3⟩ := at_T70 HR0_3.out x17_1 p472 q472
              cases e472
              replace hx472_0 := (HB.out.cell (World.block_lt_of_cell? w _ hx472_0)).trans hx472_0
              replace hx472_1 := (HB.out.cell (World.block_lt_of_cell? w _ hx472_1)).trans hx472_1
              replace hx472_2 := (HB.out.cell (World.block_lt_of_cell? w _ hx472_2)).trans hx472_2
              replace hx472_3 := (HB.out.cell (World.block_lt_of_cell? w _ hx472_3)).trans hx472_3
              have HR472_2 := Aside0.mk hi472_2
              have HC472_2 := Aside0.mk hl472_2
              clear hi472_2 hl472_2
              have HR472_3 := Aside0.mk hi472_3
              have HC472_3 := Aside0.mk hl472_3
              clear hi472_3 hl472_3
              replace p472 := eq_true p472
              replace q472 := eq_true q472
              try go_wp2_with (first | ((with_reducible refine gate_dst (N := 5) rfl ?_); refine box_event ?hg (N := 5) ?hd (cs := #[.int .i64 0, .int .i64 0, .slice none 0 0, .slice none 0 0]) (t := 70) ?hr ?_; (case hd => rfl); (case hg => rfl); (case hr => first | (go_simp; done) | (go_simp; rfl)); intro gb473 hg w23 hbox hb; have n0_ := Aside0.mk (Kd.R_below (by (with_reducible repeat (first | apply Kd.R_alloc | apply Kd.R_drewN | apply Kd.R_drew)); exact HO_472002.out) hb); have n1_ := Aside0.mk (Kd.S_below (Kd.S_elderB (by (with_reducible repeat (first | apply Kd.S_alloc | apply Kd.S_drewN | apply Kd.S_drew)); exact HO_472003.out) gb473 (Nat.le_of_eq hg.symm)) hb); have n2_ := Aside0.mk (blk_below (g := gb466) (o := .cells #[.int .i64 a0_0, .int .i64 a0_1, .slice A0_2 l0_2.length c0_2, .slice (some ad472) l0_3.length c0_3] 70 (0, 0)) (by (with_reducible repeat (first | refine blk_drewN ?_ _ | refine blk_drew ?_ | refine blk_alloc ?_ _)); exact BK466.out) hb); have n3_ := Aside0.mk (blk_below (g := gb467) (o := .cells #[.int .i64 0, .int .i64 0, .slice none 0 0, .slice none 0 0] 70 (0, 0)) (by (with_reducible repeat (first | refine blk_drewN ?_ _ | refine blk_drew ?_ | refine blk_alloc ?_ _)); exact BK467.out) hb); have n4_ := Aside0.mk (blk_below (g := gb471) (o := .cells #[.int .i64 a0_0, .int .i64 a0_1, .slice Ao10 t468.length co10, u472003] 70 (0, 0)) (by (with_reducible repeat (first | refine blk_drewN ?_ _ | refine blk_drew ?_ | refine blk_alloc ?_ _)); exact BK471.out) hb); have n5_ := Aside0.mk (below_step (by repeat (first | (with_reducible first | exact HB.out | apply below_alloc | apply pw_below_drewN | apply below_drew1 | refine below_set ?_ GE466.out | refine below_set ?_ GE467.out | refine below_set ?_ GE471.out) | exact HB.out)) hb); have n6_ := Aside0.mk (hbox); have n7_ := Aside0.mk ((by rw [hg]; exact (below_size (by repeat (first | (with_reducible first | exact HB.out | apply below_alloc | apply pw_below_drewN | apply below_drew1 | refine below_set ?_ GE466.out | refine below_set ?_ GE467.out | refine below_set ?_ GE471.out) | exact HB.out))) : w.heap.size ≤ gb473)); have n8_ := Aside0.mk ((by rw [hg]; exact (below_size (by repeat (first | (with_reducible first | exact HB.out | apply below_alloc | apply pw_below_drewN | apply below_drew1 | refine below_set ?_ GE466.out | refine below_set ?_ GE467.out | refine below_set ?_ GE471.out) | exact HB.out))) : w.heap.size ≤ gb473)); have n9_ := Aside0.mk ((by rw [hg]; exact Nat.ne_of_lt (blk_lt (g := gb466) (o := .cells #[.int .i64 a0_0, .int .i64 a0_1, .slice A0_2 l0_2.length c0_2, .slice (some ad472) l0_3.length c0_3] 70 (0, 0)) (by (with_reducible repeat (first | refine blk_drewN ?_ _ | refine blk_drew ?_ | refine blk_alloc ?_ _)); exact BK466.out)) : gb466 ≠ gb473)); have n10_ := Aside0.mk ((by rw [hg]; exact Nat.ne_of_gt (blk_lt (g := gb466) (o := .cells #[.int .i64 a0_0, .int .i64 a0_1, .slice A0_2 l0_2.length c0_2, .slice (some ad472) l0_3.length c0_3] 70 (0, 0)) (by (with_reducible repeat (first | refine blk_drewN ?_ _ | refine blk_drew ?_ | refine blk_alloc ?_ _)); exact BK466.out)) : gb473 ≠ gb466)); have n11_ := Aside0.mk ((by rw [hg]; exact Nat.ne_of_lt (blk_lt (g := gb467) (o := .cells #[.int .i64 0, .int .i64 0, .slice none 0 0, .slice none 0 0] 70 (0, 0)) (by (with_reducible repeat (first | refine blk_drewN ?_ _ | refine blk_drew ?_ | refine blk_alloc ?_ _)); exact BK467.out)) : gb467 ≠ gb473)); have n12_ := Aside0.mk ((by rw [hg]; exact Nat.ne_of_gt (blk_lt (g := gb467) (o := .cells #[.int .i64 0, .int .i64 0, .slice none 0 0, .slice none 0 0] 70 (0, 0)) (by (with_reducible repeat (first | refine blk_drewN ?_ _ | refine blk_drew ?_ | refine blk_alloc ?_ _)); exact BK467.out)) : gb473 ≠ gb467)); have n13_ := Aside0.mk ((by rw [hg]; exact Nat.ne_of_lt (blk_lt (g := gb471) (o := .cells #[.int .i64 a0_0, .int .i64 a0_1, .slice Ao10 t468.length co10, u472003] 70 (0, 0)) (by (with_reducible repeat (first | refine blk_drewN ?_ _ | refine blk_drew ?_ | refine blk_alloc ?_ _)); exact BK471.out)) : gb471 ≠ gb473)); have n14_ := Aside0.mk ((by rw [hg]; exact Nat.ne_of_gt (blk_lt (g := gb471) (o := .cells #[.int .i64 a0_0, .int .i64 a0_1, .slice Ao10 t468.length co10, u472003] 70 (0, 0)) (by (with_reducible repeat (first | refine blk_drewN ?_ _ | refine blk_drew ?_ | refine blk_alloc ?_ _)); exact BK471.out)) : gb473 ≠ gb471)); clear HO_472002; clear HO_472003; clear BK466; clear BK467; clear BK471; clear HB; have HO_472002 := n0_; have HO_472003 := n1_; have BK466 := n2_; have BK467 := n3_; have BK471 := n4_; have HB := n5_; have BK473 := n6_; have GW473 := n7_; have GE473 := n8_; have NB466_473 := n9_; have NB473_466 := n10_; have NB467_473 := n11_; have NB473_467 := n12_; have NB471_473 := n13_; have NB473_471 := n14_; clear n0_ n1_ n2_ n3_ n4_ n5_ n6_ n7_ n8_ n9_ n10_ n11_ n12_ n13_ n14_; clear hb hbox hg; have hnb24 := NB473_466.out; have hnc24 := NB466_473.out; have hnb25 := NB473_467.out; have hnc25 := NB467_473.out; have hnb26 := NB473_471.out; have hnc26 := NB471_473.out; have hcz27_0 : w23.cell? ⟨gb473, 0, none⟩ = some (.int .i64 0) := (blk_cell BK473.out 0).trans rfl; have hcz27_1 : w23.cell? ⟨gb473, 1, none⟩ = some (.int .i64 0) := (blk_cell BK473.out 1).trans rfl; have hcz27_2 : w23.cell? ⟨gb473, 2, none⟩ = some (.slice none 0 0) := (blk_cell BK473.out 2).trans rfl; have hcz27_3 : w23.cell? ⟨gb473, 3, none⟩ = some (.slice none 0 0) := (blk_cell BK473.out 3).trans rfl; have hfz27_0 := blk_frozen BK473.out 0; have hfz27_1 := blk_frozen BK473.out 1; have hfz27_2 := blk_frozen BK473.out 2; have hfz27_3 := blk_frozen BK473.out 3))
              have n0_ : Aside0 (Kd.R Kd.string 9 ((((w23.setCell ⟨gb473, 0, none⟩ (.int .i64 ((rd_T70 l0_3 x17_1).f0))).setCell ⟨gb473, 1, none⟩ (.int .i64 ((rd_T70 l0_3 x17_1).f1))).setCell ⟨gb473, 2, none⟩ (.slice A472_2 ((rd_T70 l0_3 x17_1).f2).length c472_2)).setCell ⟨gb473, 3, none⟩ (.slice A472_3 ((rd_T70 l0_3 x17_1).f3).length c472_3)) w.heap.size (fun _ => True) (.slice Ao10 t468.length co10) t468) := ⟨by (with_reducible repeat (first | apply Kd.R_alloc | apply Kd.R_drewN | apply Kd.R_drew)); exact Kd.R_mono (Kd.R_far (p := ⟨gb473, 3, none⟩) (Kd.R_far (p := ⟨gb473, 2, none⟩) (Kd.R_far (p := ⟨gb473, 1, none⟩) (Kd.R_far (p := ⟨gb473, 0, none⟩) (Kd.R_types HO_472002.out BK473.out (by decide)) (fun _ hk => hk.2) (.int .i64 ((rd_T70 l0_3 x17_1).f0))) (fun _ hk => hk.2) (.int .i64 ((rd_T70 l0_3 x17_1).f1))) (fun _ hk => hk.2) (.slice A472_2 ((rd_T70 l0_3 x17_1).f2).length c472_2)) (fun _ hk => hk.2) (.slice A472_3 ((rd_T70 l0_3 x17_1).f3).length c472_3)) (fun _ hk => trivial)⟩
              have n1_ : Aside0 (Kd.S k70 70 ((((w23.setCell ⟨gb473, 0, none⟩ (.int .i64 ((rd_T70 l0_3 x17_1).f0))).setCell ⟨gb473, 1, none⟩ (.int .i64 ((rd_T70 l0_3 x17_1).f1))).setCell ⟨gb473, 2, none⟩ (.slice A472_2 ((rd_T70 l0_3 x17_1).f2).length c472_2)).setCell ⟨gb473, 3, none⟩ (.slice A472_3 ((rd_T70 l0_3 x17_1).f3).length c472_3)) w.heap.size (fun k_ => some k_ ≠ (.slice Ao10 t468.length co10 : Value).ownBlock ∧ k_ ≠ gb466 ∧ k_ ≠ gb467 ∧ k_ ≠ gb471 ∧ k_ ≠ gb473) u472003 x472003_1) := ⟨by (with_reducible repeat (first | apply Kd.S_alloc | apply Kd.S_drewN | apply Kd.S_drew)); exact Kd.S_mono (Kd.S_far (p := ⟨gb473, 3, none⟩) (Kd.S_far (p := ⟨gb473, 2, none⟩) (Kd.S_far (p := ⟨gb473, 1, none⟩) (Kd.S_far (p := ⟨gb473, 0, none⟩) (Kd.S_mono HO_472003.out (fun k_ hk => (⟨hk, hk.2⟩ : _ ∧ k_ ≠ gb473))) (fun _ hk => hk.2) (.int .i64 ((rd_T70 l0_3 x17_1).f0))) (fun _ hk => hk.2) (.int .i64 ((rd_T70 l0_3 x17_1).f1))) (fun _ hk => hk.2) (.slice A472_2 ((rd_T70 l0_3 x17_1).f2).length c472_2)) (fun _ hk => hk.2) (.slice A472_3 ((rd_T70 l0_3 x17_1).f3).length c472_3)) (fun _ hk => ⟨hk.1.1.1, ⟨hk.1.1.2.1, ⟨hk.1.1.2.2.1, ⟨hk.1.1.2.2.2, hk.1.2⟩⟩⟩⟩)⟩
              have n2_ : Aside0 (((((w23.setCell ⟨gb473, 0, none⟩ (.int .i64 ((rd_T70 l0_3 x17_1).f0))).setCell ⟨gb473, 1, none⟩ (.int .i64 ((rd_T70 l0_3 x17_1).f1))).setCell ⟨gb473, 2, none⟩ (.slice A472_2 ((rd_T70 l0_3 x17_1).f2).length c472_2)).setCell ⟨gb473, 3, none⟩ (.slice A472_3 ((rd_T70 l0_3 x17_1).f3).length c472_3)).heap[gb466]? = some (.cells #[.int .i64 a0_0, .int .i64 a0_1, .slice A0_2 l0_2.length c0_2, .slice (some ad472) l0_3.length c0_3] 70 (0, 0))) := ⟨by (with_reducible repeat (first | refine blk_drewN ?_ _ | refine blk_drew ?_ | refine blk_alloc ?_ _)); refine blk_far ?_ NB466_473.out _; (with_reducible repeat (first | refine blk_drewN ?_ _ | refine blk_drew ?_ | refine blk_alloc ?_ _)); refine blk_far ?_ NB466_473.out _; (with_reducible repeat (first | refine blk_drewN ?_ _ | refine blk_drew ?_ | refine blk_alloc ?_ _)); refine blk_far ?_ NB466_473.out _; (with_reducible repeat (first | refine blk_drewN ?_ _ | refine blk_drew ?_ | refine blk_alloc ?_ _)); refine blk_far ?_ NB466_473.out _; (with_reducible repeat (first | refine blk_drewN ?_ _ | refine blk_drew ?_ | refine blk_alloc ?_ _)); exact BK466.out⟩
              have n3_ : Aside0 (((((w23.setCell ⟨gb473, 0, none⟩ (.int .i64 ((rd_T70 l0_3 x17_1).f0))).setCell ⟨gb473, 1, none⟩ (.int .i64 ((rd_T70 l0_3 x17_1).f1))).setCell ⟨gb473, 2, none⟩ (.slice A472_2 ((rd_T70 l0_3 x17_1).f2).length c472_2)).setCell ⟨gb473, 3, none⟩ (.slice A472_3 ((rd_T70 l0_3 x17_1).f3).length c472_3)).heap[gb467]? = some (.cells #[.int .i64 0, .int .i64 0, .slice none 0 0, .slice none 0 0] 70 (0, 0))) := ⟨by (with_reducible repeat (first | refine blk_drewN ?_ _ | refine blk_drew ?_ | refine blk_alloc ?_ _)); refine blk_far ?_ NB467_473.out _; (with_reducible repeat (first | refine blk_drewN ?_ _ | refine blk_drew ?_ | refine blk_alloc ?_ _)); refine blk_far ?_ NB467_473.out _; (with_reducible repeat (first | refine blk_drewN ?_ _ | refine blk_drew ?_ | refine blk_alloc ?_ _)); refine blk_far ?_ NB467_473.out _; (with_reducible repeat (first | refine blk_drewN ?_ _ | refine blk_drew ?_ | refine blk_alloc ?_ _)); refine blk_far ?_ NB467_473.out _; (with_reducible repeat (first | refine blk_drewN ?_ _ | refine blk_drew ?_ | refine blk_alloc ?_ _)); exact BK467.out⟩
              have n4_ : Aside0 (((((w23.setCell ⟨gb473, 0, none⟩ (.int .i64 ((rd_T70 l0_3 x17_1).f0))).setCell ⟨gb473, 1, none⟩ (.int .i64 ((rd_T70 l0_3 x17_1).f1))).setCell ⟨gb473, 2, none⟩ (.slice A472_2 ((rd_T70 l0_3 x17_1).f2).length c472_2)).setCell ⟨gb473, 3, none⟩ (.slice A472_3 ((rd_T70 l0_3 x17_1).f3).length c472_3)).heap[gb471]? = some (.cells #[.int .i64 a0_0, .int .i64 a0_1, .slice Ao10 t468.length co10, u472003] 70 (0, 0))) := ⟨by (with_reducible repeat (first | refine blk_drewN ?_ _ | refine blk_drew ?_ | refine blk_alloc ?_ _)); refine blk_far ?_ NB471_473.out _; (with_reducible repeat (first | refine blk_drewN ?_ _ | refine blk_drew ?_ | refine blk_alloc ?_ _)); refine blk_far ?_ NB471_473.out _; (with_reducible repeat (first | refine blk_drewN ?_ _ | refine blk_drew ?_ | refine blk_alloc ?_ _)); refine blk_far ?_ NB471_473.out _; (with_reducible repeat (first | refine blk_drewN ?_ _ | refine blk_drew ?_ | refine blk_alloc ?_ _)); refine blk_far ?_ NB471_473.out _; (with_reducible repeat (first | refine blk_drewN ?_ _ | refine blk_drew ?_ | refine blk_alloc ?_ _)); exact BK471.out⟩
              have n5_ : Aside0 (((((w23.setCell ⟨gb473, 0, none⟩ (.int .i64 ((rd_T70 l0_3 x17_1).f0))).setCell ⟨gb473, 1, none⟩ (.int .i64 ((rd_T70 l0_3 x17_1).f1))).setCell ⟨gb473, 2, none⟩ (.slice A472_2 ((rd_T70 l0_3 x17_1).f2).length c472_2)).setCell ⟨gb473, 3, none⟩ (.slice A472_3 ((rd_T70 l0_3 x17_1).f3).length c472_3)).heap[gb473]? = some (.cells #[.int .i64 ((rd_T70 l0_3 x17_1).f0), .int .i64 ((rd_T70 l0_3 x17_1).f1), .slice A472_2 ((rd_T70 l0_3 x17_1).f2).length c472_2, .slice A472_3 ((rd_T70 l0_3 x17_1).f3).length c472_3] 70 (0, 0))) := ⟨by (with_reducible repeat (first | refine blk_drewN ?_ _ | refine blk_drew ?_ | refine blk_alloc ?_ _)); refine blk_put (cs := #[.int .i64 ((rd_T70 l0_3 x17_1).f0), .int .i64 ((rd_T70 l0_3 x17_1).f1), .slice A472_2 ((rd_T70 l0_3 x17_1).f2).length c472_2, .slice none 0 0]) ?_ 3 _ rfl; (with_reducible repeat (first | refine blk_drewN ?_ _ | refine blk_drew ?_ | refine blk_alloc ?_ _)); refine blk_put (cs := #[.int .i64 ((rd_T70 l0_3 x17_1).f0), .int .i64 ((rd_T70 l0_3 x17_1).f1), .slice none 0 0, .slice none 0 0]) ?_ 2 _ rfl; (with_reducible repeat (first | refine blk_drewN ?_ _ | refine blk_drew ?_ | refine blk_alloc ?_ _)); refine blk_put (cs := #[.int .i64 ((rd_T70 l0_3 x17_1).f0), .int .i64 0, .slice none 0 0, .slice none 0 0]) ?_ 1 _ rfl; (with_reducible repeat (first | refine blk_drewN ?_ _ | refine blk_drew ?_ | refine blk_alloc ?_ _)); refine blk_put (cs := #[.int .i64 0, .int .i64 0, .slice none 0 0, .slice none 0 0]) ?_ 0 _ rfl; (with_reducible repeat (first | refine blk_drewN ?_ _ | refine blk_drew ?_ | refine blk_alloc ?_ _)); exact BK473.out⟩
              have n6_ : Aside0 (Below w.heap.size w ((((w23.setCell ⟨gb473, 0, none⟩ (.int .i64 ((rd_T70 l0_3 x17_1).f0))).setCell ⟨gb473, 1, none⟩ (.int .i64 ((rd_T70 l0_3 x17_1).f1))).setCell ⟨gb473, 2, none⟩ (.slice A472_2 ((rd_T70 l0_3 x17_1).f2).length c472_2)).setCell ⟨gb473, 3, none⟩ (.slice A472_3 ((rd_T70 l0_3 x17_1).f3).length c472_3))) := ⟨by repeat (first | (with_reducible first | exact HB.out | apply below_alloc | apply pw_below_drewN | apply below_drew1 | refine below_set ?_ GE466.out | refine below_set ?_ GE467.out | refine below_set ?_ GE471.out | refine below_set ?_ GE473.out) | exact HB.out)⟩
              (try clear HO_472002)
              (try clear HO_472003)
              (try clear BK466)
              (try clear BK467)
              (try clear BK471)
              (try clear BK473)
              (try clear HB)
              generalize ((((w23.setCell ⟨gb473, 0, none⟩ (.int .i64 ((rd_T70 l0_3 x17_1).f0))).setCell ⟨gb473, 1, none⟩ (.int .i64 ((rd_T70 l0_3 x17_1).f1))).setCell ⟨gb473, 2, none⟩ (.slice A472_2 ((rd_T70 l0_3 x17_1).f2).length c472_2)).setCell ⟨gb473, 3, none⟩ (.slice A472_3 ((rd_T70 l0_3 x17_1).f3).length c472_3)) = w28 at n0_ n1_ n2_ n3_ n4_ n5_ n6_ ⊢
              have HO_472002 := n0_
              have HO_472003 := n1_
              have BK466 := n2_
              have BK467 := n3_
              have BK471 := n4_
              have BK473 := n5_
              have HB := n6_
              clear n0_ n1_ n2_ n3_ n4_ n5_ n6_
              have n0_ := Aside0.mk (Kd.R_drew HO_472002.out)
              have n1_ := Aside0.mk (Kd.S_drew HO_472003.out)
              have n2_ := Aside0.mk (blk_drew BK466.out)
              have n3_ := Aside0.mk (blk_drew BK467.out)
              have n4_ := Aside0.mk (blk_drew BK471.out)
              have n5_ := Aside0.mk (blk_drew BK473.out)
              have n6_ := Aside0.mk (below_drew1 HB.out)
              clear HO_472002
              clear HO_472003
              clear BK466
              clear BK467
              clear BK471
              clear BK473
              clear HB
              have HO_472002 := n0_
              have HO_472003 := n1_
              have BK466 := n2_
              have BK467 := n3_
              have BK471 := n4_
              have BK473 := n5_
              have HB := n6_
              clear n0_ n1_ n2_ n3_ n4_ n5_ n6_
              refine start_ (n := 8) (S := fun w' => w'.cell? ⟨gb471, 0, none⟩ = some (.int .i64 a0_0) ∧ w'.cell? ⟨gb471, 1, none⟩ = some (.int .i64 a0_1) ∧ w'.cell? ⟨gb471, 2, none⟩ = some (.slice Ao10 t468.length co10) ∧ w'.cell? ⟨gb471, 3, none⟩ = some (u472003) ∧ w'.cell? ⟨gb473, 0, none⟩ = some (.int .i64 ((rd_T70 l0_3 x17_1).f0)) ∧ w'.cell? ⟨gb473, 1, none⟩ = some (.int .i64 ((rd_T70 l0_3 x17_1).f1)) ∧ w'.cell? ⟨gb473, 2, none⟩ = some (.slice A472_2 ((rd_T70 l0_3 x17_1).f2).length c472_2) ∧ w'.cell? ⟨gb473, 3, none⟩ = some (.slice A472_3 ((rd_T70 l0_3 x17_1).f3).length c472_3)) (ds := [7]) #[false, false, false, false, false, false, false, false] (by kernel_rfl) rfl rfl ⟨(blk_cell BK471.out 0).trans rfl, (blk_cell BK471.out 1).trans rfl, (blk_cell BK471.out 2).trans rfl, (blk_cell BK471.out 3).trans rfl, (blk_cell BK473.out 0).trans rfl, (blk_cell BK473.out 1).trans rfl, (blk_cell BK473.out 2).trans rfl, (blk_cell BK473.out 3).trans rfl⟩ (fun hHeld => ?_); refine with_tabW impl_cloneValue.tab5 impl_cloneValue.bits5 (fun HT_ HW_ => ?_)
              generalize w28.drew = w29 at HO_472002 HO_472003 BK466 BK467 BK471 BK473 HB hHeld ⊢
              refine pure_ (i := 0) (N := some 21) (v := ?_) (a' := ?_) #[true, false, false, false, false, false, false, false] rfl rfl (any_of HT_.out (by kernel_rfl)) (fun _ _ _ h => h) (Or.inl ⟨by rfl, ?_⟩) ?_ ?_
              rotate_left
              · intro w'
                go_simp
                with_reducible rfl
              rotate_left
              · simp only [Act.put, List.setIfInBounds_toArray, List.set_cons_zero, List.set_cons_succ, i64_w, i32_w]
                rfl
              refine take_ (i := 1) (N := some 22) (v := ?_) (a' := ?_) #[true, true, false, false, false, false, false, false] rfl rfl (take_ofW HT_.out HW_.out (by kernel_rfl)) (fun _ _ _ h => h) (Or.inl ⟨by rfl, ?_⟩) hHeld ?_ ?_
              rotate_left
              · rintro w' ⟨s0, s1, s2, s3, s4, s5, s6, s7⟩
                go_simp
                with_reducible rfl
              rotate_left
              · simp only [Act.put, List.setIfInBounds_toArray, List.set_cons_zero, List.set_cons_succ, i64_w, i32_w]
                rfl
              refine take_ (i := 2) (N := some 23) (v := ?_) (a' := ?_) #[true, true, true, false, false, false, false, false] rfl rfl (take_ofW HT_.out HW_.out (by kernel_rfl)) (fun _ _ _ h => h) (Or.inl ⟨by rfl, ?_⟩) hHeld ?_ ?_
              rotate_left
              · rintro w' ⟨s0, s1, s2, s3, s4, s5, s6, s7⟩
                go_simp
                with_reducible rfl
              rotate_left
              · simp only [Act.put, List.setIfInBounds_toArray, List.set_cons_zero, List.set_cons_succ, i64_w, i32_w]
                rfl
              refine one_ (i := 3) (N := some 24) #[true, true, true, true, false, false, false, false] rfl rfl (one_of HT_.out (by kernel_rfl)) (by decide) (fun K hK => ?_)
              refine goes_ Try.func116 (by kernel_rfl) rfl #[.agg #[.int .i64 ((rd_T70 l0_3 x17_1).f0), .int .i64 ((rd_T70 l0_3 x17_1).f1), .slice A472_2 ((rd_T70 l0_3 x17_1).f2).length c472_2, .slice A472_3 ((rd_T70 l0_3 x17_1).f3).length c472_3]] (by rfl) rfl rfl (by (try simp only [List.map_toArray, List.map_cons, List.map_nil]); first | done | rfl | (simp only [List.length_drop, List.length_take]; rfl)) ?_
              with_reducible refine (ih k1 (by have := HK1.out; omega) ((rd_T70 l0_3 x17_1).f0) ((rd_T70 l0_3 x17_1).f1) _ _ ((rd_T70 l0_3 x17_1).f2) _ _ ((rd_T70 l0_3 x17_1).f3) t474 t475 t476 t479 _ ?side1 ?side2 ?side3 ?side4 A21.out).mono ?_
              (case side1 => repeat (first | exact (Kd.C_below HR472_2.out HB.out) | (with_reducible refine Kd.C_alloc ?_ _) | (with_reducible refine Kd.C_drewN ?_ _) | (with_reducible refine Kd.C_drew ?_)))
              (case side2 => exact HC472_2.out)
              (case side3 => repeat (first | exact (Kd.C_below HR472_3.out HB.out) | (with_reducible refine Kd.C_alloc ?_ _) | (with_reducible refine Kd.C_drewN ?_ _) | (with_reducible refine Kd.C_drew ?_)))
              (case side4 => exact HC472_3.out)
              rintro e w30 ⟨v477, v480, rfl, ho0, ho1, hb⟩
              refine ⟨_, rfl, ?_⟩
              obtain ⟨N31, EN31⟩ := Ow.name_size hb
              have n0_ := Aside0.mk (Kd.R_elder' (by (with_reducible repeat (first | apply Kd.R_alloc | apply Kd.R_drewN | apply Kd.R_drew)); exact HO_472002.out) (Kd.R_base ho0) hb)
              have n1_ := Aside0.mk (Ow.S_ltN (Kd.S_told (Kd.S_told (Kd.S_old (by (with_reducible repeat (first | apply Kd.S_alloc | apply Kd.S_drewN | apply Kd.S_drew)); exact HO_472003.out) hb) (Kd.R_base ho0)) (Kd.S_base ho1)) EN31.out)
              have n2_ := Aside0.mk (Kd.R_lower (Ow.R_geN (Kd.R_new' ho0 (Kd.R_lt (by (with_reducible repeat (first | apply Kd.R_alloc | apply Kd.R_drewN | apply Kd.R_drew)); exact HO_472002.out))) EN31.out) (below_size (by repeat (first | (with_reducible first | exact HB.out | apply below_alloc | apply pw_below_drewN | apply below_drew1 | refine below_set ?_ GE466.out | refine below_set ?_ GE467.out | refine below_set ?_ GE471.out | refine below_set ?_ GE473.out) | exact HB.out))))
              have n3_ := Aside0.mk (Kd.S_lower (Ow.S_geN (Kd.S_newB (Kd.S_newB (Kd.S_newB (Kd.S_newB (Kd.S_new' (Kd.S_new' ho1 (Kd.R_lt (by (with_reducible repeat (first | apply Kd.R_alloc | apply Kd.R_drewN | apply Kd.R_drew)); exact HO_472002.out))) (Kd.S_lt (by (with_reducible repeat (first | apply Kd.S_alloc | apply Kd.S_drewN | apply Kd.S_drew)); exact HO_472003.out))) (g := gb466) (o := .cells #[.int .i64 a0_0, .int .i64 a0_1, .slice A0_2 l0_2.length c0_2, .slice (some ad472) l0_3.length c0_3] 70 (0, 0)) (by (with_reducible repeat (first | refine blk_drewN ?_ _ | refine blk_drew ?_ | refine blk_alloc ?_ _)); exact BK466.out)) (g := gb467) (o := .cells #[.int .i64 0, .int .i64 0, .slice none 0 0, .slice none 0 0] 70 (0, 0)) (by (with_reducible repeat (first | refine blk_drewN ?_ _ | refine blk_drew ?_ | refine blk_alloc ?_ _)); exact BK467.out)) (g := gb471) (o := .cells #[.int .i64 a0_0, .int .i64 a0_1, .slice Ao10 t468.length co10, u472003] 70 (0, 0)) (by (with_reducible repeat (first | refine blk_drewN ?_ _ | refine blk_drew ?_ | refine blk_alloc ?_ _)); exact BK471.out)) (g := gb473) (o := .cells #[.int .i64 ((rd_T70 l0_3 x17_1).f0), .int .i64 ((rd_T70 l0_3 x17_1).f1), .slice A472_2 ((rd_T70 l0_3 x17_1).f2).length c472_2, .slice A472_3 ((rd_T70 l0_3 x17_1).f3).length c472_3] 70 (0, 0)) (by (with_reducible repeat (first | refine blk_drewN ?_ _ | refine blk_drew ?_ | refine blk_alloc ?_ _)); exact BK473.out)) EN31.out) (below_size (by repeat (first | (with_reducible first | exact HB.out | apply below_alloc | apply pw_below_drewN | apply below_drew1 | refine below_set ?_ GE466.out | refine below_set ?_ GE467.out | refine below_set ?_ GE471.out | refine below_set ?_ GE473.out) | exact HB.out))))
              have n4_ := Aside0.mk (blk_below (g := gb466) (o := .cells #[.int .i64 a0_0, .int .i64 a0_1, .slice A0_2 l0_2.length c0_2, .slice (some ad472) l0_3.length c0_3] 70 (0, 0)) (by (with_reducible repeat (first | refine blk_drewN ?_ _ | refine blk_drew ?_ | refine blk_alloc ?_ _)); exact BK466.out) hb)
              have n5_ := Aside0.mk (blk_below (g := gb467) (o := .cells #[.int .i64 0, .int .i64 0, .slice none 0 0, .slice none 0 0] 70 (0, 0)) (by (with_reducible repeat (first | refine blk_drewN ?_ _ | refine blk_drew ?_ | refine blk_alloc ?_ _)); exact BK467.out) hb)
              have n6_ := Aside0.mk (blk_below (g := gb471) (o := .cells #[.int .i64 a0_0, .int .i64 a0_1, .slice Ao10 t468.length co10, u472003] 70 (0, 0)) (by (with_reducible repeat (first | refine blk_drewN ?_ _ | refine blk_drew ?_ | refine blk_alloc ?_ _)); exact BK471.out) hb)
              have n7_ := Aside0.mk (blk_below (g := gb473) (o := .cells #[.int .i64 ((rd_T70 l0_3 x17_1).f0), .int .i64 ((rd_T70 l0_3 x17_1).f1), .slice A472_2 ((rd_T70 l0_3 x17_1).f2).length c472_2, .slice A472_3 ((rd_T70 l0_3 x17_1).f3).length c472_3] 70 (0, 0)) (by (with_reducible repeat (first | refine blk_drewN ?_ _ | refine blk_drew ?_ | refine blk_alloc ?_ _)); exact BK473.out) hb)
              have n8_ := Aside0.mk (below_step (by repeat (first | (with_reducible first | exact HB.out | apply below_alloc | apply pw_below_drewN | apply below_drew1 | refine below_set ?_ GE466.out | refine below_set ?_ GE467.out | refine below_set ?_ GE471.out | refine below_set ?_ GE473.out) | exact HB.out)) hb)
              clear HO_472002
              clear HO_472003
              clear BK466
              clear BK467
              clear BK471
              clear BK473
              clear HB
              have HO_472002 := n0_
              have HO_472003 := n1_
              have HO478 := n2_
              have HO481 := n3_
              have BK466 := n4_
              have BK467 := n5_
              have BK471 := n6_
              have BK473 := n7_
              have HB := n8_
              clear n0_ n1_ n2_ n3_ n4_ n5_ n6_ n7_ n8_
              (try clear hb)
              (try clear hb2)
              (try clear hk)
              (try clear hi)
              (try clear ho0)
              (try clear ho1)
              obtain ⟨Ao33, co33, eo33⟩ := Kd.R_slice HO478.out
              (first | subst eo33 | (injection eo33 with f1_ f2_ f3_; have f4_ := f1_.symm; have f5_ := f3_.symm; clear f1_ f2_ f3_; subst f4_; subst f5_))
              obtain ⟨Ao34, co34, eo34⟩ := Kd.S_slice HO481.out
              (first | subst eo34 | (injection eo34 with f1_ f2_ f3_; have f4_ := f1_.symm; have f5_ := f3_.symm; clear f1_ f2_ f3_; subst f4_; subst f5_))
              refine hK.out _ _ ⟨(blk_cell BK471.out 0).trans rfl, (blk_cell BK471.out 1).trans rfl, (blk_cell BK471.out 2).trans rfl, (blk_cell BK471.out 3).trans rfl, (blk_cell BK473.out 0).trans rfl, (blk_cell BK473.out 1).trans rfl, (blk_cell BK473.out 2).trans rfl, (blk_cell BK473.out 3).trans rfl⟩ (fun hHeld => ?_)
              clear hK K
              refine norm_ (a' := ?_) ?_ ?_
              rotate_left
              · show Act.put _ (some 24) _ = _
                simp only [Act.put, List.setIfInBounds_toArray, List.set_cons_zero, List.set_cons_succ, i64_w, i32_w]
                rfl
              refine one_ (i := 4) (N := some 25) #[true, true, true, true, true, false, false, false] rfl rfl (one_of HT_.out (by kernel_rfl)) (by decide) (fun K hK => ?_)
              refine value_ (w1 := ?_) (v := ?_) (by rfl) rfl ?_ ?_
              rotate_left 2
              · go_simp
                constructor
                · rfl
                · rfl
              refine hK.out _ _ ⟨(blk_cell (blk_alloc BK471.out _) 0).trans rfl, (blk_cell (blk_alloc BK471.out _) 1).trans rfl, (blk_cell (blk_alloc BK471.out _) 2).trans rfl, (blk_cell (blk_alloc BK471.out _) 3).trans rfl, (blk_cell (blk_alloc BK473.out _) 0).trans rfl, (blk_cell (blk_alloc BK473.out _) 1).trans rfl, (blk_cell (blk_alloc BK473.out _) 2).trans rfl, (blk_cell (blk_alloc BK473.out _) 3).trans rfl⟩ (fun hHeld => ?_)
              clear hK K
              refine norm_ (a' := ?_) ?_ ?_
              rotate_left
              · show Act.put _ (some 25) _ = _
                simp only [Act.put, List.setIfInBounds_toArray, List.set_cons_zero, List.set_cons_succ, i64_w, i32_w]
                rfl
              refine one_ (i := 5) (N := some 26) #[true, true, true, true, true, true, false, false] rfl rfl (one_of HT_.out (by kernel_rfl)) (by decide) (fun K hK => ?_)
              refine Kd.S_append_step k70 (w0 := w) w.heap.size (by rfl) (.tmp 22) (.tmp 25) 59 70 (.agg #[(.int .i64 0), (.int .i64 0), (.slice none 0 0), (.slice none 0 0)]) 64 rfl Try.underlying59 info70 rfl (by decide) (by omega) u472003 x472003_1 (⟨t474, t475, t476, t479⟩ : S70) [.int .i64 t474, .int .i64 t475, .slice Ao33 t476.length co33, .slice Ao34 t479.length co34] (fun k_ => some k_ ≠ (.slice Ao10 t468.length co10 : Value).ownBlock ∧ k_ ≠ gb466 ∧ k_ ≠ gb467 ∧ k_ ≠ gb471 ∧ k_ ≠ gb473) (fun k_ => N31 ≤ k_ ∧ ((fun k_ => some k_ ≠ (.slice Ao10 t468.length co10 : Value).ownBlock ∧ k_ ≠ gb466 ∧ k_ ≠ gb467 ∧ k_ ≠ gb471 ∧ k_ ≠ gb473)) k_ ∧ some k_ ≠ (u472003 : Value).ownBlock) rfl rfl ?aP (fun _ hk => ⟨hk.2.1, hk.2.2⟩) ?aF ?aO ?aB ?aS ?aL ?_
              (case aP => exact k70_mkA _ _ _ (⟨t474, t475, t476, t479⟩ : S70) (Kd.R_mono (Kd.R_types (Kd.R_types (Kd.R_types (Kd.R_types (Kd.R_apart' (HO478.out) (Kd.S_typed HO_472003.out) (by decide)) BK466.out (by decide)) BK467.out (by decide)) BK471.out (by decide)) BK473.out (by decide)) (fun k_ hk => ⟨hk.1.1.1.1.1.2, ⟨hk.1.1.1.1.1.1.2, ⟨hk.1.1.1.2, ⟨hk.1.1.2, ⟨hk.1.2, hk.2⟩⟩⟩⟩, hk.1.1.1.1.2⟩)) (Kd.S_mono (HO481.out) (fun k_ hk => ⟨⟨hk.2, ⟨hk.1.1.1.1.1.1.2, ⟨hk.1.1.1.1.2, ⟨hk.1.1.1.2, ⟨hk.1.1.2, hk.1.2⟩⟩⟩⟩, hk.1.1.1.1.1.2⟩, hk.1.1.1.1.1.1.1⟩)))
              (case aB => exact (by repeat (first | (with_reducible first | exact HB.out | apply below_alloc | apply pw_below_drewN | apply below_drew1 | refine below_set ?_ GE466.out | refine below_set ?_ GE467.out | refine below_set ?_ GE471.out | refine below_set ?_ GE473.out) | exact HB.out)))
              (case aF => exact (fun k_ hk => ⟨Kd.fresh' (Kd.R_lt (by (with_reducible repeat (first | apply Kd.R_alloc | apply Kd.R_drewN | apply Kd.R_drew)); exact HO_472002.out)) k_ hk, Kd.freshB (g := gb466) (o := .cells #[.int .i64 a0_0, .int .i64 a0_1, .slice A0_2 l0_2.length c0_2, .slice (some ad472) l0_3.length c0_3] 70 (0, 0)) (by (with_reducible repeat (first | refine blk_drewN ?_ _ | refine blk_drew ?_ | refine blk_alloc ?_ _)); exact BK466.out) k_ hk, Kd.freshB (g := gb467) (o := .cells #[.int .i64 0, .int .i64 0, .slice none 0 0, .slice none 0 0] 70 (0, 0)) (by (with_reducible repeat (first | refine blk_drewN ?_ _ | refine blk_drew ?_ | refine blk_alloc ?_ _)); exact BK467.out) k_ hk, Kd.freshB (g := gb471) (o := .cells #[.int .i64 a0_0, .int .i64 a0_1, .slice Ao10 t468.length co10, u472003] 70 (0, 0)) (by (with_reducible repeat (first | refine blk_drewN ?_ _ | refine blk_drew ?_ | refine blk_alloc ?_ _)); exact BK471.out) k_ hk, Kd.freshB (g := gb473) (o := .cells #[.int .i64 ((rd_T70 l0_3 x17_1).f0), .int .i64 ((rd_T70 l0_3 x17_1).f1), .slice A472_2 ((rd_T70 l0_3 x17_1).f2).length c472_2, .slice A472_3 ((rd_T70 l0_3 x17_1).f3).length c472_3] 70 (0, 0)) (by (with_reducible repeat (first | refine blk_drewN ?_ _ | refine blk_drew ?_ | refine blk_alloc ?_ _)); exact BK473.out) k_ hk⟩))
              (case aO => exact (by (with_reducible repeat (first | apply Kd.S_alloc | apply Kd.S_drewN | apply Kd.S_drew)); exact Kd.S_mono HO_472003.out (fun k_ hk => ⟨⟨hk.1.1.1.1, ⟨hk.1.1.1.2.1, ⟨hk.1.1.1.2.2.1, ⟨hk.1.1.1.2.2.2.1, hk.1.1.1.2.2.2.2⟩⟩⟩⟩, fun e_ => Nat.not_le_of_lt (hk.2) e_.1⟩)))
              (case aS => exact (below_size (by repeat (first | (with_reducible first | exact HB.out | apply below_alloc | apply pw_below_drewN | apply below_drew1 | refine below_set ?_ GE466.out | refine below_set ?_ GE467.out | refine below_set ?_ GE471.out | refine below_set ?_ GE473.out) | exact HB.out))))
              (case aL => have := LMc22.out; omega)
              intro v483 w32 ho hb hg hat
              rw [← Ny482.out] at ho
              have n0_ := Aside0.mk (Kd.R_over' (by (with_reducible repeat (first | apply Kd.R_alloc | apply Kd.R_drewN | apply Kd.R_drew)); exact HO_472002.out) (Kd.S_typed (by (with_reducible repeat (first | apply Kd.S_alloc | apply Kd.S_drewN | apply Kd.S_drew)); exact HO_472003.out)) (by decide) hg)
              have n1_ := Aside0.mk (blk_grown (g := gb466) (o := .cells #[.int .i64 a0_0, .int .i64 a0_1, .slice A0_2 l0_2.length c0_2, .slice (some ad472) l0_3.length c0_3] 70 (0, 0)) (by (with_reducible repeat (first | refine blk_drewN ?_ _ | refine blk_drew ?_ | refine blk_alloc ?_ _)); exact BK466.out) hg (Kd.S_away HO_472003.out (fun _ hk => hk.1.1.1.2.1)))
              have n2_ := Aside0.mk (blk_grown (g := gb467) (o := .cells #[.int .i64 0, .int .i64 0, .slice none 0 0, .slice none 0 0] 70 (0, 0)) (by (with_reducible repeat (first | refine blk_drewN ?_ _ | refine blk_drew ?_ | refine blk_alloc ?_ _)); exact BK467.out) hg (Kd.S_away HO_472003.out (fun _ hk => hk.1.1.1.2.2.1)))
              have n3_ := Aside0.mk (blk_grown (g := gb471) (o := .cells #[.int .i64 a0_0, .int .i64 a0_1, .slice Ao10 t468.length co10, u472003] 70 (0, 0)) (by (with_reducible repeat (first | refine blk_drewN ?_ _ | refine blk_drew ?_ | refine blk_alloc ?_ _)); exact BK471.out) hg (Kd.S_away HO_472003.out (fun _ hk => hk.1.1.1.2.2.2.1)))
              have n4_ := Aside0.mk (blk_grown (g := gb473) (o := .cells #[.int .i64 ((rd_T70 l0_3 x17_1).f0), .int .i64 ((rd_T70 l0_3 x17_1).f1), .slice A472_2 ((rd_T70 l0_3 x17_1).f2).length c472_2, .slice A472_3 ((rd_T70 l0_3 x17_1).f3).length c472_3] 70 (0, 0)) (by (with_reducible repeat (first | refine blk_drewN ?_ _ | refine blk_drew ?_ | refine blk_alloc ?_ _)); exact BK473.out) hg (Kd.S_away HO_472003.out (fun _ hk => hk.1.1.1.2.2.2.2)))
              have n5_ := Aside0.mk (hb)
              have n6_ := Aside0.mk (ho)
              clear HO_472002
              clear BK466
              clear BK467
              clear BK471
              clear BK473
              clear HB
              clear HO_472003
              clear HO478
              clear HO481
              have HO_472002 := n0_
              have BK466 := n1_
              have BK467 := n2_
              have BK471 := n3_
              have BK473 := n4_
              have HB := n5_
              have HO484 := n6_
              clear n0_ n1_ n2_ n3_ n4_ n5_ n6_
              clear ho hb hg hat
              obtain ⟨Ao35, co35, eo35⟩ := Kd.S_slice HO484.out
              (first | subst eo35 | (injection eo35 with f1_ f2_ f3_; have f4_ := f1_.symm; have f5_ := f3_.symm; clear f1_ f2_ f3_; subst f4_; subst f5_))
              refine hK.out _ _ ⟨(blk_cell BK471.out 0).trans rfl, (blk_cell BK471.out 1).trans rfl, (blk_cell BK471.out 2).trans rfl, (blk_cell BK471.out 3).trans rfl, (blk_cell BK473.out 0).trans rfl, (blk_cell BK473.out 1).trans rfl, (blk_cell BK473.out 2).trans rfl, (blk_cell BK473.out 3).trans rfl⟩ (fun hHeld => ?_)
              clear hK K
              refine norm_ (a' := ?_) ?_ ?_
              rotate_left
              · show Act.put _ (some 26) _ = _
                simp only [Act.put, List.setIfInBounds_toArray, List.set_cons_zero, List.set_cons_succ, i64_w, i32_w]
                rfl
              refine pure_ (i := 6) (N := some 27) (v := ?_) (a' := ?_) #[true, true, true, true, true, true, true, false] rfl rfl (any_of HT_.out (by kernel_rfl)) (fun _ _ _ h => h) (Or.inl ⟨by rfl, ?_⟩) ?_ ?_
              rotate_left
              · intro w'
                go_simp
                with_reducible rfl
              rotate_left
              · simp only [Act.put, List.setIfInBounds_toArray, List.set_cons_zero, List.set_cons_succ, i64_w, i32_w]
                rfl
              refine last_ (i := 7) (N := none) #[true, true, true, true, true, true, true, true] rfl rfl (one_of HT_.out (by kernel_rfl)) (by decide) (fun K hK => ?_)
              have hs36 : w32.cell? ⟨gb471, 3, none⟩ = some (u472003) := (blk_cell BK471.out 3).trans rfl
              have hfs36 := blk_frozen BK471.out 3
              have hns36_0 := NB466_471.out
              have hns36_1 := NB467_471.out
              have hns36_3 := NB473_471.out
              have hms36_0 := NB471_466.out
              have hms36_1 := NB471_467.out
              have hms36_3 := NB471_473.out
              refine skip_ (w1 := ?_) (by rfl) rfl ?_ ?_
              rotate_left
              · go_simp
                rfl
              refine hK.out _ _ ?_
              clear hK K
              refine done_ (done_of HT_.out (by kernel_rfl)) ?_
              try go_wp2
              go_roundg k1
              case measure => have := HK1.out; omega
              case rel => exact ⟨(wrap64 (x17_1 + 1)), (y482), (.slice Ao35 y482.length co35), (by first | rfl | (simp; done) | (simp [i64_w, i32_w]; done) | (simp [*]; done)), H', ⟨by have := HK1.out; omega⟩, ⟨by (with_reducible repeat (first | apply Kd.R_alloc | apply Kd.R_drewN | apply Kd.R_drew)); exact Kd.R_mono (Kd.R_far (p := ⟨gb471, 3, none⟩) (Kd.R_types HO_472002.out BK471.out (by decide)) (fun _ hk => hk.2) (.slice Ao35 y482.length co35)) (fun _ hk => trivial)⟩, ⟨by (with_reducible repeat (first | apply Kd.S_alloc | apply Kd.S_drewN | apply Kd.S_drew)); exact Kd.S_mono (Kd.S_far (p := ⟨gb471, 3, none⟩) (Kd.S_mono HO484.out (fun k_ hk => (⟨hk, hk.2.2.2.1⟩ : _ ∧ k_ ≠ gb471))) (fun _ hk => hk.2) (.slice Ao35 y482.length co35)) (fun _ hk => ⟨hk.1.1, ⟨hk.1.2.1, ⟨hk.1.2.2.1, hk.1.2.2.2.1⟩⟩⟩)⟩, ⟨by (with_reducible repeat (first | refine blk_drewN ?_ _ | refine blk_drew ?_ | refine blk_alloc ?_ _)); refine blk_far ?_ NB466_471.out _; (with_reducible repeat (first | refine blk_drewN ?_ _ | refine blk_drew ?_ | refine blk_alloc ?_ _)); exact BK466.out⟩, ⟨by (with_reducible repeat (first | refine blk_drewN ?_ _ | refine blk_drew ?_ | refine blk_alloc ?_ _)); refine blk_far ?_ NB467_471.out _; (with_reducible repeat (first | refine blk_drewN ?_ _ | refine blk_drew ?_ | refine blk_alloc ?_ _)); exact BK467.out⟩, ⟨by (with_reducible repeat (first | refine blk_drewN ?_ _ | refine blk_drew ?_ | refine blk_alloc ?_ _)); refine blk_put (cs := #[.int .i64 a0_0, .int .i64 a0_1, .slice Ao10 t468.length co10, u472003]) ?_ 3 _ rfl; (with_reducible repeat (first | refine blk_drewN ?_ _ | refine blk_drew ?_ | refine blk_alloc ?_ _)); exact BK471.out⟩, ⟨by repeat (first | (with_reducible first | exact HB.out | apply below_alloc | apply pw_below_drewN | apply below_drew1 | refine below_set ?_ GE466.out | refine below_set ?_ GE467.out | refine below_set ?_ GE471.out | refine below_set ?_ GE473.out) | exact HB.out)⟩⟩
            · rw [if_neg c22] at H
              exact absurd H (by simp)
          · rw [if_neg c20] at H
            exact absurd H (by simp)
        · rw [if_neg c19] at H
          exact absurd H (by simp)
      · rw [if_neg c18] at H
        have c18b0 : decide (x17_1 < (l0_3.length : Int)) = false := decide_eq_false c18
        clear c18
        simp only [Option.some.injEq, Prod.mk.injEq] at H
        obtain ⟨rfl, rfl, rfl, rfl⟩ := H
        have hnb37 := NB471_466.out
        have hnc37 := NB466_471.out
        have hnb38 := NB471_467.out
        have hnc38 := NB467_471.out
        have hcz39_0 : wr.cell? ⟨gb471, 0, none⟩ = some (.int .i64 a0_0) := (blk_cell BK471.out 0).trans rfl
        have hcz39_1 : wr.cell? ⟨gb471, 1, none⟩ = some (.int .i64 a0_1) := (blk_cell BK471.out 1).trans rfl
        have hcz39_2 : wr.cell? ⟨gb471, 2, none⟩ = some (.slice Ao10 t468.length co10) := (blk_cell BK471.out 2).trans rfl
        have hcz39_3 : wr.cell? ⟨gb471, 3, none⟩ = some (u472003) := (blk_cell BK471.out 3).trans rfl
        have hfz39_0 := blk_frozen BK471.out 0
        have hfz39_1 := blk_frozen BK471.out 1
        have hfz39_2 := blk_frozen BK471.out 2
        have hfz39_3 := blk_frozen BK471.out 3
        have hnb40 := NB467_466.out
        have hnc40 := NB466_467.out
        have hcz41_0 : wr.cell? ⟨gb467, 0, none⟩ = some (.int .i64 0) := (blk_cell BK467.out 0).trans rfl
        have hcz41_1 : wr.cell? ⟨gb467, 1, none⟩ = some (.int .i64 0) := (blk_cell BK467.out 1).trans rfl
        have hcz41_2 : wr.cell? ⟨gb467, 2, none⟩ = some (.slice none 0 0) := (blk_cell BK467.out 2).trans rfl
        have hcz41_3 : wr.cell? ⟨gb467, 3, none⟩ = some (.slice none 0 0) := (blk_cell BK467.out 3).trans rfl
        have hfz41_0 := blk_frozen BK467.out 0
        have hfz41_1 := blk_frozen BK467.out 1
        have hfz41_2 := blk_frozen BK467.out 2
        have hfz41_3 := blk_frozen BK467.out 3
        obtain ⟨Ao42, co42, eo42⟩ := Kd.S_slice HO_472003.out
        subst eo42
        go_wp2
        refine bodyPost_ret (results_cell_row rfl _ _ gb467 70 #[.int .i64 a0_0, .int .i64 a0_1, .slice Ao10 t468.length co10, .slice Ao42 x472003_1.length co42] (0, 0) _ rfl (by (with_reducible repeat (first | refine blk_drewN ?_ _ | refine blk_drew ?_ | refine blk_alloc ?_ _)); refine blk_put (cs := #[.int .i64 a0_0, .int .i64 a0_1, .slice Ao10 t468.length co10, .slice none 0 0]) ?_ 3 _ rfl; (with_reducible repeat (first | refine blk_drewN ?_ _ | refine blk_drew ?_ | refine blk_alloc ?_ _)); refine blk_put (cs := #[.int .i64 a0_0, .int .i64 a0_1, .slice none 0 0, .slice none 0 0]) ?_ 2 _ rfl; (with_reducible repeat (first | refine blk_drewN ?_ _ | refine blk_drew ?_ | refine blk_alloc ?_ _)); refine blk_put (cs := #[.int .i64 a0_0, .int .i64 0, .slice none 0 0, .slice none 0 0]) ?_ 1 _ rfl; (with_reducible repeat (first | refine blk_drewN ?_ _ | refine blk_drew ?_ | refine blk_alloc ?_ _)); refine blk_put (cs := #[.int .i64 0, .int .i64 0, .slice none 0 0, .slice none 0 0]) ?_ 0 _ rfl; (with_reducible repeat (first | refine blk_drewN ?_ _ | refine blk_drew ?_ | refine blk_alloc ?_ _)); exact BK467.out) Try.underlying70 rfl (by kernel_rfl)) rfl ?_
        exact ⟨_, _, by first | rfl | (simp [errW_none, errW_some] <;> rfl) | (simp [*, errW_none, errW_some] <;> rfl), by (with_reducible repeat (first | apply Kd.R_alloc | apply Kd.R_drewN | apply Kd.R_drew)); exact Kd.R_mono (Kd.R_far (p := ⟨gb467, 3, none⟩) (Kd.R_far (p := ⟨gb467, 2, none⟩) (Kd.R_far (p := ⟨gb467, 1, none⟩) (Kd.R_far (p := ⟨gb467, 0, none⟩) (Kd.R_types HO_472002.out BK467.out (by decide)) (fun _ hk => hk.2) (.int .i64 a0_0)) (fun _ hk => hk.2) (.int .i64 a0_1)) (fun _ hk => hk.2) (.slice Ao10 t468.length co10)) (fun _ hk => hk.2) (.slice Ao42 x472003_1.length co42)) (fun _ hk => trivial), by (with_reducible repeat (first | apply Kd.S_alloc | apply Kd.S_drewN | apply Kd.S_drew)); exact Kd.S_mono (Kd.S_far (p := ⟨gb467, 3, none⟩) (Kd.S_far (p := ⟨gb467, 2, none⟩) (Kd.S_far (p := ⟨gb467, 1, none⟩) (Kd.S_far (p := ⟨gb467, 0, none⟩) (Kd.S_mono HO_472003.out (fun k_ hk => (⟨hk, hk.2.2.1⟩ : _ ∧ k_ ≠ gb467))) (fun _ hk => hk.2) (.int .i64 a0_0)) (fun _ hk => hk.2) (.int .i64 a0_1)) (fun _ hk => hk.2) (.slice Ao10 t468.length co10)) (fun _ hk => hk.2) (.slice Ao42 x472003_1.length co42)) (fun _ hk => hk.1.1), by repeat (first | (with_reducible first | exact HB.out | apply below_alloc | apply pw_below_drewN | apply below_drew1 | refine below_set ?_ GE466.out | refine below_set ?_ GE467.out | refine below_set ?_ GE471.out) | exact HB.out)⟩

end Go.Proofs.Ytcgdaeaaimkhdaa.Py
