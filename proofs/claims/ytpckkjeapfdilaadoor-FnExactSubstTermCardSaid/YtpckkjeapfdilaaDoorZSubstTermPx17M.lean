/- Printed by a program of this session: what functions of the translation come to, each contract as it stands. No condition. -/
import Derived.Test.YtpckkjeapfdilaaDoorZSubstTermSh
import Derived.Test.YtpckkjeapfdilaaDoorZSubstTermPx0M
import Derived.Test.YtpckkjeapfdilaaDoorZSubstTermPx14M
section
namespace Go.Proofs.YtpckkjeapfdilaaDoor.Px
open Go.RowKit Go.Proofs.YtpckkjeapfdilaaDoor.Ext Go.Proofs.YtpckkjeapfdilaaDoorW.PrintWords Go.Proofs.YtpckkjeapfdilaaDoorW.PrintLast Go.Proofs.YtpckkjeapfdilaaDoorW.PrintMore
attribute [local go_sem] max2_int min2_int max_two min_two max_three min_three max_four min_four   -- for this text's walks alone
set_option linter.unusedVariables false
set_option linter.unusedSimpArgs false

mutual
def laws_heldTermS.l0 : Nat → List (S35) → Int → Int → Option (Int)
 | 0, _, _, _ => none
 | k + 1, x0, x1, x5 => if x5 < (x0.length : Int) then (if 0 ≤ x5 then (if ((rd_T35 x0 x5).f0) = x1 then ((laws_markText.f k (wrap64 (x1 + 1))).bind fun t577 => (if ((rd_T35 x0 x5).f1).toList = t577.toList then (if ((rd_T35 x0 x5).f2) = (wrap64 ((wrap64 (x1 + 1)) + 1)) then (if ((rd_T35 x0 x5).f3.f0) = (wrap64 ((wrap64 ((wrap64 (x1 + 1)) + 1)) + 1)) then ((laws_heldStringS.f k ((rd_T35 x0 x5).f3.f1) (wrap64 ((wrap64 ((wrap64 ((wrap64 (x1 + 1)) + 1)) + 1)) + 1))).bind fun t581 => (if t581 < 0 then (some (-1)) else ((laws_heldTypeS.f k ((rd_T35 x0 x5).f3.f2) t581).bind fun t583 => (if t583 < 0 then (some (-1)) else ((laws_heldStringS.f k ((rd_T35 x0 x5).f4) t583).bind fun t585 => (if t585 < 0 then (some (-1)) else ((laws_heldTermS.f k ((rd_T35 x0 x5).f5) t585).bind fun t587 => (if t587 < 0 then (some (-1)) else (laws_heldTermS.l0 k x0 t587 (wrap64 (x5 + 1))))))))))) else (some (-1))) else (some (-1))) else (some (-1)))) else (some (-1))) else (none)) else (some x1)
def laws_heldTermS.f : Nat → List (S35) → Int → Option (Int)
 | 0, _, _ => none
 | k + 1, l0, a1 => laws_heldTermS.l0 k l0 a1 0
end
def laws_heldTermS.T7 : Bool × List (List Nat × List Nat) := (true, [([], []), ([], []), ([0, 1], [0, 1]), ([2], [2]), ([3], [3]), ([], []), ([5], [5]), ([4, 6], [4, 6])])
def laws_heldTermS.B7 : List Nat := [0, 0, 3, 7, 15, 0, 32, 127]
theorem laws_heldTermS.tab7 : rtab .any (opsOf Tryd.f40 7) = laws_heldTermS.T7 := by kernel_rfl
theorem laws_heldTermS.bits7 : waitsOk laws_heldTermS.T7.2 laws_heldTermS.B7 = true := by kernel_rfl
set_option maxHeartbeats 8000000 in
set_option maxRecDepth 100000 in
theorem laws_heldTermS.calls (k : Nat) : ∀ (A0 : Option Addr) (c0 : Nat) (l0 : List (S35)) (a1 : Int) (r : Int) (w : World) (hr0 : Kd.C k35 w A0 l0.length l0) (hc0 : l0.length ≤ c0) (h : laws_heldTermS.f k l0 a1 = some r),
  Calls Tryd.prog 40 #[.slice A0 l0.length c0, .int .i64 a1] w fun e w' => e = .returned (.int .i64 r) ∧ Below w.heap.size w w' := by
 induction k using Nat.strongRecOn with
 | _ k ih =>
 intro A0 c0 l0 a1 r w hr0 hc0 h
 cases k with
 | zero => exact absurd h (by simp [laws_heldTermS.f])
 | succ k =>
 simp only [laws_heldTermS.f] at h
 have HR0 := am hr0
 have HC0 := am hc0
 clear hr0 hc0
 have HB := am (Below.refl w.heap.size w)
 have H : (laws_heldTermS.l0 k l0 a1 0) = some r := h
 clear h
 have H' := am H
 clear H
 go_enter Tryd.func40, Tryd.ntmps40
 go_wp2
 go_loopg [1, 5] k (fun kq v1 v5 w' => ∃ (x1_1 : Int) (x5_1 : Int), v1 = .int .i64 x1_1 ∧ v5 = .int .i64 x5_1 ∧ Aside0 (laws_heldTermS.l0 kq l0 x1_1 x5_1 = some r) ∧ Aside0 (kq ≤ k) ∧ Aside0 (Below w.heap.size w w'))
 case atStart => exact ⟨(a1), (0), rfs, rfs, H', ⟨Nat.le_refl _⟩, ⟨blw⟩⟩
 case round =>
  clear H'
  try clear p2
  obtain ⟨x1_1, x5_1, rfl, rfl, HA, HK1, HB⟩ := hrel
  cases gk with
  | zero => exact absurd HA.out (by simp [laws_heldTermS.l0])
  | succ k1 =>
   have H := HA.out
   clear HA
   simp only [laws_heldTermS.l0] at H
   by_cases c3 : x5_1 < (l0.length : Int)
   case neg =>
    rw [if_neg c3] at H
    have c3b0 : decide (x5_1 < (l0.length : Int)) = false := decide_eq_false c3
    clear c3
    obtain rfl := Option.some.inj H
    go_wp2
    go_ret
    exact ⟨rfw, blw⟩
   rw [if_pos c3] at H
   have c3b0 : decide (x5_1 < (l0.length : Int)) = true := decide_eq_true c3
   clear c3
   by_cases c4 : 0 ≤ x5_1
   case neg =>
    rw [if_neg c4] at H
    exact absurd H (by simp)
   rw [if_pos c4] at H
   have c4b0 : decide (0 ≤ x5_1) = true := decide_eq_true c4
   clear c4
   by_cases c5 : ((rd_T35 l0 x5_1).f0) = x1_1
   case neg =>
    rw [if_neg c5] at H
    have c5b0 : (((rd_T35 l0 x5_1).f0) == x1_1) = false := beq_eq_false_iff_ne.mpr c5
    have c5b1 : (((rd_T35 l0 x5_1).f0) != x1_1) = true := bne_iff_ne.mpr c5
    obtain rfl := Option.some.inj H
    have p575 : 0 ≤ (x5_1 : Int) := of_decide_eq_true asw
    have q575 : x5_1 < (l0.length : Int) := of_decide_eq_true asw
    obtain ⟨ad575, A575_4, c575_4, A575_5, c575_5, A575_6, c575_6, A575_7, c575_7, e575, hx575_0, hx575_1, hx575_2, hx575_3, hx575_4, hx575_5, hx575_6, hx575_7, hl575_4, hi575_4, hl575_5, hi575_5, hl575_6, hi575_6, hl575_7, hi575_7⟩ := at_T35 HR0.out x5_1 p575 q575
    cases e575
    replace hx575_0 := upw HB.out hx575_0
    replace hx575_1 := upw HB.out hx575_1
    replace hx575_2 := upw HB.out hx575_2
    replace hx575_3 := upw HB.out hx575_3
    replace hx575_4 := upw HB.out hx575_4
    replace hx575_5 := upw HB.out hx575_5
    replace hx575_6 := upw HB.out hx575_6
    replace hx575_7 := upw HB.out hx575_7
    have HR575_4 := am hi575_4
    have HC575_4 := am hl575_4
    clear hi575_4 hl575_4
    have HR575_5 := am hi575_5
    have HC575_5 := am hl575_5
    clear hi575_5 hl575_5
    have HR575_6 := am hi575_6
    have HC575_6 := am hl575_6
    clear hi575_6 hl575_6
    have HR575_7 := am hi575_7
    have HC575_7 := am hl575_7
    clear hi575_7 hl575_7
    replace p575 := eq_true p575
    replace q575 := eq_true q575
    go_wp2
    go_ret
    exact ⟨rfw, blw⟩
   rw [if_pos c5] at H
   have c5b0 : (((rd_T35 l0 x5_1).f0) == x1_1) = true := beq_iff_eq.mpr c5
   have c5b1 : (((rd_T35 l0 x5_1).f0) != x1_1) = false := bne_eq_false_iff_eq.mpr c5
   clear c5
   replace H := Option.bind_eq_some_iff.mp H
   obtain ⟨t577, A60, H⟩ := H
   replace H : (if ((rd_T35 l0 x5_1).f1).toList = t577.toList then (if ((rd_T35 l0 x5_1).f2) = (wrap64 ((wrap64 (x1_1 + 1)) + 1)) then (if ((rd_T35 l0 x5_1).f3.f0) = (wrap64 ((wrap64 ((wrap64 (x1_1 + 1)) + 1)) + 1)) then ((laws_heldStringS.f k1 ((rd_T35 l0 x5_1).f3.f1) (wrap64 ((wrap64 ((wrap64 ((wrap64 (x1_1 + 1)) + 1)) + 1)) + 1))).bind fun t581 => (if t581 < 0 then (some (-1)) else ((laws_heldTypeS.f k1 ((rd_T35 l0 x5_1).f3.f2) t581).bind fun t583 => (if t583 < 0 then (some (-1)) else ((laws_heldStringS.f k1 ((rd_T35 l0 x5_1).f4) t583).bind fun t585 => (if t585 < 0 then (some (-1)) else ((laws_heldTermS.f k1 ((rd_T35 l0 x5_1).f5) t585).bind fun t587 => (if t587 < 0 then (some (-1)) else (laws_heldTermS.l0 k1 l0 t587 (wrap64 (x5_1 + 1))))))))))) else (some (-1))) else (some (-1))) else (some (-1))) = some r := H
   have A6 := am A60
   clear A60
   have HC7 := am H
   clear H
   have p575 : 0 ≤ (x5_1 : Int) := of_decide_eq_true asw
   have q575 : x5_1 < (l0.length : Int) := of_decide_eq_true asw
   obtain ⟨ad575, A575_4, c575_4, A575_5, c575_5, A575_6, c575_6, A575_7, c575_7, e575, hx575_0, hx575_1, hx575_2, hx575_3, hx575_4, hx575_5, hx575_6, hx575_7, hl575_4, hi575_4, hl575_5, hi575_5, hl575_6, hi575_6, hl575_7, hi575_7⟩ := at_T35 HR0.out x5_1 p575 q575
   cases e575
   replace hx575_0 := upw HB.out hx575_0
   replace hx575_1 := upw HB.out hx575_1
   replace hx575_2 := upw HB.out hx575_2
   replace hx575_3 := upw HB.out hx575_3
   replace hx575_4 := upw HB.out hx575_4
   replace hx575_5 := upw HB.out hx575_5
   replace hx575_6 := upw HB.out hx575_6
   replace hx575_7 := upw HB.out hx575_7
   have HR575_4 := am hi575_4
   have HC575_4 := am hl575_4
   clear hi575_4 hl575_4
   have HR575_5 := am hi575_5
   have HC575_5 := am hl575_5
   clear hi575_5 hl575_5
   have HR575_6 := am hi575_6
   have HC575_6 := am hl575_6
   clear hi575_6 hl575_6
   have HR575_7 := am hi575_7
   have HC575_7 := am hl575_7
   clear hi575_7 hl575_7
   replace p575 := eq_true p575
   replace q575 := eq_true q575
   try go_wp2
   have n0_ := am (below_drew1 HB.out)
   clear HB
   revert n0_
   intro HB
   have p576 : 0 ≤ (x5_1 : Int) := of_decide_eq_true asw
   have q576 : x5_1 < (l0.length : Int) := of_decide_eq_true asw
   obtain ⟨ad576, A576_4, c576_4, A576_5, c576_5, A576_6, c576_6, A576_7, c576_7, e576, hx576_0, hx576_1, hx576_2, hx576_3, hx576_4, hx576_5, hx576_6, hx576_7, hl576_4, hi576_4, hl576_5, hi576_5, hl576_6, hi576_6, hl576_7, hi576_7⟩ := at_T35 HR0.out x5_1 p576 q576
   have hw576_7 := hx576_7
   have hw576_6 := hx576_6
   have hw576_5 := hx576_5
   have hw576_4 := hx576_4
   have hw576_3 := hx576_3
   have hw576_2 := hx576_2
   have hw576_1 := hx576_1
   have hw576_0 := hx576_0
   obtain rfl : ad575 = ad576 := (by injection e576)
   replace hx576_0 := upw HB.out hx576_0
   replace hx576_1 := upw HB.out hx576_1
   replace hx576_2 := upw HB.out hx576_2
   replace hx576_3 := upw HB.out hx576_3
   replace hx576_4 := upw HB.out hx576_4
   replace hx576_5 := upw HB.out hx576_5
   replace hx576_6 := upw HB.out hx576_6
   replace hx576_7 := upw HB.out hx576_7
   have HR576_4 := am hi576_4
   have HC576_4 := am hl576_4
   clear hi576_4 hl576_4
   have HR576_5 := am hi576_5
   have HC576_5 := am hl576_5
   clear hi576_5 hl576_5
   have HR576_6 := am hi576_6
   have HC576_6 := am hl576_6
   clear hi576_6 hl576_6
   have HR576_7 := am hi576_7
   have HC576_7 := am hl576_7
   clear hi576_7 hl576_7
   replace p576 := eq_true p576
   replace q576 := eq_true q576
   refine start_ (n := 8) (S := fun w' => w'.cell? (ad575.add ((x5_1).toNat * 8)) = some (.int .i64 ((rd_T35 l0 x5_1).f0)) ∧ w'.cell? ⟨(ad575.add ((x5_1).toNat * 8)).block, (ad575.add ((x5_1).toNat * 8)).off + 1, none⟩ = some (.string ((rd_T35 l0 x5_1).f1)) ∧ w'.cell? ⟨(ad575.add ((x5_1).toNat * 8)).block, (ad575.add ((x5_1).toNat * 8)).off + 2, none⟩ = some (.int .i64 ((rd_T35 l0 x5_1).f2)) ∧ w'.cell? ⟨(ad575.add ((x5_1).toNat * 8)).block, (ad575.add ((x5_1).toNat * 8)).off + 3, none⟩ = some (.int .i64 ((rd_T35 l0 x5_1).f3.f0)) ∧ w'.cell? ⟨(ad575.add ((x5_1).toNat * 8)).block, (ad575.add ((x5_1).toNat * 8)).off + 4, none⟩ = some (.slice A576_4 ((rd_T35 l0 x5_1).f3.f1).length c576_4) ∧ w'.cell? ⟨(ad575.add ((x5_1).toNat * 8)).block, (ad575.add ((x5_1).toNat * 8)).off + 5, none⟩ = some (.slice A576_5 ((rd_T35 l0 x5_1).f3.f2).length c576_5) ∧ w'.cell? ⟨(ad575.add ((x5_1).toNat * 8)).block, (ad575.add ((x5_1).toNat * 8)).off + 6, none⟩ = some (.slice A576_6 ((rd_T35 l0 x5_1).f4).length c576_6) ∧ w'.cell? ⟨(ad575.add ((x5_1).toNat * 8)).block, (ad575.add ((x5_1).toNat * 8)).off + 7, none⟩ = some (.slice A576_7 ((rd_T35 l0 x5_1).f5).length c576_7)) (ds := []) #[false,false,false,false,false,false,false,false] kr rfl rfl ⟨((upw HB.out hw576_0 : _)), ((upw HB.out hw576_1 : _)), ((upw HB.out hw576_2 : _)), ((upw HB.out hw576_3 : _)), ((upw HB.out hw576_4 : _)), ((upw HB.out hw576_5 : _)), ((upw HB.out hw576_6 : _)), ((upw HB.out hw576_7 : _))⟩ (fun hHeld => ?_); refine with_tabW laws_heldTermS.tab7 laws_heldTermS.bits7 (fun HT_ HW_ => ?_)
   generalize wr.drew = w8 at HB HR576_4 HR576_5 HR576_6 HR576_7 hx576_0 hx576_1 hx576_2 hx576_3 hx576_4 hx576_5 hx576_6 hx576_7 hHeld ⊢
   refine pure_ (i := 0) (N := some 21) (v := ?_) (a' := ?_) (bm 8 1) rfl rfl (any_of HT_.out kr) qi (Or.inl ⟨by rfl, ?_⟩) ?_ ?_
   rotate_left
   ·intro w'
    go_simp
    with_reducible rfl
   rotate_left
   ·simp only [sx]
    rfl
   refine pure_ (i := 1) (N := some 22) (v := ?_) (a' := ?_) (bm 8 3) rfl rfl (any_of HT_.out kr) qi (Or.inl ⟨by rfl, ?_⟩) ?_ ?_
   rotate_left
   ·intro w'
    go_simp
    with_reducible rfl
   rotate_left
   ·simp only [sx]
    rfl
   refine pure_ (i := 2) (N := some 23) (v := ?_) (a' := ?_) (bm 8 7) rfl rfl (any_of HT_.out kr) qi (Or.inl ⟨by rfl, ?_⟩) ?_ ?_
   rotate_left
   ·intro w'
    go_simp
    with_reducible rfl
   rotate_left
   ·simp only [sx]
    rfl
   refine pure_ (i := 3) (N := some 24) (v := ?_) (a' := ?_) (bm 8 15) rfl rfl (any_of HT_.out kr) qi (Or.inl ⟨by rfl, ?_⟩) ?_ ?_
   rotate_left
   ·intro w'
    go_simp
    with_reducible rfl
   rotate_left
   ·simp only [sx]
    rfl
   refine pure_ (i := 5) (N := some 26) (v := ?_) (a' := ?_) (bm 8 47) rfl rfl (any_of HT_.out kr) qi (Or.inl ⟨by rfl, ?_⟩) ?_ ?_
   rotate_left
   ·intro w'
    go_simp
    with_reducible rfl
   rotate_left
   ·simp only [sx]
    rfl
   refine take_ (i := 4) (N := some 25) (v := ?_) (a' := ?_) (bm 8 63) rfl rfl (take_ofW HT_.out HW_.out kr) qi (Or.inl ⟨by rfl, ?_⟩) hHeld ?_ ?_
   rotate_left
   ·rintro w' ⟨s0, s1, s2, s3, s4, s5, s6, s7⟩
    go_simp
    with_reducible rfl
   rotate_left
   ·simp only [sx]
    rfl
   refine one_ (i := 6) (N := some 27) (bm 8 127) rfl rfl (one_of HT_.out kr) (by decide) (fun K hK => ?_)
   refine goes_ Tryd.func51 kr rfl #[.int .i64 (wrap64 (x1_1 + 1))] (by rfl) rfl rfl mpw ?_
   with_reducible refine (laws_markText.calls k1 (wrap64 (x1_1 + 1)) t577 _ A6.out).mono ?_
   rintro e w9 ⟨rfl, hb⟩
   refine ⟨_, rfl, ?_⟩
   have n0_ := am (below_step blw hb)
   clear HB
   revert n0_
   intro HB
   (try clear hb)
   (try clear hb2)
   (try clear hk)
   (try clear hi)
   refine hK.out _ _ ⟨((upw HB.out hw576_0 : _)), ((upw HB.out hw576_1 : _)), ((upw HB.out hw576_2 : _)), ((upw HB.out hw576_3 : _)), ((upw HB.out hw576_4 : _)), ((upw HB.out hw576_5 : _)), ((upw HB.out hw576_6 : _)), ((upw HB.out hw576_7 : _))⟩ (fun hHeld => ?_)
   clear hK K
   refine norm_ (a' := ?_) ?_ ?_
   rotate_left
   ·show Act.put _ (some 27) _ = _
    simp only [sx]
    rfl
   refine pure_ (i := 7) (N := some 28) (v := ?_) (a' := ?_) (bm 8 255) rfl rfl (any_of HT_.out kr) qi (Or.inl ⟨by rfl, ?_⟩) ?_ ?_
   rotate_left
   ·intro w'
    go_simp
    with_reducible rfl
   rotate_left
   ·simp only [sx]
    rfl
   refine done_ (done_of HT_.out kr) ?_
   go_upto_if 28 with (fail)
   have H := HC7.out
   clear HC7
   by_cases c10 : ((rd_T35 l0 x5_1).f1).toList = t577.toList
   case neg =>
    rw [if_neg c10] at H
    have c10b0 : (((rd_T35 l0 x5_1).f1).toList == t577.toList) = false := beq_eq_false_iff_ne.mpr c10
    have c10b1 : (((rd_T35 l0 x5_1).f1).toList != t577.toList) = true := bne_iff_ne.mpr c10
    (first | rw [c10b0] | (simp only [i64_w, i32_w]; rw [c10b0]) | (rw [c10b1]; (try simp only [Bool.not_true, Bool.not_false])) | skip)
    obtain rfl := Option.some.inj H
    go_wp2
    go_ret
    exact ⟨rfw, blw⟩
   rw [if_pos c10] at H
   have c10b0 : (((rd_T35 l0 x5_1).f1).toList == t577.toList) = true := beq_iff_eq.mpr c10
   have c10b1 : (((rd_T35 l0 x5_1).f1).toList != t577.toList) = false := bne_eq_false_iff_eq.mpr c10
   clear c10
   (first | rw [c10b0] | (simp only [i64_w, i32_w]; rw [c10b0]) | (rw [c10b1]; (try simp only [Bool.not_true, Bool.not_false])) | skip)
   by_cases c11 : ((rd_T35 l0 x5_1).f2) = (wrap64 ((wrap64 (x1_1 + 1)) + 1))
   case neg =>
    rw [if_neg c11] at H
    have c11b0 : (((rd_T35 l0 x5_1).f2) == (wrap64 ((wrap64 (x1_1 + 1)) + 1))) = false := beq_eq_false_iff_ne.mpr c11
    have c11b1 : (((rd_T35 l0 x5_1).f2) != (wrap64 ((wrap64 (x1_1 + 1)) + 1))) = true := bne_iff_ne.mpr c11
    obtain rfl := Option.some.inj H
    have p578 : 0 ≤ (x5_1 : Int) := of_decide_eq_true asw
    have q578 : x5_1 < (l0.length : Int) := of_decide_eq_true asw
    obtain ⟨ad578, A578_4, c578_4, A578_5, c578_5, A578_6, c578_6, A578_7, c578_7, e578, hx578_0, hx578_1, hx578_2, hx578_3, hx578_4, hx578_5, hx578_6, hx578_7, hl578_4, hi578_4, hl578_5, hi578_5, hl578_6, hi578_6, hl578_7, hi578_7⟩ := at_T35 HR0.out x5_1 p578 q578
    obtain rfl : ad575 = ad578 := (by injection e578)
    replace hx578_0 := upw HB.out hx578_0
    replace hx578_1 := upw HB.out hx578_1
    replace hx578_2 := upw HB.out hx578_2
    replace hx578_3 := upw HB.out hx578_3
    replace hx578_4 := upw HB.out hx578_4
    replace hx578_5 := upw HB.out hx578_5
    replace hx578_6 := upw HB.out hx578_6
    replace hx578_7 := upw HB.out hx578_7
    have HR578_4 := am hi578_4
    have HC578_4 := am hl578_4
    clear hi578_4 hl578_4
    have HR578_5 := am hi578_5
    have HC578_5 := am hl578_5
    clear hi578_5 hl578_5
    have HR578_6 := am hi578_6
    have HC578_6 := am hl578_6
    clear hi578_6 hl578_6
    have HR578_7 := am hi578_7
    have HC578_7 := am hl578_7
    clear hi578_7 hl578_7
    replace p578 := eq_true p578
    replace q578 := eq_true q578
    go_wp2
    go_ret
    exact ⟨rfw, blw⟩
   rw [if_pos c11] at H
   have c11b0 : (((rd_T35 l0 x5_1).f2) == (wrap64 ((wrap64 (x1_1 + 1)) + 1))) = true := beq_iff_eq.mpr c11
   have c11b1 : (((rd_T35 l0 x5_1).f2) != (wrap64 ((wrap64 (x1_1 + 1)) + 1))) = false := bne_eq_false_iff_eq.mpr c11
   clear c11
   by_cases c12 : ((rd_T35 l0 x5_1).f3.f0) = (wrap64 ((wrap64 ((wrap64 (x1_1 + 1)) + 1)) + 1))
   case neg =>
    rw [if_neg c12] at H
    have c12b0 : (((rd_T35 l0 x5_1).f3.f0) == (wrap64 ((wrap64 ((wrap64 (x1_1 + 1)) + 1)) + 1))) = false := beq_eq_false_iff_ne.mpr c12
    have c12b1 : (((rd_T35 l0 x5_1).f3.f0) != (wrap64 ((wrap64 ((wrap64 (x1_1 + 1)) + 1)) + 1))) = true := bne_iff_ne.mpr c12
    obtain rfl := Option.some.inj H
    have p578 : 0 ≤ (x5_1 : Int) := of_decide_eq_true asw
    have q578 : x5_1 < (l0.length : Int) := of_decide_eq_true asw
    obtain ⟨ad578, A578_4, c578_4, A578_5, c578_5, A578_6, c578_6, A578_7, c578_7, e578, hx578_0, hx578_1, hx578_2, hx578_3, hx578_4, hx578_5, hx578_6, hx578_7, hl578_4, hi578_4, hl578_5, hi578_5, hl578_6, hi578_6, hl578_7, hi578_7⟩ := at_T35 HR0.out x5_1 p578 q578
    obtain rfl : ad575 = ad578 := (by injection e578)
    replace hx578_0 := upw HB.out hx578_0
    replace hx578_1 := upw HB.out hx578_1
    replace hx578_2 := upw HB.out hx578_2
    replace hx578_3 := upw HB.out hx578_3
    replace hx578_4 := upw HB.out hx578_4
    replace hx578_5 := upw HB.out hx578_5
    replace hx578_6 := upw HB.out hx578_6
    replace hx578_7 := upw HB.out hx578_7
    have HR578_4 := am hi578_4
    have HC578_4 := am hl578_4
    clear hi578_4 hl578_4
    have HR578_5 := am hi578_5
    have HC578_5 := am hl578_5
    clear hi578_5 hl578_5
    have HR578_6 := am hi578_6
    have HC578_6 := am hl578_6
    clear hi578_6 hl578_6
    have HR578_7 := am hi578_7
    have HC578_7 := am hl578_7
    clear hi578_7 hl578_7
    replace p578 := eq_true p578
    replace q578 := eq_true q578
    have p579 : 0 ≤ (x5_1 : Int) := of_decide_eq_true asw
    have q579 : x5_1 < (l0.length : Int) := of_decide_eq_true asw
    obtain ⟨ad579, A579_4, c579_4, A579_5, c579_5, A579_6, c579_6, A579_7, c579_7, e579, hx579_0, hx579_1, hx579_2, hx579_3, hx579_4, hx579_5, hx579_6, hx579_7, hl579_4, hi579_4, hl579_5, hi579_5, hl579_6, hi579_6, hl579_7, hi579_7⟩ := at_T35 HR0.out x5_1 p579 q579
    obtain rfl : ad575 = ad579 := (by injection e579)
    replace hx579_0 := upw HB.out hx579_0
    replace hx579_1 := upw HB.out hx579_1
    replace hx579_2 := upw HB.out hx579_2
    replace hx579_3 := upw HB.out hx579_3
    replace hx579_4 := upw HB.out hx579_4
    replace hx579_5 := upw HB.out hx579_5
    replace hx579_6 := upw HB.out hx579_6
    replace hx579_7 := upw HB.out hx579_7
    have HR579_4 := am hi579_4
    have HC579_4 := am hl579_4
    clear hi579_4 hl579_4
    have HR579_5 := am hi579_5
    have HC579_5 := am hl579_5
    clear hi579_5 hl579_5
    have HR579_6 := am hi579_6
    have HC579_6 := am hl579_6
    clear hi579_6 hl579_6
    have HR579_7 := am hi579_7
    have HC579_7 := am hl579_7
    clear hi579_7 hl579_7
    replace p579 := eq_true p579
    replace q579 := eq_true q579
    have ea_ := Option.some.inj (hx578_4.symm.trans hx579_4)
    injection ea_ with ea_ en_ ec_
    subst ea_
    subst ec_
    clear en_
    have ea_ := Option.some.inj (hx578_5.symm.trans hx579_5)
    injection ea_ with ea_ en_ ec_
    subst ea_
    subst ec_
    clear en_
    have ea_ := Option.some.inj (hx578_6.symm.trans hx579_6)
    injection ea_ with ea_ en_ ec_
    subst ea_
    subst ec_
    clear en_
    have ea_ := Option.some.inj (hx578_7.symm.trans hx579_7)
    injection ea_ with ea_ en_ ec_
    subst ea_
    subst ec_
    clear en_
    go_wp2
    go_ret
    exact ⟨rfw, blw⟩
   rw [if_pos c12] at H
   have c12b0 : (((rd_T35 l0 x5_1).f3.f0) == (wrap64 ((wrap64 ((wrap64 (x1_1 + 1)) + 1)) + 1))) = true := beq_iff_eq.mpr c12
   have c12b1 : (((rd_T35 l0 x5_1).f3.f0) != (wrap64 ((wrap64 ((wrap64 (x1_1 + 1)) + 1)) + 1))) = false := bne_eq_false_iff_eq.mpr c12
   clear c12
   replace H := Option.bind_eq_some_iff.mp H
   obtain ⟨t581, A130, H⟩ := H
   replace H : (if t581 < 0 then (some (-1)) else ((laws_heldTypeS.f k1 ((rd_T35 l0 x5_1).f3.f2) t581).bind fun t583 => (if t583 < 0 then (some (-1)) else ((laws_heldStringS.f k1 ((rd_T35 l0 x5_1).f4) t583).bind fun t585 => (if t585 < 0 then (some (-1)) else ((laws_heldTermS.f k1 ((rd_T35 l0 x5_1).f5) t585).bind fun t587 => (if t587 < 0 then (some (-1)) else (laws_heldTermS.l0 k1 l0 t587 (wrap64 (x5_1 + 1)))))))))) = some r := H
   have A13 := am A130
   clear A130
   have HC14 := am H
   clear H
   have p578 : 0 ≤ (x5_1 : Int) := of_decide_eq_true asw
   have q578 : x5_1 < (l0.length : Int) := of_decide_eq_true asw
   obtain ⟨ad578, A578_4, c578_4, A578_5, c578_5, A578_6, c578_6, A578_7, c578_7, e578, hx578_0, hx578_1, hx578_2, hx578_3, hx578_4, hx578_5, hx578_6, hx578_7, hl578_4, hi578_4, hl578_5, hi578_5, hl578_6, hi578_6, hl578_7, hi578_7⟩ := at_T35 HR0.out x5_1 p578 q578
   obtain rfl : ad575 = ad578 := (by injection e578)
   replace hx578_0 := upw HB.out hx578_0
   replace hx578_1 := upw HB.out hx578_1
   replace hx578_2 := upw HB.out hx578_2
   replace hx578_3 := upw HB.out hx578_3
   replace hx578_4 := upw HB.out hx578_4
   replace hx578_5 := upw HB.out hx578_5
   replace hx578_6 := upw HB.out hx578_6
   replace hx578_7 := upw HB.out hx578_7
   have HR578_4 := am hi578_4
   have HC578_4 := am hl578_4
   clear hi578_4 hl578_4
   have HR578_5 := am hi578_5
   have HC578_5 := am hl578_5
   clear hi578_5 hl578_5
   have HR578_6 := am hi578_6
   have HC578_6 := am hl578_6
   clear hi578_6 hl578_6
   have HR578_7 := am hi578_7
   have HC578_7 := am hl578_7
   clear hi578_7 hl578_7
   replace p578 := eq_true p578
   replace q578 := eq_true q578
   have p579 : 0 ≤ (x5_1 : Int) := of_decide_eq_true asw
   have q579 : x5_1 < (l0.length : Int) := of_decide_eq_true asw
   obtain ⟨ad579, A579_4, c579_4, A579_5, c579_5, A579_6, c579_6, A579_7, c579_7, e579, hx579_0, hx579_1, hx579_2, hx579_3, hx579_4, hx579_5, hx579_6, hx579_7, hl579_4, hi579_4, hl579_5, hi579_5, hl579_6, hi579_6, hl579_7, hi579_7⟩ := at_T35 HR0.out x5_1 p579 q579
   obtain rfl : ad575 = ad579 := (by injection e579)
   replace hx579_0 := upw HB.out hx579_0
   replace hx579_1 := upw HB.out hx579_1
   replace hx579_2 := upw HB.out hx579_2
   replace hx579_3 := upw HB.out hx579_3
   replace hx579_4 := upw HB.out hx579_4
   replace hx579_5 := upw HB.out hx579_5
   replace hx579_6 := upw HB.out hx579_6
   replace hx579_7 := upw HB.out hx579_7
   have HR579_4 := am hi579_4
   have HC579_4 := am hl579_4
   clear hi579_4 hl579_4
   have HR579_5 := am hi579_5
   have HC579_5 := am hl579_5
   clear hi579_5 hl579_5
   have HR579_6 := am hi579_6
   have HC579_6 := am hl579_6
   clear hi579_6 hl579_6
   have HR579_7 := am hi579_7
   have HC579_7 := am hl579_7
   clear hi579_7 hl579_7
   replace p579 := eq_true p579
   replace q579 := eq_true q579
   have ea_ := Option.some.inj (hx578_4.symm.trans hx579_4)
   injection ea_ with ea_ en_ ec_
   subst ea_
   subst ec_
   clear en_
   have ea_ := Option.some.inj (hx578_5.symm.trans hx579_5)
   injection ea_ with ea_ en_ ec_
   subst ea_
   subst ec_
   clear en_
   have ea_ := Option.some.inj (hx578_6.symm.trans hx579_6)
   injection ea_ with ea_ en_ ec_
   subst ea_
   subst ec_
   clear en_
   have ea_ := Option.some.inj (hx578_7.symm.trans hx579_7)
   injection ea_ with ea_ en_ ec_
   subst ea_
   subst ec_
   clear en_
   have p580 : 0 ≤ (x5_1 : Int) := of_decide_eq_true asw
   have q580 : x5_1 < (l0.length : Int) := of_decide_eq_true asw
   obtain ⟨ad580, A580_4, c580_4, A580_5, c580_5, A580_6, c580_6, A580_7, c580_7, e580, hx580_0, hx580_1, hx580_2, hx580_3, hx580_4, hx580_5, hx580_6, hx580_7, hl580_4, hi580_4, hl580_5, hi580_5, hl580_6, hi580_6, hl580_7, hi580_7⟩ := at_T35 HR0.out x5_1 p580 q580
   obtain rfl : ad575 = ad580 := (by injection e580)
   replace hx580_0 := upw HB.out hx580_0
   replace hx580_1 := upw HB.out hx580_1
   replace hx580_2 := upw HB.out hx580_2
   replace hx580_3 := upw HB.out hx580_3
   replace hx580_4 := upw HB.out hx580_4
   replace hx580_5 := upw HB.out hx580_5
   replace hx580_6 := upw HB.out hx580_6
   replace hx580_7 := upw HB.out hx580_7
   have HR580_4 := am hi580_4
   have HC580_4 := am hl580_4
   clear hi580_4 hl580_4
   have HR580_5 := am hi580_5
   have HC580_5 := am hl580_5
   clear hi580_5 hl580_5
   have HR580_6 := am hi580_6
   have HC580_6 := am hl580_6
   clear hi580_6 hl580_6
   have HR580_7 := am hi580_7
   have HC580_7 := am hl580_7
   clear hi580_7 hl580_7
   replace p580 := eq_true p580
   replace q580 := eq_true q580
   have ea_ := Option.some.inj (hx578_4.symm.trans hx580_4)
   injection ea_ with ea_ en_ ec_
   subst ea_
   subst ec_
   clear en_
   have ea_ := Option.some.inj (hx578_5.symm.trans hx580_5)
   injection ea_ with ea_ en_ ec_
   subst ea_
   subst ec_
   clear en_
   have ea_ := Option.some.inj (hx578_6.symm.trans hx580_6)
   injection ea_ with ea_ en_ ec_
   subst ea_
   subst ec_
   clear en_
   have ea_ := Option.some.inj (hx578_7.symm.trans hx580_7)
   injection ea_ with ea_ en_ ec_
   subst ea_
   subst ec_
   clear en_
   repeat clear hHeld
   try clear hx575_4; try clear hx575_5; try clear hx575_6; try clear hx575_7
   try clear hx576_4; try clear hx576_5; try clear hx576_6; try clear hx576_7
   try clear hw576_4; try clear hw576_5; try clear hw576_6; try clear hw576_7
   try clear hx579_4; try clear hx579_5; try clear hx579_6; try clear hx579_7
   try clear hx580_4; try clear hx580_5; try clear hx580_6; try clear hx580_7
   go_upto_if 59 with (first | ((with_reducible refine gate_callee (f := 39) rfl ?_); refine goesL_ (some 57) rfl rfl Tryd.func39 kr rfl #[.slice A578_4 ((rd_T35 l0 x5_1).f3.f1).length c578_4, .int .i64 (wrap64 ((wrap64 ((wrap64 ((wrap64 (x1_1 + 1)) + 1)) + 1)) + 1))] rfl mpw ?_; (with_reducible refine (laws_heldStringS.calls k1 _ _ ((rd_T35 l0 x5_1).f3.f1) (wrap64 ((wrap64 ((wrap64 ((wrap64 (x1_1 + 1)) + 1)) + 1)) + 1)) t581 _ ?side1 ?side2 A13.out).mono ?_); (case side1 => have X_ := HR580_4; exact cbl); (case side2 => exact HC580_4.out); rintro e w15 ⟨rfl, hb⟩; refine ⟨_, rfl, ?_⟩; have n0_ := am (below_step blw hb); clear HB; revert n0_; intro HB; (try clear hb); (try clear hb2); (try clear hk); (try clear hi)))
   have H := HC14.out
   clear HC14
   by_cases c16 : t581 < 0
   ·rw [if_pos c16] at H
    have c16b0 : decide (t581 < 0) = true := decide_eq_true c16
    clear c16
    (first | rw [c16b0] | (simp only [i64_w, i32_w]; rw [c16b0]) | skip)
    obtain rfl := Option.some.inj H
    go_wp2
    go_ret
    exact ⟨rfw, blw⟩
   rw [if_neg c16] at H
   have c16b0 : decide (t581 < 0) = false := decide_eq_false c16
   clear c16
   (first | rw [c16b0] | (simp only [i64_w, i32_w]; rw [c16b0]) | skip)
   replace H := Option.bind_eq_some_iff.mp H
   obtain ⟨t583, A170, H⟩ := H
   replace H : (if t583 < 0 then (some (-1)) else ((laws_heldStringS.f k1 ((rd_T35 l0 x5_1).f4) t583).bind fun t585 => (if t585 < 0 then (some (-1)) else ((laws_heldTermS.f k1 ((rd_T35 l0 x5_1).f5) t585).bind fun t587 => (if t587 < 0 then (some (-1)) else (laws_heldTermS.l0 k1 l0 t587 (wrap64 (x5_1 + 1)))))))) = some r := H
   have A17 := am A170
   clear A170
   have HC18 := am H
   clear H
   have p582 : 0 ≤ (x5_1 : Int) := of_decide_eq_true asw
   have q582 : x5_1 < (l0.length : Int) := of_decide_eq_true asw
   obtain ⟨ad582, A582_4, c582_4, A582_5, c582_5, A582_6, c582_6, A582_7, c582_7, e582, hx582_0, hx582_1, hx582_2, hx582_3, hx582_4, hx582_5, hx582_6, hx582_7, hl582_4, hi582_4, hl582_5, hi582_5, hl582_6, hi582_6, hl582_7, hi582_7⟩ := at_T35 HR0.out x5_1 p582 q582
   obtain rfl : ad575 = ad582 := (by injection e582)
   replace hx582_0 := upw HB.out hx582_0
   replace hx582_1 := upw HB.out hx582_1
   replace hx582_2 := upw HB.out hx582_2
   replace hx582_3 := upw HB.out hx582_3
   replace hx582_4 := upw HB.out hx582_4
   replace hx582_5 := upw HB.out hx582_5
   replace hx582_6 := upw HB.out hx582_6
   replace hx582_7 := upw HB.out hx582_7
   have HR582_4 := am hi582_4
   have HC582_4 := am hl582_4
   clear hi582_4 hl582_4
   have HR582_5 := am hi582_5
   have HC582_5 := am hl582_5
   clear hi582_5 hl582_5
   have HR582_6 := am hi582_6
   have HC582_6 := am hl582_6
   clear hi582_6 hl582_6
   have HR582_7 := am hi582_7
   have HC582_7 := am hl582_7
   clear hi582_7 hl582_7
   replace p582 := eq_true p582
   replace q582 := eq_true q582
   repeat clear hHeld
   try clear hx575_4; try clear hx575_5; try clear hx575_6; try clear hx575_7
   try clear hx576_4; try clear hx576_5; try clear hx576_6; try clear hx576_7
   try clear hw576_4; try clear hw576_5; try clear hw576_6; try clear hw576_7
   try clear hx578_4; try clear hx578_5; try clear hx578_6; try clear hx578_7
   try clear hx579_4; try clear hx579_5; try clear hx579_6; try clear hx579_7
   try clear hx580_4; try clear hx580_5; try clear hx580_6; try clear hx580_7
   go_upto_if 69 with (first | ((with_reducible refine gate_callee (f := 52) rfl ?_); refine goesL_ (some 67) rfl rfl Tryd.func52 kr rfl #[.slice A582_5 ((rd_T35 l0 x5_1).f3.f2).length c582_5, .int .i64 t581] rfl mpw ?_; (with_reducible refine (laws_heldTypeS.calls k1 _ _ ((rd_T35 l0 x5_1).f3.f2) t581 t583 _ ?side1 ?side2 A17.out).mono ?_); (case side1 => have X_ := HR582_5; exact cbl); (case side2 => exact HC582_5.out); rintro e w19 ⟨rfl, hb⟩; refine ⟨_, rfl, ?_⟩; have n0_ := am (below_step blw hb); clear HB; revert n0_; intro HB; (try clear hb); (try clear hb2); (try clear hk); (try clear hi)))
   have H := HC18.out
   clear HC18
   by_cases c20 : t583 < 0
   ·rw [if_pos c20] at H
    have c20b0 : decide (t583 < 0) = true := decide_eq_true c20
    clear c20
    (first | rw [c20b0] | (simp only [i64_w, i32_w]; rw [c20b0]) | skip)
    obtain rfl := Option.some.inj H
    go_wp2
    go_ret
    exact ⟨rfw, blw⟩
   rw [if_neg c20] at H
   have c20b0 : decide (t583 < 0) = false := decide_eq_false c20
   clear c20
   (first | rw [c20b0] | (simp only [i64_w, i32_w]; rw [c20b0]) | skip)
   replace H := Option.bind_eq_some_iff.mp H
   obtain ⟨t585, A210, H⟩ := H
   replace H : (if t585 < 0 then (some (-1)) else ((laws_heldTermS.f k1 ((rd_T35 l0 x5_1).f5) t585).bind fun t587 => (if t587 < 0 then (some (-1)) else (laws_heldTermS.l0 k1 l0 t587 (wrap64 (x5_1 + 1)))))) = some r := H
   have A21 := am A210
   clear A210
   have HC22 := am H
   clear H
   have p584 : 0 ≤ (x5_1 : Int) := of_decide_eq_true asw
   have q584 : x5_1 < (l0.length : Int) := of_decide_eq_true asw
   obtain ⟨ad584, A584_4, c584_4, A584_5, c584_5, A584_6, c584_6, A584_7, c584_7, e584, hx584_0, hx584_1, hx584_2, hx584_3, hx584_4, hx584_5, hx584_6, hx584_7, hl584_4, hi584_4, hl584_5, hi584_5, hl584_6, hi584_6, hl584_7, hi584_7⟩ := at_T35 HR0.out x5_1 p584 q584
   obtain rfl : ad575 = ad584 := (by injection e584)
   replace hx584_0 := upw HB.out hx584_0
   replace hx584_1 := upw HB.out hx584_1
   replace hx584_2 := upw HB.out hx584_2
   replace hx584_3 := upw HB.out hx584_3
   replace hx584_4 := upw HB.out hx584_4
   replace hx584_5 := upw HB.out hx584_5
   replace hx584_6 := upw HB.out hx584_6
   replace hx584_7 := upw HB.out hx584_7
   have HR584_4 := am hi584_4
   have HC584_4 := am hl584_4
   clear hi584_4 hl584_4
   have HR584_5 := am hi584_5
   have HC584_5 := am hl584_5
   clear hi584_5 hl584_5
   have HR584_6 := am hi584_6
   have HC584_6 := am hl584_6
   clear hi584_6 hl584_6
   have HR584_7 := am hi584_7
   have HC584_7 := am hl584_7
   clear hi584_7 hl584_7
   replace p584 := eq_true p584
   replace q584 := eq_true q584
   repeat clear hHeld
   try clear hx575_4; try clear hx575_5; try clear hx575_6; try clear hx575_7
   try clear hx576_4; try clear hx576_5; try clear hx576_6; try clear hx576_7
   try clear hw576_4; try clear hw576_5; try clear hw576_6; try clear hw576_7
   try clear hx578_4; try clear hx578_5; try clear hx578_6; try clear hx578_7
   try clear hx579_4; try clear hx579_5; try clear hx579_6; try clear hx579_7
   try clear hx580_4; try clear hx580_5; try clear hx580_6; try clear hx580_7
   try clear hx582_4; try clear hx582_5; try clear hx582_6; try clear hx582_7
   go_upto_if 78 with (first | ((with_reducible refine gate_callee (f := 39) rfl ?_); refine goesL_ (some 76) rfl rfl Tryd.func39 kr rfl #[.slice A584_6 ((rd_T35 l0 x5_1).f4).length c584_6, .int .i64 t583] rfl mpw ?_; (with_reducible refine (laws_heldStringS.calls k1 _ _ ((rd_T35 l0 x5_1).f4) t583 t585 _ ?side1 ?side2 A21.out).mono ?_); (case side1 => have X_ := HR584_6; exact cbl); (case side2 => exact HC584_6.out); rintro e w23 ⟨rfl, hb⟩; refine ⟨_, rfl, ?_⟩; have n0_ := am (below_step blw hb); clear HB; revert n0_; intro HB; (try clear hb); (try clear hb2); (try clear hk); (try clear hi)))
   have H := HC22.out
   clear HC22
   by_cases c24 : t585 < 0
   ·rw [if_pos c24] at H
    have c24b0 : decide (t585 < 0) = true := decide_eq_true c24
    clear c24
    (first | rw [c24b0] | (simp only [i64_w, i32_w]; rw [c24b0]) | skip)
    obtain rfl := Option.some.inj H
    go_wp2
    go_ret
    exact ⟨rfw, blw⟩
   rw [if_neg c24] at H
   have c24b0 : decide (t585 < 0) = false := decide_eq_false c24
   clear c24
   (first | rw [c24b0] | (simp only [i64_w, i32_w]; rw [c24b0]) | skip)
   replace H := Option.bind_eq_some_iff.mp H
   obtain ⟨t587, A250, H⟩ := H
   replace H : (if t587 < 0 then (some (-1)) else (laws_heldTermS.l0 k1 l0 t587 (wrap64 (x5_1 + 1)))) = some r := H
   have A25 := am A250
   clear A250
   have HC26 := am H
   clear H
   have p586 : 0 ≤ (x5_1 : Int) := of_decide_eq_true asw
   have q586 : x5_1 < (l0.length : Int) := of_decide_eq_true asw
   obtain ⟨ad586, A586_4, c586_4, A586_5, c586_5, A586_6, c586_6, A586_7, c586_7, e586, hx586_0, hx586_1, hx586_2, hx586_3, hx586_4, hx586_5, hx586_6, hx586_7, hl586_4, hi586_4, hl586_5, hi586_5, hl586_6, hi586_6, hl586_7, hi586_7⟩ := at_T35 HR0.out x5_1 p586 q586
   obtain rfl : ad575 = ad586 := (by injection e586)
   replace hx586_0 := upw HB.out hx586_0
   replace hx586_1 := upw HB.out hx586_1
   replace hx586_2 := upw HB.out hx586_2
   replace hx586_3 := upw HB.out hx586_3
   replace hx586_4 := upw HB.out hx586_4
   replace hx586_5 := upw HB.out hx586_5
   replace hx586_6 := upw HB.out hx586_6
   replace hx586_7 := upw HB.out hx586_7
   have HR586_4 := am hi586_4
   have HC586_4 := am hl586_4
   clear hi586_4 hl586_4
   have HR586_5 := am hi586_5
   have HC586_5 := am hl586_5
   clear hi586_5 hl586_5
   have HR586_6 := am hi586_6
   have HC586_6 := am hl586_6
   clear hi586_6 hl586_6
   have HR586_7 := am hi586_7
   have HC586_7 := am hl586_7
   clear hi586_7 hl586_7
   replace p586 := eq_true p586
   replace q586 := eq_true q586
   repeat clear hHeld
   try clear hx575_4; try clear hx575_5; try clear hx575_6; try clear hx575_7
   try clear hx576_4; try clear hx576_5; try clear hx576_6; try clear hx576_7
   try clear hw576_4; try clear hw576_5; try clear hw576_6; try clear hw576_7
   try clear hx578_4; try clear hx578_5; try clear hx578_6; try clear hx578_7
   try clear hx579_4; try clear hx579_5; try clear hx579_6; try clear hx579_7
   try clear hx580_4; try clear hx580_5; try clear hx580_6; try clear hx580_7
   try clear hx582_4; try clear hx582_5; try clear hx582_6; try clear hx582_7
   try clear hx584_4; try clear hx584_5; try clear hx584_6; try clear hx584_7
   go_upto_if 87 with (first | ((with_reducible refine gate_callee (f := 40) rfl ?_); refine goesL_ (some 85) rfl rfl Tryd.func40 kr rfl #[.slice A586_7 ((rd_T35 l0 x5_1).f5).length c586_7, .int .i64 t585] rfl mpw ?_; (with_reducible refine (ih k1 (by have := HK1.out; omega) _ _ ((rd_T35 l0 x5_1).f5) t585 t587 _ ?side1 ?side2 A25.out).mono ?_); (case side1 => have X_ := HR586_7; exact cbl); (case side2 => exact HC586_7.out); rintro e w27 ⟨rfl, hb⟩; refine ⟨_, rfl, ?_⟩; have n0_ := am (below_step blw hb); clear HB; revert n0_; intro HB; (try clear hb); (try clear hb2); (try clear hk); (try clear hi)))
   have H := HC26.out
   clear HC26
   by_cases c28 : t587 < 0
   ·rw [if_pos c28] at H
    have c28b0 : decide (t587 < 0) = true := decide_eq_true c28
    clear c28
    (first | rw [c28b0] | (simp only [i64_w, i32_w]; rw [c28b0]) | skip)
    obtain rfl := Option.some.inj H
    go_wp2
    go_ret
    exact ⟨rfw, blw⟩
   rw [if_neg c28] at H
   have c28b0 : decide (t587 < 0) = false := decide_eq_false c28
   clear c28
   (first | rw [c28b0] | (simp only [i64_w, i32_w]; rw [c28b0]) | skip)
   have H' := am H
   clear H
   go_wp2
   go_roundg k1
   case measure => have := HK1.out; omega
   case rel => exact ⟨(t587), (wrap64 (x5_1 + 1)), rfs, rfs, H', ⟨by have := HK1.out; omega⟩, ⟨blw⟩⟩

end Go.Proofs.YtpckkjeapfdilaaDoor.Px
end
section
namespace Go.Proofs.YtpckkjeapfdilaaDoor.Px
open Go.RowKit Go.Proofs.YtpckkjeapfdilaaDoor.Ext Go.Proofs.YtpckkjeapfdilaaDoorW.PrintWords Go.Proofs.YtpckkjeapfdilaaDoorW.PrintLast Go.Proofs.YtpckkjeapfdilaaDoorW.PrintMore
attribute [local go_sem] max2_int min2_int max_two min_two max_three min_three max_four min_four   -- for this text's walks alone
set_option linter.unusedVariables false
set_option linter.unusedSimpArgs false

def laws_heldTerm.f (k : Nat) (a0_0 : Int) (a0_1 : ByteArray) (a0_2 : Int) (a0_3 : Int) (l0_4 : List ByteArray) (l0_5 : List (S32)) (l0_6 : List ByteArray) (l0_7 : List (S35)) (a1 : Int) : Option (Int) := (laws_heldType.f k a0_3 l0_4 l0_5 a1).bind fun t589 => (if t589 < 0 then (some (-1)) else ((laws_heldStringS.f k l0_6 t589).bind fun t590 => (if t590 < 0 then (some (-1)) else ((laws_heldTermS.f k l0_7 t590).bind fun t591 => (if t591 < 0 then (some (-1)) else (some t591))))))
set_option maxHeartbeats 8000000 in
set_option maxRecDepth 100000 in
theorem laws_heldTerm.calls (k : Nat) (a0_0 : Int) (a0_1 : ByteArray) (a0_2 : Int) (a0_3 : Int) (A0_4 : Option Addr) (c0_4 : Nat) (l0_4 : List ByteArray) (A0_5 : Option Addr) (c0_5 : Nat) (l0_5 : List (S32)) (A0_6 : Option Addr) (c0_6 : Nat) (l0_6 : List ByteArray) (A0_7 : Option Addr) (c0_7 : Nat) (l0_7 : List (S35)) (a1 : Int) (r : Int) (w : World) (hr0_4 : Kd.C Kd.string w A0_4 l0_4.length l0_4) (hc0_4 : l0_4.length ≤ c0_4) (hr0_5 : Kd.C k32 w A0_5 l0_5.length l0_5) (hc0_5 : l0_5.length ≤ c0_5) (hr0_6 : Kd.C Kd.string w A0_6 l0_6.length l0_6) (hc0_6 : l0_6.length ≤ c0_6) (hr0_7 : Kd.C k35 w A0_7 l0_7.length l0_7) (hc0_7 : l0_7.length ≤ c0_7) (h : laws_heldTerm.f k a0_0 a0_1 a0_2 a0_3 l0_4 l0_5 l0_6 l0_7 a1 = some r) :
  Calls Tryd.prog 10 #[.agg #[.int .i64 a0_0, .string a0_1, .int .i64 a0_2, .int .i64 a0_3, .slice A0_4 l0_4.length c0_4, .slice A0_5 l0_5.length c0_5, .slice A0_6 l0_6.length c0_6, .slice A0_7 l0_7.length c0_7], .int .i64 a1] w fun e w' => e = .returned (.int .i64 r) ∧ Below w.heap.size w w' := by
 have hu35 := Tryd.underlying35
 have hu32 := Tryd.underlying32
 have HR0_4 := am hr0_4
 have HC0_4 := am hc0_4
 clear hr0_4 hc0_4
 have HR0_5 := am hr0_5
 have HC0_5 := am hc0_5
 clear hr0_5 hc0_5
 have HR0_6 := am hr0_6
 have HC0_6 := am hc0_6
 clear hr0_6 hc0_6
 have HR0_7 := am hr0_7
 have HC0_7 := am hc0_7
 clear hr0_7 hc0_7
 have HB := am (Below.refl w.heap.size w)
 have H : ((laws_heldType.f k a0_3 l0_4 l0_5 a1).bind fun t589 => (if t589 < 0 then (some (-1)) else ((laws_heldStringS.f k l0_6 t589).bind fun t590 => (if t590 < 0 then (some (-1)) else ((laws_heldTermS.f k l0_7 t590).bind fun t591 => (if t591 < 0 then (some (-1)) else (some t591))))))) = some r := h
 clear h
 replace H := Option.bind_eq_some_iff.mp H
 obtain ⟨t589, A30, H⟩ := H
 replace H : (if t589 < 0 then (some (-1)) else ((laws_heldStringS.f k l0_6 t589).bind fun t590 => (if t590 < 0 then (some (-1)) else ((laws_heldTermS.f k l0_7 t590).bind fun t591 => (if t591 < 0 then (some (-1)) else (some t591)))))) = some r := H
 have A3 := am A30
 clear A30
 have HC4 := am H
 clear H
 go_enter Tryd.func10, Tryd.ntmps10
 go_upto_if 10 with (first | ((with_reducible refine gate_dst (N := 2) rfl ?_); refine box_event ?hg (N := 2) ?hd (cs := #[.int .i64 a0_0, .string a0_1, .int .i64 a0_2, .int .i64 a0_3, .slice A0_4 l0_4.length c0_4, .slice A0_5 l0_5.length c0_5, .slice A0_6 l0_6.length c0_6, .slice A0_7 l0_7.length c0_7]) (t := 35) ?hr ?_; (case hd => rfl); (case hg => rfl); (case hr => exact hrw); intro gb588 hg w5 hbox hb; have n0_ := am (below_step blw hb); have n1_ := am (hbox); have n2_ := am ((by rw [hg]; exact (below_size blw) : w.heap.size ≤ gb588)); have n3_ := n2_; clear HB; revert n0_ n1_ n2_ n3_; intro HB BK588 GW588 GE588; clear hb hbox hg; obtain ⟨hcz6_0, hcz6_1, hcz6_2, hcz6_3, hcz6_4, hcz6_5, hcz6_6, hcz6_7⟩ := cls8 BK588.out; obtain ⟨hfz6_0, hfz6_1, hfz6_2, hfz6_3, hfz6_4, hfz6_5, hfz6_6, hfz6_7⟩ := frz8 BK588.out) | ((with_reducible refine gate_callee (f := 38) rfl ?_); refine goesL_ (some 8) rfl rfl Tryd.func38 kr rfl #[.agg #[.int .i64 a0_3, .slice A0_4 l0_4.length c0_4, .slice A0_5 l0_5.length c0_5], .int .i64 a1] rfl mpw ?_; (with_reducible refine (laws_heldType.calls k a0_3 _ _ l0_4 _ _ l0_5 a1 t589 _ ?side1 ?side2 ?side3 ?side4 A3.out).mono ?_); (case side1 => have X_ := HR0_4; exact cbl); (case side2 => exact HC0_4.out); (case side3 => have X_ := HR0_5; exact cbl); (case side4 => exact HC0_5.out); rintro e w7 ⟨rfl, hb⟩; refine ⟨_, rfl, ?_⟩; have n0_ := am (blk_below (g := gb588) bkw hb); have n1_ := am (below_step blw hb); clear BK588; clear HB; revert n0_ n1_; intro BK588 HB; (try clear hb); (try clear hb2); (try clear hk); (try clear hi)))
 have H := HC4.out
 clear HC4
 by_cases c8 : t589 < 0
 ·rw [if_pos c8] at H
  have c8b0 : decide (t589 < 0) = true := decide_eq_true c8
  clear c8
  (first | rw [c8b0] | (simp only [i64_w, i32_w]; rw [c8b0]) | skip)
  obtain rfl := Option.some.inj H
  go_wp2
  go_ret
  exact ⟨rfw, blw⟩
 rw [if_neg c8] at H
 have c8b0 : decide (t589 < 0) = false := decide_eq_false c8
 clear c8
 (first | rw [c8b0] | (simp only [i64_w, i32_w]; rw [c8b0]) | skip)
 replace H := Option.bind_eq_some_iff.mp H
 obtain ⟨t590, A90, H⟩ := H
 replace H : (if t590 < 0 then (some (-1)) else ((laws_heldTermS.f k l0_7 t590).bind fun t591 => (if t591 < 0 then (some (-1)) else (some t591)))) = some r := H
 have A9 := am A90
 clear A90
 have HC10 := am H
 clear H
 obtain ⟨hcz11_0, hcz11_1, hcz11_2, hcz11_3, hcz11_4, hcz11_5, hcz11_6, hcz11_7⟩ := cls8 BK588.out
 obtain ⟨hfz11_0, hfz11_1, hfz11_2, hfz11_3, hfz11_4, hfz11_5, hfz11_6, hfz11_7⟩ := frz8 BK588.out
 go_upto_if 16 with (first | ((with_reducible refine gate_callee (f := 39) rfl ?_); refine goesL_ (some 14) rfl rfl Tryd.func39 kr rfl #[.slice A0_6 l0_6.length c0_6, .int .i64 t589] rfl mpw ?_; (with_reducible refine (laws_heldStringS.calls k _ _ l0_6 t589 t590 _ ?side1 ?side2 A9.out).mono ?_); (case side1 => have X_ := HR0_6; exact cbl); (case side2 => exact HC0_6.out); rintro e w12 ⟨rfl, hb⟩; refine ⟨_, rfl, ?_⟩; have n0_ := am (blk_below (g := gb588) bkw hb); have n1_ := am (below_step blw hb); clear BK588; clear HB; revert n0_ n1_; intro BK588 HB; (try clear hb); (try clear hb2); (try clear hk); (try clear hi)))
 have H := HC10.out
 clear HC10
 by_cases c13 : t590 < 0
 ·rw [if_pos c13] at H
  have c13b0 : decide (t590 < 0) = true := decide_eq_true c13
  clear c13
  (first | rw [c13b0] | (simp only [i64_w, i32_w]; rw [c13b0]) | skip)
  obtain rfl := Option.some.inj H
  go_wp2
  go_ret
  exact ⟨rfw, blw⟩
 rw [if_neg c13] at H
 have c13b0 : decide (t590 < 0) = false := decide_eq_false c13
 clear c13
 (first | rw [c13b0] | (simp only [i64_w, i32_w]; rw [c13b0]) | skip)
 replace H := Option.bind_eq_some_iff.mp H
 obtain ⟨t591, A140, H⟩ := H
 replace H : (if t591 < 0 then (some (-1)) else (some t591)) = some r := H
 have A14 := am A140
 clear A140
 have HC15 := am H
 clear H
 obtain ⟨hcz16_0, hcz16_1, hcz16_2, hcz16_3, hcz16_4, hcz16_5, hcz16_6, hcz16_7⟩ := cls8 BK588.out
 obtain ⟨hfz16_0, hfz16_1, hfz16_2, hfz16_3, hfz16_4, hfz16_5, hfz16_6, hfz16_7⟩ := frz8 BK588.out
 go_upto_if 22 with (first | ((with_reducible refine gate_callee (f := 40) rfl ?_); refine goesL_ (some 20) rfl rfl Tryd.func40 kr rfl #[.slice A0_7 l0_7.length c0_7, .int .i64 t590] rfl mpw ?_; (with_reducible refine (laws_heldTermS.calls k _ _ l0_7 t590 t591 _ ?side1 ?side2 A14.out).mono ?_); (case side1 => have X_ := HR0_7; exact cbl); (case side2 => exact HC0_7.out); rintro e w17 ⟨rfl, hb⟩; refine ⟨_, rfl, ?_⟩; have n0_ := am (blk_below (g := gb588) bkw hb); have n1_ := am (below_step blw hb); clear BK588; clear HB; revert n0_ n1_; intro BK588 HB; (try clear hb); (try clear hb2); (try clear hk); (try clear hi)))
 have H := HC15.out
 clear HC15
 by_cases c18 : t591 < 0
 ·rw [if_pos c18] at H
  have c18b0 : decide (t591 < 0) = true := decide_eq_true c18
  clear c18
  (first | rw [c18b0] | (simp only [i64_w, i32_w]; rw [c18b0]) | skip)
  obtain rfl := Option.some.inj H
  go_wp2
  go_ret
  exact ⟨rfw, blw⟩
 rw [if_neg c18] at H
 have c18b0 : decide (t591 < 0) = false := decide_eq_false c18
 clear c18
 (first | rw [c18b0] | (simp only [i64_w, i32_w]; rw [c18b0]) | skip)
 obtain rfl := Option.some.inj H
 go_wp2
 go_ret
 exact ⟨rfw, blw⟩


end Go.Proofs.YtpckkjeapfdilaaDoor.Px
end
section
namespace Go.Proofs.YtpckkjeapfdilaaDoor.Px
set_option maxHeartbeats 8000000
set_option maxRecDepth 100000
open Go.RowKit Go.Proofs.YtpckkjeapfdilaaDoor.Ext Go.Proofs.YtpckkjeapfdilaaDoorW.PrintWords Go.Proofs.YtpckkjeapfdilaaDoorW.PrintLast Go.Proofs.YtpckkjeapfdilaaDoorW.PrintMore
attribute [local go_sem] max2_int min2_int max_two min_two max_three min_three max_four min_four   -- for this text's walks alone
set_option linter.unusedVariables false
set_option linter.unusedSimpArgs false

def laws_szStringS.l0 : Nat → List ByteArray → Int → Int → Option (Int)
 | 0, _, _, _ => none
 | k + 1, x0, x1, x5 => if x5 < (x0.length : Int) then (if 0 ≤ x5 then (if (wrap64 (x1 - ((rdOf ByteArray.empty x0 x5).size : Int))) < 0 then (some (-1)) else (laws_szStringS.l0 k x0 (wrap64 (x1 - ((rdOf ByteArray.empty x0 x5).size : Int))) (wrap64 (x5 + 1)))) else (none)) else (some x1)
def laws_szStringS.f (k : Nat) (l0 : List ByteArray) (a1 : Int) : Option (Int) := if (wrap64 (a1 - (l0.length : Int))) < 0 then (some (-1)) else (laws_szStringS.l0 k l0 (wrap64 (a1 - (l0.length : Int))) 0)
theorem laws_szStringS.calls (k : Nat) (A0 : Option Addr) (c0 : Nat) (l0 : List ByteArray) (a1 : Int) (r : Int) (w : World) (hr0 : Kd.C Kd.string w A0 l0.length l0) (hc0 : l0.length ≤ c0) (h : laws_szStringS.f k l0 a1 = some r) :
  Calls Tryd.prog 12 #[.slice A0 l0.length c0, .int .i64 a1] w fun e w' => e = .returned (.int .i64 r) ∧ Drawn0 w w' := by
 have HR0 := am hr0
 have HC0 := am hc0
 clear hr0 hc0
 have H : (if (wrap64 (a1 - (l0.length : Int))) < 0 then (some (-1)) else (laws_szStringS.l0 k l0 (wrap64 (a1 - (l0.length : Int))) 0)) = some r := h
 clear h
 by_cases c3 : (wrap64 (a1 - (l0.length : Int))) < 0
 ·rw [if_pos c3] at H
  have c3b0 : decide ((wrap64 (a1 - (l0.length : Int))) < 0) = true := decide_eq_true c3
  clear c3
  obtain rfl := Option.some.inj H
  go_enter Tryd.func12, Tryd.ntmps12
  go_wp2
  go_ret
  exact ⟨rfs, by repeat (first | exact Drawn0.refl _ | apply Drawn0.step)⟩
 rw [if_neg c3] at H
 have c3b0 : decide ((wrap64 (a1 - (l0.length : Int))) < 0) = false := decide_eq_false c3
 clear c3
 have H' := am H
 clear H
 go_enter Tryd.func12, Tryd.ntmps12
 go_wp2
 go_loopg [1, 5] k (fun kq v1 v5 w' => ∃ (x1_1 : Int) (x5_1 : Int), v1 = .int .i64 x1_1 ∧ v5 = .int .i64 x5_1 ∧ Aside0 (laws_szStringS.l0 kq l0 x1_1 x5_1 = some r) ∧ Aside0 (kq ≤ k) ∧ Drawn0 w w')
 case atStart => exact ⟨(wrap64 (a1 - (l0.length : Int))), (0), rfs, rfs, H', ⟨Nat.le_refl _⟩, by repeat (first | exact Drawn0.refl _ | apply Drawn0.step)⟩
 case round =>
  clear H'
  (try clear c1); (try clear p2); (try clear c3); (try clear c3b0)
  obtain ⟨x1_1, x5_1, rfl, rfl, HA, HK1, ⟨m1, rfl⟩⟩ := hrel
  cases gk with
  | zero => exact absurd HA.out (by simp [laws_szStringS.l0])
  | succ k1 =>
   have H := HA.out
   clear HA
   simp only [laws_szStringS.l0] at H
   by_cases c4 : x5_1 < (l0.length : Int)
   case neg =>
    rw [if_neg c4] at H
    have c4b0 : decide (x5_1 < (l0.length : Int)) = false := decide_eq_false c4
    clear c4
    obtain rfl := Option.some.inj H
    go_wp2
    go_ret
    exact ⟨rfs, by repeat (first | exact Drawn0.refl _ | apply Drawn0.step)⟩
   rw [if_pos c4] at H
   have c4b0 : decide (x5_1 < (l0.length : Int)) = true := decide_eq_true c4
   clear c4
   by_cases c5 : 0 ≤ x5_1
   case neg =>
    rw [if_neg c5] at H
    exact absurd H (by simp)
   rw [if_pos c5] at H
   have c5b0 : decide (0 ≤ x5_1) = true := decide_eq_true c5
   clear c5
   by_cases c6 : (wrap64 (x1_1 - ((rdOf ByteArray.empty l0 x5_1).size : Int))) < 0
   ·rw [if_pos c6] at H
    have c6b0 : decide ((wrap64 (x1_1 - ((rdOf ByteArray.empty l0 x5_1).size : Int))) < 0) = true := decide_eq_true c6
    clear c6
    obtain rfl := Option.some.inj H
    have p101 : 0 ≤ (x5_1 : Int) := of_decide_eq_true asw
    have q101 : x5_1 < (l0.length : Int) := of_decide_eq_true asw
    obtain ⟨ad101, e101, hx101_0⟩ := Kd.at_string HR0.out x5_1 p101 q101
    cases e101
    replace p101 := eq_true p101
    replace q101 := eq_true q101
    go_wp2
    go_ret
    exact ⟨rfs, by repeat (first | exact Drawn0.refl _ | apply Drawn0.step)⟩
   rw [if_neg c6] at H
   have c6b0 : decide ((wrap64 (x1_1 - ((rdOf ByteArray.empty l0 x5_1).size : Int))) < 0) = false := decide_eq_false c6
   clear c6
   have H' := am H
   clear H
   have p101 : 0 ≤ (x5_1 : Int) := of_decide_eq_true asw
   have q101 : x5_1 < (l0.length : Int) := of_decide_eq_true asw
   obtain ⟨ad101, e101, hx101_0⟩ := Kd.at_string HR0.out x5_1 p101 q101
   cases e101
   replace p101 := eq_true p101
   replace q101 := eq_true q101
   go_wp2
   go_roundg k1
   case measure => have := HK1.out; omega
   case rel => exact ⟨(wrap64 (x1_1 - ((rdOf ByteArray.empty l0 x5_1).size : Int))), (wrap64 (x5_1 + 1)), rfs, rfs, H', ⟨by have := HK1.out; omega⟩, by repeat (first | exact Drawn0.refl _ | apply Drawn0.step)⟩

mutual
def laws_szType.f : Nat → Int → List ByteArray → List (S25) → Int → Option (Int)
 | 0, _, _, _, _ => none
 | k + 1, a0_0, l0_1, l0_2, a1 => (laws_szStringS.f k l0_1 a1).bind fun t103 => (if t103 < 0 then (some (-1)) else ((laws_szTypeS.f k l0_2 t103).bind fun t104 => (if t104 < 0 then (some (-1)) else (some t104))))
def laws_szTypeS.l0 : Nat → List (S25) → Int → Int → Option (Int)
 | 0, _, _, _ => none
 | k + 1, x0, x1, x5 => if x5 < (x0.length : Int) then (if 0 ≤ x5 then ((laws_szType.f k ((rd_T25 x0 x5).f0) ((rd_T25 x0 x5).f1) ((rd_T25 x0 x5).f2) x1).bind fun t106 => (if t106 < 0 then (some (-1)) else (laws_szTypeS.l0 k x0 t106 (wrap64 (x5 + 1))))) else (none)) else (some x1)
def laws_szTypeS.f : Nat → List (S25) → Int → Option (Int)
 | 0, _, _ => none
 | k + 1, l0, a1 => if (wrap64 (a1 - (l0.length : Int))) < 0 then (some (-1)) else (laws_szTypeS.l0 k l0 (wrap64 (a1 - (l0.length : Int))) 0)
end
abbrev laws_szType.T (k : Nat) : Prop := ∀ (a0_0 : Int) (A0_1 : Option Addr) (c0_1 : Nat) (l0_1 : List ByteArray) (A0_2 : Option Addr) (c0_2 : Nat) (l0_2 : List (S25)) (a1 : Int) (r : Int) (w : World) (hr0_1 : Kd.C Kd.string w A0_1 l0_1.length l0_1) (hc0_1 : l0_1.length ≤ c0_1) (hr0_2 : Kd.C k25 w A0_2 l0_2.length l0_2) (hc0_2 : l0_2.length ≤ c0_2) (h : laws_szType.f k a0_0 l0_1 l0_2 a1 = some r),
  Calls Tryd.prog 11 #[.agg #[.int .i64 a0_0, .slice A0_1 l0_1.length c0_1, .slice A0_2 l0_2.length c0_2], .int .i64 a1] w fun e w' => e = .returned (.int .i64 r) ∧ Below w.heap.size w w'
abbrev laws_szTypeS.T (k : Nat) : Prop := ∀ (A0 : Option Addr) (c0 : Nat) (l0 : List (S25)) (a1 : Int) (r : Int) (w : World) (hr0 : Kd.C k25 w A0 l0.length l0) (hc0 : l0.length ≤ c0) (h : laws_szTypeS.f k l0 a1 = some r),
  Calls Tryd.prog 41 #[.slice A0 l0.length c0, .int .i64 a1] w fun e w' => e = .returned (.int .i64 r) ∧ Below w.heap.size w w'
theorem laws_szType.step (k : Nat) (ih : ∀ m, m < k → laws_szType.T m) (ih_41 : ∀ m, m < k → laws_szTypeS.T m) : laws_szType.T k := by
 intro a0_0 A0_1 c0_1 l0_1 A0_2 c0_2 l0_2 a1 r w hr0_1 hc0_1 hr0_2 hc0_2 h
 cases k with
 | zero => exact absurd h (by simp [laws_szType.f])
 | succ k =>
 simp only [laws_szType.f] at h
 have hu25 := Tryd.underlying25
 have HR0_1 := am hr0_1
 have HC0_1 := am hc0_1
 clear hr0_1 hc0_1
 have HR0_2 := am hr0_2
 have HC0_2 := am hc0_2
 clear hr0_2 hc0_2
 have HB := am (Below.refl w.heap.size w)
 have H : ((laws_szStringS.f k l0_1 a1).bind fun t103 => (if t103 < 0 then (some (-1)) else ((laws_szTypeS.f k l0_2 t103).bind fun t104 => (if t104 < 0 then (some (-1)) else (some t104))))) = some r := h
 clear h
 replace H := Option.bind_eq_some_iff.mp H
 obtain ⟨t103, A30, H⟩ := H
 replace H : (if t103 < 0 then (some (-1)) else ((laws_szTypeS.f k l0_2 t103).bind fun t104 => (if t104 < 0 then (some (-1)) else (some t104)))) = some r := H
 have A3 := am A30
 clear A30
 have HC4 := am H
 clear H
 go_enter Tryd.func11, Tryd.ntmps11
 go_upto_if 10 with (first | ((with_reducible refine gate_dst (N := 2) rfl ?_); refine box_event ?hg (N := 2) ?hd (cs := #[.int .i64 a0_0, .slice A0_1 l0_1.length c0_1, .slice A0_2 l0_2.length c0_2]) (t := 25) ?hr ?_; (case hd => rfl); (case hg => rfl); (case hr => exact hrw); intro gb102 hg w5 hbox hb; have n0_ := am (below_step blw hb); have n1_ := am (hbox); have n2_ := am ((by rw [hg]; exact (below_size blw) : w.heap.size ≤ gb102)); have n3_ := n2_; clear HB; revert n0_ n1_ n2_ n3_; intro HB BK102 GW102 GE102; clear hb hbox hg; obtain ⟨hcz6_0, hcz6_1, hcz6_2⟩ := cls3 BK102.out; obtain ⟨hfz6_0, hfz6_1, hfz6_2⟩ := frz3 BK102.out) | ((with_reducible refine gate_callee (f := 12) rfl ?_); refine goesL_ (some 8) rfl rfl Tryd.func12 kr rfl #[.slice A0_1 l0_1.length c0_1, .int .i64 a1] rfl mpw ?_; (with_reducible refine (laws_szStringS.calls k _ _ l0_1 a1 t103 _ ?side1 ?side2 A3.out).mono ?_); (case side1 => have X_ := HR0_1; exact cbl); (case side2 => exact HC0_1.out); rintro e w' ⟨rfl, ⟨nd, rfl⟩⟩; refine ⟨_, rfl, ?_⟩))
 have H := HC4.out
 clear HC4
 by_cases c7 : t103 < 0
 ·rw [if_pos c7] at H
  have c7b0 : decide (t103 < 0) = true := decide_eq_true c7
  clear c7
  (first | rw [c7b0] | (simp only [i64_w, i32_w]; rw [c7b0]) | skip)
  obtain rfl := Option.some.inj H
  go_wp2
  go_ret
  exact ⟨rfw, blw⟩
 rw [if_neg c7] at H
 have c7b0 : decide (t103 < 0) = false := decide_eq_false c7
 clear c7
 (first | rw [c7b0] | (simp only [i64_w, i32_w]; rw [c7b0]) | skip)
 replace H := Option.bind_eq_some_iff.mp H
 obtain ⟨t104, A80, H⟩ := H
 replace H : (if t104 < 0 then (some (-1)) else (some t104)) = some r := H
 have A8 := am A80
 clear A80
 have HC9 := am H
 clear H
 obtain ⟨hcz10_0, hcz10_1, hcz10_2⟩ := cls3 BK102.out
 obtain ⟨hfz10_0, hfz10_1, hfz10_2⟩ := frz3 BK102.out
 go_upto_if 16 with (first | ((with_reducible refine gate_callee (f := 41) rfl ?_); refine goesL_ (some 14) rfl rfl Tryd.func41 kr rfl #[.slice A0_2 l0_2.length c0_2, .int .i64 t103] rfl mpw ?_; (with_reducible refine (ih_41 k (by omega) _ _ l0_2 t103 t104 _ ?side1 ?side2 A8.out).mono ?_); (case side1 => have X_ := HR0_2; exact cbl); (case side2 => exact HC0_2.out); rintro e w11 ⟨rfl, hb⟩; refine ⟨_, rfl, ?_⟩; have n0_ := am (blk_below (g := gb102) bkw hb); have n1_ := am (below_step blw hb); clear BK102; clear HB; revert n0_ n1_; intro BK102 HB; (try clear hb); (try clear hb2); (try clear hk); (try clear hi)))
 have H := HC9.out
 clear HC9
 by_cases c12 : t104 < 0
 ·rw [if_pos c12] at H
  have c12b0 : decide (t104 < 0) = true := decide_eq_true c12
  clear c12
  (first | rw [c12b0] | (simp only [i64_w, i32_w]; rw [c12b0]) | skip)
  obtain rfl := Option.some.inj H
  go_wp2
  go_ret
  exact ⟨rfw, blw⟩
 rw [if_neg c12] at H
 have c12b0 : decide (t104 < 0) = false := decide_eq_false c12
 clear c12
 (first | rw [c12b0] | (simp only [i64_w, i32_w]; rw [c12b0]) | skip)
 obtain rfl := Option.some.inj H
 go_wp2
 go_ret
 exact ⟨rfw, blw⟩

theorem laws_szTypeS.step (k : Nat) (ih : ∀ m, m < k → laws_szTypeS.T m) (ih_11 : ∀ m, m < k → laws_szType.T m) : laws_szTypeS.T k := by
 intro A0 c0 l0 a1 r w hr0 hc0 h
 cases k with
 | zero => exact absurd h (by simp [laws_szTypeS.f])
 | succ k =>
 simp only [laws_szTypeS.f] at h
 have hu25 := Tryd.underlying25
 have HR0 := am hr0
 have HC0 := am hc0
 clear hr0 hc0
 have HB := am (Below.refl w.heap.size w)
 have H : (if (wrap64 (a1 - (l0.length : Int))) < 0 then (some (-1)) else (laws_szTypeS.l0 k l0 (wrap64 (a1 - (l0.length : Int))) 0)) = some r := h
 clear h
 by_cases c3 : (wrap64 (a1 - (l0.length : Int))) < 0
 ·rw [if_pos c3] at H
  have c3b0 : decide ((wrap64 (a1 - (l0.length : Int))) < 0) = true := decide_eq_true c3
  clear c3
  obtain rfl := Option.some.inj H
  go_enter Tryd.func41, Tryd.ntmps41
  go_wp2
  go_ret
  exact ⟨rfw, blw⟩
 rw [if_neg c3] at H
 have c3b0 : decide ((wrap64 (a1 - (l0.length : Int))) < 0) = false := decide_eq_false c3
 clear c3
 have H' := am H
 clear H
 go_enter Tryd.func41, Tryd.ntmps41
 go_wp2
 go_loopg [1, 5] k (fun kq v1 v5 w' => ∃ (x1_1 : Int) (x5_1 : Int), v1 = .int .i64 x1_1 ∧ v5 = .int .i64 x5_1 ∧ Aside0 (laws_szTypeS.l0 kq l0 x1_1 x5_1 = some r) ∧ Aside0 (kq ≤ k) ∧ Aside0 (Below w.heap.size w w'))
 case atStart => exact ⟨(wrap64 (a1 - (l0.length : Int))), (0), rfs, rfs, H', ⟨Nat.le_refl _⟩, ⟨blw⟩⟩
 case round =>
  clear H'
  (try clear p2); (try clear c3); (try clear c3b0)
  obtain ⟨x1_1, x5_1, rfl, rfl, HA, HK1, HB⟩ := hrel
  cases gk with
  | zero => exact absurd HA.out (by simp [laws_szTypeS.l0])
  | succ k1 =>
   have H := HA.out
   clear HA
   simp only [laws_szTypeS.l0] at H
   by_cases c4 : x5_1 < (l0.length : Int)
   case neg =>
    rw [if_neg c4] at H
    have c4b0 : decide (x5_1 < (l0.length : Int)) = false := decide_eq_false c4
    clear c4
    obtain rfl := Option.some.inj H
    go_wp2
    go_ret
    exact ⟨rfw, blw⟩
   rw [if_pos c4] at H
   have c4b0 : decide (x5_1 < (l0.length : Int)) = true := decide_eq_true c4
   clear c4
   by_cases c5 : 0 ≤ x5_1
   case neg =>
    rw [if_neg c5] at H
    exact absurd H (by simp)
   rw [if_pos c5] at H
   have c5b0 : decide (0 ≤ x5_1) = true := decide_eq_true c5
   clear c5
   replace H := Option.bind_eq_some_iff.mp H
   obtain ⟨t106, A60, H⟩ := H
   replace H : (if t106 < 0 then (some (-1)) else (laws_szTypeS.l0 k1 l0 t106 (wrap64 (x5_1 + 1)))) = some r := H
   have A6 := am A60
   clear A60
   have HC7 := am H
   clear H
   have p105 : 0 ≤ (x5_1 : Int) := of_decide_eq_true asw
   have q105 : x5_1 < (l0.length : Int) := of_decide_eq_true asw
   obtain ⟨ad105, A105_1, c105_1, A105_2, c105_2, e105, hx105_0, hx105_1, hx105_2, hl105_1, hi105_1, hl105_2, hi105_2⟩ := at_T25 HR0.out x5_1 p105 q105
   cases e105
   replace hx105_0 := upw HB.out hx105_0
   replace hx105_1 := upw HB.out hx105_1
   replace hx105_2 := upw HB.out hx105_2
   have HR105_1 := am hi105_1
   have HC105_1 := am hl105_1
   clear hi105_1 hl105_1
   have HR105_2 := am hi105_2
   have HC105_2 := am hl105_2
   clear hi105_2 hl105_2
   replace p105 := eq_true p105
   replace q105 := eq_true q105
   go_upto_if 25 with (first | ((with_reducible refine gate_callee (f := 11) rfl ?_); refine goesL_ (some 23) rfl rfl Tryd.func11 kr rfl #[.agg #[.int .i64 ((rd_T25 l0 x5_1).f0), .slice A105_1 ((rd_T25 l0 x5_1).f1).length c105_1, .slice A105_2 ((rd_T25 l0 x5_1).f2).length c105_2], .int .i64 x1_1] rfl mpw ?_; (with_reducible refine (ih_11 k1 (by have := HK1.out; omega) ((rd_T25 l0 x5_1).f0) _ _ ((rd_T25 l0 x5_1).f1) _ _ ((rd_T25 l0 x5_1).f2) x1_1 t106 _ ?side1 ?side2 ?side3 ?side4 A6.out).mono ?_); (case side1 => have X_ := HR105_1; exact cbl); (case side2 => exact HC105_1.out); (case side3 => have X_ := HR105_2; exact cbl); (case side4 => exact HC105_2.out); rintro e w8 ⟨rfl, hb⟩; refine ⟨_, rfl, ?_⟩; have n0_ := am (below_step blw hb); clear HB; revert n0_; intro HB; (try clear hb); (try clear hb2); (try clear hk); (try clear hi)))
   have H := HC7.out
   clear HC7
   by_cases c9 : t106 < 0
   ·rw [if_pos c9] at H
    have c9b0 : decide (t106 < 0) = true := decide_eq_true c9
    clear c9
    (first | rw [c9b0] | (simp only [i64_w, i32_w]; rw [c9b0]) | skip)
    obtain rfl := Option.some.inj H
    go_wp2
    go_ret
    exact ⟨rfw, blw⟩
   rw [if_neg c9] at H
   have c9b0 : decide (t106 < 0) = false := decide_eq_false c9
   clear c9
   (first | rw [c9b0] | (simp only [i64_w, i32_w]; rw [c9b0]) | skip)
   have H' := am H
   clear H
   go_wp2
   go_roundg k1
   case measure => have := HK1.out; omega
   case rel => exact ⟨(t106), (wrap64 (x5_1 + 1)), rfs, rfs, H', ⟨by have := HK1.out; omega⟩, ⟨blw⟩⟩

theorem laws_szType.all (k : Nat) : (laws_szType.T k) ∧ (laws_szTypeS.T k) := by
 induction k using Nat.strongRecOn with
 | _ k ih =>
 exact ⟨laws_szType.step k (fun m hm_ => (ih m hm_).1) (fun m hm_ => (ih m hm_).2), laws_szTypeS.step k (fun m hm_ => (ih m hm_).2) (fun m hm_ => (ih m hm_).1)⟩

theorem laws_szType.calls (k : Nat) : ∀ (a0_0 : Int) (A0_1 : Option Addr) (c0_1 : Nat) (l0_1 : List ByteArray) (A0_2 : Option Addr) (c0_2 : Nat) (l0_2 : List (S25)) (a1 : Int) (r : Int) (w : World) (hr0_1 : Kd.C Kd.string w A0_1 l0_1.length l0_1) (hc0_1 : l0_1.length ≤ c0_1) (hr0_2 : Kd.C k25 w A0_2 l0_2.length l0_2) (hc0_2 : l0_2.length ≤ c0_2) (h : laws_szType.f k a0_0 l0_1 l0_2 a1 = some r),
  Calls Tryd.prog 11 #[.agg #[.int .i64 a0_0, .slice A0_1 l0_1.length c0_1, .slice A0_2 l0_2.length c0_2], .int .i64 a1] w fun e w' => e = .returned (.int .i64 r) ∧ Below w.heap.size w w' := (laws_szType.all k).1

end Go.Proofs.YtpckkjeapfdilaaDoor.Px
end
section
namespace Go.Proofs.YtpckkjeapfdilaaDoor.Px
set_option maxHeartbeats 8000000
set_option maxRecDepth 100000
open Go.RowKit Go.Proofs.YtpckkjeapfdilaaDoor.Ext Go.Proofs.YtpckkjeapfdilaaDoorW.PrintWords Go.Proofs.YtpckkjeapfdilaaDoorW.PrintLast Go.Proofs.YtpckkjeapfdilaaDoorW.PrintMore
attribute [local go_sem] max2_int min2_int max_two min_two max_three min_three max_four min_four   -- for this text's walks alone
set_option linter.unusedVariables false
set_option linter.unusedSimpArgs false

mutual
def laws_szTerm.f : Nat → Int → ByteArray → Int → Int → List ByteArray → List (S25) → List ByteArray → List (S28) → Int → Option (Int)
 | 0, _, _, _, _, _, _, _, _, _ => none
 | k + 1, a0_0, a0_1, a0_2, a0_3, l0_4, l0_5, l0_6, l0_7, a1 => if (wrap64 (a1 - (a0_1.size : Int))) < 0 then (some (-1)) else ((laws_szType.f k a0_3 l0_4 l0_5 (wrap64 (a1 - (a0_1.size : Int)))).bind fun t108 => (if t108 < 0 then (some (-1)) else ((laws_szStringS.f k l0_6 t108).bind fun t109 => (if t109 < 0 then (some (-1)) else ((laws_szTermS.f k l0_7 t109).bind fun t110 => (if t110 < 0 then (some (-1)) else (some t110)))))))
def laws_szTermS.l0 : Nat → List (S28) → Int → Int → Option (Int)
 | 0, _, _, _ => none
 | k + 1, x0, x1, x5 => if x5 < (x0.length : Int) then (if 0 ≤ x5 then ((laws_szTerm.f k ((rd_T28 x0 x5).f0) ((rd_T28 x0 x5).f1) ((rd_T28 x0 x5).f2) ((rd_T28 x0 x5).f3.f0) ((rd_T28 x0 x5).f3.f1) ((rd_T28 x0 x5).f3.f2) ((rd_T28 x0 x5).f4) ((rd_T28 x0 x5).f5) x1).bind fun t112 => (if t112 < 0 then (some (-1)) else (laws_szTermS.l0 k x0 t112 (wrap64 (x5 + 1))))) else (none)) else (some x1)
def laws_szTermS.f : Nat → List (S28) → Int → Option (Int)
 | 0, _, _ => none
 | k + 1, l0, a1 => if (wrap64 (a1 - (l0.length : Int))) < 0 then (some (-1)) else (laws_szTermS.l0 k l0 (wrap64 (a1 - (l0.length : Int))) 0)
end
abbrev laws_szTerm.T (k : Nat) : Prop := ∀ (a0_0 : Int) (a0_1 : ByteArray) (a0_2 : Int) (a0_3 : Int) (A0_4 : Option Addr) (c0_4 : Nat) (l0_4 : List ByteArray) (A0_5 : Option Addr) (c0_5 : Nat) (l0_5 : List (S25)) (A0_6 : Option Addr) (c0_6 : Nat) (l0_6 : List ByteArray) (A0_7 : Option Addr) (c0_7 : Nat) (l0_7 : List (S28)) (a1 : Int) (r : Int) (w : World) (hr0_4 : Kd.C Kd.string w A0_4 l0_4.length l0_4) (hc0_4 : l0_4.length ≤ c0_4) (hr0_5 : Kd.C k25 w A0_5 l0_5.length l0_5) (hc0_5 : l0_5.length ≤ c0_5) (hr0_6 : Kd.C Kd.string w A0_6 l0_6.length l0_6) (hc0_6 : l0_6.length ≤ c0_6) (hr0_7 : Kd.C k28 w A0_7 l0_7.length l0_7) (hc0_7 : l0_7.length ≤ c0_7) (h : laws_szTerm.f k a0_0 a0_1 a0_2 a0_3 l0_4 l0_5 l0_6 l0_7 a1 = some r),
  Calls Tryd.prog 4 #[.agg #[.int .i64 a0_0, .string a0_1, .int .i64 a0_2, .int .i64 a0_3, .slice A0_4 l0_4.length c0_4, .slice A0_5 l0_5.length c0_5, .slice A0_6 l0_6.length c0_6, .slice A0_7 l0_7.length c0_7], .int .i64 a1] w fun e w' => e = .returned (.int .i64 r) ∧ Below w.heap.size w w'
abbrev laws_szTermS.T (k : Nat) : Prop := ∀ (A0 : Option Addr) (c0 : Nat) (l0 : List (S28)) (a1 : Int) (r : Int) (w : World) (hr0 : Kd.C k28 w A0 l0.length l0) (hc0 : l0.length ≤ c0) (h : laws_szTermS.f k l0 a1 = some r),
  Calls Tryd.prog 13 #[.slice A0 l0.length c0, .int .i64 a1] w fun e w' => e = .returned (.int .i64 r) ∧ Below w.heap.size w w'
theorem laws_szTerm.step (k : Nat) (ih : ∀ m, m < k → laws_szTerm.T m) (ih_13 : ∀ m, m < k → laws_szTermS.T m) : laws_szTerm.T k := by
 intro a0_0 a0_1 a0_2 a0_3 A0_4 c0_4 l0_4 A0_5 c0_5 l0_5 A0_6 c0_6 l0_6 A0_7 c0_7 l0_7 a1 r w hr0_4 hc0_4 hr0_5 hc0_5 hr0_6 hc0_6 hr0_7 hc0_7 h
 cases k with
 | zero => exact absurd h (by simp [laws_szTerm.f])
 | succ k =>
 simp only [laws_szTerm.f] at h
 have hu28 := Tryd.underlying28
 have hu25 := Tryd.underlying25
 have HR0_4 := am hr0_4
 have HC0_4 := am hc0_4
 clear hr0_4 hc0_4
 have HR0_5 := am hr0_5
 have HC0_5 := am hc0_5
 clear hr0_5 hc0_5
 have HR0_6 := am hr0_6
 have HC0_6 := am hc0_6
 clear hr0_6 hc0_6
 have HR0_7 := am hr0_7
 have HC0_7 := am hc0_7
 clear hr0_7 hc0_7
 have HB := am (Below.refl w.heap.size w)
 have H : (if (wrap64 (a1 - (a0_1.size : Int))) < 0 then (some (-1)) else ((laws_szType.f k a0_3 l0_4 l0_5 (wrap64 (a1 - (a0_1.size : Int)))).bind fun t108 => (if t108 < 0 then (some (-1)) else ((laws_szStringS.f k l0_6 t108).bind fun t109 => (if t109 < 0 then (some (-1)) else ((laws_szTermS.f k l0_7 t109).bind fun t110 => (if t110 < 0 then (some (-1)) else (some t110)))))))) = some r := h
 clear h
 by_cases c3 : (wrap64 (a1 - (a0_1.size : Int))) < 0
 ·rw [if_pos c3] at H
  have c3b0 : decide ((wrap64 (a1 - (a0_1.size : Int))) < 0) = true := decide_eq_true c3
  clear c3
  obtain rfl := Option.some.inj H
  go_enter Tryd.func4, Tryd.ntmps4
  go_wp2_with (first | ((with_reducible refine gate_dst (N := 2) rfl ?_); refine box_event ?hg (N := 2) ?hd (cs := #[.int .i64 a0_0, .string a0_1, .int .i64 a0_2, .int .i64 a0_3, .slice A0_4 l0_4.length c0_4, .slice A0_5 l0_5.length c0_5, .slice A0_6 l0_6.length c0_6, .slice A0_7 l0_7.length c0_7]) (t := 28) ?hr ?_; (case hd => rfl); (case hg => rfl); (case hr => exact hrw); intro gb107 hg w4 hbox hb; have n0_ := am (below_step blw hb); have n1_ := am (hbox); have n2_ := am ((by rw [hg]; exact (below_size blw) : w.heap.size ≤ gb107)); have n3_ := n2_; clear HB; revert n0_ n1_ n2_ n3_; intro HB BK107 GW107 GE107; clear hb hbox hg; obtain ⟨hcz5_0, hcz5_1, hcz5_2, hcz5_3, hcz5_4, hcz5_5, hcz5_6, hcz5_7⟩ := cls8 BK107.out; obtain ⟨hfz5_0, hfz5_1, hfz5_2, hfz5_3, hfz5_4, hfz5_5, hfz5_6, hfz5_7⟩ := frz8 BK107.out))
  go_ret
  exact ⟨rfw, blw⟩
 rw [if_neg c3] at H
 have c3b0 : decide ((wrap64 (a1 - (a0_1.size : Int))) < 0) = false := decide_eq_false c3
 clear c3
 replace H := Option.bind_eq_some_iff.mp H
 obtain ⟨t108, A60, H⟩ := H
 replace H : (if t108 < 0 then (some (-1)) else ((laws_szStringS.f k l0_6 t108).bind fun t109 => (if t109 < 0 then (some (-1)) else ((laws_szTermS.f k l0_7 t109).bind fun t110 => (if t110 < 0 then (some (-1)) else (some t110)))))) = some r := H
 have A6 := am A60
 clear A60
 have HC7 := am H
 clear H
 go_enter Tryd.func4, Tryd.ntmps4
 go_upto_if 17 with (first | ((with_reducible refine gate_dst (N := 2) rfl ?_); refine box_event ?hg (N := 2) ?hd (cs := #[.int .i64 a0_0, .string a0_1, .int .i64 a0_2, .int .i64 a0_3, .slice A0_4 l0_4.length c0_4, .slice A0_5 l0_5.length c0_5, .slice A0_6 l0_6.length c0_6, .slice A0_7 l0_7.length c0_7]) (t := 28) ?hr ?_; (case hd => rfl); (case hg => rfl); (case hr => exact hrw); intro gb107 hg w8 hbox hb; have n0_ := am (below_step blw hb); have n1_ := am (hbox); have n2_ := am ((by rw [hg]; exact (below_size blw) : w.heap.size ≤ gb107)); have n3_ := n2_; clear HB; revert n0_ n1_ n2_ n3_; intro HB BK107 GW107 GE107; clear hb hbox hg; obtain ⟨hcz9_0, hcz9_1, hcz9_2, hcz9_3, hcz9_4, hcz9_5, hcz9_6, hcz9_7⟩ := cls8 BK107.out; obtain ⟨hfz9_0, hfz9_1, hfz9_2, hfz9_3, hfz9_4, hfz9_5, hfz9_6, hfz9_7⟩ := frz8 BK107.out) | ((with_reducible refine gate_callee (f := 11) rfl ?_); refine goesL_ (some 15) rfl rfl Tryd.func11 kr rfl #[.agg #[.int .i64 a0_3, .slice A0_4 l0_4.length c0_4, .slice A0_5 l0_5.length c0_5], .int .i64 (wrap64 (a1 - (a0_1.size : Int)))] rfl mpw ?_; (with_reducible refine (laws_szType.calls k a0_3 _ _ l0_4 _ _ l0_5 (wrap64 (a1 - (a0_1.size : Int))) t108 _ ?side1 ?side2 ?side3 ?side4 A6.out).mono ?_); (case side1 => have X_ := HR0_4; exact cbl); (case side2 => exact HC0_4.out); (case side3 => have X_ := HR0_5; exact cbl); (case side4 => exact HC0_5.out); rintro e w10 ⟨rfl, hb⟩; refine ⟨_, rfl, ?_⟩; have n0_ := am (blk_below (g := gb107) bkw hb); have n1_ := am (below_step blw hb); clear BK107; clear HB; revert n0_ n1_; intro BK107 HB; (try clear hb); (try clear hb2); (try clear hk); (try clear hi)))
 have H := HC7.out
 clear HC7
 by_cases c11 : t108 < 0
 ·rw [if_pos c11] at H
  have c11b0 : decide (t108 < 0) = true := decide_eq_true c11
  clear c11
  (first | rw [c11b0] | (simp only [i64_w, i32_w]; rw [c11b0]) | skip)
  obtain rfl := Option.some.inj H
  go_wp2
  go_ret
  exact ⟨rfw, blw⟩
 rw [if_neg c11] at H
 have c11b0 : decide (t108 < 0) = false := decide_eq_false c11
 clear c11
 (first | rw [c11b0] | (simp only [i64_w, i32_w]; rw [c11b0]) | skip)
 replace H := Option.bind_eq_some_iff.mp H
 obtain ⟨t109, A120, H⟩ := H
 replace H : (if t109 < 0 then (some (-1)) else ((laws_szTermS.f k l0_7 t109).bind fun t110 => (if t110 < 0 then (some (-1)) else (some t110)))) = some r := H
 have A12 := am A120
 clear A120
 have HC13 := am H
 clear H
 obtain ⟨hcz14_0, hcz14_1, hcz14_2, hcz14_3, hcz14_4, hcz14_5, hcz14_6, hcz14_7⟩ := cls8 BK107.out
 obtain ⟨hfz14_0, hfz14_1, hfz14_2, hfz14_3, hfz14_4, hfz14_5, hfz14_6, hfz14_7⟩ := frz8 BK107.out
 go_upto_if 23 with (first | ((with_reducible refine gate_callee (f := 12) rfl ?_); refine goesL_ (some 21) rfl rfl Tryd.func12 kr rfl #[.slice A0_6 l0_6.length c0_6, .int .i64 t108] rfl mpw ?_; (with_reducible refine (laws_szStringS.calls k _ _ l0_6 t108 t109 _ ?side1 ?side2 A12.out).mono ?_); (case side1 => have X_ := HR0_6; exact cbl); (case side2 => exact HC0_6.out); rintro e w' ⟨rfl, ⟨nd, rfl⟩⟩; refine ⟨_, rfl, ?_⟩))
 have H := HC13.out
 clear HC13
 by_cases c15 : t109 < 0
 ·rw [if_pos c15] at H
  have c15b0 : decide (t109 < 0) = true := decide_eq_true c15
  clear c15
  (first | rw [c15b0] | (simp only [i64_w, i32_w]; rw [c15b0]) | skip)
  obtain rfl := Option.some.inj H
  go_wp2
  go_ret
  exact ⟨rfw, blw⟩
 rw [if_neg c15] at H
 have c15b0 : decide (t109 < 0) = false := decide_eq_false c15
 clear c15
 (first | rw [c15b0] | (simp only [i64_w, i32_w]; rw [c15b0]) | skip)
 replace H := Option.bind_eq_some_iff.mp H
 obtain ⟨t110, A160, H⟩ := H
 replace H : (if t110 < 0 then (some (-1)) else (some t110)) = some r := H
 have A16 := am A160
 clear A160
 have HC17 := am H
 clear H
 obtain ⟨hcz18_0, hcz18_1, hcz18_2, hcz18_3, hcz18_4, hcz18_5, hcz18_6, hcz18_7⟩ := cls8 BK107.out
 obtain ⟨hfz18_0, hfz18_1, hfz18_2, hfz18_3, hfz18_4, hfz18_5, hfz18_6, hfz18_7⟩ := frz8 BK107.out
 go_upto_if 29 with (first | ((with_reducible refine gate_callee (f := 13) rfl ?_); refine goesL_ (some 27) rfl rfl Tryd.func13 kr rfl #[.slice A0_7 l0_7.length c0_7, .int .i64 t109] rfl mpw ?_; (with_reducible refine (ih_13 k (by omega) _ _ l0_7 t109 t110 _ ?side1 ?side2 A16.out).mono ?_); (case side1 => have X_ := HR0_7; exact cbl); (case side2 => exact HC0_7.out); rintro e w19 ⟨rfl, hb⟩; refine ⟨_, rfl, ?_⟩; have n0_ := am (blk_below (g := gb107) bkw hb); have n1_ := am (below_step blw hb); clear BK107; clear HB; revert n0_ n1_; intro BK107 HB; (try clear hb); (try clear hb2); (try clear hk); (try clear hi)))
 have H := HC17.out
 clear HC17
 by_cases c20 : t110 < 0
 ·rw [if_pos c20] at H
  have c20b0 : decide (t110 < 0) = true := decide_eq_true c20
  clear c20
  (first | rw [c20b0] | (simp only [i64_w, i32_w]; rw [c20b0]) | skip)
  obtain rfl := Option.some.inj H
  go_wp2
  go_ret
  exact ⟨rfw, blw⟩
 rw [if_neg c20] at H
 have c20b0 : decide (t110 < 0) = false := decide_eq_false c20
 clear c20
 (first | rw [c20b0] | (simp only [i64_w, i32_w]; rw [c20b0]) | skip)
 obtain rfl := Option.some.inj H
 go_wp2
 go_ret
 exact ⟨rfw, blw⟩

theorem laws_szTermS.step (k : Nat) (ih : ∀ m, m < k → laws_szTermS.T m) (ih_4 : ∀ m, m < k → laws_szTerm.T m) : laws_szTermS.T k := by
 intro A0 c0 l0 a1 r w hr0 hc0 h
 cases k with
 | zero => exact absurd h (by simp [laws_szTermS.f])
 | succ k =>
 simp only [laws_szTermS.f] at h
 have hu28 := Tryd.underlying28
 have HR0 := am hr0
 have HC0 := am hc0
 clear hr0 hc0
 have HB := am (Below.refl w.heap.size w)
 have H : (if (wrap64 (a1 - (l0.length : Int))) < 0 then (some (-1)) else (laws_szTermS.l0 k l0 (wrap64 (a1 - (l0.length : Int))) 0)) = some r := h
 clear h
 by_cases c3 : (wrap64 (a1 - (l0.length : Int))) < 0
 ·rw [if_pos c3] at H
  have c3b0 : decide ((wrap64 (a1 - (l0.length : Int))) < 0) = true := decide_eq_true c3
  clear c3
  obtain rfl := Option.some.inj H
  go_enter Tryd.func13, Tryd.ntmps13
  go_wp2
  go_ret
  exact ⟨rfw, blw⟩
 rw [if_neg c3] at H
 have c3b0 : decide ((wrap64 (a1 - (l0.length : Int))) < 0) = false := decide_eq_false c3
 clear c3
 have H' := am H
 clear H
 go_enter Tryd.func13, Tryd.ntmps13
 go_wp2
 go_loopg [1, 5] k (fun kq v1 v5 w' => ∃ (x1_1 : Int) (x5_1 : Int), v1 = .int .i64 x1_1 ∧ v5 = .int .i64 x5_1 ∧ Aside0 (laws_szTermS.l0 kq l0 x1_1 x5_1 = some r) ∧ Aside0 (kq ≤ k) ∧ Aside0 (Below w.heap.size w w'))
 case atStart => exact ⟨(wrap64 (a1 - (l0.length : Int))), (0), rfs, rfs, H', ⟨Nat.le_refl _⟩, ⟨blw⟩⟩
 case round =>
  clear H'
  (try clear c1); (try clear p2); (try clear c3); (try clear c3b0)
  obtain ⟨x1_1, x5_1, rfl, rfl, HA, HK1, HB⟩ := hrel
  cases gk with
  | zero => exact absurd HA.out (by simp [laws_szTermS.l0])
  | succ k1 =>
   have H := HA.out
   clear HA
   simp only [laws_szTermS.l0] at H
   by_cases c4 : x5_1 < (l0.length : Int)
   case neg =>
    rw [if_neg c4] at H
    have c4b0 : decide (x5_1 < (l0.length : Int)) = false := decide_eq_false c4
    clear c4
    obtain rfl := Option.some.inj H
    go_wp2
    go_ret
    exact ⟨rfw, blw⟩
   rw [if_pos c4] at H
   have c4b0 : decide (x5_1 < (l0.length : Int)) = true := decide_eq_true c4
   clear c4
   by_cases c5 : 0 ≤ x5_1
   case neg =>
    rw [if_neg c5] at H
    exact absurd H (by simp)
   rw [if_pos c5] at H
   have c5b0 : decide (0 ≤ x5_1) = true := decide_eq_true c5
   clear c5
   replace H := Option.bind_eq_some_iff.mp H
   obtain ⟨t112, A60, H⟩ := H
   replace H : (if t112 < 0 then (some (-1)) else (laws_szTermS.l0 k1 l0 t112 (wrap64 (x5_1 + 1)))) = some r := H
   have A6 := am A60
   clear A60
   have HC7 := am H
   clear H
   have p111 : 0 ≤ (x5_1 : Int) := of_decide_eq_true asw
   have q111 : x5_1 < (l0.length : Int) := of_decide_eq_true asw
   obtain ⟨ad111, A111_4, c111_4, A111_5, c111_5, A111_6, c111_6, A111_7, c111_7, e111, hx111_0, hx111_1, hx111_2, hx111_3, hx111_4, hx111_5, hx111_6, hx111_7, hl111_4, hi111_4, hl111_5, hi111_5, hl111_6, hi111_6, hl111_7, hi111_7⟩ := at_T28 HR0.out x5_1 p111 q111
   cases e111
   replace hx111_0 := upw HB.out hx111_0
   replace hx111_1 := upw HB.out hx111_1
   replace hx111_2 := upw HB.out hx111_2
   replace hx111_3 := upw HB.out hx111_3
   replace hx111_4 := upw HB.out hx111_4
   replace hx111_5 := upw HB.out hx111_5
   replace hx111_6 := upw HB.out hx111_6
   replace hx111_7 := upw HB.out hx111_7
   have HR111_4 := am hi111_4
   have HC111_4 := am hl111_4
   clear hi111_4 hl111_4
   have HR111_5 := am hi111_5
   have HC111_5 := am hl111_5
   clear hi111_5 hl111_5
   have HR111_6 := am hi111_6
   have HC111_6 := am hl111_6
   clear hi111_6 hl111_6
   have HR111_7 := am hi111_7
   have HC111_7 := am hl111_7
   clear hi111_7 hl111_7
   replace p111 := eq_true p111
   replace q111 := eq_true q111
   go_upto_if 25 with (first | ((with_reducible refine gate_callee (f := 4) rfl ?_); refine goesL_ (some 23) rfl rfl Tryd.func4 kr rfl #[.agg #[.int .i64 ((rd_T28 l0 x5_1).f0), .string ((rd_T28 l0 x5_1).f1), .int .i64 ((rd_T28 l0 x5_1).f2), .int .i64 ((rd_T28 l0 x5_1).f3.f0), .slice A111_4 ((rd_T28 l0 x5_1).f3.f1).length c111_4, .slice A111_5 ((rd_T28 l0 x5_1).f3.f2).length c111_5, .slice A111_6 ((rd_T28 l0 x5_1).f4).length c111_6, .slice A111_7 ((rd_T28 l0 x5_1).f5).length c111_7], .int .i64 x1_1] rfl mpw ?_; (with_reducible refine (ih_4 k1 (by have := HK1.out; omega) ((rd_T28 l0 x5_1).f0) ((rd_T28 l0 x5_1).f1) ((rd_T28 l0 x5_1).f2) ((rd_T28 l0 x5_1).f3.f0) _ _ ((rd_T28 l0 x5_1).f3.f1) _ _ ((rd_T28 l0 x5_1).f3.f2) _ _ ((rd_T28 l0 x5_1).f4) _ _ ((rd_T28 l0 x5_1).f5) x1_1 t112 _ ?side1 ?side2 ?side3 ?side4 ?side5 ?side6 ?side7 ?side8 A6.out).mono ?_); (case side1 => have X_ := HR111_4; exact cbl); (case side2 => exact HC111_4.out); (case side3 => have X_ := HR111_5; exact cbl); (case side4 => exact HC111_5.out); (case side5 => have X_ := HR111_6; exact cbl); (case side6 => exact HC111_6.out); (case side7 => have X_ := HR111_7; exact cbl); (case side8 => exact HC111_7.out); rintro e w8 ⟨rfl, hb⟩; refine ⟨_, rfl, ?_⟩; have n0_ := am (below_step blw hb); clear HB; revert n0_; intro HB; (try clear hb); (try clear hb2); (try clear hk); (try clear hi)))
   have H := HC7.out
   clear HC7
   by_cases c9 : t112 < 0
   ·rw [if_pos c9] at H
    have c9b0 : decide (t112 < 0) = true := decide_eq_true c9
    clear c9
    (first | rw [c9b0] | (simp only [i64_w, i32_w]; rw [c9b0]) | skip)
    obtain rfl := Option.some.inj H
    go_wp2
    go_ret
    exact ⟨rfw, blw⟩
   rw [if_neg c9] at H
   have c9b0 : decide (t112 < 0) = false := decide_eq_false c9
   clear c9
   (first | rw [c9b0] | (simp only [i64_w, i32_w]; rw [c9b0]) | skip)
   have H' := am H
   clear H
   go_wp2
   go_roundg k1
   case measure => have := HK1.out; omega
   case rel => exact ⟨(t112), (wrap64 (x5_1 + 1)), rfs, rfs, H', ⟨by have := HK1.out; omega⟩, ⟨blw⟩⟩

theorem laws_szTerm.all (k : Nat) : (laws_szTerm.T k) ∧ (laws_szTermS.T k) := by
 induction k using Nat.strongRecOn with
 | _ k ih =>
 exact ⟨laws_szTerm.step k (fun m hm_ => (ih m hm_).1) (fun m hm_ => (ih m hm_).2), laws_szTermS.step k (fun m hm_ => (ih m hm_).2) (fun m hm_ => (ih m hm_).1)⟩

theorem laws_szTerm.calls (k : Nat) : ∀ (a0_0 : Int) (a0_1 : ByteArray) (a0_2 : Int) (a0_3 : Int) (A0_4 : Option Addr) (c0_4 : Nat) (l0_4 : List ByteArray) (A0_5 : Option Addr) (c0_5 : Nat) (l0_5 : List (S25)) (A0_6 : Option Addr) (c0_6 : Nat) (l0_6 : List ByteArray) (A0_7 : Option Addr) (c0_7 : Nat) (l0_7 : List (S28)) (a1 : Int) (r : Int) (w : World) (hr0_4 : Kd.C Kd.string w A0_4 l0_4.length l0_4) (hc0_4 : l0_4.length ≤ c0_4) (hr0_5 : Kd.C k25 w A0_5 l0_5.length l0_5) (hc0_5 : l0_5.length ≤ c0_5) (hr0_6 : Kd.C Kd.string w A0_6 l0_6.length l0_6) (hc0_6 : l0_6.length ≤ c0_6) (hr0_7 : Kd.C k28 w A0_7 l0_7.length l0_7) (hc0_7 : l0_7.length ≤ c0_7) (h : laws_szTerm.f k a0_0 a0_1 a0_2 a0_3 l0_4 l0_5 l0_6 l0_7 a1 = some r),
  Calls Tryd.prog 4 #[.agg #[.int .i64 a0_0, .string a0_1, .int .i64 a0_2, .int .i64 a0_3, .slice A0_4 l0_4.length c0_4, .slice A0_5 l0_5.length c0_5, .slice A0_6 l0_6.length c0_6, .slice A0_7 l0_7.length c0_7], .int .i64 a1] w fun e w' => e = .returned (.int .i64 r) ∧ Below w.heap.size w w' := (laws_szTerm.all k).1

end Go.Proofs.YtpckkjeapfdilaaDoor.Px
end
