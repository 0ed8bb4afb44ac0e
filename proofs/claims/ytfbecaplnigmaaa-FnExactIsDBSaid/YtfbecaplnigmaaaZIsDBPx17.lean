/- Printed by a program of this session: what functions of the translation come to, each contract as it stands. No condition. -/
import Derived.Test.YtfbecaplnigmaaaZIsDBSh
import Derived.Test.YtfbecaplnigmaaaZIsDBPx0M
import Derived.Test.YtfbecaplnigmaaaZIsDBPx13M
import Derived.Test.YtfbecaplnigmaaaZIsDBPx16
namespace Go.Proofs.Ytfbecaplnigmaaa.Px
open Go.RowKit Go.Proofs.Ytfbecaplnigmaaa.Ext Go.Proofs.YtfbecaplnigmaaaW.PrintWords Go.Proofs.YtfbecaplnigmaaaW.PrintLast Go.Proofs.YtfbecaplnigmaaaW.PrintMore
attribute [local go_sem] max2_int min2_int max_two min_two max_three min_three max_four min_four   -- for this text's walks alone
set_option linter.unusedVariables false
set_option linter.unusedSimpArgs false

/-! ### impl_IsSchema: function 18 -/
def impl_IsSchema.l0 : Nat → List (S53) → Int → Int → List (S53) → Option (Bool)
 | 0, _, _, _, _ => none
 | k + 1, x6, x7, x8, x333000 => if x8 < x7 then (if 0 ≤ x8 then (if x8 < (x6.length : Int) then ((impl_IsName.f k ((rd_T53 x6 x8).f0)).bind fun t335 => (if t335 = true then ((impl_IsRow.f k ((rd_T53 x6 x8).f1.f0) ((rd_T53 x6 x8).f1.f1) ((rd_T53 x6 x8).f1.f2)).bind fun t336 => (if t336 = true then (if x8 > 0 then (if 0 ≤ (wrap64 (x8 - 1)) then (if (wrap64 (x8 - 1)) < (x333000.length : Int) then (if ((Op.bytesLess (((rd_T53 x333000 (wrap64 (x8 - 1))).f0).toList) (((rd_T53 x6 x8).f0).toList)) = true) then (impl_IsSchema.l0 k x6 x7 (wrap64 (x8 + 1)) x333000) else (some false)) else (none)) else (none)) else (impl_IsSchema.l0 k x6 x7 (wrap64 (x8 + 1)) x333000)) else (some false))) else (some false))) else (none)) else (none)) else (some (decide ((x333000.length : Int) ≤ 4)))
def impl_IsSchema.f (k : Nat) (l0_0 : List (S53)) : Option (Bool) := impl_IsSchema.l0 k l0_0 (l0_0.length : Int) 0 l0_0
def impl_IsSchema.T4 : Bool × List (List Nat × List Nat) := (true, [([], []), ([0], [0]), ([1], [1]), ([2], [2]), ([3, 2], [3]), ([4], [4]), ([5, 4], [4, 5]), ([6, 4, 4], [4, 6]), ([7, 4], [4, 7]), ([4, 8], [4, 8]), ([9, 7], [9]), ([10], [10]), ([11, 10], [10, 11]), ([12, 10, 10], [10, 12]), ([13], [13]), ([14, 13], [13, 14]), ([13], [13]), ([16, 13], [13, 16]), ([15, 17, 13], [13, 15, 17]), ([18, 13], [13, 18]), ([19, 13], [13, 19]), ([13], [13]), ([21, 13], [13, 21]), ([20, 22, 13], [13, 20, 22]), ([13, 23, 10], [10, 13, 23]), ([10, 24], [10, 24])])
def impl_IsSchema.B4 : List Nat := [0, 1, 3, 7, 15, 31, 63, 127, 255, 511, 1023, 2047, 4095, 8191, 16383, 32767, 16383, 81919, 262143, 524287, 1048575, 16383, 2113535, 8388607, 16777215, 33554431]
theorem impl_IsSchema.tab4 : rtab .any (opsOf Try.f18 4) = impl_IsSchema.T4 := by kernel_rfl
theorem impl_IsSchema.bits4 : waitsOk impl_IsSchema.T4.2 impl_IsSchema.B4 = true := by kernel_rfl
set_option maxHeartbeats 8000000 in
set_option maxRecDepth 100000 in
theorem impl_IsSchema.calls (k : Nat) (A0_0 : Option Addr) (c0_0 : Nat) (l0_0 : List (S53)) (r : Bool) (w : World) (hr0_0 : Kd.C k53 w A0_0 l0_0.length l0_0) (hc0_0 : l0_0.length ≤ c0_0) (h : impl_IsSchema.f k l0_0 = some r) :
  Calls Try.prog 18 #[.agg #[.slice A0_0 l0_0.length c0_0]] w fun e w' => e = .returned (.bool r) ∧ Below w.heap.size w w' := by
 have hu33 := Try.underlying33
 have hu53 := Try.underlying53
 have hu51 := Try.underlying51
 have HR0_0 := Aside0.mk hr0_0
 have HC0_0 := Aside0.mk hc0_0
 clear hr0_0 hc0_0
 have HB := Aside0.mk (Below.refl w.heap.size w)
 have H : (impl_IsSchema.l0 k l0_0 (l0_0.length : Int) 0 l0_0) = some r := h
 clear h
 have H' := Aside0.mk H
 clear H
 go_enter Try.func18, Try.ntmps18
 go_wp2_with (first | ((with_reducible refine gate_dst (N := 1) rfl ?_); refine box_event ?hg (N := 1) ?hd (cs := #[.slice A0_0 l0_0.length c0_0]) (t := 33) ?hr ?_; (case hd => rfl); (case hg => rfl); (case hr => exact hrw); intro gb332 hg w2 hbox hb; have n0_ := Aside0.mk (below_step blw hb); have n1_ := Aside0.mk (hbox); have n2_ := Aside0.mk ((by rw [hg]; exact (below_size blw) : w.heap.size ≤ gb332)); have n3_ := n2_; clear HB; revert n0_ n1_ n2_ n3_; intro HB BK332 GW332 GE332; clear hb hbox hg; have hcz3_0 : w2.cell? ⟨gb332, 0, none⟩ = some (.slice A0_0 l0_0.length c0_0) := (blk_cell BK332.out 0).trans rfl; have hfz3_0 := blk_frozen BK332.out 0))
 go_loopg [8] k (fun kq v8 w' => ∃ (x8_1 : Int), v8 = .int .i64 x8_1 ∧ Aside0 (impl_IsSchema.l0 kq l0_0 (l0_0.length : Int) x8_1 l0_0 = some r) ∧ Aside0 (kq ≤ k) ∧ Aside0 (w'.heap[gb332]? = some (.cells #[(.slice A0_0 l0_0.length c0_0)] 33 (0, 0))) ∧ Aside0 (Below w.heap.size w w'))
 case atStart => exact ⟨(0), rfs, H', ⟨Nat.le_refl _⟩, ⟨bkw⟩, ⟨blw⟩⟩
 case round =>
  clear H'
  (try clear c1); (try clear p2); (try clear hcz3_0); (try clear hfz3_0)
  obtain ⟨x8_1, rfl, HA, HK1, BK332, HB⟩ := hrel
  cases gk with
  | zero => exact absurd HA.out (by simp [impl_IsSchema.l0])
  | succ k1 =>
   have H := HA.out
   clear HA
   simp only [impl_IsSchema.l0] at H
   by_cases c4 : x8_1 < (l0_0.length : Int)
   case neg =>
    rw [if_neg c4] at H
    have c4b0 : decide (x8_1 < (l0_0.length : Int)) = false := decide_eq_false c4
    clear c4
    obtain rfl := Option.some.inj H
    have hcz40_0 : wr.cell? ⟨gb332, 0, none⟩ = some (.slice A0_0 l0_0.length c0_0) := (blk_cell BK332.out 0).trans rfl
    have hfz40_0 := blk_frozen BK332.out 0
    go_wp2
    go_ret
    exact ⟨rfw, blw⟩
   rw [if_pos c4] at H
   have c4b0 : decide (x8_1 < (l0_0.length : Int)) = true := decide_eq_true c4
   clear c4
   by_cases c5 : 0 ≤ x8_1
   case neg =>
    rw [if_neg c5] at H
    exact absurd H (by simp)
   rw [if_pos c5] at H
   have c5b0 : decide (0 ≤ x8_1) = true := decide_eq_true c5
   clear c5
   by_cases c6 : x8_1 < (l0_0.length : Int)
   case neg =>
    rw [if_neg c6] at H
    exact absurd H (by simp)
   rw [if_pos c6] at H
   have c6b0 : decide (x8_1 < (l0_0.length : Int)) = true := decide_eq_true c6
   clear c6
   replace H := Option.bind_eq_some_iff.mp H
   obtain ⟨t335, A70, H⟩ := H
   replace H : (if t335 = true then ((impl_IsRow.f k1 ((rd_T53 l0_0 x8_1).f1.f0) ((rd_T53 l0_0 x8_1).f1.f1) ((rd_T53 l0_0 x8_1).f1.f2)).bind fun t336 => (if t336 = true then (if x8_1 > 0 then (if 0 ≤ (wrap64 (x8_1 - 1)) then (if (wrap64 (x8_1 - 1)) < (l0_0.length : Int) then (if ((Op.bytesLess (((rd_T53 l0_0 (wrap64 (x8_1 - 1))).f0).toList) (((rd_T53 l0_0 x8_1).f0).toList)) = true) then (impl_IsSchema.l0 k1 l0_0 (l0_0.length : Int) (wrap64 (x8_1 + 1)) l0_0) else (some false)) else (none)) else (none)) else (impl_IsSchema.l0 k1 l0_0 (l0_0.length : Int) (wrap64 (x8_1 + 1)) l0_0)) else (some false))) else (some false)) = some r := H
   have A7 := Aside0.mk A70
   clear A70
   by_cases c8 : t335 = true
   case neg =>
    replace c8 := Bool.eq_false_iff.mpr c8
    subst c8
    have H1 : (some false) = some r := by rw [if_neg (show ¬ (false = true) by decide)] at H; exact H
    clear H
    have H := H1
    clear H1
    obtain rfl := Option.some.inj H
    have p333 : 0 ≤ (x8_1 : Int) := of_decide_eq_true asw
    have q333 : x8_1 < (l0_0.length : Int) := of_decide_eq_true asw
    obtain ⟨ad333, A333_2, c333_2, A333_3, c333_3, e333, hx333_0, hx333_1, hx333_2, hx333_3, hl333_2, hi333_2, hl333_3, hi333_3⟩ := at_T53 HR0_0.out x8_1 p333 q333
    cases e333
    replace hx333_0 := upw HB.out hx333_0
    replace hx333_1 := upw HB.out hx333_1
    replace hx333_2 := upw HB.out hx333_2
    replace hx333_3 := upw HB.out hx333_3
    have HR333_2 := Aside0.mk hi333_2
    have HC333_2 := Aside0.mk hl333_2
    clear hi333_2 hl333_2
    have HR333_3 := Aside0.mk hi333_3
    have HC333_3 := Aside0.mk hl333_3
    clear hi333_3 hl333_3
    replace p333 := eq_true p333
    replace q333 := eq_true q333
    try go_wp2_with (first | ((with_reducible refine gate_dst (N := 4) rfl ?_); refine box_event ?hg (N := 4) ?hd (cs := #[.string (⟨#[]⟩ : ByteArray), .int .i64 0, .slice none 0 0, .slice none 0 0]) (t := 53) ?hr ?_; (case hd => rfl); (case hg => rfl); (case hr => exact hrw); intro gb334 hg w35 hbox hb; have n0_ := Aside0.mk (blk_below (g := gb332) (o := .cells #[.slice (some ad333) l0_0.length c0_0] 33 (0, 0)) bkw hb); have n1_ := Aside0.mk (below_step blw hb); have n2_ := Aside0.mk (hbox); have n3_ := Aside0.mk ((by rw [hg]; exact (below_size blw) : w.heap.size ≤ gb334)); have n4_ := n3_; have n5_ := Aside0.mk ((by rw [hg]; exact Nat.ne_of_lt (blk_lt (g := gb332) (o := .cells #[.slice (some ad333) l0_0.length c0_0] 33 (0, 0)) bkw) : gb332 ≠ gb334)); have n6_ := Aside0.mk ((by rw [hg]; exact Nat.ne_of_gt (blk_lt (g := gb332) (o := .cells #[.slice (some ad333) l0_0.length c0_0] 33 (0, 0)) bkw) : gb334 ≠ gb332)); clear BK332; clear HB; revert n0_ n1_ n2_ n3_ n4_ n5_ n6_; intro BK332 HB BK334 GW334 GE334 NB332_334 NB334_332; clear hb hbox hg; have hnb36 := NB334_332.out; have hnc36 := NB332_334.out; obtain ⟨hcz37_0, hcz37_1, hcz37_2, hcz37_3⟩ := cls4 BK334.out; obtain ⟨hfz37_0, hfz37_1, hfz37_2, hfz37_3⟩ := frz4 BK334.out))
    have n0_ : Aside0 (((((w35.setCell ⟨gb334, 0, none⟩ (.string ((rd_T53 l0_0 x8_1).f0))).setCell ⟨gb334, 1, none⟩ (.int .i64 ((rd_T53 l0_0 x8_1).f1.f0))).setCell ⟨gb334, 2, none⟩ (.slice A333_2 ((rd_T53 l0_0 x8_1).f1.f1).length c333_2)).setCell ⟨gb334, 3, none⟩ (.slice A333_3 ((rd_T53 l0_0 x8_1).f1.f2).length c333_3)).heap[gb332]? = some (.cells #[.slice (some ad333) l0_0.length c0_0] 33 (0, 0))) := ⟨by (with_reducible repeat (first | refine blk_drewN ?_ _ | refine blk_drew ?_ | refine blk_alloc ?_ _)); refine blk_far ?_ NB332_334.out _; (with_reducible repeat (first | refine blk_drewN ?_ _ | refine blk_drew ?_ | refine blk_alloc ?_ _)); refine blk_far ?_ NB332_334.out _; (with_reducible repeat (first | refine blk_drewN ?_ _ | refine blk_drew ?_ | refine blk_alloc ?_ _)); refine blk_far ?_ NB332_334.out _; (with_reducible repeat (first | refine blk_drewN ?_ _ | refine blk_drew ?_ | refine blk_alloc ?_ _)); refine blk_far ?_ NB332_334.out _; (with_reducible repeat (first | refine blk_drewN ?_ _ | refine blk_drew ?_ | refine blk_alloc ?_ _)); exact BK332.out⟩
    have n1_ : Aside0 (((((w35.setCell ⟨gb334, 0, none⟩ (.string ((rd_T53 l0_0 x8_1).f0))).setCell ⟨gb334, 1, none⟩ (.int .i64 ((rd_T53 l0_0 x8_1).f1.f0))).setCell ⟨gb334, 2, none⟩ (.slice A333_2 ((rd_T53 l0_0 x8_1).f1.f1).length c333_2)).setCell ⟨gb334, 3, none⟩ (.slice A333_3 ((rd_T53 l0_0 x8_1).f1.f2).length c333_3)).heap[gb334]? = some (.cells #[.string ((rd_T53 l0_0 x8_1).f0), .int .i64 ((rd_T53 l0_0 x8_1).f1.f0), .slice A333_2 ((rd_T53 l0_0 x8_1).f1.f1).length c333_2, .slice A333_3 ((rd_T53 l0_0 x8_1).f1.f2).length c333_3] 53 (0, 0))) := ⟨by (with_reducible repeat (first | refine blk_drewN ?_ _ | refine blk_drew ?_ | refine blk_alloc ?_ _)); refine blk_put (cs := #[.string ((rd_T53 l0_0 x8_1).f0), .int .i64 ((rd_T53 l0_0 x8_1).f1.f0), .slice A333_2 ((rd_T53 l0_0 x8_1).f1.f1).length c333_2, .slice none 0 0]) ?_ 3 _ rfl; (with_reducible repeat (first | refine blk_drewN ?_ _ | refine blk_drew ?_ | refine blk_alloc ?_ _)); refine blk_put (cs := #[.string ((rd_T53 l0_0 x8_1).f0), .int .i64 ((rd_T53 l0_0 x8_1).f1.f0), .slice none 0 0, .slice none 0 0]) ?_ 2 _ rfl; (with_reducible repeat (first | refine blk_drewN ?_ _ | refine blk_drew ?_ | refine blk_alloc ?_ _)); refine blk_put (cs := #[.string ((rd_T53 l0_0 x8_1).f0), .int .i64 0, .slice none 0 0, .slice none 0 0]) ?_ 1 _ rfl; (with_reducible repeat (first | refine blk_drewN ?_ _ | refine blk_drew ?_ | refine blk_alloc ?_ _)); refine blk_put (cs := #[.string (⟨#[]⟩ : ByteArray), .int .i64 0, .slice none 0 0, .slice none 0 0]) ?_ 0 _ rfl; (with_reducible repeat (first | refine blk_drewN ?_ _ | refine blk_drew ?_ | refine blk_alloc ?_ _)); exact BK334.out⟩
    have n2_ : Aside0 (Below w.heap.size w ((((w35.setCell ⟨gb334, 0, none⟩ (.string ((rd_T53 l0_0 x8_1).f0))).setCell ⟨gb334, 1, none⟩ (.int .i64 ((rd_T53 l0_0 x8_1).f1.f0))).setCell ⟨gb334, 2, none⟩ (.slice A333_2 ((rd_T53 l0_0 x8_1).f1.f1).length c333_2)).setCell ⟨gb334, 3, none⟩ (.slice A333_3 ((rd_T53 l0_0 x8_1).f1.f2).length c333_3))) := ⟨blw⟩
    (try clear BK332)
    (try clear BK334)
    (try clear HB)
    generalize ((((w35.setCell ⟨gb334, 0, none⟩ (.string ((rd_T53 l0_0 x8_1).f0))).setCell ⟨gb334, 1, none⟩ (.int .i64 ((rd_T53 l0_0 x8_1).f1.f0))).setCell ⟨gb334, 2, none⟩ (.slice A333_2 ((rd_T53 l0_0 x8_1).f1.f1).length c333_2)).setCell ⟨gb334, 3, none⟩ (.slice A333_3 ((rd_T53 l0_0 x8_1).f1.f2).length c333_3)) = w38 at n0_ n1_ n2_ ⊢
    revert n0_ n1_ n2_
    intro BK332 BK334 HB
    have n0_ := Aside0.mk (blk_drew BK332.out)
    have n1_ := Aside0.mk (blk_drew BK334.out)
    have n2_ := Aside0.mk (below_drew1 HB.out)
    clear BK332
    clear BK334
    clear HB
    revert n0_ n1_ n2_
    intro BK332 BK334 HB
    refine start_ (n := 26) (S := fun w' => w'.cell? ⟨gb334, 0, none⟩ = some (.string ((rd_T53 l0_0 x8_1).f0)) ∧ w'.cell? ⟨gb334, 1, none⟩ = some (.int .i64 ((rd_T53 l0_0 x8_1).f1.f0)) ∧ w'.cell? ⟨gb334, 2, none⟩ = some (.slice A333_2 ((rd_T53 l0_0 x8_1).f1.f1).length c333_2) ∧ w'.cell? ⟨gb334, 3, none⟩ = some (.slice A333_3 ((rd_T53 l0_0 x8_1).f1.f2).length c333_3)) (ds := []) #[false,false,false,false,false,false,false,false,false,false,false,false,false,false,false,false,false,false,false,false,false,false,false,false,false,false] kr rfl rfl ⟨(blk_cell BK334.out 0).trans rfl, (blk_cell BK334.out 1).trans rfl, (blk_cell BK334.out 2).trans rfl, (blk_cell BK334.out 3).trans rfl⟩ (fun hHeld => ?_); refine with_tabW impl_IsSchema.tab4 impl_IsSchema.bits4 (fun HT_ HW_ => ?_)
    generalize w38.drew = w39 at BK332 BK334 HB hHeld ⊢
    refine pure_ (i := 0) (N := some 13) (v := ?_) (a' := ?_) (bm 26 1) rfl rfl (any_of HT_.out kr) qi (Or.inl ⟨by rfl, ?_⟩) ?_ ?_
    rotate_left
    ·intro w'
     go_simp
     with_reducible rfl
    rotate_left
    ·simp only [sx]
     rfl
    refine take_ (i := 1) (N := some 14) (v := ?_) (a' := ?_) (bm 26 3) rfl rfl (take_ofW HT_.out HW_.out kr) qi (Or.inl ⟨by rfl, ?_⟩) hHeld ?_ ?_
    rotate_left
    ·rintro w' ⟨s0, s1, s2, s3⟩
     go_simp
     with_reducible rfl
    rotate_left
    ·simp only [sx]
     rfl
    refine one_ (i := 2) (N := some 15) (bm 26 7) rfl rfl (one_of HT_.out kr) (by decide) (fun K hK => ?_)
    refine goes_ Try.func34 kr rfl #[.string ((rd_T53 l0_0 x8_1).f0)] (by rfl) rfl rfl mpw ?_
    with_reducible refine (impl_IsName.calls k1 ((rd_T53 l0_0 x8_1).f0) false _ A7.out).mono ?_
    rintro e w' ⟨rfl, ⟨nd, rfl⟩⟩
    refine ⟨_, rfl, ?_⟩
    refine hK.out _ _ ⟨(blk_cell BK334.out 0).trans rfl, (blk_cell BK334.out 1).trans rfl, (blk_cell BK334.out 2).trans rfl, (blk_cell BK334.out 3).trans rfl⟩ (fun hHeld => ?_)
    clear hK K
    refine norm_ (a' := ?_) ?_ ?_
    rotate_left
    ·show Act.put _ (some 15) _ = _
     simp only [sx]
     rfl
    refine pure_ (i := 3) (N := some 16) (v := ?_) (a' := ?_) (bm 26 15) rfl rfl (any_of HT_.out kr) qi (Or.inl ⟨by rfl, ?_⟩) ?_ ?_
    rotate_left
    ·intro w'
     go_simp
     with_reducible rfl
    rotate_left
    ·simp only [sx]
     rfl
    refine pure_ (i := 4) (N := some 17) (v := ?_) (a' := ?_) (bm 26 31) rfl rfl (any_of HT_.out kr) qi (Or.inl ⟨by rfl, ?_⟩) ?_ ?_
    rotate_left
    ·intro w'
     go_simp
     with_reducible rfl
    rotate_left
    ·simp only [sx]
     rfl
    refine pure_ (i := 5) (N := some 18) (v := undef) (a' := ?_) (bm 26 63) rfl rfl (any_of HT_.out kr) qi (Or.inr ⟨by rfl, rfl⟩) ?_ ?_
    rotate_left
    ·simp only [sx]
     rfl
    refine pure_ (i := 6) (N := some 19) (v := undef) (a' := ?_) (bm 26 127) rfl rfl (any_of HT_.out kr) qi (Or.inr ⟨by rfl, rfl⟩) ?_ ?_
    rotate_left
    ·simp only [sx]
     rfl
    refine pure_ (i := 7) (N := some 20) (v := undef) (a' := ?_) (bm 26 255) rfl rfl (any_of HT_.out kr) qi (Or.inr ⟨by rfl, rfl⟩) ?_ ?_
    rotate_left
    ·simp only [sx]
     rfl
    refine pure_ (i := 8) (N := some 21) (v := undef) (a' := ?_) (bm 26 511) rfl rfl (any_of HT_.out kr) qi (Or.inr ⟨by rfl, rfl⟩) ?_ ?_
    rotate_left
    ·simp only [sx]
     rfl
    refine pure_ (i := 9) (N := some 22) (v := ?_) (a' := ?_) (bm 26 1023) rfl rfl (any_of HT_.out kr) qi (Or.inl ⟨by rfl, ?_⟩) ?_ ?_
    rotate_left
    ·intro w'
     go_simp
     with_reducible rfl
    rotate_left
    ·simp only [sx]
     rfl
    refine pure_ (i := 10) (N := some 23) (v := ?_) (a' := ?_) (bm 26 2047) rfl rfl (any_of HT_.out kr) qi (Or.inl ⟨by rfl, ?_⟩) ?_ ?_
    rotate_left
    ·intro w'
     go_simp
     with_reducible rfl
    rotate_left
    ·simp only [sx]
     rfl
    refine pure_ (i := 11) (N := some 24) (v := undef) (a' := ?_) (bm 26 4095) rfl rfl (any_of HT_.out kr) qi (Or.inr ⟨by rfl, rfl⟩) ?_ ?_
    rotate_left
    ·simp only [sx]
     rfl
    refine pure_ (i := 12) (N := some 25) (v := undef) (a' := ?_) (bm 26 8191) rfl rfl (any_of HT_.out kr) qi (Or.inr ⟨by rfl, rfl⟩) ?_ ?_
    rotate_left
    ·simp only [sx]
     rfl
    refine pure_ (i := 13) (N := some 26) (v := undef) (a' := ?_) (bm 26 16383) rfl rfl (any_of HT_.out kr) qi (Or.inr ⟨by rfl, rfl⟩) ?_ ?_
    rotate_left
    ·simp only [sx]
     rfl
    refine pure_ (i := 14) (N := some 27) (v := undef) (a' := ?_) (bm 26 32767) rfl rfl (any_of HT_.out kr) qi (Or.inr ⟨by rfl, rfl⟩) ?_ ?_
    rotate_left
    ·simp only [sx]
     rfl
    refine pure_ (i := 15) (N := some 28) (v := undef) (a' := ?_) (bm 26 65535) rfl rfl (any_of HT_.out kr) qi (Or.inr ⟨by rfl, rfl⟩) ?_ ?_
    rotate_left
    ·simp only [sx]
     rfl
    refine pure_ (i := 16) (N := some 29) (v := undef) (a' := ?_) (bm 26 131071) rfl rfl (any_of HT_.out kr) qi (Or.inr ⟨by rfl, rfl⟩) ?_ ?_
    rotate_left
    ·simp only [sx]
     rfl
    refine pure_ (i := 17) (N := some 30) (v := undef) (a' := ?_) (bm 26 262143) rfl rfl (any_of HT_.out kr) qi (Or.inr ⟨by rfl, rfl⟩) ?_ ?_
    rotate_left
    ·simp only [sx]
     rfl
    refine pure_ (i := 18) (N := some 31) (v := undef) (a' := ?_) (bm 26 524287) rfl rfl (any_of HT_.out kr) qi (Or.inr ⟨by rfl, rfl⟩) ?_ ?_
    rotate_left
    ·simp only [sx]
     rfl
    refine pure_ (i := 19) (N := some 32) (v := undef) (a' := ?_) (bm 26 1048575) rfl rfl (any_of HT_.out kr) qi (Or.inr ⟨by rfl, rfl⟩) ?_ ?_
    rotate_left
    ·simp only [sx]
     rfl
    refine pure_ (i := 20) (N := some 33) (v := undef) (a' := ?_) (bm 26 2097151) rfl rfl (any_of HT_.out kr) qi (Or.inr ⟨by rfl, rfl⟩) ?_ ?_
    rotate_left
    ·simp only [sx]
     rfl
    refine pure_ (i := 21) (N := some 34) (v := undef) (a' := ?_) (bm 26 4194303) rfl rfl (any_of HT_.out kr) qi (Or.inr ⟨by rfl, rfl⟩) ?_ ?_
    rotate_left
    ·simp only [sx]
     rfl
    refine pure_ (i := 22) (N := some 35) (v := undef) (a' := ?_) (bm 26 8388607) rfl rfl (any_of HT_.out kr) qi (Or.inr ⟨by rfl, rfl⟩) ?_ ?_
    rotate_left
    ·simp only [sx]
     rfl
    refine pure_ (i := 23) (N := some 36) (v := undef) (a' := ?_) (bm 26 16777215) rfl rfl (any_of HT_.out kr) qi (Or.inr ⟨by rfl, rfl⟩) ?_ ?_
    rotate_left
    ·simp only [sx]
     rfl
    refine pure_ (i := 24) (N := some 37) (v := undef) (a' := ?_) (bm 26 33554431) rfl rfl (any_of HT_.out kr) qi (Or.inr ⟨by rfl, rfl⟩) ?_ ?_
    rotate_left
    ·simp only [sx]
     rfl
    refine pure_ (i := 25) (N := some 38) (v := ?_) (a' := ?_) (bm 26 67108863) rfl rfl (any_of HT_.out kr) qi (Or.inl ⟨by rfl, ?_⟩) ?_ ?_
    rotate_left
    ·intro w'
     go_simp
     with_reducible rfl
    rotate_left
    ·simp only [sx]
     rfl
    refine done_ (done_of HT_.out kr) ?_
    try go_wp2
    go_ret
    exact ⟨rfw, blw⟩
   subst c8
   have H1 : ((impl_IsRow.f k1 ((rd_T53 l0_0 x8_1).f1.f0) ((rd_T53 l0_0 x8_1).f1.f1) ((rd_T53 l0_0 x8_1).f1.f2)).bind fun t336 => (if t336 = true then (if x8_1 > 0 then (if 0 ≤ (wrap64 (x8_1 - 1)) then (if (wrap64 (x8_1 - 1)) < (l0_0.length : Int) then (if ((Op.bytesLess (((rd_T53 l0_0 (wrap64 (x8_1 - 1))).f0).toList) (((rd_T53 l0_0 x8_1).f0).toList)) = true) then (impl_IsSchema.l0 k1 l0_0 (l0_0.length : Int) (wrap64 (x8_1 + 1)) l0_0) else (some false)) else (none)) else (none)) else (impl_IsSchema.l0 k1 l0_0 (l0_0.length : Int) (wrap64 (x8_1 + 1)) l0_0)) else (some false))) = some r := by rw [if_pos rfl] at H; exact H
   clear H
   have H := H1
   clear H1
   replace H := Option.bind_eq_some_iff.mp H
   obtain ⟨t336, A90, H⟩ := H
   replace H : (if t336 = true then (if x8_1 > 0 then (if 0 ≤ (wrap64 (x8_1 - 1)) then (if (wrap64 (x8_1 - 1)) < (l0_0.length : Int) then (if ((Op.bytesLess (((rd_T53 l0_0 (wrap64 (x8_1 - 1))).f0).toList) (((rd_T53 l0_0 x8_1).f0).toList)) = true) then (impl_IsSchema.l0 k1 l0_0 (l0_0.length : Int) (wrap64 (x8_1 + 1)) l0_0) else (some false)) else (none)) else (none)) else (impl_IsSchema.l0 k1 l0_0 (l0_0.length : Int) (wrap64 (x8_1 + 1)) l0_0)) else (some false)) = some r := H
   have A9 := Aside0.mk A90
   clear A90
   by_cases c10 : t336 = true
   case neg =>
    replace c10 := Bool.eq_false_iff.mpr c10
    subst c10
    have H1 : (some false) = some r := by rw [if_neg (show ¬ (false = true) by decide)] at H; exact H
    clear H
    have H := H1
    clear H1
    obtain rfl := Option.some.inj H
    have p333 : 0 ≤ (x8_1 : Int) := of_decide_eq_true asw
    have q333 : x8_1 < (l0_0.length : Int) := of_decide_eq_true asw
    obtain ⟨ad333, A333_2, c333_2, A333_3, c333_3, e333, hx333_0, hx333_1, hx333_2, hx333_3, hl333_2, hi333_2, hl333_3, hi333_3⟩ := at_T53 HR0_0.out x8_1 p333 q333
    cases e333
    replace hx333_0 := upw HB.out hx333_0
    replace hx333_1 := upw HB.out hx333_1
    replace hx333_2 := upw HB.out hx333_2
    replace hx333_3 := upw HB.out hx333_3
    have HR333_2 := Aside0.mk hi333_2
    have HC333_2 := Aside0.mk hl333_2
    clear hi333_2 hl333_2
    have HR333_3 := Aside0.mk hi333_3
    have HC333_3 := Aside0.mk hl333_3
    clear hi333_3 hl333_3
    replace p333 := eq_true p333
    replace q333 := eq_true q333
    try go_wp2_with (first | ((with_reducible refine gate_dst (N := 4) rfl ?_); refine box_event ?hg (N := 4) ?hd (cs := #[.string (⟨#[]⟩ : ByteArray), .int .i64 0, .slice none 0 0, .slice none 0 0]) (t := 53) ?hr ?_; (case hd => rfl); (case hg => rfl); (case hr => exact hrw); intro gb334 hg w29 hbox hb; have n0_ := Aside0.mk (blk_below (g := gb332) (o := .cells #[.slice (some ad333) l0_0.length c0_0] 33 (0, 0)) bkw hb); have n1_ := Aside0.mk (below_step blw hb); have n2_ := Aside0.mk (hbox); have n3_ := Aside0.mk ((by rw [hg]; exact (below_size blw) : w.heap.size ≤ gb334)); have n4_ := n3_; have n5_ := Aside0.mk ((by rw [hg]; exact Nat.ne_of_lt (blk_lt (g := gb332) (o := .cells #[.slice (some ad333) l0_0.length c0_0] 33 (0, 0)) bkw) : gb332 ≠ gb334)); have n6_ := Aside0.mk ((by rw [hg]; exact Nat.ne_of_gt (blk_lt (g := gb332) (o := .cells #[.slice (some ad333) l0_0.length c0_0] 33 (0, 0)) bkw) : gb334 ≠ gb332)); clear BK332; clear HB; revert n0_ n1_ n2_ n3_ n4_ n5_ n6_; intro BK332 HB BK334 GW334 GE334 NB332_334 NB334_332; clear hb hbox hg; have hnb30 := NB334_332.out; have hnc30 := NB332_334.out; obtain ⟨hcz31_0, hcz31_1, hcz31_2, hcz31_3⟩ := cls4 BK334.out; obtain ⟨hfz31_0, hfz31_1, hfz31_2, hfz31_3⟩ := frz4 BK334.out))
    have n0_ : Aside0 (((((w29.setCell ⟨gb334, 0, none⟩ (.string ((rd_T53 l0_0 x8_1).f0))).setCell ⟨gb334, 1, none⟩ (.int .i64 ((rd_T53 l0_0 x8_1).f1.f0))).setCell ⟨gb334, 2, none⟩ (.slice A333_2 ((rd_T53 l0_0 x8_1).f1.f1).length c333_2)).setCell ⟨gb334, 3, none⟩ (.slice A333_3 ((rd_T53 l0_0 x8_1).f1.f2).length c333_3)).heap[gb332]? = some (.cells #[.slice (some ad333) l0_0.length c0_0] 33 (0, 0))) := ⟨by (with_reducible repeat (first | refine blk_drewN ?_ _ | refine blk_drew ?_ | refine blk_alloc ?_ _)); refine blk_far ?_ NB332_334.out _; (with_reducible repeat (first | refine blk_drewN ?_ _ | refine blk_drew ?_ | refine blk_alloc ?_ _)); refine blk_far ?_ NB332_334.out _; (with_reducible repeat (first | refine blk_drewN ?_ _ | refine blk_drew ?_ | refine blk_alloc ?_ _)); refine blk_far ?_ NB332_334.out _; (with_reducible repeat (first | refine blk_drewN ?_ _ | refine blk_drew ?_ | refine blk_alloc ?_ _)); refine blk_far ?_ NB332_334.out _; (with_reducible repeat (first | refine blk_drewN ?_ _ | refine blk_drew ?_ | refine blk_alloc ?_ _)); exact BK332.out⟩
    have n1_ : Aside0 (((((w29.setCell ⟨gb334, 0, none⟩ (.string ((rd_T53 l0_0 x8_1).f0))).setCell ⟨gb334, 1, none⟩ (.int .i64 ((rd_T53 l0_0 x8_1).f1.f0))).setCell ⟨gb334, 2, none⟩ (.slice A333_2 ((rd_T53 l0_0 x8_1).f1.f1).length c333_2)).setCell ⟨gb334, 3, none⟩ (.slice A333_3 ((rd_T53 l0_0 x8_1).f1.f2).length c333_3)).heap[gb334]? = some (.cells #[.string ((rd_T53 l0_0 x8_1).f0), .int .i64 ((rd_T53 l0_0 x8_1).f1.f0), .slice A333_2 ((rd_T53 l0_0 x8_1).f1.f1).length c333_2, .slice A333_3 ((rd_T53 l0_0 x8_1).f1.f2).length c333_3] 53 (0, 0))) := ⟨by (with_reducible repeat (first | refine blk_drewN ?_ _ | refine blk_drew ?_ | refine blk_alloc ?_ _)); refine blk_put (cs := #[.string ((rd_T53 l0_0 x8_1).f0), .int .i64 ((rd_T53 l0_0 x8_1).f1.f0), .slice A333_2 ((rd_T53 l0_0 x8_1).f1.f1).length c333_2, .slice none 0 0]) ?_ 3 _ rfl; (with_reducible repeat (first | refine blk_drewN ?_ _ | refine blk_drew ?_ | refine blk_alloc ?_ _)); refine blk_put (cs := #[.string ((rd_T53 l0_0 x8_1).f0), .int .i64 ((rd_T53 l0_0 x8_1).f1.f0), .slice none 0 0, .slice none 0 0]) ?_ 2 _ rfl; (with_reducible repeat (first | refine blk_drewN ?_ _ | refine blk_drew ?_ | refine blk_alloc ?_ _)); refine blk_put (cs := #[.string ((rd_T53 l0_0 x8_1).f0), .int .i64 0, .slice none 0 0, .slice none 0 0]) ?_ 1 _ rfl; (with_reducible repeat (first | refine blk_drewN ?_ _ | refine blk_drew ?_ | refine blk_alloc ?_ _)); refine blk_put (cs := #[.string (⟨#[]⟩ : ByteArray), .int .i64 0, .slice none 0 0, .slice none 0 0]) ?_ 0 _ rfl; (with_reducible repeat (first | refine blk_drewN ?_ _ | refine blk_drew ?_ | refine blk_alloc ?_ _)); exact BK334.out⟩
    have n2_ : Aside0 (Below w.heap.size w ((((w29.setCell ⟨gb334, 0, none⟩ (.string ((rd_T53 l0_0 x8_1).f0))).setCell ⟨gb334, 1, none⟩ (.int .i64 ((rd_T53 l0_0 x8_1).f1.f0))).setCell ⟨gb334, 2, none⟩ (.slice A333_2 ((rd_T53 l0_0 x8_1).f1.f1).length c333_2)).setCell ⟨gb334, 3, none⟩ (.slice A333_3 ((rd_T53 l0_0 x8_1).f1.f2).length c333_3))) := ⟨blw⟩
    (try clear BK332)
    (try clear BK334)
    (try clear HB)
    generalize ((((w29.setCell ⟨gb334, 0, none⟩ (.string ((rd_T53 l0_0 x8_1).f0))).setCell ⟨gb334, 1, none⟩ (.int .i64 ((rd_T53 l0_0 x8_1).f1.f0))).setCell ⟨gb334, 2, none⟩ (.slice A333_2 ((rd_T53 l0_0 x8_1).f1.f1).length c333_2)).setCell ⟨gb334, 3, none⟩ (.slice A333_3 ((rd_T53 l0_0 x8_1).f1.f2).length c333_3)) = w32 at n0_ n1_ n2_ ⊢
    revert n0_ n1_ n2_
    intro BK332 BK334 HB
    have n0_ := Aside0.mk (blk_drew BK332.out)
    have n1_ := Aside0.mk (blk_drew BK334.out)
    have n2_ := Aside0.mk (below_drew1 HB.out)
    clear BK332
    clear BK334
    clear HB
    revert n0_ n1_ n2_
    intro BK332 BK334 HB
    refine start_ (n := 26) (S := fun w' => w'.cell? ⟨gb334, 0, none⟩ = some (.string ((rd_T53 l0_0 x8_1).f0)) ∧ w'.cell? ⟨gb334, 1, none⟩ = some (.int .i64 ((rd_T53 l0_0 x8_1).f1.f0)) ∧ w'.cell? ⟨gb334, 2, none⟩ = some (.slice A333_2 ((rd_T53 l0_0 x8_1).f1.f1).length c333_2) ∧ w'.cell? ⟨gb334, 3, none⟩ = some (.slice A333_3 ((rd_T53 l0_0 x8_1).f1.f2).length c333_3)) (ds := []) #[false,false,false,false,false,false,false,false,false,false,false,false,false,false,false,false,false,false,false,false,false,false,false,false,false,false] kr rfl rfl ⟨(blk_cell BK334.out 0).trans rfl, (blk_cell BK334.out 1).trans rfl, (blk_cell BK334.out 2).trans rfl, (blk_cell BK334.out 3).trans rfl⟩ (fun hHeld => ?_); refine with_tabW impl_IsSchema.tab4 impl_IsSchema.bits4 (fun HT_ HW_ => ?_)
    generalize w32.drew = w33 at BK332 BK334 HB hHeld ⊢
    refine pure_ (i := 0) (N := some 13) (v := ?_) (a' := ?_) (bm 26 1) rfl rfl (any_of HT_.out kr) qi (Or.inl ⟨by rfl, ?_⟩) ?_ ?_
    rotate_left
    ·intro w'
     go_simp
     with_reducible rfl
    rotate_left
    ·simp only [sx]
     rfl
    refine take_ (i := 1) (N := some 14) (v := ?_) (a' := ?_) (bm 26 3) rfl rfl (take_ofW HT_.out HW_.out kr) qi (Or.inl ⟨by rfl, ?_⟩) hHeld ?_ ?_
    rotate_left
    ·rintro w' ⟨s0, s1, s2, s3⟩
     go_simp
     with_reducible rfl
    rotate_left
    ·simp only [sx]
     rfl
    refine one_ (i := 2) (N := some 15) (bm 26 7) rfl rfl (one_of HT_.out kr) (by decide) (fun K hK => ?_)
    refine goes_ Try.func34 kr rfl #[.string ((rd_T53 l0_0 x8_1).f0)] (by rfl) rfl rfl mpw ?_
    with_reducible refine (impl_IsName.calls k1 ((rd_T53 l0_0 x8_1).f0) true _ A7.out).mono ?_
    rintro e w' ⟨rfl, ⟨nd, rfl⟩⟩
    refine ⟨_, rfl, ?_⟩
    refine hK.out _ _ ⟨(blk_cell BK334.out 0).trans rfl, (blk_cell BK334.out 1).trans rfl, (blk_cell BK334.out 2).trans rfl, (blk_cell BK334.out 3).trans rfl⟩ (fun hHeld => ?_)
    clear hK K
    refine norm_ (a' := ?_) ?_ ?_
    rotate_left
    ·show Act.put _ (some 15) _ = _
     simp only [sx]
     rfl
    refine pure_ (i := 3) (N := some 16) (v := ?_) (a' := ?_) (bm 26 15) rfl rfl (any_of HT_.out kr) qi (Or.inl ⟨by rfl, ?_⟩) ?_ ?_
    rotate_left
    ·intro w'
     go_simp
     with_reducible rfl
    rotate_left
    ·simp only [sx]
     rfl
    refine pure_ (i := 4) (N := some 17) (v := ?_) (a' := ?_) (bm 26 31) rfl rfl (any_of HT_.out kr) qi (Or.inl ⟨by rfl, ?_⟩) ?_ ?_
    rotate_left
    ·intro w'
     go_simp
     with_reducible rfl
    rotate_left
    ·simp only [sx]
     rfl
    refine pure_ (i := 5) (N := some 18) (v := ?_) (a' := ?_) (bm 26 63) rfl rfl (any_of HT_.out kr) qi (Or.inl ⟨by rfl, ?_⟩) ?_ ?_
    rotate_left
    ·intro w'
     go_simp
     with_reducible rfl
    rotate_left
    ·simp only [sx]
     rfl
    refine take_ (i := 6) (N := some 19) (v := ?_) (a' := ?_) (bm 26 127) rfl rfl (take_ofW HT_.out HW_.out kr) qi (Or.inl ⟨by rfl, ?_⟩) hHeld ?_ ?_
    rotate_left
    ·rintro w' ⟨s0, s1, s2, s3⟩
     go_simp
     with_reducible rfl
    rotate_left
    ·simp only [sx]
     rfl
    refine one_ (i := 7) (N := some 20) (bm 26 255) rfl rfl (one_of HT_.out kr) (by decide) (fun K hK => ?_)
    refine goes_ Try.func35 kr rfl #[.agg #[.int .i64 ((rd_T53 l0_0 x8_1).f1.f0), .slice A333_2 ((rd_T53 l0_0 x8_1).f1.f1).length c333_2, .slice A333_3 ((rd_T53 l0_0 x8_1).f1.f2).length c333_3]] (by rfl) rfl rfl mpw ?_
    with_reducible refine (impl_IsRow.calls k1 ((rd_T53 l0_0 x8_1).f1.f0) _ _ ((rd_T53 l0_0 x8_1).f1.f1) _ _ ((rd_T53 l0_0 x8_1).f1.f2) false _ ?side1 ?side2 ?side3 ?side4 A9.out).mono ?_
    (case side1 => repeat (first | exact (Kd.C_below HR333_2.out blw) | (with_reducible refine Kd.C_alloc ?_ _) | (with_reducible refine Kd.C_drewN ?_ _) | (with_reducible refine Kd.C_drew ?_)))
    (case side2 => exact HC333_2.out)
    (case side3 => repeat (first | exact (Kd.C_below HR333_3.out blw) | (with_reducible refine Kd.C_alloc ?_ _) | (with_reducible refine Kd.C_drewN ?_ _) | (with_reducible refine Kd.C_drew ?_)))
    (case side4 => exact HC333_3.out)
    rintro e w34 ⟨rfl, hb⟩
    refine ⟨_, rfl, ?_⟩
    have n0_ := Aside0.mk (blk_below (g := gb332) (o := .cells #[.slice (some ad333) l0_0.length c0_0] 33 (0, 0)) bkw hb)
    have n1_ := Aside0.mk (blk_below (g := gb334) (o := .cells #[.string ((rd_T53 l0_0 x8_1).f0), .int .i64 ((rd_T53 l0_0 x8_1).f1.f0), .slice A333_2 ((rd_T53 l0_0 x8_1).f1.f1).length c333_2, .slice A333_3 ((rd_T53 l0_0 x8_1).f1.f2).length c333_3] 53 (0, 0)) bkw hb)
    have n2_ := Aside0.mk (below_step blw hb)
    clear BK332
    clear BK334
    clear HB
    revert n0_ n1_ n2_
    intro BK332 BK334 HB
    (try clear hb)
    (try clear hb2)
    (try clear hk)
    (try clear hi)
    refine hK.out _ _ ⟨(blk_cell BK334.out 0).trans rfl, (blk_cell BK334.out 1).trans rfl, (blk_cell BK334.out 2).trans rfl, (blk_cell BK334.out 3).trans rfl⟩ (fun hHeld => ?_)
    clear hK K
    refine norm_ (a' := ?_) ?_ ?_
    rotate_left
    ·show Act.put _ (some 20) _ = _
     simp only [sx]
     rfl
    refine pure_ (i := 8) (N := some 21) (v := ?_) (a' := ?_) (bm 26 511) rfl rfl (any_of HT_.out kr) qi (Or.inl ⟨by rfl, ?_⟩) ?_ ?_
    rotate_left
    ·intro w'
     go_simp
     with_reducible rfl
    rotate_left
    ·simp only [sx]
     rfl
    refine pure_ (i := 9) (N := some 22) (v := ?_) (a' := ?_) (bm 26 1023) rfl rfl (any_of HT_.out kr) qi (Or.inl ⟨by rfl, ?_⟩) ?_ ?_
    rotate_left
    ·intro w'
     go_simp
     with_reducible rfl
    rotate_left
    ·simp only [sx]
     rfl
    refine pure_ (i := 10) (N := some 23) (v := ?_) (a' := ?_) (bm 26 2047) rfl rfl (any_of HT_.out kr) qi (Or.inl ⟨by rfl, ?_⟩) ?_ ?_
    rotate_left
    ·intro w'
     go_simp
     with_reducible rfl
    rotate_left
    ·simp only [sx]
     rfl
    refine pure_ (i := 11) (N := some 24) (v := undef) (a' := ?_) (bm 26 4095) rfl rfl (any_of HT_.out kr) qi (Or.inr ⟨by rfl, rfl⟩) ?_ ?_
    rotate_left
    ·simp only [sx]
     rfl
    refine pure_ (i := 12) (N := some 25) (v := undef) (a' := ?_) (bm 26 8191) rfl rfl (any_of HT_.out kr) qi (Or.inr ⟨by rfl, rfl⟩) ?_ ?_
    rotate_left
    ·simp only [sx]
     rfl
    refine pure_ (i := 13) (N := some 26) (v := undef) (a' := ?_) (bm 26 16383) rfl rfl (any_of HT_.out kr) qi (Or.inr ⟨by rfl, rfl⟩) ?_ ?_
    rotate_left
    ·simp only [sx]
     rfl
    refine pure_ (i := 14) (N := some 27) (v := undef) (a' := ?_) (bm 26 32767) rfl rfl (any_of HT_.out kr) qi (Or.inr ⟨by rfl, rfl⟩) ?_ ?_
    rotate_left
    ·simp only [sx]
     rfl
    refine pure_ (i := 15) (N := some 28) (v := undef) (a' := ?_) (bm 26 65535) rfl rfl (any_of HT_.out kr) qi (Or.inr ⟨by rfl, rfl⟩) ?_ ?_
    rotate_left
    ·simp only [sx]
     rfl
    refine pure_ (i := 16) (N := some 29) (v := undef) (a' := ?_) (bm 26 131071) rfl rfl (any_of HT_.out kr) qi (Or.inr ⟨by rfl, rfl⟩) ?_ ?_
    rotate_left
    ·simp only [sx]
     rfl
    refine pure_ (i := 17) (N := some 30) (v := undef) (a' := ?_) (bm 26 262143) rfl rfl (any_of HT_.out kr) qi (Or.inr ⟨by rfl, rfl⟩) ?_ ?_
    rotate_left
    ·simp only [sx]
     rfl
    refine pure_ (i := 18) (N := some 31) (v := undef) (a' := ?_) (bm 26 524287) rfl rfl (any_of HT_.out kr) qi (Or.inr ⟨by rfl, rfl⟩) ?_ ?_
    rotate_left
    ·simp only [sx]
     rfl
    refine pure_ (i := 19) (N := some 32) (v := undef) (a' := ?_) (bm 26 1048575) rfl rfl (any_of HT_.out kr) qi (Or.inr ⟨by rfl, rfl⟩) ?_ ?_
    rotate_left
    ·simp only [sx]
     rfl
    refine pure_ (i := 20) (N := some 33) (v := undef) (a' := ?_) (bm 26 2097151) rfl rfl (any_of HT_.out kr) qi (Or.inr ⟨by rfl, rfl⟩) ?_ ?_
    rotate_left
    ·simp only [sx]
     rfl
    refine pure_ (i := 21) (N := some 34) (v := undef) (a' := ?_) (bm 26 4194303) rfl rfl (any_of HT_.out kr) qi (Or.inr ⟨by rfl, rfl⟩) ?_ ?_
    rotate_left
    ·simp only [sx]
     rfl
    refine pure_ (i := 22) (N := some 35) (v := undef) (a' := ?_) (bm 26 8388607) rfl rfl (any_of HT_.out kr) qi (Or.inr ⟨by rfl, rfl⟩) ?_ ?_
    rotate_left
    ·simp only [sx]
     rfl
    refine pure_ (i := 23) (N := some 36) (v := undef) (a' := ?_) (bm 26 16777215) rfl rfl (any_of HT_.out kr) qi (Or.inr ⟨by rfl, rfl⟩) ?_ ?_
    rotate_left
    ·simp only [sx]
     rfl
    refine pure_ (i := 24) (N := some 37) (v := undef) (a' := ?_) (bm 26 33554431) rfl rfl (any_of HT_.out kr) qi (Or.inr ⟨by rfl, rfl⟩) ?_ ?_
    rotate_left
    ·simp only [sx]
     rfl
    refine pure_ (i := 25) (N := some 38) (v := ?_) (a' := ?_) (bm 26 67108863) rfl rfl (any_of HT_.out kr) qi (Or.inl ⟨by rfl, ?_⟩) ?_ ?_
    rotate_left
    ·intro w'
     go_simp
     with_reducible rfl
    rotate_left
    ·simp only [sx]
     rfl
    refine done_ (done_of HT_.out kr) ?_
    try go_wp2
    go_ret
    exact ⟨rfw, blw⟩
   subst c10
   have H1 : (if x8_1 > 0 then (if 0 ≤ (wrap64 (x8_1 - 1)) then (if (wrap64 (x8_1 - 1)) < (l0_0.length : Int) then (if ((Op.bytesLess (((rd_T53 l0_0 (wrap64 (x8_1 - 1))).f0).toList) (((rd_T53 l0_0 x8_1).f0).toList)) = true) then (impl_IsSchema.l0 k1 l0_0 (l0_0.length : Int) (wrap64 (x8_1 + 1)) l0_0) else (some false)) else (none)) else (none)) else (impl_IsSchema.l0 k1 l0_0 (l0_0.length : Int) (wrap64 (x8_1 + 1)) l0_0)) = some r := by rw [if_pos rfl] at H; exact H
   clear H
   have H := H1
   clear H1
   by_cases c11 : x8_1 > 0
   case neg =>
    rw [if_neg c11] at H
    have c11b0 : decide (0 < x8_1) = false := decide_eq_false c11
    clear c11
    have H' := Aside0.mk H
    clear H
    have p333 : 0 ≤ (x8_1 : Int) := of_decide_eq_true asw
    have q333 : x8_1 < (l0_0.length : Int) := of_decide_eq_true asw
    obtain ⟨ad333, A333_2, c333_2, A333_3, c333_3, e333, hx333_0, hx333_1, hx333_2, hx333_3, hl333_2, hi333_2, hl333_3, hi333_3⟩ := at_T53 HR0_0.out x8_1 p333 q333
    cases e333
    replace hx333_0 := upw HB.out hx333_0
    replace hx333_1 := upw HB.out hx333_1
    replace hx333_2 := upw HB.out hx333_2
    replace hx333_3 := upw HB.out hx333_3
    have HR333_2 := Aside0.mk hi333_2
    have HC333_2 := Aside0.mk hl333_2
    clear hi333_2 hl333_2
    have HR333_3 := Aside0.mk hi333_3
    have HC333_3 := Aside0.mk hl333_3
    clear hi333_3 hl333_3
    replace p333 := eq_true p333
    replace q333 := eq_true q333
    try go_wp2_with (first | ((with_reducible refine gate_dst (N := 4) rfl ?_); refine box_event ?hg (N := 4) ?hd (cs := #[.string (⟨#[]⟩ : ByteArray), .int .i64 0, .slice none 0 0, .slice none 0 0]) (t := 53) ?hr ?_; (case hd => rfl); (case hg => rfl); (case hr => exact hrw); intro gb334 hg w23 hbox hb; have n0_ := Aside0.mk (blk_below (g := gb332) (o := .cells #[.slice (some ad333) l0_0.length c0_0] 33 (0, 0)) bkw hb); have n1_ := Aside0.mk (below_step blw hb); have n2_ := Aside0.mk (hbox); have n3_ := Aside0.mk ((by rw [hg]; exact (below_size blw) : w.heap.size ≤ gb334)); have n4_ := n3_; have n5_ := Aside0.mk ((by rw [hg]; exact Nat.ne_of_lt (blk_lt (g := gb332) (o := .cells #[.slice (some ad333) l0_0.length c0_0] 33 (0, 0)) bkw) : gb332 ≠ gb334)); have n6_ := Aside0.mk ((by rw [hg]; exact Nat.ne_of_gt (blk_lt (g := gb332) (o := .cells #[.slice (some ad333) l0_0.length c0_0] 33 (0, 0)) bkw) : gb334 ≠ gb332)); clear BK332; clear HB; revert n0_ n1_ n2_ n3_ n4_ n5_ n6_; intro BK332 HB BK334 GW334 GE334 NB332_334 NB334_332; clear hb hbox hg; have hnb24 := NB334_332.out; have hnc24 := NB332_334.out; obtain ⟨hcz25_0, hcz25_1, hcz25_2, hcz25_3⟩ := cls4 BK334.out; obtain ⟨hfz25_0, hfz25_1, hfz25_2, hfz25_3⟩ := frz4 BK334.out))
    have n0_ : Aside0 (((((w23.setCell ⟨gb334, 0, none⟩ (.string ((rd_T53 l0_0 x8_1).f0))).setCell ⟨gb334, 1, none⟩ (.int .i64 ((rd_T53 l0_0 x8_1).f1.f0))).setCell ⟨gb334, 2, none⟩ (.slice A333_2 ((rd_T53 l0_0 x8_1).f1.f1).length c333_2)).setCell ⟨gb334, 3, none⟩ (.slice A333_3 ((rd_T53 l0_0 x8_1).f1.f2).length c333_3)).heap[gb332]? = some (.cells #[.slice (some ad333) l0_0.length c0_0] 33 (0, 0))) := ⟨by (with_reducible repeat (first | refine blk_drewN ?_ _ | refine blk_drew ?_ | refine blk_alloc ?_ _)); refine blk_far ?_ NB332_334.out _; (with_reducible repeat (first | refine blk_drewN ?_ _ | refine blk_drew ?_ | refine blk_alloc ?_ _)); refine blk_far ?_ NB332_334.out _; (with_reducible repeat (first | refine blk_drewN ?_ _ | refine blk_drew ?_ | refine blk_alloc ?_ _)); refine blk_far ?_ NB332_334.out _; (with_reducible repeat (first | refine blk_drewN ?_ _ | refine blk_drew ?_ | refine blk_alloc ?_ _)); refine blk_far ?_ NB332_334.out _; (with_reducible repeat (first | refine blk_drewN ?_ _ | refine blk_drew ?_ | refine blk_alloc ?_ _)); exact BK332.out⟩
    have n1_ : Aside0 (((((w23.setCell ⟨gb334, 0, none⟩ (.string ((rd_T53 l0_0 x8_1).f0))).setCell ⟨gb334, 1, none⟩ (.int .i64 ((rd_T53 l0_0 x8_1).f1.f0))).setCell ⟨gb334, 2, none⟩ (.slice A333_2 ((rd_T53 l0_0 x8_1).f1.f1).length c333_2)).setCell ⟨gb334, 3, none⟩ (.slice A333_3 ((rd_T53 l0_0 x8_1).f1.f2).length c333_3)).heap[gb334]? = some (.cells #[.string ((rd_T53 l0_0 x8_1).f0), .int .i64 ((rd_T53 l0_0 x8_1).f1.f0), .slice A333_2 ((rd_T53 l0_0 x8_1).f1.f1).length c333_2, .slice A333_3 ((rd_T53 l0_0 x8_1).f1.f2).length c333_3] 53 (0, 0))) := ⟨by (with_reducible repeat (first | refine blk_drewN ?_ _ | refine blk_drew ?_ | refine blk_alloc ?_ _)); refine blk_put (cs := #[.string ((rd_T53 l0_0 x8_1).f0), .int .i64 ((rd_T53 l0_0 x8_1).f1.f0), .slice A333_2 ((rd_T53 l0_0 x8_1).f1.f1).length c333_2, .slice none 0 0]) ?_ 3 _ rfl; (with_reducible repeat (first | refine blk_drewN ?_ _ | refine blk_drew ?_ | refine blk_alloc ?_ _)); refine blk_put (cs := #[.string ((rd_T53 l0_0 x8_1).f0), .int .i64 ((rd_T53 l0_0 x8_1).f1.f0), .slice none 0 0, .slice none 0 0]) ?_ 2 _ rfl; (with_reducible repeat (first | refine blk_drewN ?_ _ | refine blk_drew ?_ | refine blk_alloc ?_ _)); refine blk_put (cs := #[.string ((rd_T53 l0_0 x8_1).f0), .int .i64 0, .slice none 0 0, .slice none 0 0]) ?_ 1 _ rfl; (with_reducible repeat (first | refine blk_drewN ?_ _ | refine blk_drew ?_ | refine blk_alloc ?_ _)); refine blk_put (cs := #[.string (⟨#[]⟩ : ByteArray), .int .i64 0, .slice none 0 0, .slice none 0 0]) ?_ 0 _ rfl; (with_reducible repeat (first | refine blk_drewN ?_ _ | refine blk_drew ?_ | refine blk_alloc ?_ _)); exact BK334.out⟩
    have n2_ : Aside0 (Below w.heap.size w ((((w23.setCell ⟨gb334, 0, none⟩ (.string ((rd_T53 l0_0 x8_1).f0))).setCell ⟨gb334, 1, none⟩ (.int .i64 ((rd_T53 l0_0 x8_1).f1.f0))).setCell ⟨gb334, 2, none⟩ (.slice A333_2 ((rd_T53 l0_0 x8_1).f1.f1).length c333_2)).setCell ⟨gb334, 3, none⟩ (.slice A333_3 ((rd_T53 l0_0 x8_1).f1.f2).length c333_3))) := ⟨blw⟩
    (try clear BK332)
    (try clear BK334)
    (try clear HB)
    generalize ((((w23.setCell ⟨gb334, 0, none⟩ (.string ((rd_T53 l0_0 x8_1).f0))).setCell ⟨gb334, 1, none⟩ (.int .i64 ((rd_T53 l0_0 x8_1).f1.f0))).setCell ⟨gb334, 2, none⟩ (.slice A333_2 ((rd_T53 l0_0 x8_1).f1.f1).length c333_2)).setCell ⟨gb334, 3, none⟩ (.slice A333_3 ((rd_T53 l0_0 x8_1).f1.f2).length c333_3)) = w26 at n0_ n1_ n2_ ⊢
    revert n0_ n1_ n2_
    intro BK332 BK334 HB
    have n0_ := Aside0.mk (blk_drew BK332.out)
    have n1_ := Aside0.mk (blk_drew BK334.out)
    have n2_ := Aside0.mk (below_drew1 HB.out)
    clear BK332
    clear BK334
    clear HB
    revert n0_ n1_ n2_
    intro BK332 BK334 HB
    refine start_ (n := 26) (S := fun w' => w'.cell? ⟨gb334, 0, none⟩ = some (.string ((rd_T53 l0_0 x8_1).f0)) ∧ w'.cell? ⟨gb334, 1, none⟩ = some (.int .i64 ((rd_T53 l0_0 x8_1).f1.f0)) ∧ w'.cell? ⟨gb334, 2, none⟩ = some (.slice A333_2 ((rd_T53 l0_0 x8_1).f1.f1).length c333_2) ∧ w'.cell? ⟨gb334, 3, none⟩ = some (.slice A333_3 ((rd_T53 l0_0 x8_1).f1.f2).length c333_3)) (ds := []) #[false,false,false,false,false,false,false,false,false,false,false,false,false,false,false,false,false,false,false,false,false,false,false,false,false,false] kr rfl rfl ⟨(blk_cell BK334.out 0).trans rfl, (blk_cell BK334.out 1).trans rfl, (blk_cell BK334.out 2).trans rfl, (blk_cell BK334.out 3).trans rfl⟩ (fun hHeld => ?_); refine with_tabW impl_IsSchema.tab4 impl_IsSchema.bits4 (fun HT_ HW_ => ?_)
    generalize w26.drew = w27 at BK332 BK334 HB hHeld ⊢
    refine pure_ (i := 0) (N := some 13) (v := ?_) (a' := ?_) (bm 26 1) rfl rfl (any_of HT_.out kr) qi (Or.inl ⟨by rfl, ?_⟩) ?_ ?_
    rotate_left
    ·intro w'
     go_simp
     with_reducible rfl
    rotate_left
    ·simp only [sx]
     rfl
    refine take_ (i := 1) (N := some 14) (v := ?_) (a' := ?_) (bm 26 3) rfl rfl (take_ofW HT_.out HW_.out kr) qi (Or.inl ⟨by rfl, ?_⟩) hHeld ?_ ?_
    rotate_left
    ·rintro w' ⟨s0, s1, s2, s3⟩
     go_simp
     with_reducible rfl
    rotate_left
    ·simp only [sx]
     rfl
    refine one_ (i := 2) (N := some 15) (bm 26 7) rfl rfl (one_of HT_.out kr) (by decide) (fun K hK => ?_)
    refine goes_ Try.func34 kr rfl #[.string ((rd_T53 l0_0 x8_1).f0)] (by rfl) rfl rfl mpw ?_
    with_reducible refine (impl_IsName.calls k1 ((rd_T53 l0_0 x8_1).f0) true _ A7.out).mono ?_
    rintro e w' ⟨rfl, ⟨nd, rfl⟩⟩
    refine ⟨_, rfl, ?_⟩
    refine hK.out _ _ ⟨(blk_cell BK334.out 0).trans rfl, (blk_cell BK334.out 1).trans rfl, (blk_cell BK334.out 2).trans rfl, (blk_cell BK334.out 3).trans rfl⟩ (fun hHeld => ?_)
    clear hK K
    refine norm_ (a' := ?_) ?_ ?_
    rotate_left
    ·show Act.put _ (some 15) _ = _
     simp only [sx]
     rfl
    refine pure_ (i := 3) (N := some 16) (v := ?_) (a' := ?_) (bm 26 15) rfl rfl (any_of HT_.out kr) qi (Or.inl ⟨by rfl, ?_⟩) ?_ ?_
    rotate_left
    ·intro w'
     go_simp
     with_reducible rfl
    rotate_left
    ·simp only [sx]
     rfl
    refine pure_ (i := 4) (N := some 17) (v := ?_) (a' := ?_) (bm 26 31) rfl rfl (any_of HT_.out kr) qi (Or.inl ⟨by rfl, ?_⟩) ?_ ?_
    rotate_left
    ·intro w'
     go_simp
     with_reducible rfl
    rotate_left
    ·simp only [sx]
     rfl
    refine pure_ (i := 5) (N := some 18) (v := ?_) (a' := ?_) (bm 26 63) rfl rfl (any_of HT_.out kr) qi (Or.inl ⟨by rfl, ?_⟩) ?_ ?_
    rotate_left
    ·intro w'
     go_simp
     with_reducible rfl
    rotate_left
    ·simp only [sx]
     rfl
    refine take_ (i := 6) (N := some 19) (v := ?_) (a' := ?_) (bm 26 127) rfl rfl (take_ofW HT_.out HW_.out kr) qi (Or.inl ⟨by rfl, ?_⟩) hHeld ?_ ?_
    rotate_left
    ·rintro w' ⟨s0, s1, s2, s3⟩
     go_simp
     with_reducible rfl
    rotate_left
    ·simp only [sx]
     rfl
    refine one_ (i := 7) (N := some 20) (bm 26 255) rfl rfl (one_of HT_.out kr) (by decide) (fun K hK => ?_)
    refine goes_ Try.func35 kr rfl #[.agg #[.int .i64 ((rd_T53 l0_0 x8_1).f1.f0), .slice A333_2 ((rd_T53 l0_0 x8_1).f1.f1).length c333_2, .slice A333_3 ((rd_T53 l0_0 x8_1).f1.f2).length c333_3]] (by rfl) rfl rfl mpw ?_
    with_reducible refine (impl_IsRow.calls k1 ((rd_T53 l0_0 x8_1).f1.f0) _ _ ((rd_T53 l0_0 x8_1).f1.f1) _ _ ((rd_T53 l0_0 x8_1).f1.f2) true _ ?side1 ?side2 ?side3 ?side4 A9.out).mono ?_
    (case side1 => repeat (first | exact (Kd.C_below HR333_2.out blw) | (with_reducible refine Kd.C_alloc ?_ _) | (with_reducible refine Kd.C_drewN ?_ _) | (with_reducible refine Kd.C_drew ?_)))
    (case side2 => exact HC333_2.out)
    (case side3 => repeat (first | exact (Kd.C_below HR333_3.out blw) | (with_reducible refine Kd.C_alloc ?_ _) | (with_reducible refine Kd.C_drewN ?_ _) | (with_reducible refine Kd.C_drew ?_)))
    (case side4 => exact HC333_3.out)
    rintro e w28 ⟨rfl, hb⟩
    refine ⟨_, rfl, ?_⟩
    have n0_ := Aside0.mk (blk_below (g := gb332) (o := .cells #[.slice (some ad333) l0_0.length c0_0] 33 (0, 0)) bkw hb)
    have n1_ := Aside0.mk (blk_below (g := gb334) (o := .cells #[.string ((rd_T53 l0_0 x8_1).f0), .int .i64 ((rd_T53 l0_0 x8_1).f1.f0), .slice A333_2 ((rd_T53 l0_0 x8_1).f1.f1).length c333_2, .slice A333_3 ((rd_T53 l0_0 x8_1).f1.f2).length c333_3] 53 (0, 0)) bkw hb)
    have n2_ := Aside0.mk (below_step blw hb)
    clear BK332
    clear BK334
    clear HB
    revert n0_ n1_ n2_
    intro BK332 BK334 HB
    (try clear hb)
    (try clear hb2)
    (try clear hk)
    (try clear hi)
    refine hK.out _ _ ⟨(blk_cell BK334.out 0).trans rfl, (blk_cell BK334.out 1).trans rfl, (blk_cell BK334.out 2).trans rfl, (blk_cell BK334.out 3).trans rfl⟩ (fun hHeld => ?_)
    clear hK K
    refine norm_ (a' := ?_) ?_ ?_
    rotate_left
    ·show Act.put _ (some 20) _ = _
     simp only [sx]
     rfl
    refine pure_ (i := 8) (N := some 21) (v := ?_) (a' := ?_) (bm 26 511) rfl rfl (any_of HT_.out kr) qi (Or.inl ⟨by rfl, ?_⟩) ?_ ?_
    rotate_left
    ·intro w'
     go_simp
     with_reducible rfl
    rotate_left
    ·simp only [sx]
     rfl
    refine pure_ (i := 9) (N := some 22) (v := ?_) (a' := ?_) (bm 26 1023) rfl rfl (any_of HT_.out kr) qi (Or.inl ⟨by rfl, ?_⟩) ?_ ?_
    rotate_left
    ·intro w'
     go_simp
     with_reducible rfl
    rotate_left
    ·simp only [sx]
     rfl
    refine pure_ (i := 10) (N := some 23) (v := ?_) (a' := ?_) (bm 26 2047) rfl rfl (any_of HT_.out kr) qi (Or.inl ⟨by rfl, ?_⟩) ?_ ?_
    rotate_left
    ·intro w'
     go_simp
     with_reducible rfl
    rotate_left
    ·simp only [sx]
     rfl
    refine pure_ (i := 11) (N := some 24) (v := ?_) (a' := ?_) (bm 26 4095) rfl rfl (any_of HT_.out kr) qi (Or.inl ⟨by rfl, ?_⟩) ?_ ?_
    rotate_left
    ·intro w'
     go_simp
     with_reducible rfl
    rotate_left
    ·simp only [sx]
     rfl
    refine pure_ (i := 12) (N := some 25) (v := ?_) (a' := ?_) (bm 26 8191) rfl rfl (any_of HT_.out kr) qi (Or.inl ⟨by rfl, ?_⟩) ?_ ?_
    rotate_left
    ·intro w'
     go_simp
     with_reducible rfl
    rotate_left
    ·simp only [sx]
     rfl
    refine pure_ (i := 13) (N := some 26) (v := ?_) (a' := ?_) (bm 26 16383) rfl rfl (any_of HT_.out kr) qi (Or.inl ⟨by rfl, ?_⟩) ?_ ?_
    rotate_left
    ·intro w'
     go_simp
     with_reducible rfl
    rotate_left
    ·simp only [sx]
     rfl
    refine pure_ (i := 14) (N := some 27) (v := undef) (a' := ?_) (bm 26 32767) rfl rfl (any_of HT_.out kr) qi (Or.inr ⟨by rfl, rfl⟩) ?_ ?_
    rotate_left
    ·simp only [sx]
     rfl
    refine pure_ (i := 15) (N := some 28) (v := undef) (a' := ?_) (bm 26 65535) rfl rfl (any_of HT_.out kr) qi (Or.inr ⟨by rfl, rfl⟩) ?_ ?_
    rotate_left
    ·simp only [sx]
     rfl
    refine pure_ (i := 16) (N := some 29) (v := undef) (a' := ?_) (bm 26 131071) rfl rfl (any_of HT_.out kr) qi (Or.inr ⟨by rfl, rfl⟩) ?_ ?_
    rotate_left
    ·simp only [sx]
     rfl
    refine pure_ (i := 17) (N := some 30) (v := undef) (a' := ?_) (bm 26 262143) rfl rfl (any_of HT_.out kr) qi (Or.inr ⟨by rfl, rfl⟩) ?_ ?_
    rotate_left
    ·simp only [sx]
     rfl
    refine pure_ (i := 18) (N := some 31) (v := undef) (a' := ?_) (bm 26 524287) rfl rfl (any_of HT_.out kr) qi (Or.inr ⟨by rfl, rfl⟩) ?_ ?_
    rotate_left
    ·simp only [sx]
     rfl
    refine pure_ (i := 19) (N := some 32) (v := undef) (a' := ?_) (bm 26 1048575) rfl rfl (any_of HT_.out kr) qi (Or.inr ⟨by rfl, rfl⟩) ?_ ?_
    rotate_left
    ·simp only [sx]
     rfl
    refine pure_ (i := 20) (N := some 33) (v := undef) (a' := ?_) (bm 26 2097151) rfl rfl (any_of HT_.out kr) qi (Or.inr ⟨by rfl, rfl⟩) ?_ ?_
    rotate_left
    ·simp only [sx]
     rfl
    refine pure_ (i := 21) (N := some 34) (v := undef) (a' := ?_) (bm 26 4194303) rfl rfl (any_of HT_.out kr) qi (Or.inr ⟨by rfl, rfl⟩) ?_ ?_
    rotate_left
    ·simp only [sx]
     rfl
    refine pure_ (i := 22) (N := some 35) (v := undef) (a' := ?_) (bm 26 8388607) rfl rfl (any_of HT_.out kr) qi (Or.inr ⟨by rfl, rfl⟩) ?_ ?_
    rotate_left
    ·simp only [sx]
     rfl
    refine pure_ (i := 23) (N := some 36) (v := undef) (a' := ?_) (bm 26 16777215) rfl rfl (any_of HT_.out kr) qi (Or.inr ⟨by rfl, rfl⟩) ?_ ?_
    rotate_left
    ·simp only [sx]
     rfl
    refine pure_ (i := 24) (N := some 37) (v := ?_) (a' := ?_) (bm 26 33554431) rfl rfl (any_of HT_.out kr) qi (Or.inl ⟨by rfl, ?_⟩) ?_ ?_
    rotate_left
    ·intro w'
     go_simp
     with_reducible rfl
    rotate_left
    ·simp only [sx]
     rfl
    refine pure_ (i := 25) (N := some 38) (v := ?_) (a' := ?_) (bm 26 67108863) rfl rfl (any_of HT_.out kr) qi (Or.inl ⟨by rfl, ?_⟩) ?_ ?_
    rotate_left
    ·intro w'
     go_simp
     with_reducible rfl
    rotate_left
    ·simp only [sx]
     rfl
    refine done_ (done_of HT_.out kr) ?_
    try go_wp2
    go_roundg k1
    case measure => have := HK1.out; omega
    case rel => exact ⟨(wrap64 (x8_1 + 1)), rfs, H', ⟨by have := HK1.out; omega⟩, ⟨bkw⟩, ⟨blw⟩⟩
   rw [if_pos c11] at H
   have c11b0 : decide (0 < x8_1) = true := decide_eq_true c11
   clear c11
   obtain ⟨ji12, hji12⟩ : ∃ j_ : Int, (wrap64 (x8_1 - 1)) = j_ := ⟨_, rfl⟩
   replace H : (if 0 ≤ (ji12) then (if (ji12) < (l0_0.length : Int) then (if ((Op.bytesLess (((rd_T53 l0_0 (ji12)).f0).toList) (((rd_T53 l0_0 x8_1).f0).toList)) = true) then (impl_IsSchema.l0 k1 l0_0 (l0_0.length : Int) (wrap64 (x8_1 + 1)) l0_0) else (some false)) else (none)) else (none)) = some r := by first | (rw [hji12] at H; exact H) | (simp only [hji12] at H ⊢; exact H)
   (try rw [hji12] at A7)
   (try rw [hji12] at A9)
   have hji12w : (IntKind.i64.wrap (x8_1 - 1)) = ji12 := (i64_w _).trans hji12
   by_cases c13 : 0 ≤ (ji12)
   case neg =>
    rw [if_neg c13] at H
    exact absurd H (by simp)
   rw [if_pos c13] at H
   have c13b0 : decide (0 ≤ (ji12)) = true := decide_eq_true c13
   clear c13
   by_cases c14 : (ji12) < (l0_0.length : Int)
   case neg =>
    rw [if_neg c14] at H
    exact absurd H (by simp)
   rw [if_pos c14] at H
   have c14b0 : decide ((ji12) < (l0_0.length : Int)) = true := decide_eq_true c14
   clear c14
   have HC15 := Aside0.mk H
   clear H
   have p333 : 0 ≤ (x8_1 : Int) := of_decide_eq_true asw
   have q333 : x8_1 < (l0_0.length : Int) := of_decide_eq_true asw
   obtain ⟨ad333, A333_2, c333_2, A333_3, c333_3, e333, hx333_0, hx333_1, hx333_2, hx333_3, hl333_2, hi333_2, hl333_3, hi333_3⟩ := at_T53 HR0_0.out x8_1 p333 q333
   cases e333
   replace hx333_0 := upw HB.out hx333_0
   replace hx333_1 := upw HB.out hx333_1
   replace hx333_2 := upw HB.out hx333_2
   replace hx333_3 := upw HB.out hx333_3
   have HR333_2 := Aside0.mk hi333_2
   have HC333_2 := Aside0.mk hl333_2
   clear hi333_2 hl333_2
   have HR333_3 := Aside0.mk hi333_3
   have HC333_3 := Aside0.mk hl333_3
   clear hi333_3 hl333_3
   replace p333 := eq_true p333
   replace q333 := eq_true q333
   try go_wp2_with (first | ((with_reducible refine gate_dst (N := 4) rfl ?_); refine box_event ?hg (N := 4) ?hd (cs := #[.string (⟨#[]⟩ : ByteArray), .int .i64 0, .slice none 0 0, .slice none 0 0]) (t := 53) ?hr ?_; (case hd => rfl); (case hg => rfl); (case hr => exact hrw); intro gb334 hg w16 hbox hb; have n0_ := Aside0.mk (blk_below (g := gb332) (o := .cells #[.slice (some ad333) l0_0.length c0_0] 33 (0, 0)) bkw hb); have n1_ := Aside0.mk (below_step blw hb); have n2_ := Aside0.mk (hbox); have n3_ := Aside0.mk ((by rw [hg]; exact (below_size blw) : w.heap.size ≤ gb334)); have n4_ := n3_; have n5_ := Aside0.mk ((by rw [hg]; exact Nat.ne_of_lt (blk_lt (g := gb332) (o := .cells #[.slice (some ad333) l0_0.length c0_0] 33 (0, 0)) bkw) : gb332 ≠ gb334)); have n6_ := Aside0.mk ((by rw [hg]; exact Nat.ne_of_gt (blk_lt (g := gb332) (o := .cells #[.slice (some ad333) l0_0.length c0_0] 33 (0, 0)) bkw) : gb334 ≠ gb332)); clear BK332; clear HB; revert n0_ n1_ n2_ n3_ n4_ n5_ n6_; intro BK332 HB BK334 GW334 GE334 NB332_334 NB334_332; clear hb hbox hg; have hnb17 := NB334_332.out; have hnc17 := NB332_334.out; obtain ⟨hcz18_0, hcz18_1, hcz18_2, hcz18_3⟩ := cls4 BK334.out; obtain ⟨hfz18_0, hfz18_1, hfz18_2, hfz18_3⟩ := frz4 BK334.out))
   have n0_ : Aside0 (((((w16.setCell ⟨gb334, 0, none⟩ (.string ((rd_T53 l0_0 x8_1).f0))).setCell ⟨gb334, 1, none⟩ (.int .i64 ((rd_T53 l0_0 x8_1).f1.f0))).setCell ⟨gb334, 2, none⟩ (.slice A333_2 ((rd_T53 l0_0 x8_1).f1.f1).length c333_2)).setCell ⟨gb334, 3, none⟩ (.slice A333_3 ((rd_T53 l0_0 x8_1).f1.f2).length c333_3)).heap[gb332]? = some (.cells #[.slice (some ad333) l0_0.length c0_0] 33 (0, 0))) := ⟨by (with_reducible repeat (first | refine blk_drewN ?_ _ | refine blk_drew ?_ | refine blk_alloc ?_ _)); refine blk_far ?_ NB332_334.out _; (with_reducible repeat (first | refine blk_drewN ?_ _ | refine blk_drew ?_ | refine blk_alloc ?_ _)); refine blk_far ?_ NB332_334.out _; (with_reducible repeat (first | refine blk_drewN ?_ _ | refine blk_drew ?_ | refine blk_alloc ?_ _)); refine blk_far ?_ NB332_334.out _; (with_reducible repeat (first | refine blk_drewN ?_ _ | refine blk_drew ?_ | refine blk_alloc ?_ _)); refine blk_far ?_ NB332_334.out _; (with_reducible repeat (first | refine blk_drewN ?_ _ | refine blk_drew ?_ | refine blk_alloc ?_ _)); exact BK332.out⟩
   have n1_ : Aside0 (((((w16.setCell ⟨gb334, 0, none⟩ (.string ((rd_T53 l0_0 x8_1).f0))).setCell ⟨gb334, 1, none⟩ (.int .i64 ((rd_T53 l0_0 x8_1).f1.f0))).setCell ⟨gb334, 2, none⟩ (.slice A333_2 ((rd_T53 l0_0 x8_1).f1.f1).length c333_2)).setCell ⟨gb334, 3, none⟩ (.slice A333_3 ((rd_T53 l0_0 x8_1).f1.f2).length c333_3)).heap[gb334]? = some (.cells #[.string ((rd_T53 l0_0 x8_1).f0), .int .i64 ((rd_T53 l0_0 x8_1).f1.f0), .slice A333_2 ((rd_T53 l0_0 x8_1).f1.f1).length c333_2, .slice A333_3 ((rd_T53 l0_0 x8_1).f1.f2).length c333_3] 53 (0, 0))) := ⟨by (with_reducible repeat (first | refine blk_drewN ?_ _ | refine blk_drew ?_ | refine blk_alloc ?_ _)); refine blk_put (cs := #[.string ((rd_T53 l0_0 x8_1).f0), .int .i64 ((rd_T53 l0_0 x8_1).f1.f0), .slice A333_2 ((rd_T53 l0_0 x8_1).f1.f1).length c333_2, .slice none 0 0]) ?_ 3 _ rfl; (with_reducible repeat (first | refine blk_drewN ?_ _ | refine blk_drew ?_ | refine blk_alloc ?_ _)); refine blk_put (cs := #[.string ((rd_T53 l0_0 x8_1).f0), .int .i64 ((rd_T53 l0_0 x8_1).f1.f0), .slice none 0 0, .slice none 0 0]) ?_ 2 _ rfl; (with_reducible repeat (first | refine blk_drewN ?_ _ | refine blk_drew ?_ | refine blk_alloc ?_ _)); refine blk_put (cs := #[.string ((rd_T53 l0_0 x8_1).f0), .int .i64 0, .slice none 0 0, .slice none 0 0]) ?_ 1 _ rfl; (with_reducible repeat (first | refine blk_drewN ?_ _ | refine blk_drew ?_ | refine blk_alloc ?_ _)); refine blk_put (cs := #[.string (⟨#[]⟩ : ByteArray), .int .i64 0, .slice none 0 0, .slice none 0 0]) ?_ 0 _ rfl; (with_reducible repeat (first | refine blk_drewN ?_ _ | refine blk_drew ?_ | refine blk_alloc ?_ _)); exact BK334.out⟩
   have n2_ : Aside0 (Below w.heap.size w ((((w16.setCell ⟨gb334, 0, none⟩ (.string ((rd_T53 l0_0 x8_1).f0))).setCell ⟨gb334, 1, none⟩ (.int .i64 ((rd_T53 l0_0 x8_1).f1.f0))).setCell ⟨gb334, 2, none⟩ (.slice A333_2 ((rd_T53 l0_0 x8_1).f1.f1).length c333_2)).setCell ⟨gb334, 3, none⟩ (.slice A333_3 ((rd_T53 l0_0 x8_1).f1.f2).length c333_3))) := ⟨blw⟩
   (try clear BK332)
   (try clear BK334)
   (try clear HB)
   generalize ((((w16.setCell ⟨gb334, 0, none⟩ (.string ((rd_T53 l0_0 x8_1).f0))).setCell ⟨gb334, 1, none⟩ (.int .i64 ((rd_T53 l0_0 x8_1).f1.f0))).setCell ⟨gb334, 2, none⟩ (.slice A333_2 ((rd_T53 l0_0 x8_1).f1.f1).length c333_2)).setCell ⟨gb334, 3, none⟩ (.slice A333_3 ((rd_T53 l0_0 x8_1).f1.f2).length c333_3)) = w19 at n0_ n1_ n2_ ⊢
   revert n0_ n1_ n2_
   intro BK332 BK334 HB
   have n0_ := Aside0.mk (blk_drew BK332.out)
   have n1_ := Aside0.mk (blk_drew BK334.out)
   have n2_ := Aside0.mk (below_drew1 HB.out)
   clear BK332
   clear BK334
   clear HB
   revert n0_ n1_ n2_
   intro BK332 BK334 HB
   have p337 : 0 ≤ ((ji12) : Int) := of_decide_eq_true asw
   have q337 : (ji12) < (l0_0.length : Int) := of_decide_eq_true asw
   obtain ⟨ad337, A337_2, c337_2, A337_3, c337_3, e337, hx337_0, hx337_1, hx337_2, hx337_3, hl337_2, hi337_2, hl337_3, hi337_3⟩ := at_T53 HR0_0.out (ji12) p337 q337
   have hw337_3 := hx337_3
   have hw337_2 := hx337_2
   have hw337_1 := hx337_1
   have hw337_0 := hx337_0
   obtain rfl : ad333 = ad337 := (by injection e337)
   replace hx337_0 := upw HB.out hx337_0
   replace hx337_1 := upw HB.out hx337_1
   replace hx337_2 := upw HB.out hx337_2
   replace hx337_3 := upw HB.out hx337_3
   have HR337_2 := Aside0.mk hi337_2
   have HC337_2 := Aside0.mk hl337_2
   clear hi337_2 hl337_2
   have HR337_3 := Aside0.mk hi337_3
   have HC337_3 := Aside0.mk hl337_3
   clear hi337_3 hl337_3
   replace p337 := eq_true p337
   replace q337 := eq_true q337
   refine start_ (n := 26) (S := fun w' => w'.cell? ⟨gb334, 0, none⟩ = some (.string ((rd_T53 l0_0 x8_1).f0)) ∧ w'.cell? ⟨gb334, 1, none⟩ = some (.int .i64 ((rd_T53 l0_0 x8_1).f1.f0)) ∧ w'.cell? ⟨gb334, 2, none⟩ = some (.slice A333_2 ((rd_T53 l0_0 x8_1).f1.f1).length c333_2) ∧ w'.cell? ⟨gb334, 3, none⟩ = some (.slice A333_3 ((rd_T53 l0_0 x8_1).f1.f2).length c333_3) ∧ w'.cell? ⟨gb332, 0, none⟩ = some (.slice (some ad333) l0_0.length c0_0) ∧ w'.cell? (ad333.add (((ji12)).toNat * 4)) = some (.string ((rd_T53 l0_0 (ji12)).f0)) ∧ w'.cell? ⟨(ad333.add (((ji12)).toNat * 4)).block, (ad333.add (((ji12)).toNat * 4)).off + 1, none⟩ = some (.int .i64 ((rd_T53 l0_0 (ji12)).f1.f0)) ∧ w'.cell? ⟨(ad333.add (((ji12)).toNat * 4)).block, (ad333.add (((ji12)).toNat * 4)).off + 2, none⟩ = some (.slice A337_2 ((rd_T53 l0_0 (ji12)).f1.f1).length c337_2) ∧ w'.cell? ⟨(ad333.add (((ji12)).toNat * 4)).block, (ad333.add (((ji12)).toNat * 4)).off + 3, none⟩ = some (.slice A337_3 ((rd_T53 l0_0 (ji12)).f1.f2).length c337_3)) (ds := []) #[false,false,false,false,false,false,false,false,false,false,false,false,false,false,false,false,false,false,false,false,false,false,false,false,false,false] kr rfl rfl ⟨(blk_cell BK334.out 0).trans rfl, (blk_cell BK334.out 1).trans rfl, (blk_cell BK334.out 2).trans rfl, (blk_cell BK334.out 3).trans rfl, (blk_cell BK332.out 0).trans rfl, ((HB.out.cell (World.block_lt_of_cell? w _ hw337_0)).trans hw337_0), ((HB.out.cell (World.block_lt_of_cell? w _ hw337_1)).trans hw337_1), ((HB.out.cell (World.block_lt_of_cell? w _ hw337_2)).trans hw337_2), ((HB.out.cell (World.block_lt_of_cell? w _ hw337_3)).trans hw337_3)⟩ (fun hHeld => ?_); refine with_tabW impl_IsSchema.tab4 impl_IsSchema.bits4 (fun HT_ HW_ => ?_)
   generalize w19.drew = w20 at BK332 BK334 HB HR337_2 HR337_3 hx337_0 hx337_1 hx337_2 hx337_3 hHeld ⊢
   refine pure_ (i := 0) (N := some 13) (v := ?_) (a' := ?_) (bm 26 1) rfl rfl (any_of HT_.out kr) qi (Or.inl ⟨by rfl, ?_⟩) ?_ ?_
   rotate_left
   ·intro w'
    go_simp
    with_reducible rfl
   rotate_left
   ·simp only [sx]
    rfl
   refine take_ (i := 1) (N := some 14) (v := ?_) (a' := ?_) (bm 26 3) rfl rfl (take_ofW HT_.out HW_.out kr) qi (Or.inl ⟨by rfl, ?_⟩) hHeld ?_ ?_
   rotate_left
   ·rintro w' ⟨s0, s1, s2, s3, s4, s5, s6, s7, s8⟩
    go_simp
    with_reducible rfl
   rotate_left
   ·simp only [sx]
    rfl
   refine one_ (i := 2) (N := some 15) (bm 26 7) rfl rfl (one_of HT_.out kr) (by decide) (fun K hK => ?_)
   refine goes_ Try.func34 kr rfl #[.string ((rd_T53 l0_0 x8_1).f0)] (by rfl) rfl rfl mpw ?_
   with_reducible refine (impl_IsName.calls k1 ((rd_T53 l0_0 x8_1).f0) true _ A7.out).mono ?_
   rintro e w' ⟨rfl, ⟨nd, rfl⟩⟩
   refine ⟨_, rfl, ?_⟩
   refine hK.out _ _ ⟨(blk_cell BK334.out 0).trans rfl, (blk_cell BK334.out 1).trans rfl, (blk_cell BK334.out 2).trans rfl, (blk_cell BK334.out 3).trans rfl, (blk_cell BK332.out 0).trans rfl, ((HB.out.cell (World.block_lt_of_cell? w _ hw337_0)).trans hw337_0), ((HB.out.cell (World.block_lt_of_cell? w _ hw337_1)).trans hw337_1), ((HB.out.cell (World.block_lt_of_cell? w _ hw337_2)).trans hw337_2), ((HB.out.cell (World.block_lt_of_cell? w _ hw337_3)).trans hw337_3)⟩ (fun hHeld => ?_)
   clear hK K
   refine norm_ (a' := ?_) ?_ ?_
   rotate_left
   ·show Act.put _ (some 15) _ = _
    simp only [sx]
    rfl
   refine pure_ (i := 3) (N := some 16) (v := ?_) (a' := ?_) (bm 26 15) rfl rfl (any_of HT_.out kr) qi (Or.inl ⟨by rfl, ?_⟩) ?_ ?_
   rotate_left
   ·intro w'
    go_simp
    with_reducible rfl
   rotate_left
   ·simp only [sx]
    rfl
   refine pure_ (i := 4) (N := some 17) (v := ?_) (a' := ?_) (bm 26 31) rfl rfl (any_of HT_.out kr) qi (Or.inl ⟨by rfl, ?_⟩) ?_ ?_
   rotate_left
   ·intro w'
    go_simp
    with_reducible rfl
   rotate_left
   ·simp only [sx]
    rfl
   refine pure_ (i := 5) (N := some 18) (v := ?_) (a' := ?_) (bm 26 63) rfl rfl (any_of HT_.out kr) qi (Or.inl ⟨by rfl, ?_⟩) ?_ ?_
   rotate_left
   ·intro w'
    go_simp
    with_reducible rfl
   rotate_left
   ·simp only [sx]
    rfl
   refine take_ (i := 6) (N := some 19) (v := ?_) (a' := ?_) (bm 26 127) rfl rfl (take_ofW HT_.out HW_.out kr) qi (Or.inl ⟨by rfl, ?_⟩) hHeld ?_ ?_
   rotate_left
   ·rintro w' ⟨s0, s1, s2, s3, s4, s5, s6, s7, s8⟩
    go_simp
    with_reducible rfl
   rotate_left
   ·simp only [sx]
    rfl
   refine one_ (i := 7) (N := some 20) (bm 26 255) rfl rfl (one_of HT_.out kr) (by decide) (fun K hK => ?_)
   refine goes_ Try.func35 kr rfl #[.agg #[.int .i64 ((rd_T53 l0_0 x8_1).f1.f0), .slice A333_2 ((rd_T53 l0_0 x8_1).f1.f1).length c333_2, .slice A333_3 ((rd_T53 l0_0 x8_1).f1.f2).length c333_3]] (by rfl) rfl rfl mpw ?_
   with_reducible refine (impl_IsRow.calls k1 ((rd_T53 l0_0 x8_1).f1.f0) _ _ ((rd_T53 l0_0 x8_1).f1.f1) _ _ ((rd_T53 l0_0 x8_1).f1.f2) true _ ?side1 ?side2 ?side3 ?side4 A9.out).mono ?_
   (case side1 => repeat (first | exact (Kd.C_below HR333_2.out blw) | (with_reducible refine Kd.C_alloc ?_ _) | (with_reducible refine Kd.C_drewN ?_ _) | (with_reducible refine Kd.C_drew ?_)))
   (case side2 => exact HC333_2.out)
   (case side3 => repeat (first | exact (Kd.C_below HR333_3.out blw) | (with_reducible refine Kd.C_alloc ?_ _) | (with_reducible refine Kd.C_drewN ?_ _) | (with_reducible refine Kd.C_drew ?_)))
   (case side4 => exact HC333_3.out)
   rintro e w21 ⟨rfl, hb⟩
   refine ⟨_, rfl, ?_⟩
   have n0_ := Aside0.mk (blk_below (g := gb332) (o := .cells #[.slice (some ad333) l0_0.length c0_0] 33 (0, 0)) bkw hb)
   have n1_ := Aside0.mk (blk_below (g := gb334) (o := .cells #[.string ((rd_T53 l0_0 x8_1).f0), .int .i64 ((rd_T53 l0_0 x8_1).f1.f0), .slice A333_2 ((rd_T53 l0_0 x8_1).f1.f1).length c333_2, .slice A333_3 ((rd_T53 l0_0 x8_1).f1.f2).length c333_3] 53 (0, 0)) bkw hb)
   have n2_ := Aside0.mk (below_step blw hb)
   clear BK332
   clear BK334
   clear HB
   revert n0_ n1_ n2_
   intro BK332 BK334 HB
   (try clear hb)
   (try clear hb2)
   (try clear hk)
   (try clear hi)
   refine hK.out _ _ ⟨(blk_cell BK334.out 0).trans rfl, (blk_cell BK334.out 1).trans rfl, (blk_cell BK334.out 2).trans rfl, (blk_cell BK334.out 3).trans rfl, (blk_cell BK332.out 0).trans rfl, ((HB.out.cell (World.block_lt_of_cell? w _ hw337_0)).trans hw337_0), ((HB.out.cell (World.block_lt_of_cell? w _ hw337_1)).trans hw337_1), ((HB.out.cell (World.block_lt_of_cell? w _ hw337_2)).trans hw337_2), ((HB.out.cell (World.block_lt_of_cell? w _ hw337_3)).trans hw337_3)⟩ (fun hHeld => ?_)
   clear hK K
   refine norm_ (a' := ?_) ?_ ?_
   rotate_left
   ·show Act.put _ (some 20) _ = _
    simp only [sx]
    rfl
   refine pure_ (i := 8) (N := some 21) (v := ?_) (a' := ?_) (bm 26 511) rfl rfl (any_of HT_.out kr) qi (Or.inl ⟨by rfl, ?_⟩) ?_ ?_
   rotate_left
   ·intro w'
    go_simp
    with_reducible rfl
   rotate_left
   ·simp only [sx]
    rfl
   refine pure_ (i := 9) (N := some 22) (v := ?_) (a' := ?_) (bm 26 1023) rfl rfl (any_of HT_.out kr) qi (Or.inl ⟨by rfl, ?_⟩) ?_ ?_
   rotate_left
   ·intro w'
    go_simp
    with_reducible rfl
   rotate_left
   ·simp only [sx]
    rfl
   refine pure_ (i := 10) (N := some 23) (v := ?_) (a' := ?_) (bm 26 2047) rfl rfl (any_of HT_.out kr) qi (Or.inl ⟨by rfl, ?_⟩) ?_ ?_
   rotate_left
   ·intro w'
    go_simp
    with_reducible rfl
   rotate_left
   ·simp only [sx]
    rfl
   refine pure_ (i := 11) (N := some 24) (v := ?_) (a' := ?_) (bm 26 4095) rfl rfl (any_of HT_.out kr) qi (Or.inl ⟨by rfl, ?_⟩) ?_ ?_
   rotate_left
   ·intro w'
    go_simp
    with_reducible rfl
   rotate_left
   ·simp only [sx]
    rfl
   refine pure_ (i := 12) (N := some 25) (v := ?_) (a' := ?_) (bm 26 8191) rfl rfl (any_of HT_.out kr) qi (Or.inl ⟨by rfl, ?_⟩) ?_ ?_
   rotate_left
   ·intro w'
    go_simp
    with_reducible rfl
   rotate_left
   ·simp only [sx]
    rfl
   refine pure_ (i := 13) (N := some 26) (v := ?_) (a' := ?_) (bm 26 16383) rfl rfl (any_of HT_.out kr) qi (Or.inl ⟨by rfl, ?_⟩) ?_ ?_
   rotate_left
   ·intro w'
    go_simp
    with_reducible rfl
   rotate_left
   ·simp only [sx]
    rfl
   refine pure_ (i := 14) (N := some 27) (v := ?_) (a' := ?_) (bm 26 32767) rfl rfl (any_of HT_.out kr) qi (Or.inl ⟨by rfl, ?_⟩) ?_ ?_
   rotate_left
   ·intro w'
    go_simp
    with_reducible rfl
   rotate_left
   ·simp only [sx]
    rfl
   refine pure_ (i := 16) (N := some 29) (v := ?_) (a' := ?_) (bm 26 98303) rfl rfl (any_of HT_.out kr) qi (Or.inl ⟨by rfl, ?_⟩) ?_ ?_
   rotate_left
   ·intro w'
    go_simp
    with_reducible rfl
   rotate_left
   ·simp only [sx]
    rfl
   refine pure_ (i := 17) (N := some 30) (v := ?_) (a' := ?_) (bm 26 229375) rfl rfl (any_of HT_.out kr) qi (Or.inl ⟨by rfl, ?_⟩) ?_ ?_
   rotate_left
   ·intro w'
    go_simp
    with_reducible rfl
   rotate_left
   ·simp only [sx]
    rfl
   refine pure_ (i := 21) (N := some 34) (v := ?_) (a' := ?_) (bm 26 2326527) rfl rfl (any_of HT_.out kr) qi (Or.inl ⟨by rfl, ?_⟩) ?_ ?_
   rotate_left
   ·intro w'
    go_simp
    with_reducible rfl
   rotate_left
   ·simp only [sx]
    rfl
   refine take_ (i := 15) (N := some 28) (v := ?_) (a' := ?_) (bm 26 2359295) rfl rfl (take_ofW HT_.out HW_.out kr) qi (Or.inl ⟨by rfl, ?_⟩) hHeld ?_ ?_
   rotate_left
   ·rintro w' ⟨s0, s1, s2, s3, s4, s5, s6, s7, s8⟩
    go_simp
    with_reducible rfl
   rotate_left
   ·simp only [sx]
    rfl
   refine pure_ (i := 18) (N := some 31) (v := ?_) (a' := ?_) (bm 26 2621439) rfl rfl (any_of HT_.out kr) qi (Or.inl ⟨by rfl, ?_⟩) ?_ ?_
   rotate_left
   ·intro w'
    go_simp
    with_reducible rfl
   rotate_left
   ·simp only [sx]
    rfl
   refine pure_ (i := 19) (N := some 32) (v := ?_) (a' := ?_) (bm 26 3145727) rfl rfl (any_of HT_.out kr) qi (Or.inl ⟨by rfl, ?_⟩) ?_ ?_
   rotate_left
   ·intro w'
    go_simp
    with_reducible rfl
   rotate_left
   ·simp only [sx]
    rfl
   refine take_ (i := 20) (N := some 33) (v := ?_) (a' := ?_) (bm 26 4194303) rfl rfl (take_ofW HT_.out HW_.out kr) qi (Or.inl ⟨by rfl, ?_⟩) hHeld ?_ ?_
   rotate_left
   ·rintro w' ⟨s0, s1, s2, s3, s4, s5, s6, s7, s8⟩
    go_simp
    with_reducible rfl
   rotate_left
   ·simp only [sx]
    rfl
   refine take_ (i := 22) (N := some 35) (v := ?_) (a' := ?_) (bm 26 8388607) rfl rfl (take_ofW HT_.out HW_.out kr) qi (Or.inl ⟨by rfl, ?_⟩) hHeld ?_ ?_
   rotate_left
   ·rintro w' ⟨s0, s1, s2, s3, s4, s5, s6, s7, s8⟩
    go_simp
    with_reducible rfl
   rotate_left
   ·simp only [sx]
    rfl
   refine pure_ (i := 23) (N := some 36) (v := ?_) (a' := ?_) (bm 26 16777215) rfl rfl (any_of HT_.out kr) qi (Or.inl ⟨by rfl, ?_⟩) ?_ ?_
   rotate_left
   ·intro w'
    go_simp
    with_reducible rfl
   rotate_left
   ·simp only [sx]
    rfl
   refine pure_ (i := 24) (N := some 37) (v := ?_) (a' := ?_) (bm 26 33554431) rfl rfl (any_of HT_.out kr) qi (Or.inl ⟨by rfl, ?_⟩) ?_ ?_
   rotate_left
   ·intro w'
    go_simp
    with_reducible rfl
   rotate_left
   ·simp only [sx]
    rfl
   refine pure_ (i := 25) (N := some 38) (v := ?_) (a' := ?_) (bm 26 67108863) rfl rfl (any_of HT_.out kr) qi (Or.inl ⟨by rfl, ?_⟩) ?_ ?_
   rotate_left
   ·intro w'
    go_simp
    with_reducible rfl
   rotate_left
   ·simp only [sx]
    rfl
   refine done_ (done_of HT_.out kr) ?_
   go_upto_if 38 with (fail)
   have H := HC15.out
   clear HC15
   by_cases c22 : ((Op.bytesLess (((rd_T53 l0_0 (ji12)).f0).toList) (((rd_T53 l0_0 x8_1).f0).toList)) = true)
   case neg =>
    rw [if_neg c22] at H
    have c22b0 : (Op.bytesLess (((rd_T53 l0_0 (ji12)).f0).toList) (((rd_T53 l0_0 x8_1).f0).toList)) = false := by simpa using c22
    clear c22
    (first | rw [c22b0] | (simp only [i64_w, i32_w]; rw [c22b0]) | skip)
    obtain rfl := Option.some.inj H
    go_wp2
    go_ret
    exact ⟨by first | rfl | (simp [errW_none, errW_some] <;> rfl) | (simp only [← hji12]; first | rfl | (simp [errW_none, errW_some] <;> rfl)) | (simp [*, errW_none, errW_some] <;> rfl), blw⟩
   rw [if_pos c22] at H
   have c22b0 : (Op.bytesLess (((rd_T53 l0_0 (ji12)).f0).toList) (((rd_T53 l0_0 x8_1).f0).toList)) = true := c22
   clear c22
   (first | rw [c22b0] | (simp only [i64_w, i32_w]; rw [c22b0]) | skip)
   have H' := Aside0.mk H
   clear H
   go_wp2
   go_roundg k1
   case measure => have := HK1.out; omega
   case rel => exact ⟨(wrap64 (x8_1 + 1)), rfs, H', ⟨by have := HK1.out; omega⟩, ⟨bkw⟩, ⟨blw⟩⟩

end Go.Proofs.Ytfbecaplnigmaaa.Px
