/- Printed by a program of this session: what functions of the translation come to, each contract as it stands. No condition. -/
import Derived.Test.YtfbecaplnigmaaaZIsDBSh
import Derived.Test.YtfbecaplnigmaaaZIsDBPx0M
import Derived.Test.YtfbecaplnigmaaaZIsDBPx17
import Derived.Test.YtfbecaplnigmaaaZIsDBPx20
namespace Go.Proofs.Ytfbecaplnigmaaa.Px
open Go.RowKit Go.Proofs.Ytfbecaplnigmaaa.Ext Go.Proofs.YtfbecaplnigmaaaW.PrintWords Go.Proofs.YtfbecaplnigmaaaW.PrintLast Go.Proofs.YtfbecaplnigmaaaW.PrintMore
attribute [local go_sem] max2_int min2_int max_two min_two max_three min_three max_four min_four   -- for this text's walks alone
set_option linter.unusedVariables false
set_option linter.unusedSimpArgs false

/-! ### impl_IsDB: function 9 -/
mutual
def impl_IsDB.j0 : Nat → Bool → List (S53) → List (S47) → Option (Bool)
 | 0, _, _, _ => none
 | k + 1, x19, x371000, x372000 => if x19 = true then (some false) else (impl_IsDB.l0 k x372000 (x372000.length : Int) 0 x371000)
def impl_IsDB.l0 : Nat → List (S47) → Int → Int → List (S53) → Option (Bool)
 | 0, _, _, _, _ => none
 | k + 1, x21, x22, x23, x371000 => if x23 < x22 then (if 0 ≤ x23 then (if x23 < (x21.length : Int) then (if x23 < (x371000.length : Int) then (if ((rd_T47 x21 x23).f0).toList = ((rd_T53 x371000 x23).f0).toList then (if (((rd_T47 x21 x23).f1).length : Int) > 8 then (some false) else ((slices_ContainsFunc_Value_of_IsDB_1.f k ((rd_T47 x21 x23).f1) ((rd_T53 x371000 x23).f0) ((rd_T53 x371000 x23).f1.f0) ((rd_T53 x371000 x23).f1.f1) ((rd_T53 x371000 x23).f1.f2)).bind fun t377 => (if t377 = true then (some false) else (impl_IsDB.l0 k x21 x22 (wrap64 (x23 + 1)) x371000)))) else (some false)) else (none)) else (none)) else (none)) else (some true)
end
def impl_IsDB.f (k : Nat) (l0_0 : List (S53)) (l1_0 : List (S47)) : Option (Bool) := (impl_IsSchema.f k l0_0).bind fun t372 => (if t372 = true then (impl_IsDB.j0 k ((l1_0.length : Int) != (l0_0.length : Int)) l0_0 l1_0) else (impl_IsDB.j0 k true l0_0 l1_0))
def impl_IsDB.T7 : Bool × List (List Nat × List Nat) := (true, [([], []), ([0], [0]), ([], []), ([2], [2]), ([3], [3]), ([4], [4]), ([1, 5], [1, 5]), ([6], [6]), ([7], [7]), ([8, 7], [7, 8]), ([9, 7], [7, 9]), ([10, 7], [7, 10]), ([7, 11], [7, 11]), ([12, 7], [12]), ([13], [13]), ([14, 13], [13, 14]), ([13], [13]), ([15, 16, 13, 13], [13, 15, 16]), ([13, 17], [13, 17])])
def impl_IsDB.B7 : List Nat := [0, 1, 0, 4, 12, 28, 63, 127, 255, 511, 1023, 2047, 4095, 8191, 16383, 32767, 16383, 131071, 262143]
theorem impl_IsDB.tab7 : rtab .any (opsOf Try.f9 7) = impl_IsDB.T7 := by kernel_rfl
theorem impl_IsDB.bits7 : waitsOk impl_IsDB.T7.2 impl_IsDB.B7 = true := by kernel_rfl
set_option maxHeartbeats 8000000 in
set_option maxRecDepth 100000 in
theorem impl_IsDB.calls (k : Nat) (A0_0 : Option Addr) (c0_0 : Nat) (l0_0 : List (S53)) (A1_0 : Option Addr) (c1_0 : Nat) (l1_0 : List (S47)) (r : Bool) (w : World) (hr0_0 : Kd.C k53 w A0_0 l0_0.length l0_0) (hc0_0 : l0_0.length ≤ c0_0) (hr1_0 : Kd.C k47 w A1_0 l1_0.length l1_0) (hc1_0 : l1_0.length ≤ c1_0) (h : impl_IsDB.f k l0_0 l1_0 = some r) :
  Calls Try.prog 9 #[.agg #[.slice A0_0 l0_0.length c0_0], .agg #[.slice A1_0 l1_0.length c1_0]] w fun e w' => e = .returned (.bool r) ∧ Below w.heap.size w w' := by
 have hu33 := Try.underlying33
 have hu37 := Try.underlying37
 have hu47 := Try.underlying47
 have HR0_0 := Aside0.mk hr0_0
 have HC0_0 := Aside0.mk hc0_0
 clear hr0_0 hc0_0
 have HR1_0 := Aside0.mk hr1_0
 have HC1_0 := Aside0.mk hc1_0
 clear hr1_0 hc1_0
 have HB := Aside0.mk (Below.refl w.heap.size w)
 have H : ((impl_IsSchema.f k l0_0).bind fun t372 => (if t372 = true then (impl_IsDB.j0 k ((l1_0.length : Int) != (l0_0.length : Int)) l0_0 l1_0) else (impl_IsDB.j0 k true l0_0 l1_0))) = some r := h
 clear h
 have HC3 := Aside0.mk H
 clear H
 go_enter Try.func9, Try.ntmps9
 go_upto_region 1 with (first | ((with_reducible refine gate_dst (N := 2) rfl ?_); (try (refine gate_guard (by rfl) ?_; dsimp only)); refine box_event ?hg (N := 2) ?hd (cs := #[.slice A0_0 l0_0.length c0_0]) (t := 33) ?hr ?_; (case hd => rfl); (case hg => rfl); (case hr => exact hrw); intro gb370 hg w4 hbox hb; have n0_ := Aside0.mk (below_step blw hb); have n1_ := Aside0.mk (hbox); have n2_ := Aside0.mk ((by rw [hg]; exact (below_size blw) : w.heap.size ≤ gb370)); have n3_ := n2_; clear HB; revert n0_ n1_ n2_ n3_; intro HB BK370 GW370 GE370; clear hb hbox hg) | ((with_reducible refine gate_dst (N := 3) rfl ?_); (try (refine gate_guard (by rfl) ?_; dsimp only)); refine box_event ?hg (N := 3) ?hd (cs := #[.slice A1_0 l1_0.length c1_0]) (t := 37) ?hr ?_; (case hd => rfl); (case hg => rfl); (case hr => exact hrw); intro gb371 hg w5 hbox hb; have n0_ := Aside0.mk (blk_below (g := gb370) (o := .cells #[.slice A0_0 l0_0.length c0_0] 33 (0, 0)) bkw hb); have n1_ := Aside0.mk (below_step blw hb); have n2_ := Aside0.mk (hbox); have n3_ := Aside0.mk ((by rw [hg]; exact (below_size blw) : w.heap.size ≤ gb371)); have n4_ := n3_; have n5_ := Aside0.mk ((by rw [hg]; exact Nat.ne_of_lt (blk_lt (g := gb370) (o := .cells #[.slice A0_0 l0_0.length c0_0] 33 (0, 0)) bkw) : gb370 ≠ gb371)); have n6_ := Aside0.mk ((by rw [hg]; exact Nat.ne_of_gt (blk_lt (g := gb370) (o := .cells #[.slice A0_0 l0_0.length c0_0] 33 (0, 0)) bkw) : gb371 ≠ gb370)); clear BK370; clear HB; revert n0_ n1_ n2_ n3_ n4_ n5_ n6_; intro BK370 HB BK371 GW371 GE371 NB370_371 NB371_370; clear hb hbox hg))
 (try simp only [Act.put, List.setIfInBounds_toArray, List.set_cons_zero, List.set_cons_succ])
 go_cut [19] (fun v19 wc => ∃ (kq : Nat) (x19_2 : Bool), v19 = .bool x19_2 ∧ Aside0 (impl_IsDB.j0 kq x19_2 l0_0 l1_0 = some r) ∧ Aside0 (kq ≤ k) ∧ Aside0 (wc.heap[gb370]? = some (.cells #[(.slice A0_0 l0_0.length c0_0)] 33 (0, 0))) ∧ Aside0 (wc.heap[gb371]? = some (.cells #[(.slice A1_0 l1_0.length c1_0)] 37 (0, 0))) ∧ Aside0 (Below w.heap.size w wc))
 case first =>
  have H := HC3.out
  clear HC3
  replace H := Option.bind_eq_some_iff.mp H
  obtain ⟨t372, A60, H⟩ := H
  replace H : (if t372 = true then (impl_IsDB.j0 k ((l1_0.length : Int) != (l0_0.length : Int)) l0_0 l1_0) else (impl_IsDB.j0 k true l0_0 l1_0)) = some r := H
  have A6 := Aside0.mk A60
  clear A60
  by_cases c7 : t372 = true
  case neg =>
   replace c7 := Bool.eq_false_iff.mpr c7
   subst c7
   have H1 : (impl_IsDB.j0 k true l0_0 l1_0) = some r := by rw [if_neg (show ¬ (false = true) by decide)] at H; exact H
   clear H
   have H := H1
   clear H1
   have H' := Aside0.mk H
   clear H
   have hnb13 := NB370_371.out
   have hnc13 := NB371_370.out
   have hcz14_0 : w5.cell? ⟨gb370, 0, none⟩ = some (.slice A0_0 l0_0.length c0_0) := (blk_cell BK370.out 0).trans rfl
   have hfz14_0 := blk_frozen BK370.out 0
   go_wp2_with (first | ((with_reducible refine gate_callee (f := 18) rfl ?_); refine goesL_ (some 9) rfl rfl Try.func18 kr rfl #[.agg #[.slice A0_0 l0_0.length c0_0]] rfl mpw ?_; (with_reducible refine (impl_IsSchema.calls k _ _ l0_0 false _ ?side1 ?side2 A6.out).mono ?_); (case side1 => have X_ := HR0_0; exact cbl); (case side2 => exact HC0_0.out); rintro e w15 ⟨rfl, hb⟩; refine ⟨_, rfl, ?_⟩; have n0_ := Aside0.mk (blk_below (g := gb370) (o := .cells #[.slice A0_0 l0_0.length c0_0] 33 (0, 0)) bkw hb); have n1_ := Aside0.mk (blk_below (g := gb371) (o := .cells #[.slice A1_0 l1_0.length c1_0] 37 (0, 0)) bkw hb); have n2_ := Aside0.mk (below_step blw hb); clear BK370; clear BK371; clear HB; revert n0_ n1_ n2_; intro BK370 BK371 HB; (try clear hb); (try clear hb2); (try clear hk); (try clear hi)))
   go_meet
   case rel => exact ⟨_, (true), rfs, H', ⟨by first | omega | exact Nat.le_refl _⟩, ⟨bkw⟩, ⟨bkw⟩, ⟨blw⟩⟩
  subst c7
  have H1 : (impl_IsDB.j0 k ((l1_0.length : Int) != (l0_0.length : Int)) l0_0 l1_0) = some r := by rw [if_pos rfl] at H; exact H
  clear H
  have H := H1
  clear H1
  have H' := Aside0.mk H
  clear H
  have hnb8 := NB370_371.out
  have hnc8 := NB371_370.out
  have hcz9_0 : w5.cell? ⟨gb370, 0, none⟩ = some (.slice A0_0 l0_0.length c0_0) := (blk_cell BK370.out 0).trans rfl
  have hfz9_0 := blk_frozen BK370.out 0
  go_wp2_with (first | ((with_reducible refine gate_callee (f := 18) rfl ?_); refine goesL_ (some 9) rfl rfl Try.func18 kr rfl #[.agg #[.slice A0_0 l0_0.length c0_0]] rfl mpw ?_; (with_reducible refine (impl_IsSchema.calls k _ _ l0_0 true _ ?side1 ?side2 A6.out).mono ?_); (case side1 => have X_ := HR0_0; exact cbl); (case side2 => exact HC0_0.out); rintro e w10 ⟨rfl, hb⟩; refine ⟨_, rfl, ?_⟩; have n0_ := Aside0.mk (blk_below (g := gb370) (o := .cells #[.slice A0_0 l0_0.length c0_0] 33 (0, 0)) bkw hb); have n1_ := Aside0.mk (blk_below (g := gb371) (o := .cells #[.slice A1_0 l1_0.length c1_0] 37 (0, 0)) bkw hb); have n2_ := Aside0.mk (below_step blw hb); clear BK370; clear BK371; clear HB; revert n0_ n1_ n2_; intro BK370 BK371 HB; (try clear hb); (try clear hb2); (try clear hk); (try clear hi); have hcz11_0 : w10.cell? ⟨gb371, 0, none⟩ = some (.slice A1_0 l1_0.length c1_0) := (blk_cell BK371.out 0).trans rfl; have hfz11_0 := blk_frozen BK371.out 0; have hcz12_0 : w10.cell? ⟨gb370, 0, none⟩ = some (.slice A0_0 l0_0.length c0_0) := (blk_cell BK370.out 0).trans rfl; have hfz12_0 := blk_frozen BK370.out 0))
  go_meet
  case rel => exact ⟨_, (((l1_0.length : Int) != (l0_0.length : Int))), rfs, H', ⟨by first | omega | exact Nat.le_refl _⟩, ⟨bkw⟩, ⟨bkw⟩, ⟨blw⟩⟩
 case rest =>
  clear HC3
  (try clear c1); (try clear p2); (try clear c7); (try clear c8); (try clear c9); (try clear c13); (try clear hcz11_0); (try clear hcz12_0); (try clear hcz14_0); (try clear hcz9_0); (try clear hfz11_0); (try clear hfz12_0); (try clear hfz14_0); (try clear hfz9_0)
  obtain ⟨kq, x19_2, rfl, HA, HJ2, BK370, BK371, HB⟩ := hcut
  cases kq with
  | zero => exact absurd HA.out (by simp [impl_IsDB.j0])
  | succ kj2 =>
   have H := HA.out
   clear HA
   simp only [impl_IsDB.j0] at H
   by_cases c16 : x19_2 = true
   ·subst c16
    have H1 : (some false) = some r := by rw [if_pos rfl] at H; exact H
    clear H
    have H := H1
    clear H1
    obtain rfl := Option.some.inj H
    go_wp2
    go_ret
    exact ⟨rfw, blw⟩
   replace c16 := Bool.eq_false_iff.mpr c16
   subst c16
   have H1 : (impl_IsDB.l0 kj2 l1_0 (l1_0.length : Int) 0 l0_0) = some r := by rw [if_neg (show ¬ (false = true) by decide)] at H; exact H
   clear H
   have H := H1
   clear H1
   have H' := Aside0.mk H
   clear H
   have hnb17 := NB371_370.out
   have hnc17 := NB370_371.out
   have hcz18_0 : wc.cell? ⟨gb371, 0, none⟩ = some (.slice A1_0 l1_0.length c1_0) := (blk_cell BK371.out 0).trans rfl
   have hfz18_0 := blk_frozen BK371.out 0
   go_wp2
   go_loopg [23] kj2 (fun kq v23 w' => ∃ (x23_2 : Int), v23 = .int .i64 x23_2 ∧ Aside0 (impl_IsDB.l0 kq l1_0 (l1_0.length : Int) x23_2 l0_0 = some r) ∧ Aside0 (kq ≤ kj2) ∧ Aside0 (w'.heap[gb370]? = some (.cells #[(.slice A0_0 l0_0.length c0_0)] 33 (0, 0))) ∧ Aside0 (w'.heap[gb371]? = some (.cells #[(.slice A1_0 l1_0.length c1_0)] 37 (0, 0))) ∧ Aside0 (Below w.heap.size w w'))
   case atStart => exact ⟨(0), rfs, H', ⟨Nat.le_refl _⟩, ⟨bkw⟩, ⟨bkw⟩, ⟨blw⟩⟩
   case round =>
    clear H'
    (try clear c1); (try clear p2); (try clear c7); (try clear c8); (try clear c9); (try clear c13); (try clear c16); (try clear c17); (try clear c18); (try clear hcz11_0); (try clear hcz12_0); (try clear hcz14_0); (try clear hcz18_0); (try clear hcz9_0); (try clear hfz11_0); (try clear hfz12_0); (try clear hfz14_0); (try clear hfz18_0); (try clear hfz9_0); (try clear p2)
    obtain ⟨x23_2, rfl, HA, HK2, BK370, BK371, HB⟩ := hrel
    cases gk with
    | zero => exact absurd HA.out (by simp [impl_IsDB.l0])
    | succ k2 =>
     have H := HA.out
     clear HA
     simp only [impl_IsDB.l0] at H
     by_cases c19 : x23_2 < (l1_0.length : Int)
     case neg =>
      rw [if_neg c19] at H
      have c19b0 : decide (x23_2 < (l1_0.length : Int)) = false := decide_eq_false c19
      clear c19
      obtain rfl := Option.some.inj H
      go_wp2
      go_ret
      exact ⟨rfw, blw⟩
     rw [if_pos c19] at H
     have c19b0 : decide (x23_2 < (l1_0.length : Int)) = true := decide_eq_true c19
     clear c19
     by_cases c20 : 0 ≤ x23_2
     case neg =>
      rw [if_neg c20] at H
      exact absurd H (by simp)
     rw [if_pos c20] at H
     have c20b0 : decide (0 ≤ x23_2) = true := decide_eq_true c20
     clear c20
     by_cases c21 : x23_2 < (l1_0.length : Int)
     case neg =>
      rw [if_neg c21] at H
      exact absurd H (by simp)
     rw [if_pos c21] at H
     have c21b0 : decide (x23_2 < (l1_0.length : Int)) = true := decide_eq_true c21
     clear c21
     by_cases c22 : x23_2 < (l0_0.length : Int)
     case neg =>
      rw [if_neg c22] at H
      exact absurd H (by simp)
     rw [if_pos c22] at H
     have c22b0 : decide (x23_2 < (l0_0.length : Int)) = true := decide_eq_true c22
     clear c22
     by_cases c23 : ((rd_T47 l1_0 x23_2).f0).toList = ((rd_T53 l0_0 x23_2).f0).toList
     case neg =>
      rw [if_neg c23] at H
      have c23b0 : (((rd_T47 l1_0 x23_2).f0).toList == ((rd_T53 l0_0 x23_2).f0).toList) = false := beq_eq_false_iff_ne.mpr c23
      have c23b1 : (((rd_T47 l1_0 x23_2).f0).toList != ((rd_T53 l0_0 x23_2).f0).toList) = true := bne_iff_ne.mpr c23
      obtain rfl := Option.some.inj H
      have p373 : 0 ≤ (x23_2 : Int) := of_decide_eq_true asw
      have q373 : x23_2 < (l1_0.length : Int) := of_decide_eq_true asw
      obtain ⟨ad373, A373_1, c373_1, e373, hx373_0, hx373_1, hl373_1, hi373_1⟩ := at_T47 HR1_0.out x23_2 p373 q373
      cases e373
      replace hx373_0 := upw HB.out hx373_0
      replace hx373_1 := upw HB.out hx373_1
      have HR373_1 := Aside0.mk hi373_1
      have HC373_1 := Aside0.mk hl373_1
      clear hi373_1 hl373_1
      replace p373 := eq_true p373
      replace q373 := eq_true q373
      try go_wp2_with (first | ((with_reducible refine gate_dst (N := 6) rfl ?_); (try (refine gate_guard (by rfl) ?_; dsimp only)); refine box_event ?hg (N := 6) ?hd (cs := #[.string (⟨#[]⟩ : ByteArray), .slice none 0 0]) (t := 47) ?hr ?_; (case hd => rfl); (case hg => rfl); (case hr => exact hrw); intro gb374 hg w55 hbox hb; have n0_ := Aside0.mk (blk_below (g := gb370) (o := .cells #[.slice A0_0 l0_0.length c0_0] 33 (0, 0)) bkw hb); have n1_ := Aside0.mk (blk_below (g := gb371) (o := .cells #[.slice (some ad373) l1_0.length c1_0] 37 (0, 0)) bkw hb); have n2_ := Aside0.mk (below_step blw hb); have n3_ := Aside0.mk (hbox); have n4_ := Aside0.mk ((by rw [hg]; exact (below_size blw) : w.heap.size ≤ gb374)); have n5_ := n4_; have n6_ := Aside0.mk ((by rw [hg]; exact Nat.ne_of_lt (blk_lt (g := gb370) (o := .cells #[.slice A0_0 l0_0.length c0_0] 33 (0, 0)) bkw) : gb370 ≠ gb374)); have n7_ := Aside0.mk ((by rw [hg]; exact Nat.ne_of_gt (blk_lt (g := gb370) (o := .cells #[.slice A0_0 l0_0.length c0_0] 33 (0, 0)) bkw) : gb374 ≠ gb370)); have n8_ := Aside0.mk ((by rw [hg]; exact Nat.ne_of_lt (blk_lt (g := gb371) (o := .cells #[.slice (some ad373) l1_0.length c1_0] 37 (0, 0)) bkw) : gb371 ≠ gb374)); have n9_ := Aside0.mk ((by rw [hg]; exact Nat.ne_of_gt (blk_lt (g := gb371) (o := .cells #[.slice (some ad373) l1_0.length c1_0] 37 (0, 0)) bkw) : gb374 ≠ gb371)); clear BK370; clear BK371; clear HB; revert n0_ n1_ n2_ n3_ n4_ n5_ n6_ n7_ n8_ n9_; intro BK370 BK371 HB BK374 GW374 GE374 NB370_374 NB374_370 NB371_374 NB374_371; clear hb hbox hg; have hnb56 := NB374_370.out; have hnc56 := NB370_374.out; have hnb57 := NB374_371.out; have hnc57 := NB371_374.out; obtain ⟨hcz58_0, hcz58_1⟩ := cls2 BK374.out; obtain ⟨hfz58_0, hfz58_1⟩ := frz2 BK374.out; have hnb59 := NB370_371.out; have hnc59 := NB371_370.out; have hcz60_0 : w55.cell? ⟨gb370, 0, none⟩ = some (.slice A0_0 l0_0.length c0_0) := (blk_cell BK370.out 0).trans rfl; have hfz60_0 := blk_frozen BK370.out 0; have p375 : 0 ≤ (x23_2 : Int) := of_decide_eq_true asw; have q375 : x23_2 < (l0_0.length : Int) := of_decide_eq_true asw; obtain ⟨ad375, A375_2, c375_2, A375_3, c375_3, e375, hx375_0, hx375_1, hx375_2, hx375_3, hl375_2, hi375_2, hl375_3, hi375_3⟩ := at_T53 HR0_0.out x23_2 p375 q375; cases e375; have HP375 := Aside0.mk (show Cells w (ad375.add (x23_2.toNat * 4)) [.string ((rd_T53 l0_0 x23_2).f0), .int .i64 ((rd_T53 l0_0 x23_2).f1.f0), .slice A375_2 ((rd_T53 l0_0 x23_2).f1.f1).length c375_2, .slice A375_3 ((rd_T53 l0_0 x23_2).f1.f2).length c375_3] from ⟨hx375_0, hx375_1, hx375_2, hx375_3, trivial⟩); have hn375_0 : ad375.block ≠ gb374 := Nat.ne_of_lt (Nat.lt_of_lt_of_le (by have := World.block_lt_of_cell? _ _ hx375_0; first | rwa [add_block] at this | exact this) GW374.out); have hn375_1 : ad375.block ≠ gb374 := Nat.ne_of_lt (Nat.lt_of_lt_of_le (by have := World.block_lt_of_cell? _ _ hx375_0; first | rwa [add_block] at this | exact this) GW374.out); replace hx375_0 := upw HB.out hx375_0; replace hx375_1 := upw HB.out hx375_1; replace hx375_2 := upw HB.out hx375_2; replace hx375_3 := upw HB.out hx375_3; have HR375_2 := Aside0.mk hi375_2; have HC375_2 := Aside0.mk hl375_2; clear hi375_2 hl375_2; have HR375_3 := Aside0.mk hi375_3; have HC375_3 := Aside0.mk hl375_3; clear hi375_3 hl375_3; replace hx375_0 := cfr hx375_0 ⟨gb374, 0, none⟩ (.string ((rd_T47 l1_0 x23_2).f0)) hn375_0; replace hx375_1 := cfr hx375_1 ⟨gb374, 0, none⟩ (.string ((rd_T47 l1_0 x23_2).f0)) hn375_0; replace hx375_2 := cfr hx375_2 ⟨gb374, 0, none⟩ (.string ((rd_T47 l1_0 x23_2).f0)) hn375_0; replace hx375_3 := cfr hx375_3 ⟨gb374, 0, none⟩ (.string ((rd_T47 l1_0 x23_2).f0)) hn375_0; replace hx375_0 := cfr hx375_0 ⟨gb374, 1, none⟩ (.slice A373_1 ((rd_T47 l1_0 x23_2).f1).length c373_1) hn375_1; replace hx375_1 := cfr hx375_1 ⟨gb374, 1, none⟩ (.slice A373_1 ((rd_T47 l1_0 x23_2).f1).length c373_1) hn375_1; replace hx375_2 := cfr hx375_2 ⟨gb374, 1, none⟩ (.slice A373_1 ((rd_T47 l1_0 x23_2).f1).length c373_1) hn375_1; replace hx375_3 := cfr hx375_3 ⟨gb374, 1, none⟩ (.slice A373_1 ((rd_T47 l1_0 x23_2).f1).length c373_1) hn375_1; clear hn375_0; clear hn375_1; replace p375 := eq_true p375; replace q375 := eq_true q375) | ((with_reducible refine gate_dst (N := 7) rfl ?_); (try (refine gate_guard (by rfl) ?_; dsimp only)); refine box_event ?hg (N := 7) ?hd (cs := #[.pointer none]) (t := 59) ?hr ?_; (case hd => rfl); (case hg => rfl); (case hr => exact hrw); intro gb376 hg w61 hbox hb; have n0_ := Aside0.mk (blk_below (g := gb370) (o := .cells #[.slice (some ad375) l0_0.length c0_0] 33 (0, 0)) (by (with_reducible repeat (first | refine blk_drewN ?_ _ | refine blk_drew ?_ | refine blk_alloc ?_ _)); refine blk_far ?_ NB370_374.out _; (with_reducible repeat (first | refine blk_drewN ?_ _ | refine blk_drew ?_ | refine blk_alloc ?_ _)); refine blk_far ?_ NB370_374.out _; (with_reducible repeat (first | refine blk_drewN ?_ _ | refine blk_drew ?_ | refine blk_alloc ?_ _)); exact BK370.out) hb); have n1_ := Aside0.mk (blk_below (g := gb371) (o := .cells #[.slice (some ad373) l1_0.length c1_0] 37 (0, 0)) (by (with_reducible repeat (first | refine blk_drewN ?_ _ | refine blk_drew ?_ | refine blk_alloc ?_ _)); refine blk_far ?_ NB371_374.out _; (with_reducible repeat (first | refine blk_drewN ?_ _ | refine blk_drew ?_ | refine blk_alloc ?_ _)); refine blk_far ?_ NB371_374.out _; (with_reducible repeat (first | refine blk_drewN ?_ _ | refine blk_drew ?_ | refine blk_alloc ?_ _)); exact BK371.out) hb); have n2_ := Aside0.mk (blk_below (g := gb374) (o := .cells #[.string ((rd_T47 l1_0 x23_2).f0), .slice A373_1 ((rd_T47 l1_0 x23_2).f1).length c373_1] 47 (0, 0)) (by (with_reducible repeat (first | refine blk_drewN ?_ _ | refine blk_drew ?_ | refine blk_alloc ?_ _)); refine blk_put (cs := #[.string ((rd_T47 l1_0 x23_2).f0), .slice none 0 0]) ?_ 1 _ rfl; (with_reducible repeat (first | refine blk_drewN ?_ _ | refine blk_drew ?_ | refine blk_alloc ?_ _)); refine blk_put (cs := #[.string (⟨#[]⟩ : ByteArray), .slice none 0 0]) ?_ 0 _ rfl; (with_reducible repeat (first | refine blk_drewN ?_ _ | refine blk_drew ?_ | refine blk_alloc ?_ _)); exact BK374.out) hb); have n3_ := Aside0.mk (below_step blw hb); have n4_ := Aside0.mk (hbox); have n5_ := Aside0.mk ((by rw [hg]; exact (below_size blw) : w.heap.size ≤ gb376)); have n6_ := n5_; have n7_ := Aside0.mk ((by rw [hg]; exact Nat.ne_of_lt (blk_lt (g := gb370) (o := .cells #[.slice (some ad375) l0_0.length c0_0] 33 (0, 0)) (by (with_reducible repeat (first | refine blk_drewN ?_ _ | refine blk_drew ?_ | refine blk_alloc ?_ _)); refine blk_far ?_ NB370_374.out _; (with_reducible repeat (first | refine blk_drewN ?_ _ | refine blk_drew ?_ | refine blk_alloc ?_ _)); refine blk_far ?_ NB370_374.out _; (with_reducible repeat (first | refine blk_drewN ?_ _ | refine blk_drew ?_ | refine blk_alloc ?_ _)); exact BK370.out)) : gb370 ≠ gb376)); have n8_ := Aside0.mk ((by rw [hg]; exact Nat.ne_of_gt (blk_lt (g := gb370) (o := .cells #[.slice (some ad375) l0_0.length c0_0] 33 (0, 0)) (by (with_reducible repeat (first | refine blk_drewN ?_ _ | refine blk_drew ?_ | refine blk_alloc ?_ _)); refine blk_far ?_ NB370_374.out _; (with_reducible repeat (first | refine blk_drewN ?_ _ | refine blk_drew ?_ | refine blk_alloc ?_ _)); refine blk_far ?_ NB370_374.out _; (with_reducible repeat (first | refine blk_drewN ?_ _ | refine blk_drew ?_ | refine blk_alloc ?_ _)); exact BK370.out)) : gb376 ≠ gb370)); have n9_ := Aside0.mk ((by rw [hg]; exact Nat.ne_of_lt (blk_lt (g := gb371) (o := .cells #[.slice (some ad373) l1_0.length c1_0] 37 (0, 0)) (by (with_reducible repeat (first | refine blk_drewN ?_ _ | refine blk_drew ?_ | refine blk_alloc ?_ _)); refine blk_far ?_ NB371_374.out _; (with_reducible repeat (first | refine blk_drewN ?_ _ | refine blk_drew ?_ | refine blk_alloc ?_ _)); refine blk_far ?_ NB371_374.out _; (with_reducible repeat (first | refine blk_drewN ?_ _ | refine blk_drew ?_ | refine blk_alloc ?_ _)); exact BK371.out)) : gb371 ≠ gb376)); have n10_ := Aside0.mk ((by rw [hg]; exact Nat.ne_of_gt (blk_lt (g := gb371) (o := .cells #[.slice (some ad373) l1_0.length c1_0] 37 (0, 0)) (by (with_reducible repeat (first | refine blk_drewN ?_ _ | refine blk_drew ?_ | refine blk_alloc ?_ _)); refine blk_far ?_ NB371_374.out _; (with_reducible repeat (first | refine blk_drewN ?_ _ | refine blk_drew ?_ | refine blk_alloc ?_ _)); refine blk_far ?_ NB371_374.out _; (with_reducible repeat (first | refine blk_drewN ?_ _ | refine blk_drew ?_ | refine blk_alloc ?_ _)); exact BK371.out)) : gb376 ≠ gb371)); have n11_ := Aside0.mk ((by rw [hg]; exact Nat.ne_of_lt (blk_lt (g := gb374) (o := .cells #[.string ((rd_T47 l1_0 x23_2).f0), .slice A373_1 ((rd_T47 l1_0 x23_2).f1).length c373_1] 47 (0, 0)) (by (with_reducible repeat (first | refine blk_drewN ?_ _ | refine blk_drew ?_ | refine blk_alloc ?_ _)); refine blk_put (cs := #[.string ((rd_T47 l1_0 x23_2).f0), .slice none 0 0]) ?_ 1 _ rfl; (with_reducible repeat (first | refine blk_drewN ?_ _ | refine blk_drew ?_ | refine blk_alloc ?_ _)); refine blk_put (cs := #[.string (⟨#[]⟩ : ByteArray), .slice none 0 0]) ?_ 0 _ rfl; (with_reducible repeat (first | refine blk_drewN ?_ _ | refine blk_drew ?_ | refine blk_alloc ?_ _)); exact BK374.out)) : gb374 ≠ gb376)); have n12_ := Aside0.mk ((by rw [hg]; exact Nat.ne_of_gt (blk_lt (g := gb374) (o := .cells #[.string ((rd_T47 l1_0 x23_2).f0), .slice A373_1 ((rd_T47 l1_0 x23_2).f1).length c373_1] 47 (0, 0)) (by (with_reducible repeat (first | refine blk_drewN ?_ _ | refine blk_drew ?_ | refine blk_alloc ?_ _)); refine blk_put (cs := #[.string ((rd_T47 l1_0 x23_2).f0), .slice none 0 0]) ?_ 1 _ rfl; (with_reducible repeat (first | refine blk_drewN ?_ _ | refine blk_drew ?_ | refine blk_alloc ?_ _)); refine blk_put (cs := #[.string (⟨#[]⟩ : ByteArray), .slice none 0 0]) ?_ 0 _ rfl; (with_reducible repeat (first | refine blk_drewN ?_ _ | refine blk_drew ?_ | refine blk_alloc ?_ _)); exact BK374.out)) : gb376 ≠ gb374)); clear BK370; clear BK371; clear BK374; clear HB; revert n0_ n1_ n2_ n3_ n4_ n5_ n6_ n7_ n8_ n9_ n10_ n11_ n12_; intro BK370 BK371 BK374 HB BK376 GW376 GE376 NB370_376 NB376_370 NB371_376 NB376_371 NB374_376 NB376_374; clear hb hbox hg; have hnb62 := NB376_370.out; have hnc62 := NB370_376.out; have hnb63 := NB376_371.out; have hnc63 := NB371_376.out; have hnb64 := NB376_374.out; have hnc64 := NB374_376.out; have hcz65_0 : w61.cell? ⟨gb376, 0, none⟩ = some (.pointer none) := (blk_cell BK376.out 0).trans rfl; have hfz65_0 := blk_frozen BK376.out 0))
      have n0_ : Aside0 ((w61.setCell ⟨gb376, 0, none⟩ (.pointer (some (ad375.add (x23_2.toNat * 4))))).heap[gb370]? = some (.cells #[.slice (some ad375) l0_0.length c0_0] 33 (0, 0))) := ⟨by (with_reducible repeat (first | refine blk_drewN ?_ _ | refine blk_drew ?_ | refine blk_alloc ?_ _)); refine blk_far ?_ NB370_376.out _; (with_reducible repeat (first | refine blk_drewN ?_ _ | refine blk_drew ?_ | refine blk_alloc ?_ _)); exact BK370.out⟩
      have n1_ : Aside0 ((w61.setCell ⟨gb376, 0, none⟩ (.pointer (some (ad375.add (x23_2.toNat * 4))))).heap[gb371]? = some (.cells #[.slice (some ad373) l1_0.length c1_0] 37 (0, 0))) := ⟨by (with_reducible repeat (first | refine blk_drewN ?_ _ | refine blk_drew ?_ | refine blk_alloc ?_ _)); refine blk_far ?_ NB371_376.out _; (with_reducible repeat (first | refine blk_drewN ?_ _ | refine blk_drew ?_ | refine blk_alloc ?_ _)); exact BK371.out⟩
      have n2_ : Aside0 ((w61.setCell ⟨gb376, 0, none⟩ (.pointer (some (ad375.add (x23_2.toNat * 4))))).heap[gb374]? = some (.cells #[.string ((rd_T47 l1_0 x23_2).f0), .slice A373_1 ((rd_T47 l1_0 x23_2).f1).length c373_1] 47 (0, 0))) := ⟨by (with_reducible repeat (first | refine blk_drewN ?_ _ | refine blk_drew ?_ | refine blk_alloc ?_ _)); refine blk_far ?_ NB374_376.out _; (with_reducible repeat (first | refine blk_drewN ?_ _ | refine blk_drew ?_ | refine blk_alloc ?_ _)); exact BK374.out⟩
      have n3_ : Aside0 ((w61.setCell ⟨gb376, 0, none⟩ (.pointer (some (ad375.add (x23_2.toNat * 4))))).heap[gb376]? = some (.cells #[.pointer (some (ad375.add (x23_2.toNat * 4)))] 59 (0, 0))) := ⟨by (with_reducible repeat (first | refine blk_drewN ?_ _ | refine blk_drew ?_ | refine blk_alloc ?_ _)); refine blk_put (cs := #[.pointer none]) ?_ 0 _ rfl; (with_reducible repeat (first | refine blk_drewN ?_ _ | refine blk_drew ?_ | refine blk_alloc ?_ _)); exact BK376.out⟩
      have n4_ : Aside0 (Below w.heap.size w (w61.setCell ⟨gb376, 0, none⟩ (.pointer (some (ad375.add (x23_2.toNat * 4)))))) := ⟨blw⟩
      (try clear BK370)
      (try clear BK371)
      (try clear BK374)
      (try clear BK376)
      (try clear HB)
      generalize (w61.setCell ⟨gb376, 0, none⟩ (.pointer (some (ad375.add (x23_2.toNat * 4))))) = w66 at n0_ n1_ n2_ n3_ n4_ ⊢
      revert n0_ n1_ n2_ n3_ n4_
      intro BK370 BK371 BK374 BK376 HB
      have n0_ := Aside0.mk (blk_drew BK370.out)
      have n1_ := Aside0.mk (blk_drew BK371.out)
      have n2_ := Aside0.mk (blk_drew BK374.out)
      have n3_ := Aside0.mk (blk_drew BK376.out)
      have n4_ := Aside0.mk (below_drew1 HB.out)
      clear BK370
      clear BK371
      clear BK374
      clear BK376
      clear HB
      revert n0_ n1_ n2_ n3_ n4_
      intro BK370 BK371 BK374 BK376 HB
      refine start_ (n := 19) (S := fun w' => w'.cell? ⟨gb374, 0, none⟩ = some (.string ((rd_T47 l1_0 x23_2).f0)) ∧ w'.cell? ⟨gb374, 1, none⟩ = some (.slice A373_1 ((rd_T47 l1_0 x23_2).f1).length c373_1) ∧ w'.cell? ⟨gb376, 0, none⟩ = some (.pointer (some (ad375.add (x23_2.toNat * 4)))) ∧ w'.cell? (ad375.add (x23_2.toNat * 4)) = some (.string ((rd_T53 l0_0 x23_2).f0)) ∧ w'.cell? ⟨(ad375.add (x23_2.toNat * 4)).block, (ad375.add (x23_2.toNat * 4)).off + 1, none⟩ = some (.int .i64 ((rd_T53 l0_0 x23_2).f1.f0)) ∧ w'.cell? ⟨(ad375.add (x23_2.toNat * 4)).block, (ad375.add (x23_2.toNat * 4)).off + 2, none⟩ = some (.slice A375_2 ((rd_T53 l0_0 x23_2).f1.f1).length c375_2) ∧ w'.cell? ⟨(ad375.add (x23_2.toNat * 4)).block, (ad375.add (x23_2.toNat * 4)).off + 3, none⟩ = some (.slice A375_3 ((rd_T53 l0_0 x23_2).f1.f2).length c375_3)) (ds := []) #[false,false,false,false,false,false,false,false,false,false,false,false,false,false,false,false,false,false,false] kr rfl rfl ⟨(blk_cell BK374.out 0).trans rfl, (blk_cell BK374.out 1).trans rfl, (blk_cell BK376.out 0).trans rfl, (by first | exact pw_cell_below HB.out (HP375.out.1) | exact HP375.out.1), (by first | exact pw_cell_below HB.out (HP375.out.2.1) | exact HP375.out.2.1), (by first | exact pw_cell_below HB.out (HP375.out.2.2.1) | exact HP375.out.2.2.1), (by first | exact pw_cell_below HB.out (HP375.out.2.2.2.1) | exact HP375.out.2.2.2.1)⟩ (fun hHeld => ?_); refine with_tabW impl_IsDB.tab7 impl_IsDB.bits7 (fun HT_ HW_ => ?_)
      generalize w66.drew = w67 at BK370 BK371 BK374 BK376 HB hHeld ⊢
      refine pure_ (i := 0) (N := some 32) (v := ?_) (a' := ?_) (bm 19 1) rfl rfl (any_of HT_.out kr) qi (Or.inl ⟨by rfl, ?_⟩) ?_ ?_
      rotate_left
      ·intro w'
       go_simp
       with_reducible rfl
      rotate_left
      ·simp only [sx]
       rfl
      refine take_ (i := 1) (N := some 33) (v := ?_) (a' := ?_) (bm 19 3) rfl rfl (take_ofW HT_.out HW_.out kr) qi (Or.inl ⟨by rfl, ?_⟩) hHeld ?_ ?_
      rotate_left
      ·rintro w' ⟨s0, s1, s2, s3, s4, s5, s6⟩
       go_simp
       with_reducible rfl
      rotate_left
      ·simp only [sx]
       rfl
      refine take_ (i := 2) (N := some 34) (v := ?_) (a' := ?_) (bm 19 7) rfl rfl (take_ofW HT_.out HW_.out kr) qi (Or.inl ⟨by rfl, ?_⟩) hHeld ?_ ?_
      rotate_left
      ·rintro w' ⟨s0, s1, s2, s3, s4, s5, s6⟩
       go_simp
       with_reducible rfl
      rotate_left
      ·simp only [sx]
       rfl
      refine pure_ (i := 3) (N := some 35) (v := ?_) (a' := ?_) (bm 19 15) rfl rfl (any_of HT_.out kr) qi (Or.inl ⟨by rfl, ?_⟩) ?_ ?_
      rotate_left
      ·intro w'
       go_simp
       with_reducible rfl
      rotate_left
      ·simp only [sx]
       rfl
      refine pure_ (i := 4) (N := some 36) (v := ?_) (a' := ?_) (bm 19 31) rfl rfl (any_of HT_.out kr) qi (Or.inl ⟨by rfl, ?_⟩) ?_ ?_
      rotate_left
      ·intro w'
       go_simp
       with_reducible rfl
      rotate_left
      ·simp only [sx]
       rfl
      refine take_ (i := 5) (N := some 37) (v := ?_) (a' := ?_) (bm 19 63) rfl rfl (take_ofW HT_.out HW_.out kr) qi (Or.inl ⟨by rfl, ?_⟩) hHeld ?_ ?_
      rotate_left
      ·rintro w' ⟨s0, s1, s2, s3, s4, s5, s6⟩
       go_simp
       with_reducible rfl
      rotate_left
      ·simp only [sx]
       rfl
      refine pure_ (i := 6) (N := some 38) (v := ?_) (a' := ?_) (bm 19 127) rfl rfl (any_of HT_.out kr) qi (Or.inl ⟨by rfl, ?_⟩) ?_ ?_
      rotate_left
      ·intro w'
       go_simp
       with_reducible rfl
      rotate_left
      ·simp only [sx]
       rfl
      refine pure_ (i := 7) (N := some 39) (v := ?_) (a' := ?_) (bm 19 255) rfl rfl (any_of HT_.out kr) qi (Or.inl ⟨by rfl, ?_⟩) ?_ ?_
      rotate_left
      ·intro w'
       go_simp
       with_reducible rfl
      rotate_left
      ·simp only [sx]
       rfl
      refine pure_ (i := 8) (N := some 40) (v := undef) (a' := ?_) (bm 19 511) rfl rfl (any_of HT_.out kr) qi (Or.inr ⟨by rfl, rfl⟩) ?_ ?_
      rotate_left
      ·simp only [sx]
       rfl
      refine pure_ (i := 9) (N := some 41) (v := undef) (a' := ?_) (bm 19 1023) rfl rfl (any_of HT_.out kr) qi (Or.inr ⟨by rfl, rfl⟩) ?_ ?_
      rotate_left
      ·simp only [sx]
       rfl
      refine pure_ (i := 10) (N := some 42) (v := undef) (a' := ?_) (bm 19 2047) rfl rfl (any_of HT_.out kr) qi (Or.inr ⟨by rfl, rfl⟩) ?_ ?_
      rotate_left
      ·simp only [sx]
       rfl
      refine pure_ (i := 11) (N := some 43) (v := undef) (a' := ?_) (bm 19 4095) rfl rfl (any_of HT_.out kr) qi (Or.inr ⟨by rfl, rfl⟩) ?_ ?_
      rotate_left
      ·simp only [sx]
       rfl
      refine pure_ (i := 12) (N := some 44) (v := ?_) (a' := ?_) (bm 19 8191) rfl rfl (any_of HT_.out kr) qi (Or.inl ⟨by rfl, ?_⟩) ?_ ?_
      rotate_left
      ·intro w'
       go_simp
       with_reducible rfl
      rotate_left
      ·simp only [sx]
       rfl
      refine pure_ (i := 13) (N := some 45) (v := ?_) (a' := ?_) (bm 19 16383) rfl rfl (any_of HT_.out kr) qi (Or.inl ⟨by rfl, ?_⟩) ?_ ?_
      rotate_left
      ·intro w'
       go_simp
       with_reducible rfl
      rotate_left
      ·simp only [sx]
       rfl
      refine pure_ (i := 14) (N := some 46) (v := undef) (a' := ?_) (bm 19 32767) rfl rfl (any_of HT_.out kr) qi (Or.inr ⟨by rfl, rfl⟩) ?_ ?_
      rotate_left
      ·simp only [sx]
       rfl
      refine pure_ (i := 15) (N := some 47) (v := undef) (a' := ?_) (bm 19 65535) rfl rfl (any_of HT_.out kr) qi (Or.inr ⟨by rfl, rfl⟩) ?_ ?_
      rotate_left
      ·simp only [sx]
       rfl
      refine pure_ (i := 16) (N := some 48) (v := undef) (a' := ?_) (bm 19 131071) rfl rfl (any_of HT_.out kr) qi (Or.inr ⟨by rfl, rfl⟩) ?_ ?_
      rotate_left
      ·simp only [sx]
       rfl
      refine pure_ (i := 17) (N := some 49) (v := undef) (a' := ?_) (bm 19 262143) rfl rfl (any_of HT_.out kr) qi (Or.inr ⟨by rfl, rfl⟩) ?_ ?_
      rotate_left
      ·simp only [sx]
       rfl
      refine pure_ (i := 18) (N := some 50) (v := ?_) (a' := ?_) (bm 19 524287) rfl rfl (any_of HT_.out kr) qi (Or.inl ⟨by rfl, ?_⟩) ?_ ?_
      rotate_left
      ·intro w'
       go_simp
       with_reducible rfl
      rotate_left
      ·simp only [sx]
       rfl
      refine done_ (done_of HT_.out kr) ?_
      try go_wp2
      go_ret
      exact ⟨rfw, blw⟩
     rw [if_pos c23] at H
     have c23b0 : (((rd_T47 l1_0 x23_2).f0).toList == ((rd_T53 l0_0 x23_2).f0).toList) = true := beq_iff_eq.mpr c23
     have c23b1 : (((rd_T47 l1_0 x23_2).f0).toList != ((rd_T53 l0_0 x23_2).f0).toList) = false := bne_eq_false_iff_eq.mpr c23
     clear c23
     by_cases c24 : (((rd_T47 l1_0 x23_2).f1).length : Int) > 8
     ·rw [if_pos c24] at H
      have c24b0 : decide (8 < (((rd_T47 l1_0 x23_2).f1).length : Int)) = true := decide_eq_true c24
      have c24b1 : decide (8 < ((rd_T47 l1_0 x23_2).f1).length) = true := decide_eq_true (by omega)
      clear c24
      obtain rfl := Option.some.inj H
      have p373 : 0 ≤ (x23_2 : Int) := of_decide_eq_true asw
      have q373 : x23_2 < (l1_0.length : Int) := of_decide_eq_true asw
      obtain ⟨ad373, A373_1, c373_1, e373, hx373_0, hx373_1, hl373_1, hi373_1⟩ := at_T47 HR1_0.out x23_2 p373 q373
      cases e373
      replace hx373_0 := upw HB.out hx373_0
      replace hx373_1 := upw HB.out hx373_1
      have HR373_1 := Aside0.mk hi373_1
      have HC373_1 := Aside0.mk hl373_1
      clear hi373_1 hl373_1
      replace p373 := eq_true p373
      replace q373 := eq_true q373
      try go_wp2_with (first | ((with_reducible refine gate_dst (N := 6) rfl ?_); (try (refine gate_guard (by rfl) ?_; dsimp only)); refine box_event ?hg (N := 6) ?hd (cs := #[.string (⟨#[]⟩ : ByteArray), .slice none 0 0]) (t := 47) ?hr ?_; (case hd => rfl); (case hg => rfl); (case hr => exact hrw); intro gb374 hg w25 hbox hb; have n0_ := Aside0.mk (blk_below (g := gb370) (o := .cells #[.slice A0_0 l0_0.length c0_0] 33 (0, 0)) bkw hb); have n1_ := Aside0.mk (blk_below (g := gb371) (o := .cells #[.slice (some ad373) l1_0.length c1_0] 37 (0, 0)) bkw hb); have n2_ := Aside0.mk (below_step blw hb); have n3_ := Aside0.mk (hbox); have n4_ := Aside0.mk ((by rw [hg]; exact (below_size blw) : w.heap.size ≤ gb374)); have n5_ := n4_; have n6_ := Aside0.mk ((by rw [hg]; exact Nat.ne_of_lt (blk_lt (g := gb370) (o := .cells #[.slice A0_0 l0_0.length c0_0] 33 (0, 0)) bkw) : gb370 ≠ gb374)); have n7_ := Aside0.mk ((by rw [hg]; exact Nat.ne_of_gt (blk_lt (g := gb370) (o := .cells #[.slice A0_0 l0_0.length c0_0] 33 (0, 0)) bkw) : gb374 ≠ gb370)); have n8_ := Aside0.mk ((by rw [hg]; exact Nat.ne_of_lt (blk_lt (g := gb371) (o := .cells #[.slice (some ad373) l1_0.length c1_0] 37 (0, 0)) bkw) : gb371 ≠ gb374)); have n9_ := Aside0.mk ((by rw [hg]; exact Nat.ne_of_gt (blk_lt (g := gb371) (o := .cells #[.slice (some ad373) l1_0.length c1_0] 37 (0, 0)) bkw) : gb374 ≠ gb371)); clear BK370; clear BK371; clear HB; revert n0_ n1_ n2_ n3_ n4_ n5_ n6_ n7_ n8_ n9_; intro BK370 BK371 HB BK374 GW374 GE374 NB370_374 NB374_370 NB371_374 NB374_371; clear hb hbox hg; have hnb26 := NB374_370.out; have hnc26 := NB370_374.out; have hnb27 := NB374_371.out; have hnc27 := NB371_374.out; obtain ⟨hcz28_0, hcz28_1⟩ := cls2 BK374.out; obtain ⟨hfz28_0, hfz28_1⟩ := frz2 BK374.out; have hnb29 := NB370_371.out; have hnc29 := NB371_370.out; have hcz30_0 : w25.cell? ⟨gb370, 0, none⟩ = some (.slice A0_0 l0_0.length c0_0) := (blk_cell BK370.out 0).trans rfl; have hfz30_0 := blk_frozen BK370.out 0; have p375 : 0 ≤ (x23_2 : Int) := of_decide_eq_true asw; have q375 : x23_2 < (l0_0.length : Int) := of_decide_eq_true asw; obtain ⟨ad375, A375_2, c375_2, A375_3, c375_3, e375, hx375_0, hx375_1, hx375_2, hx375_3, hl375_2, hi375_2, hl375_3, hi375_3⟩ := at_T53 HR0_0.out x23_2 p375 q375; cases e375; have HP375 := Aside0.mk (show Cells w (ad375.add (x23_2.toNat * 4)) [.string ((rd_T53 l0_0 x23_2).f0), .int .i64 ((rd_T53 l0_0 x23_2).f1.f0), .slice A375_2 ((rd_T53 l0_0 x23_2).f1.f1).length c375_2, .slice A375_3 ((rd_T53 l0_0 x23_2).f1.f2).length c375_3] from ⟨hx375_0, hx375_1, hx375_2, hx375_3, trivial⟩); have hn375_0 : ad375.block ≠ gb374 := Nat.ne_of_lt (Nat.lt_of_lt_of_le (by have := World.block_lt_of_cell? _ _ hx375_0; first | rwa [add_block] at this | exact this) GW374.out); have hn375_1 : ad375.block ≠ gb374 := Nat.ne_of_lt (Nat.lt_of_lt_of_le (by have := World.block_lt_of_cell? _ _ hx375_0; first | rwa [add_block] at this | exact this) GW374.out); replace hx375_0 := upw HB.out hx375_0; replace hx375_1 := upw HB.out hx375_1; replace hx375_2 := upw HB.out hx375_2; replace hx375_3 := upw HB.out hx375_3; have HR375_2 := Aside0.mk hi375_2; have HC375_2 := Aside0.mk hl375_2; clear hi375_2 hl375_2; have HR375_3 := Aside0.mk hi375_3; have HC375_3 := Aside0.mk hl375_3; clear hi375_3 hl375_3; replace hx375_0 := cfr hx375_0 ⟨gb374, 0, none⟩ (.string ((rd_T47 l1_0 x23_2).f0)) hn375_0; replace hx375_1 := cfr hx375_1 ⟨gb374, 0, none⟩ (.string ((rd_T47 l1_0 x23_2).f0)) hn375_0; replace hx375_2 := cfr hx375_2 ⟨gb374, 0, none⟩ (.string ((rd_T47 l1_0 x23_2).f0)) hn375_0; replace hx375_3 := cfr hx375_3 ⟨gb374, 0, none⟩ (.string ((rd_T47 l1_0 x23_2).f0)) hn375_0; replace hx375_0 := cfr hx375_0 ⟨gb374, 1, none⟩ (.slice A373_1 ((rd_T47 l1_0 x23_2).f1).length c373_1) hn375_1; replace hx375_1 := cfr hx375_1 ⟨gb374, 1, none⟩ (.slice A373_1 ((rd_T47 l1_0 x23_2).f1).length c373_1) hn375_1; replace hx375_2 := cfr hx375_2 ⟨gb374, 1, none⟩ (.slice A373_1 ((rd_T47 l1_0 x23_2).f1).length c373_1) hn375_1; replace hx375_3 := cfr hx375_3 ⟨gb374, 1, none⟩ (.slice A373_1 ((rd_T47 l1_0 x23_2).f1).length c373_1) hn375_1; clear hn375_0; clear hn375_1; replace p375 := eq_true p375; replace q375 := eq_true q375) | ((with_reducible refine gate_dst (N := 7) rfl ?_); (try (refine gate_guard (by rfl) ?_; dsimp only)); refine box_event ?hg (N := 7) ?hd (cs := #[.pointer none]) (t := 59) ?hr ?_; (case hd => rfl); (case hg => rfl); (case hr => exact hrw); intro gb376 hg w31 hbox hb; have n0_ := Aside0.mk (blk_below (g := gb370) (o := .cells #[.slice (some ad375) l0_0.length c0_0] 33 (0, 0)) (by (with_reducible repeat (first | refine blk_drewN ?_ _ | refine blk_drew ?_ | refine blk_alloc ?_ _)); refine blk_far ?_ NB370_374.out _; (with_reducible repeat (first | refine blk_drewN ?_ _ | refine blk_drew ?_ | refine blk_alloc ?_ _)); refine blk_far ?_ NB370_374.out _; (with_reducible repeat (first | refine blk_drewN ?_ _ | refine blk_drew ?_ | refine blk_alloc ?_ _)); exact BK370.out) hb); have n1_ := Aside0.mk (blk_below (g := gb371) (o := .cells #[.slice (some ad373) l1_0.length c1_0] 37 (0, 0)) (by (with_reducible repeat (first | refine blk_drewN ?_ _ | refine blk_drew ?_ | refine blk_alloc ?_ _)); refine blk_far ?_ NB371_374.out _; (with_reducible repeat (first | refine blk_drewN ?_ _ | refine blk_drew ?_ | refine blk_alloc ?_ _)); refine blk_far ?_ NB371_374.out _; (with_reducible repeat (first | refine blk_drewN ?_ _ | refine blk_drew ?_ | refine blk_alloc ?_ _)); exact BK371.out) hb); have n2_ := Aside0.mk (blk_below (g := gb374) (o := .cells #[.string ((rd_T47 l1_0 x23_2).f0), .slice A373_1 ((rd_T47 l1_0 x23_2).f1).length c373_1] 47 (0, 0)) (by (with_reducible repeat (first | refine blk_drewN ?_ _ | refine blk_drew ?_ | refine blk_alloc ?_ _)); refine blk_put (cs := #[.string ((rd_T47 l1_0 x23_2).f0), .slice none 0 0]) ?_ 1 _ rfl; (with_reducible repeat (first | refine blk_drewN ?_ _ | refine blk_drew ?_ | refine blk_alloc ?_ _)); refine blk_put (cs := #[.string (⟨#[]⟩ : ByteArray), .slice none 0 0]) ?_ 0 _ rfl; (with_reducible repeat (first | refine blk_drewN ?_ _ | refine blk_drew ?_ | refine blk_alloc ?_ _)); exact BK374.out) hb); have n3_ := Aside0.mk (below_step blw hb); have n4_ := Aside0.mk (hbox); have n5_ := Aside0.mk ((by rw [hg]; exact (below_size blw) : w.heap.size ≤ gb376)); have n6_ := n5_; have n7_ := Aside0.mk ((by rw [hg]; exact Nat.ne_of_lt (blk_lt (g := gb370) (o := .cells #[.slice (some ad375) l0_0.length c0_0] 33 (0, 0)) (by (with_reducible repeat (first | refine blk_drewN ?_ _ | refine blk_drew ?_ | refine blk_alloc ?_ _)); refine blk_far ?_ NB370_374.out _; (with_reducible repeat (first | refine blk_drewN ?_ _ | refine blk_drew ?_ | refine blk_alloc ?_ _)); refine blk_far ?_ NB370_374.out _; (with_reducible repeat (first | refine blk_drewN ?_ _ | refine blk_drew ?_ | refine blk_alloc ?_ _)); exact BK370.out)) : gb370 ≠ gb376)); have n8_ := Aside0.mk ((by rw [hg]; exact Nat.ne_of_gt (blk_lt (g := gb370) (o := .cells #[.slice (some ad375) l0_0.length c0_0] 33 (0, 0)) (by (with_reducible repeat (first | refine blk_drewN ?_ _ | refine blk_drew ?_ | refine blk_alloc ?_ _)); refine blk_far ?_ NB370_374.out _; (with_reducible repeat (first | refine blk_drewN ?_ _ | refine blk_drew ?_ | refine blk_alloc ?_ _)); refine blk_far ?_ NB370_374.out _; (with_reducible repeat (first | refine blk_drewN ?_ _ | refine blk_drew ?_ | refine blk_alloc ?_ _)); exact BK370.out)) : gb376 ≠ gb370)); have n9_ := Aside0.mk ((by rw [hg]; exact Nat.ne_of_lt (blk_lt (g := gb371) (o := .cells #[.slice (some ad373) l1_0.length c1_0] 37 (0, 0)) (by (with_reducible repeat (first | refine blk_drewN ?_ _ | refine blk_drew ?_ | refine blk_alloc ?_ _)); refine blk_far ?_ NB371_374.out _; (with_reducible repeat (first | refine blk_drewN ?_ _ | refine blk_drew ?_ | refine blk_alloc ?_ _)); refine blk_far ?_ NB371_374.out _; (with_reducible repeat (first | refine blk_drewN ?_ _ | refine blk_drew ?_ | refine blk_alloc ?_ _)); exact BK371.out)) : gb371 ≠ gb376)); have n10_ := Aside0.mk ((by rw [hg]; exact Nat.ne_of_gt (blk_lt (g := gb371) (o := .cells #[.slice (some ad373) l1_0.length c1_0] 37 (0, 0)) (by (with_reducible repeat (first | refine blk_drewN ?_ _ | refine blk_drew ?_ | refine blk_alloc ?_ _)); refine blk_far ?_ NB371_374.out _; (with_reducible repeat (first | refine blk_drewN ?_ _ | refine blk_drew ?_ | refine blk_alloc ?_ _)); refine blk_far ?_ NB371_374.out _; (with_reducible repeat (first | refine blk_drewN ?_ _ | refine blk_drew ?_ | refine blk_alloc ?_ _)); exact BK371.out)) : gb376 ≠ gb371)); have n11_ := Aside0.mk ((by rw [hg]; exact Nat.ne_of_lt (blk_lt (g := gb374) (o := .cells #[.string ((rd_T47 l1_0 x23_2).f0), .slice A373_1 ((rd_T47 l1_0 x23_2).f1).length c373_1] 47 (0, 0)) (by (with_reducible repeat (first | refine blk_drewN ?_ _ | refine blk_drew ?_ | refine blk_alloc ?_ _)); refine blk_put (cs := #[.string ((rd_T47 l1_0 x23_2).f0), .slice none 0 0]) ?_ 1 _ rfl; (with_reducible repeat (first | refine blk_drewN ?_ _ | refine blk_drew ?_ | refine blk_alloc ?_ _)); refine blk_put (cs := #[.string (⟨#[]⟩ : ByteArray), .slice none 0 0]) ?_ 0 _ rfl; (with_reducible repeat (first | refine blk_drewN ?_ _ | refine blk_drew ?_ | refine blk_alloc ?_ _)); exact BK374.out)) : gb374 ≠ gb376)); have n12_ := Aside0.mk ((by rw [hg]; exact Nat.ne_of_gt (blk_lt (g := gb374) (o := .cells #[.string ((rd_T47 l1_0 x23_2).f0), .slice A373_1 ((rd_T47 l1_0 x23_2).f1).length c373_1] 47 (0, 0)) (by (with_reducible repeat (first | refine blk_drewN ?_ _ | refine blk_drew ?_ | refine blk_alloc ?_ _)); refine blk_put (cs := #[.string ((rd_T47 l1_0 x23_2).f0), .slice none 0 0]) ?_ 1 _ rfl; (with_reducible repeat (first | refine blk_drewN ?_ _ | refine blk_drew ?_ | refine blk_alloc ?_ _)); refine blk_put (cs := #[.string (⟨#[]⟩ : ByteArray), .slice none 0 0]) ?_ 0 _ rfl; (with_reducible repeat (first | refine blk_drewN ?_ _ | refine blk_drew ?_ | refine blk_alloc ?_ _)); exact BK374.out)) : gb376 ≠ gb374)); clear BK370; clear BK371; clear BK374; clear HB; revert n0_ n1_ n2_ n3_ n4_ n5_ n6_ n7_ n8_ n9_ n10_ n11_ n12_; intro BK370 BK371 BK374 HB BK376 GW376 GE376 NB370_376 NB376_370 NB371_376 NB376_371 NB374_376 NB376_374; clear hb hbox hg; have hnb32 := NB376_370.out; have hnc32 := NB370_376.out; have hnb33 := NB376_371.out; have hnc33 := NB371_376.out; have hnb34 := NB376_374.out; have hnc34 := NB374_376.out; have hcz35_0 : w31.cell? ⟨gb376, 0, none⟩ = some (.pointer none) := (blk_cell BK376.out 0).trans rfl; have hfz35_0 := blk_frozen BK376.out 0))
      have n0_ : Aside0 ((w31.setCell ⟨gb376, 0, none⟩ (.pointer (some (ad375.add (x23_2.toNat * 4))))).heap[gb370]? = some (.cells #[.slice (some ad375) l0_0.length c0_0] 33 (0, 0))) := ⟨by (with_reducible repeat (first | refine blk_drewN ?_ _ | refine blk_drew ?_ | refine blk_alloc ?_ _)); refine blk_far ?_ NB370_376.out _; (with_reducible repeat (first | refine blk_drewN ?_ _ | refine blk_drew ?_ | refine blk_alloc ?_ _)); exact BK370.out⟩
      have n1_ : Aside0 ((w31.setCell ⟨gb376, 0, none⟩ (.pointer (some (ad375.add (x23_2.toNat * 4))))).heap[gb371]? = some (.cells #[.slice (some ad373) l1_0.length c1_0] 37 (0, 0))) := ⟨by (with_reducible repeat (first | refine blk_drewN ?_ _ | refine blk_drew ?_ | refine blk_alloc ?_ _)); refine blk_far ?_ NB371_376.out _; (with_reducible repeat (first | refine blk_drewN ?_ _ | refine blk_drew ?_ | refine blk_alloc ?_ _)); exact BK371.out⟩
      have n2_ : Aside0 ((w31.setCell ⟨gb376, 0, none⟩ (.pointer (some (ad375.add (x23_2.toNat * 4))))).heap[gb374]? = some (.cells #[.string ((rd_T47 l1_0 x23_2).f0), .slice A373_1 ((rd_T47 l1_0 x23_2).f1).length c373_1] 47 (0, 0))) := ⟨by (with_reducible repeat (first | refine blk_drewN ?_ _ | refine blk_drew ?_ | refine blk_alloc ?_ _)); refine blk_far ?_ NB374_376.out _; (with_reducible repeat (first | refine blk_drewN ?_ _ | refine blk_drew ?_ | refine blk_alloc ?_ _)); exact BK374.out⟩
      have n3_ : Aside0 ((w31.setCell ⟨gb376, 0, none⟩ (.pointer (some (ad375.add (x23_2.toNat * 4))))).heap[gb376]? = some (.cells #[.pointer (some (ad375.add (x23_2.toNat * 4)))] 59 (0, 0))) := ⟨by (with_reducible repeat (first | refine blk_drewN ?_ _ | refine blk_drew ?_ | refine blk_alloc ?_ _)); refine blk_put (cs := #[.pointer none]) ?_ 0 _ rfl; (with_reducible repeat (first | refine blk_drewN ?_ _ | refine blk_drew ?_ | refine blk_alloc ?_ _)); exact BK376.out⟩
      have n4_ : Aside0 (Below w.heap.size w (w31.setCell ⟨gb376, 0, none⟩ (.pointer (some (ad375.add (x23_2.toNat * 4)))))) := ⟨blw⟩
      (try clear BK370)
      (try clear BK371)
      (try clear BK374)
      (try clear BK376)
      (try clear HB)
      generalize (w31.setCell ⟨gb376, 0, none⟩ (.pointer (some (ad375.add (x23_2.toNat * 4))))) = w36 at n0_ n1_ n2_ n3_ n4_ ⊢
      revert n0_ n1_ n2_ n3_ n4_
      intro BK370 BK371 BK374 BK376 HB
      have n0_ := Aside0.mk (blk_drew BK370.out)
      have n1_ := Aside0.mk (blk_drew BK371.out)
      have n2_ := Aside0.mk (blk_drew BK374.out)
      have n3_ := Aside0.mk (blk_drew BK376.out)
      have n4_ := Aside0.mk (below_drew1 HB.out)
      clear BK370
      clear BK371
      clear BK374
      clear BK376
      clear HB
      revert n0_ n1_ n2_ n3_ n4_
      intro BK370 BK371 BK374 BK376 HB
      refine start_ (n := 19) (S := fun w' => w'.cell? ⟨gb374, 0, none⟩ = some (.string ((rd_T47 l1_0 x23_2).f0)) ∧ w'.cell? ⟨gb374, 1, none⟩ = some (.slice A373_1 ((rd_T47 l1_0 x23_2).f1).length c373_1) ∧ w'.cell? ⟨gb376, 0, none⟩ = some (.pointer (some (ad375.add (x23_2.toNat * 4)))) ∧ w'.cell? (ad375.add (x23_2.toNat * 4)) = some (.string ((rd_T53 l0_0 x23_2).f0)) ∧ w'.cell? ⟨(ad375.add (x23_2.toNat * 4)).block, (ad375.add (x23_2.toNat * 4)).off + 1, none⟩ = some (.int .i64 ((rd_T53 l0_0 x23_2).f1.f0)) ∧ w'.cell? ⟨(ad375.add (x23_2.toNat * 4)).block, (ad375.add (x23_2.toNat * 4)).off + 2, none⟩ = some (.slice A375_2 ((rd_T53 l0_0 x23_2).f1.f1).length c375_2) ∧ w'.cell? ⟨(ad375.add (x23_2.toNat * 4)).block, (ad375.add (x23_2.toNat * 4)).off + 3, none⟩ = some (.slice A375_3 ((rd_T53 l0_0 x23_2).f1.f2).length c375_3)) (ds := []) #[false,false,false,false,false,false,false,false,false,false,false,false,false,false,false,false,false,false,false] kr rfl rfl ⟨(blk_cell BK374.out 0).trans rfl, (blk_cell BK374.out 1).trans rfl, (blk_cell BK376.out 0).trans rfl, (by first | exact pw_cell_below HB.out (HP375.out.1) | exact HP375.out.1), (by first | exact pw_cell_below HB.out (HP375.out.2.1) | exact HP375.out.2.1), (by first | exact pw_cell_below HB.out (HP375.out.2.2.1) | exact HP375.out.2.2.1), (by first | exact pw_cell_below HB.out (HP375.out.2.2.2.1) | exact HP375.out.2.2.2.1)⟩ (fun hHeld => ?_); refine with_tabW impl_IsDB.tab7 impl_IsDB.bits7 (fun HT_ HW_ => ?_)
      generalize w36.drew = w37 at BK370 BK371 BK374 BK376 HB hHeld ⊢
      refine pure_ (i := 0) (N := some 32) (v := ?_) (a' := ?_) (bm 19 1) rfl rfl (any_of HT_.out kr) qi (Or.inl ⟨by rfl, ?_⟩) ?_ ?_
      rotate_left
      ·intro w'
       go_simp
       with_reducible rfl
      rotate_left
      ·simp only [sx]
       rfl
      refine take_ (i := 1) (N := some 33) (v := ?_) (a' := ?_) (bm 19 3) rfl rfl (take_ofW HT_.out HW_.out kr) qi (Or.inl ⟨by rfl, ?_⟩) hHeld ?_ ?_
      rotate_left
      ·rintro w' ⟨s0, s1, s2, s3, s4, s5, s6⟩
       go_simp
       with_reducible rfl
      rotate_left
      ·simp only [sx]
       rfl
      refine take_ (i := 2) (N := some 34) (v := ?_) (a' := ?_) (bm 19 7) rfl rfl (take_ofW HT_.out HW_.out kr) qi (Or.inl ⟨by rfl, ?_⟩) hHeld ?_ ?_
      rotate_left
      ·rintro w' ⟨s0, s1, s2, s3, s4, s5, s6⟩
       go_simp
       with_reducible rfl
      rotate_left
      ·simp only [sx]
       rfl
      refine pure_ (i := 3) (N := some 35) (v := ?_) (a' := ?_) (bm 19 15) rfl rfl (any_of HT_.out kr) qi (Or.inl ⟨by rfl, ?_⟩) ?_ ?_
      rotate_left
      ·intro w'
       go_simp
       with_reducible rfl
      rotate_left
      ·simp only [sx]
       rfl
      refine pure_ (i := 4) (N := some 36) (v := ?_) (a' := ?_) (bm 19 31) rfl rfl (any_of HT_.out kr) qi (Or.inl ⟨by rfl, ?_⟩) ?_ ?_
      rotate_left
      ·intro w'
       go_simp
       with_reducible rfl
      rotate_left
      ·simp only [sx]
       rfl
      refine take_ (i := 5) (N := some 37) (v := ?_) (a' := ?_) (bm 19 63) rfl rfl (take_ofW HT_.out HW_.out kr) qi (Or.inl ⟨by rfl, ?_⟩) hHeld ?_ ?_
      rotate_left
      ·rintro w' ⟨s0, s1, s2, s3, s4, s5, s6⟩
       go_simp
       with_reducible rfl
      rotate_left
      ·simp only [sx]
       rfl
      refine pure_ (i := 6) (N := some 38) (v := ?_) (a' := ?_) (bm 19 127) rfl rfl (any_of HT_.out kr) qi (Or.inl ⟨by rfl, ?_⟩) ?_ ?_
      rotate_left
      ·intro w'
       go_simp
       with_reducible rfl
      rotate_left
      ·simp only [sx]
       rfl
      refine pure_ (i := 7) (N := some 39) (v := ?_) (a' := ?_) (bm 19 255) rfl rfl (any_of HT_.out kr) qi (Or.inl ⟨by rfl, ?_⟩) ?_ ?_
      rotate_left
      ·intro w'
       go_simp
       with_reducible rfl
      rotate_left
      ·simp only [sx]
       rfl
      refine pure_ (i := 8) (N := some 40) (v := ?_) (a' := ?_) (bm 19 511) rfl rfl (any_of HT_.out kr) qi (Or.inl ⟨by rfl, ?_⟩) ?_ ?_
      rotate_left
      ·intro w'
       go_simp
       with_reducible rfl
      rotate_left
      ·simp only [sx]
       rfl
      refine take_ (i := 9) (N := some 41) (v := ?_) (a' := ?_) (bm 19 1023) rfl rfl (take_ofW HT_.out HW_.out kr) qi (Or.inl ⟨by rfl, ?_⟩) hHeld ?_ ?_
      rotate_left
      ·rintro w' ⟨s0, s1, s2, s3, s4, s5, s6⟩
       go_simp
       with_reducible rfl
      rotate_left
      ·simp only [sx]
       rfl
      refine pure_ (i := 10) (N := some 42) (v := ?_) (a' := ?_) (bm 19 2047) rfl rfl (any_of HT_.out kr) qi (Or.inl ⟨by rfl, ?_⟩) ?_ ?_
      rotate_left
      ·intro w'
       go_simp
       with_reducible rfl
      rotate_left
      ·simp only [sx]
       rfl
      refine pure_ (i := 11) (N := some 43) (v := ?_) (a' := ?_) (bm 19 4095) rfl rfl (any_of HT_.out kr) qi (Or.inl ⟨by rfl, ?_⟩) ?_ ?_
      rotate_left
      ·intro w'
       go_simp
       with_reducible rfl
      rotate_left
      ·simp only [sx]
       rfl
      refine pure_ (i := 12) (N := some 44) (v := ?_) (a' := ?_) (bm 19 8191) rfl rfl (any_of HT_.out kr) qi (Or.inl ⟨by rfl, ?_⟩) ?_ ?_
      rotate_left
      ·intro w'
       go_simp
       with_reducible rfl
      rotate_left
      ·simp only [sx]
       rfl
      refine pure_ (i := 13) (N := some 45) (v := ?_) (a' := ?_) (bm 19 16383) rfl rfl (any_of HT_.out kr) qi (Or.inl ⟨by rfl, ?_⟩) ?_ ?_
      rotate_left
      ·intro w'
       go_simp
       with_reducible rfl
      rotate_left
      ·simp only [sx]
       rfl
      refine pure_ (i := 14) (N := some 46) (v := undef) (a' := ?_) (bm 19 32767) rfl rfl (any_of HT_.out kr) qi (Or.inr ⟨by rfl, rfl⟩) ?_ ?_
      rotate_left
      ·simp only [sx]
       rfl
      refine pure_ (i := 15) (N := some 47) (v := undef) (a' := ?_) (bm 19 65535) rfl rfl (any_of HT_.out kr) qi (Or.inr ⟨by rfl, rfl⟩) ?_ ?_
      rotate_left
      ·simp only [sx]
       rfl
      refine pure_ (i := 16) (N := some 48) (v := undef) (a' := ?_) (bm 19 131071) rfl rfl (any_of HT_.out kr) qi (Or.inr ⟨by rfl, rfl⟩) ?_ ?_
      rotate_left
      ·simp only [sx]
       rfl
      refine pure_ (i := 17) (N := some 49) (v := undef) (a' := ?_) (bm 19 262143) rfl rfl (any_of HT_.out kr) qi (Or.inr ⟨by rfl, rfl⟩) ?_ ?_
      rotate_left
      ·simp only [sx]
       rfl
      refine pure_ (i := 18) (N := some 50) (v := ?_) (a' := ?_) (bm 19 524287) rfl rfl (any_of HT_.out kr) qi (Or.inl ⟨by rfl, ?_⟩) ?_ ?_
      rotate_left
      ·intro w'
       go_simp
       with_reducible rfl
      rotate_left
      ·simp only [sx]
       rfl
      refine done_ (done_of HT_.out kr) ?_
      try go_wp2
      go_ret
      exact ⟨rfw, blw⟩
     rw [if_neg c24] at H
     have c24b0 : decide (8 < (((rd_T47 l1_0 x23_2).f1).length : Int)) = false := decide_eq_false c24
     have c24b1 : decide (8 < ((rd_T47 l1_0 x23_2).f1).length) = false := decide_eq_false (by omega)
     clear c24
     replace H := Option.bind_eq_some_iff.mp H
     obtain ⟨t377, A380, H⟩ := H
     replace H : (if t377 = true then (some false) else (impl_IsDB.l0 k2 l1_0 (l1_0.length : Int) (wrap64 (x23_2 + 1)) l0_0)) = some r := H
     have A38 := Aside0.mk A380
     clear A380
     have HC39 := Aside0.mk H
     clear H
     have p373 : 0 ≤ (x23_2 : Int) := of_decide_eq_true asw
     have q373 : x23_2 < (l1_0.length : Int) := of_decide_eq_true asw
     obtain ⟨ad373, A373_1, c373_1, e373, hx373_0, hx373_1, hl373_1, hi373_1⟩ := at_T47 HR1_0.out x23_2 p373 q373
     cases e373
     replace hx373_0 := upw HB.out hx373_0
     replace hx373_1 := upw HB.out hx373_1
     have HR373_1 := Aside0.mk hi373_1
     have HC373_1 := Aside0.mk hl373_1
     clear hi373_1 hl373_1
     replace p373 := eq_true p373
     replace q373 := eq_true q373
     try go_wp2_with (first | ((with_reducible refine gate_dst (N := 6) rfl ?_); (try (refine gate_guard (by rfl) ?_; dsimp only)); refine box_event ?hg (N := 6) ?hd (cs := #[.string (⟨#[]⟩ : ByteArray), .slice none 0 0]) (t := 47) ?hr ?_; (case hd => rfl); (case hg => rfl); (case hr => exact hrw); intro gb374 hg w40 hbox hb; have n0_ := Aside0.mk (blk_below (g := gb370) (o := .cells #[.slice A0_0 l0_0.length c0_0] 33 (0, 0)) bkw hb); have n1_ := Aside0.mk (blk_below (g := gb371) (o := .cells #[.slice (some ad373) l1_0.length c1_0] 37 (0, 0)) bkw hb); have n2_ := Aside0.mk (below_step blw hb); have n3_ := Aside0.mk (hbox); have n4_ := Aside0.mk ((by rw [hg]; exact (below_size blw) : w.heap.size ≤ gb374)); have n5_ := n4_; have n6_ := Aside0.mk ((by rw [hg]; exact Nat.ne_of_lt (blk_lt (g := gb370) (o := .cells #[.slice A0_0 l0_0.length c0_0] 33 (0, 0)) bkw) : gb370 ≠ gb374)); have n7_ := Aside0.mk ((by rw [hg]; exact Nat.ne_of_gt (blk_lt (g := gb370) (o := .cells #[.slice A0_0 l0_0.length c0_0] 33 (0, 0)) bkw) : gb374 ≠ gb370)); have n8_ := Aside0.mk ((by rw [hg]; exact Nat.ne_of_lt (blk_lt (g := gb371) (o := .cells #[.slice (some ad373) l1_0.length c1_0] 37 (0, 0)) bkw) : gb371 ≠ gb374)); have n9_ := Aside0.mk ((by rw [hg]; exact Nat.ne_of_gt (blk_lt (g := gb371) (o := .cells #[.slice (some ad373) l1_0.length c1_0] 37 (0, 0)) bkw) : gb374 ≠ gb371)); clear BK370; clear BK371; clear HB; revert n0_ n1_ n2_ n3_ n4_ n5_ n6_ n7_ n8_ n9_; intro BK370 BK371 HB BK374 GW374 GE374 NB370_374 NB374_370 NB371_374 NB374_371; clear hb hbox hg; have hnb41 := NB374_370.out; have hnc41 := NB370_374.out; have hnb42 := NB374_371.out; have hnc42 := NB371_374.out; obtain ⟨hcz43_0, hcz43_1⟩ := cls2 BK374.out; obtain ⟨hfz43_0, hfz43_1⟩ := frz2 BK374.out; have hnb44 := NB370_371.out; have hnc44 := NB371_370.out; have hcz45_0 : w40.cell? ⟨gb370, 0, none⟩ = some (.slice A0_0 l0_0.length c0_0) := (blk_cell BK370.out 0).trans rfl; have hfz45_0 := blk_frozen BK370.out 0; have p375 : 0 ≤ (x23_2 : Int) := of_decide_eq_true asw; have q375 : x23_2 < (l0_0.length : Int) := of_decide_eq_true asw; obtain ⟨ad375, A375_2, c375_2, A375_3, c375_3, e375, hx375_0, hx375_1, hx375_2, hx375_3, hl375_2, hi375_2, hl375_3, hi375_3⟩ := at_T53 HR0_0.out x23_2 p375 q375; cases e375; have HP375 := Aside0.mk (show Cells w (ad375.add (x23_2.toNat * 4)) [.string ((rd_T53 l0_0 x23_2).f0), .int .i64 ((rd_T53 l0_0 x23_2).f1.f0), .slice A375_2 ((rd_T53 l0_0 x23_2).f1.f1).length c375_2, .slice A375_3 ((rd_T53 l0_0 x23_2).f1.f2).length c375_3] from ⟨hx375_0, hx375_1, hx375_2, hx375_3, trivial⟩); have hn375_0 : ad375.block ≠ gb374 := Nat.ne_of_lt (Nat.lt_of_lt_of_le (by have := World.block_lt_of_cell? _ _ hx375_0; first | rwa [add_block] at this | exact this) GW374.out); have hn375_1 : ad375.block ≠ gb374 := Nat.ne_of_lt (Nat.lt_of_lt_of_le (by have := World.block_lt_of_cell? _ _ hx375_0; first | rwa [add_block] at this | exact this) GW374.out); replace hx375_0 := upw HB.out hx375_0; replace hx375_1 := upw HB.out hx375_1; replace hx375_2 := upw HB.out hx375_2; replace hx375_3 := upw HB.out hx375_3; have HR375_2 := Aside0.mk hi375_2; have HC375_2 := Aside0.mk hl375_2; clear hi375_2 hl375_2; have HR375_3 := Aside0.mk hi375_3; have HC375_3 := Aside0.mk hl375_3; clear hi375_3 hl375_3; replace hx375_0 := cfr hx375_0 ⟨gb374, 0, none⟩ (.string ((rd_T47 l1_0 x23_2).f0)) hn375_0; replace hx375_1 := cfr hx375_1 ⟨gb374, 0, none⟩ (.string ((rd_T47 l1_0 x23_2).f0)) hn375_0; replace hx375_2 := cfr hx375_2 ⟨gb374, 0, none⟩ (.string ((rd_T47 l1_0 x23_2).f0)) hn375_0; replace hx375_3 := cfr hx375_3 ⟨gb374, 0, none⟩ (.string ((rd_T47 l1_0 x23_2).f0)) hn375_0; replace hx375_0 := cfr hx375_0 ⟨gb374, 1, none⟩ (.slice A373_1 ((rd_T47 l1_0 x23_2).f1).length c373_1) hn375_1; replace hx375_1 := cfr hx375_1 ⟨gb374, 1, none⟩ (.slice A373_1 ((rd_T47 l1_0 x23_2).f1).length c373_1) hn375_1; replace hx375_2 := cfr hx375_2 ⟨gb374, 1, none⟩ (.slice A373_1 ((rd_T47 l1_0 x23_2).f1).length c373_1) hn375_1; replace hx375_3 := cfr hx375_3 ⟨gb374, 1, none⟩ (.slice A373_1 ((rd_T47 l1_0 x23_2).f1).length c373_1) hn375_1; clear hn375_0; clear hn375_1; replace p375 := eq_true p375; replace q375 := eq_true q375) | ((with_reducible refine gate_dst (N := 7) rfl ?_); (try (refine gate_guard (by rfl) ?_; dsimp only)); refine box_event ?hg (N := 7) ?hd (cs := #[.pointer none]) (t := 59) ?hr ?_; (case hd => rfl); (case hg => rfl); (case hr => exact hrw); intro gb376 hg w46 hbox hb; have n0_ := Aside0.mk (blk_below (g := gb370) (o := .cells #[.slice (some ad375) l0_0.length c0_0] 33 (0, 0)) (by (with_reducible repeat (first | refine blk_drewN ?_ _ | refine blk_drew ?_ | refine blk_alloc ?_ _)); refine blk_far ?_ NB370_374.out _; (with_reducible repeat (first | refine blk_drewN ?_ _ | refine blk_drew ?_ | refine blk_alloc ?_ _)); refine blk_far ?_ NB370_374.out _; (with_reducible repeat (first | refine blk_drewN ?_ _ | refine blk_drew ?_ | refine blk_alloc ?_ _)); exact BK370.out) hb); have n1_ := Aside0.mk (blk_below (g := gb371) (o := .cells #[.slice (some ad373) l1_0.length c1_0] 37 (0, 0)) (by (with_reducible repeat (first | refine blk_drewN ?_ _ | refine blk_drew ?_ | refine blk_alloc ?_ _)); refine blk_far ?_ NB371_374.out _; (with_reducible repeat (first | refine blk_drewN ?_ _ | refine blk_drew ?_ | refine blk_alloc ?_ _)); refine blk_far ?_ NB371_374.out _; (with_reducible repeat (first | refine blk_drewN ?_ _ | refine blk_drew ?_ | refine blk_alloc ?_ _)); exact BK371.out) hb); have n2_ := Aside0.mk (blk_below (g := gb374) (o := .cells #[.string ((rd_T47 l1_0 x23_2).f0), .slice A373_1 ((rd_T47 l1_0 x23_2).f1).length c373_1] 47 (0, 0)) (by (with_reducible repeat (first | refine blk_drewN ?_ _ | refine blk_drew ?_ | refine blk_alloc ?_ _)); refine blk_put (cs := #[.string ((rd_T47 l1_0 x23_2).f0), .slice none 0 0]) ?_ 1 _ rfl; (with_reducible repeat (first | refine blk_drewN ?_ _ | refine blk_drew ?_ | refine blk_alloc ?_ _)); refine blk_put (cs := #[.string (⟨#[]⟩ : ByteArray), .slice none 0 0]) ?_ 0 _ rfl; (with_reducible repeat (first | refine blk_drewN ?_ _ | refine blk_drew ?_ | refine blk_alloc ?_ _)); exact BK374.out) hb); have n3_ := Aside0.mk (below_step blw hb); have n4_ := Aside0.mk (hbox); have n5_ := Aside0.mk ((by rw [hg]; exact (below_size blw) : w.heap.size ≤ gb376)); have n6_ := n5_; have n7_ := Aside0.mk ((by rw [hg]; exact Nat.ne_of_lt (blk_lt (g := gb370) (o := .cells #[.slice (some ad375) l0_0.length c0_0] 33 (0, 0)) (by (with_reducible repeat (first | refine blk_drewN ?_ _ | refine blk_drew ?_ | refine blk_alloc ?_ _)); refine blk_far ?_ NB370_374.out _; (with_reducible repeat (first | refine blk_drewN ?_ _ | refine blk_drew ?_ | refine blk_alloc ?_ _)); refine blk_far ?_ NB370_374.out _; (with_reducible repeat (first | refine blk_drewN ?_ _ | refine blk_drew ?_ | refine blk_alloc ?_ _)); exact BK370.out)) : gb370 ≠ gb376)); have n8_ := Aside0.mk ((by rw [hg]; exact Nat.ne_of_gt (blk_lt (g := gb370) (o := .cells #[.slice (some ad375) l0_0.length c0_0] 33 (0, 0)) (by (with_reducible repeat (first | refine blk_drewN ?_ _ | refine blk_drew ?_ | refine blk_alloc ?_ _)); refine blk_far ?_ NB370_374.out _; (with_reducible repeat (first | refine blk_drewN ?_ _ | refine blk_drew ?_ | refine blk_alloc ?_ _)); refine blk_far ?_ NB370_374.out _; (with_reducible repeat (first | refine blk_drewN ?_ _ | refine blk_drew ?_ | refine blk_alloc ?_ _)); exact BK370.out)) : gb376 ≠ gb370)); have n9_ := Aside0.mk ((by rw [hg]; exact Nat.ne_of_lt (blk_lt (g := gb371) (o := .cells #[.slice (some ad373) l1_0.length c1_0] 37 (0, 0)) (by (with_reducible repeat (first | refine blk_drewN ?_ _ | refine blk_drew ?_ | refine blk_alloc ?_ _)); refine blk_far ?_ NB371_374.out _; (with_reducible repeat (first | refine blk_drewN ?_ _ | refine blk_drew ?_ | refine blk_alloc ?_ _)); refine blk_far ?_ NB371_374.out _; (with_reducible repeat (first | refine blk_drewN ?_ _ | refine blk_drew ?_ | refine blk_alloc ?_ _)); exact BK371.out)) : gb371 ≠ gb376)); have n10_ := Aside0.mk ((by rw [hg]; exact Nat.ne_of_gt (blk_lt (g := gb371) (o := .cells #[.slice (some ad373) l1_0.length c1_0] 37 (0, 0)) (by (with_reducible repeat (first | refine blk_drewN ?_ _ | refine blk_drew ?_ | refine blk_alloc ?_ _)); refine blk_far ?_ NB371_374.out _; (with_reducible repeat (first | refine blk_drewN ?_ _ | refine blk_drew ?_ | refine blk_alloc ?_ _)); refine blk_far ?_ NB371_374.out _; (with_reducible repeat (first | refine blk_drewN ?_ _ | refine blk_drew ?_ | refine blk_alloc ?_ _)); exact BK371.out)) : gb376 ≠ gb371)); have n11_ := Aside0.mk ((by rw [hg]; exact Nat.ne_of_lt (blk_lt (g := gb374) (o := .cells #[.string ((rd_T47 l1_0 x23_2).f0), .slice A373_1 ((rd_T47 l1_0 x23_2).f1).length c373_1] 47 (0, 0)) (by (with_reducible repeat (first | refine blk_drewN ?_ _ | refine blk_drew ?_ | refine blk_alloc ?_ _)); refine blk_put (cs := #[.string ((rd_T47 l1_0 x23_2).f0), .slice none 0 0]) ?_ 1 _ rfl; (with_reducible repeat (first | refine blk_drewN ?_ _ | refine blk_drew ?_ | refine blk_alloc ?_ _)); refine blk_put (cs := #[.string (⟨#[]⟩ : ByteArray), .slice none 0 0]) ?_ 0 _ rfl; (with_reducible repeat (first | refine blk_drewN ?_ _ | refine blk_drew ?_ | refine blk_alloc ?_ _)); exact BK374.out)) : gb374 ≠ gb376)); have n12_ := Aside0.mk ((by rw [hg]; exact Nat.ne_of_gt (blk_lt (g := gb374) (o := .cells #[.string ((rd_T47 l1_0 x23_2).f0), .slice A373_1 ((rd_T47 l1_0 x23_2).f1).length c373_1] 47 (0, 0)) (by (with_reducible repeat (first | refine blk_drewN ?_ _ | refine blk_drew ?_ | refine blk_alloc ?_ _)); refine blk_put (cs := #[.string ((rd_T47 l1_0 x23_2).f0), .slice none 0 0]) ?_ 1 _ rfl; (with_reducible repeat (first | refine blk_drewN ?_ _ | refine blk_drew ?_ | refine blk_alloc ?_ _)); refine blk_put (cs := #[.string (⟨#[]⟩ : ByteArray), .slice none 0 0]) ?_ 0 _ rfl; (with_reducible repeat (first | refine blk_drewN ?_ _ | refine blk_drew ?_ | refine blk_alloc ?_ _)); exact BK374.out)) : gb376 ≠ gb374)); clear BK370; clear BK371; clear BK374; clear HB; revert n0_ n1_ n2_ n3_ n4_ n5_ n6_ n7_ n8_ n9_ n10_ n11_ n12_; intro BK370 BK371 BK374 HB BK376 GW376 GE376 NB370_376 NB376_370 NB371_376 NB376_371 NB374_376 NB376_374; clear hb hbox hg; have hnb47 := NB376_370.out; have hnc47 := NB370_376.out; have hnb48 := NB376_371.out; have hnc48 := NB371_376.out; have hnb49 := NB376_374.out; have hnc49 := NB374_376.out; have hcz50_0 : w46.cell? ⟨gb376, 0, none⟩ = some (.pointer none) := (blk_cell BK376.out 0).trans rfl; have hfz50_0 := blk_frozen BK376.out 0))
     have n0_ : Aside0 ((w46.setCell ⟨gb376, 0, none⟩ (.pointer (some (ad375.add (x23_2.toNat * 4))))).heap[gb370]? = some (.cells #[.slice (some ad375) l0_0.length c0_0] 33 (0, 0))) := ⟨by (with_reducible repeat (first | refine blk_drewN ?_ _ | refine blk_drew ?_ | refine blk_alloc ?_ _)); refine blk_far ?_ NB370_376.out _; (with_reducible repeat (first | refine blk_drewN ?_ _ | refine blk_drew ?_ | refine blk_alloc ?_ _)); exact BK370.out⟩
     have n1_ : Aside0 ((w46.setCell ⟨gb376, 0, none⟩ (.pointer (some (ad375.add (x23_2.toNat * 4))))).heap[gb371]? = some (.cells #[.slice (some ad373) l1_0.length c1_0] 37 (0, 0))) := ⟨by (with_reducible repeat (first | refine blk_drewN ?_ _ | refine blk_drew ?_ | refine blk_alloc ?_ _)); refine blk_far ?_ NB371_376.out _; (with_reducible repeat (first | refine blk_drewN ?_ _ | refine blk_drew ?_ | refine blk_alloc ?_ _)); exact BK371.out⟩
     have n2_ : Aside0 ((w46.setCell ⟨gb376, 0, none⟩ (.pointer (some (ad375.add (x23_2.toNat * 4))))).heap[gb374]? = some (.cells #[.string ((rd_T47 l1_0 x23_2).f0), .slice A373_1 ((rd_T47 l1_0 x23_2).f1).length c373_1] 47 (0, 0))) := ⟨by (with_reducible repeat (first | refine blk_drewN ?_ _ | refine blk_drew ?_ | refine blk_alloc ?_ _)); refine blk_far ?_ NB374_376.out _; (with_reducible repeat (first | refine blk_drewN ?_ _ | refine blk_drew ?_ | refine blk_alloc ?_ _)); exact BK374.out⟩
     have n3_ : Aside0 ((w46.setCell ⟨gb376, 0, none⟩ (.pointer (some (ad375.add (x23_2.toNat * 4))))).heap[gb376]? = some (.cells #[.pointer (some (ad375.add (x23_2.toNat * 4)))] 59 (0, 0))) := ⟨by (with_reducible repeat (first | refine blk_drewN ?_ _ | refine blk_drew ?_ | refine blk_alloc ?_ _)); refine blk_put (cs := #[.pointer none]) ?_ 0 _ rfl; (with_reducible repeat (first | refine blk_drewN ?_ _ | refine blk_drew ?_ | refine blk_alloc ?_ _)); exact BK376.out⟩
     have n4_ : Aside0 (Below w.heap.size w (w46.setCell ⟨gb376, 0, none⟩ (.pointer (some (ad375.add (x23_2.toNat * 4)))))) := ⟨blw⟩
     (try clear BK370)
     (try clear BK371)
     (try clear BK374)
     (try clear BK376)
     (try clear HB)
     generalize (w46.setCell ⟨gb376, 0, none⟩ (.pointer (some (ad375.add (x23_2.toNat * 4))))) = w51 at n0_ n1_ n2_ n3_ n4_ ⊢
     revert n0_ n1_ n2_ n3_ n4_
     intro BK370 BK371 BK374 BK376 HB
     have n0_ := Aside0.mk (blk_drew BK370.out)
     have n1_ := Aside0.mk (blk_drew BK371.out)
     have n2_ := Aside0.mk (blk_drew BK374.out)
     have n3_ := Aside0.mk (blk_drew BK376.out)
     have n4_ := Aside0.mk (below_drew1 HB.out)
     clear BK370
     clear BK371
     clear BK374
     clear BK376
     clear HB
     revert n0_ n1_ n2_ n3_ n4_
     intro BK370 BK371 BK374 BK376 HB
     refine start_ (n := 19) (S := fun w' => w'.cell? ⟨gb374, 0, none⟩ = some (.string ((rd_T47 l1_0 x23_2).f0)) ∧ w'.cell? ⟨gb374, 1, none⟩ = some (.slice A373_1 ((rd_T47 l1_0 x23_2).f1).length c373_1) ∧ w'.cell? ⟨gb376, 0, none⟩ = some (.pointer (some (ad375.add (x23_2.toNat * 4)))) ∧ w'.cell? (ad375.add (x23_2.toNat * 4)) = some (.string ((rd_T53 l0_0 x23_2).f0)) ∧ w'.cell? ⟨(ad375.add (x23_2.toNat * 4)).block, (ad375.add (x23_2.toNat * 4)).off + 1, none⟩ = some (.int .i64 ((rd_T53 l0_0 x23_2).f1.f0)) ∧ w'.cell? ⟨(ad375.add (x23_2.toNat * 4)).block, (ad375.add (x23_2.toNat * 4)).off + 2, none⟩ = some (.slice A375_2 ((rd_T53 l0_0 x23_2).f1.f1).length c375_2) ∧ w'.cell? ⟨(ad375.add (x23_2.toNat * 4)).block, (ad375.add (x23_2.toNat * 4)).off + 3, none⟩ = some (.slice A375_3 ((rd_T53 l0_0 x23_2).f1.f2).length c375_3)) (ds := []) #[false,false,false,false,false,false,false,false,false,false,false,false,false,false,false,false,false,false,false] kr rfl rfl ⟨(blk_cell BK374.out 0).trans rfl, (blk_cell BK374.out 1).trans rfl, (blk_cell BK376.out 0).trans rfl, (by first | exact pw_cell_below HB.out (HP375.out.1) | exact HP375.out.1), (by first | exact pw_cell_below HB.out (HP375.out.2.1) | exact HP375.out.2.1), (by first | exact pw_cell_below HB.out (HP375.out.2.2.1) | exact HP375.out.2.2.1), (by first | exact pw_cell_below HB.out (HP375.out.2.2.2.1) | exact HP375.out.2.2.2.1)⟩ (fun hHeld => ?_); refine with_tabW impl_IsDB.tab7 impl_IsDB.bits7 (fun HT_ HW_ => ?_)
     generalize w51.drew = w52 at BK370 BK371 BK374 BK376 HB hHeld ⊢
     refine pure_ (i := 0) (N := some 32) (v := ?_) (a' := ?_) (bm 19 1) rfl rfl (any_of HT_.out kr) qi (Or.inl ⟨by rfl, ?_⟩) ?_ ?_
     rotate_left
     ·intro w'
      go_simp
      with_reducible rfl
     rotate_left
     ·simp only [sx]
      rfl
     refine take_ (i := 1) (N := some 33) (v := ?_) (a' := ?_) (bm 19 3) rfl rfl (take_ofW HT_.out HW_.out kr) qi (Or.inl ⟨by rfl, ?_⟩) hHeld ?_ ?_
     rotate_left
     ·rintro w' ⟨s0, s1, s2, s3, s4, s5, s6⟩
      go_simp
      with_reducible rfl
     rotate_left
     ·simp only [sx]
      rfl
     refine take_ (i := 2) (N := some 34) (v := ?_) (a' := ?_) (bm 19 7) rfl rfl (take_ofW HT_.out HW_.out kr) qi (Or.inl ⟨by rfl, ?_⟩) hHeld ?_ ?_
     rotate_left
     ·rintro w' ⟨s0, s1, s2, s3, s4, s5, s6⟩
      go_simp
      with_reducible rfl
     rotate_left
     ·simp only [sx]
      rfl
     refine pure_ (i := 3) (N := some 35) (v := ?_) (a' := ?_) (bm 19 15) rfl rfl (any_of HT_.out kr) qi (Or.inl ⟨by rfl, ?_⟩) ?_ ?_
     rotate_left
     ·intro w'
      go_simp
      with_reducible rfl
     rotate_left
     ·simp only [sx]
      rfl
     refine pure_ (i := 4) (N := some 36) (v := ?_) (a' := ?_) (bm 19 31) rfl rfl (any_of HT_.out kr) qi (Or.inl ⟨by rfl, ?_⟩) ?_ ?_
     rotate_left
     ·intro w'
      go_simp
      with_reducible rfl
     rotate_left
     ·simp only [sx]
      rfl
     refine take_ (i := 5) (N := some 37) (v := ?_) (a' := ?_) (bm 19 63) rfl rfl (take_ofW HT_.out HW_.out kr) qi (Or.inl ⟨by rfl, ?_⟩) hHeld ?_ ?_
     rotate_left
     ·rintro w' ⟨s0, s1, s2, s3, s4, s5, s6⟩
      go_simp
      with_reducible rfl
     rotate_left
     ·simp only [sx]
      rfl
     refine pure_ (i := 6) (N := some 38) (v := ?_) (a' := ?_) (bm 19 127) rfl rfl (any_of HT_.out kr) qi (Or.inl ⟨by rfl, ?_⟩) ?_ ?_
     rotate_left
     ·intro w'
      go_simp
      with_reducible rfl
     rotate_left
     ·simp only [sx]
      rfl
     refine pure_ (i := 7) (N := some 39) (v := ?_) (a' := ?_) (bm 19 255) rfl rfl (any_of HT_.out kr) qi (Or.inl ⟨by rfl, ?_⟩) ?_ ?_
     rotate_left
     ·intro w'
      go_simp
      with_reducible rfl
     rotate_left
     ·simp only [sx]
      rfl
     refine pure_ (i := 8) (N := some 40) (v := ?_) (a' := ?_) (bm 19 511) rfl rfl (any_of HT_.out kr) qi (Or.inl ⟨by rfl, ?_⟩) ?_ ?_
     rotate_left
     ·intro w'
      go_simp
      with_reducible rfl
     rotate_left
     ·simp only [sx]
      rfl
     refine take_ (i := 9) (N := some 41) (v := ?_) (a' := ?_) (bm 19 1023) rfl rfl (take_ofW HT_.out HW_.out kr) qi (Or.inl ⟨by rfl, ?_⟩) hHeld ?_ ?_
     rotate_left
     ·rintro w' ⟨s0, s1, s2, s3, s4, s5, s6⟩
      go_simp
      with_reducible rfl
     rotate_left
     ·simp only [sx]
      rfl
     refine pure_ (i := 10) (N := some 42) (v := ?_) (a' := ?_) (bm 19 2047) rfl rfl (any_of HT_.out kr) qi (Or.inl ⟨by rfl, ?_⟩) ?_ ?_
     rotate_left
     ·intro w'
      go_simp
      with_reducible rfl
     rotate_left
     ·simp only [sx]
      rfl
     refine pure_ (i := 11) (N := some 43) (v := ?_) (a' := ?_) (bm 19 4095) rfl rfl (any_of HT_.out kr) qi (Or.inl ⟨by rfl, ?_⟩) ?_ ?_
     rotate_left
     ·intro w'
      go_simp
      with_reducible rfl
     rotate_left
     ·simp only [sx]
      rfl
     refine pure_ (i := 12) (N := some 44) (v := ?_) (a' := ?_) (bm 19 8191) rfl rfl (any_of HT_.out kr) qi (Or.inl ⟨by rfl, ?_⟩) ?_ ?_
     rotate_left
     ·intro w'
      go_simp
      with_reducible rfl
     rotate_left
     ·simp only [sx]
      rfl
     refine pure_ (i := 13) (N := some 45) (v := ?_) (a' := ?_) (bm 19 16383) rfl rfl (any_of HT_.out kr) qi (Or.inl ⟨by rfl, ?_⟩) ?_ ?_
     rotate_left
     ·intro w'
      go_simp
      with_reducible rfl
     rotate_left
     ·simp only [sx]
      rfl
     refine pure_ (i := 14) (N := some 46) (v := ?_) (a' := ?_) (bm 19 32767) rfl rfl (any_of HT_.out kr) qi (Or.inl ⟨by rfl, ?_⟩) ?_ ?_
     rotate_left
     ·intro w'
      go_simp
      with_reducible rfl
     rotate_left
     ·simp only [sx]
      rfl
     refine pure_ (i := 16) (N := some 48) (v := ?_) (a' := ?_) (bm 19 98303) rfl rfl (any_of HT_.out kr) qi (Or.inl ⟨by rfl, ?_⟩) ?_ ?_
     rotate_left
     ·intro w'
      go_simp
      with_reducible rfl
     rotate_left
     ·simp only [sx]
      rfl
     refine take_ (i := 15) (N := some 47) (v := ?_) (a' := ?_) (bm 19 131071) rfl rfl (take_ofW HT_.out HW_.out kr) qi (Or.inl ⟨by rfl, ?_⟩) hHeld ?_ ?_
     rotate_left
     ·rintro w' ⟨s0, s1, s2, s3, s4, s5, s6⟩
      go_simp
      with_reducible rfl
     rotate_left
     ·simp only [sx]
      rfl
     refine one_ (i := 17) (N := some 49) (bm 19 262143) rfl rfl (one_of HT_.out kr) (by decide) (fun K hK => ?_)
     refine goes_ Try.func19 kr rfl #[.slice A373_1 ((rd_T47 l1_0 x23_2).f1).length c373_1, .func (.func 20) #[] #[.pointer (some ⟨gb376, 0, none⟩)]] (by rfl) rfl rfl mpw ?_
     with_reducible refine (slices_ContainsFunc_Value_of_IsDB_1.calls k2 _ _ ((rd_T47 l1_0 x23_2).f1) ⟨gb376, 0, none⟩ (ad375.add (x23_2.toNat * 4)) ((rd_T53 l0_0 x23_2).f0) ((rd_T53 l0_0 x23_2).f1.f0) A375_2 c375_2 ((rd_T53 l0_0 x23_2).f1.f1) A375_3 c375_3 ((rd_T53 l0_0 x23_2).f1.f2) t377 _ ?side1 ?side2 ?side3 ?side4 ?side5 ?side6 ?side7 ?side8 A38.out).mono ?_
     (case side1 => have X_ := HR373_1; exact cbl)
     (case side2 => exact HC373_1.out)
     (case side3 => repeat (first | exact (Cells_below HP375.out HB.out) | (with_reducible refine Cells_alloc ?_ _) | (with_reducible refine Cells_drewN ?_ _) | (with_reducible refine Cells_drew ?_)))
     (case side4 => exact Cells_blk bkw)
     (case side5 => have X_ := HR375_2; exact cbl)
     (case side6 => exact HC375_2.out)
     (case side7 => have X_ := HR375_3; exact cbl)
     (case side8 => exact HC375_3.out)
     rintro e w53 ⟨rfl, hb⟩
     refine ⟨_, rfl, ?_⟩
     have n0_ := Aside0.mk (blk_below (g := gb370) (o := .cells #[.slice (some ad375) l0_0.length c0_0] 33 (0, 0)) bkw hb)
     have n1_ := Aside0.mk (blk_below (g := gb371) (o := .cells #[.slice (some ad373) l1_0.length c1_0] 37 (0, 0)) bkw hb)
     have n2_ := Aside0.mk (blk_below (g := gb374) (o := .cells #[.string ((rd_T47 l1_0 x23_2).f0), .slice A373_1 ((rd_T47 l1_0 x23_2).f1).length c373_1] 47 (0, 0)) bkw hb)
     have n3_ := Aside0.mk (blk_below (g := gb376) (o := .cells #[.pointer (some (ad375.add (x23_2.toNat * 4)))] 59 (0, 0)) bkw hb)
     have n4_ := Aside0.mk (below_step blw hb)
     clear BK370
     clear BK371
     clear BK374
     clear BK376
     clear HB
     revert n0_ n1_ n2_ n3_ n4_
     intro BK370 BK371 BK374 BK376 HB
     (try clear hb)
     (try clear hb2)
     (try clear hk)
     (try clear hi)
     refine hK.out _ _ ⟨(blk_cell BK374.out 0).trans rfl, (blk_cell BK374.out 1).trans rfl, (blk_cell BK376.out 0).trans rfl, (by first | exact pw_cell_below HB.out (HP375.out.1) | exact HP375.out.1), (by first | exact pw_cell_below HB.out (HP375.out.2.1) | exact HP375.out.2.1), (by first | exact pw_cell_below HB.out (HP375.out.2.2.1) | exact HP375.out.2.2.1), (by first | exact pw_cell_below HB.out (HP375.out.2.2.2.1) | exact HP375.out.2.2.2.1)⟩ (fun hHeld => ?_)
     clear hK K
     refine norm_ (a' := ?_) ?_ ?_
     rotate_left
     ·show Act.put _ (some 49) _ = _
      simp only [sx]
      rfl
     refine pure_ (i := 18) (N := some 50) (v := ?_) (a' := ?_) (bm 19 524287) rfl rfl (any_of HT_.out kr) qi (Or.inl ⟨by rfl, ?_⟩) ?_ ?_
     rotate_left
     ·intro w'
      go_simp
      with_reducible rfl
     rotate_left
     ·simp only [sx]
      rfl
     refine done_ (done_of HT_.out kr) ?_
     go_upto_if 50 with (fail)
     have H := HC39.out
     clear HC39
     by_cases c54 : t377 = true
     ·subst c54
      have H1 : (some false) = some r := by rw [if_pos rfl] at H; exact H
      clear H
      have H := H1
      clear H1
      obtain rfl := Option.some.inj H
      go_wp2
      go_ret
      exact ⟨rfw, blw⟩
     replace c54 := Bool.eq_false_iff.mpr c54
     subst c54
     have H1 : (impl_IsDB.l0 k2 l1_0 (l1_0.length : Int) (wrap64 (x23_2 + 1)) l0_0) = some r := by rw [if_neg (show ¬ (false = true) by decide)] at H; exact H
     clear H
     have H := H1
     clear H1
     have H' := Aside0.mk H
     clear H
     go_wp2
     go_roundg k2
     case measure => have := HJ2.out; have := HK2.out; omega
     case rel => exact ⟨(wrap64 (x23_2 + 1)), rfs, H', ⟨by have := HJ2.out; have := HK2.out; omega⟩, ⟨bkw⟩, ⟨bkw⟩, ⟨blw⟩⟩

end Go.Proofs.Ytfbecaplnigmaaa.Px
